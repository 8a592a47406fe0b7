/- Contracts and laws that the statement Adr leans on, part 6. -/
import Derived.Test.YtakpdbmdfnialaaGreatAdrK5
set_option linter.unusedVariables false
set_option linter.unusedSimpArgs false
set_option maxRecDepth 100000
set_option maxHeartbeats 4000000
namespace Go.Fw
def lenC3 (c : Cart) : Prop := c.ents.length ≤ 1048576 ∧ c.ctx.marks.length ≤ 1048576 ∧ c.ctx.cloud.length ≤ 1048576
def SLog.at3 (x : SLog) (s1 s2 s3 : Sls3) : SLog := ⟨x.kind, x.at_, x.ask, (x.u.1, s1), x.an, x.al, x.key, (x.s.1, s2), (x.c.1, s3)⟩
theorem lay_upd (x : SLog) (v1 v2 v3 : Value) : lay (SLog.enc x) 3 (Upd.enc x.u.1 v1 v2 v3) = [.int .i64 x.kind, .int .i64 x.at_, .int .i64 x.ask, .string (bs x.u.1.key), .int .i64 x.u.1.dot.node, .int .i64 x.u.1.dot.life, .int .i64 x.u.1.dot.count, .string (bs x.u.1.item), .int .i64 x.u.1.qty, .int .u64 (x.u.1.price.toNat : Int), v1, v2, v3, .int .i64 x.an, .int .i64 x.al, .string (bs x.key), .slice x.s.2.a1 x.s.2.n1 x.s.2.c1, .slice x.s.2.a2 x.s.2.n2 x.s.2.c2, .slice x.s.2.a3 x.s.2.n3 x.s.2.c3, .slice x.c.2.a1 x.c.2.n1 x.c.2.c1, .slice x.c.2.a2 x.c.2.n2 x.c.2.c2, .slice x.c.2.a3 x.c.2.n3 x.c.2.c3] := rfl
theorem lay_16 (a0 a1 a2 a3 a4 a5 a6 a7 a8 a9 a10 a11 a12 a13 a14 a15 a16 a17 a18 a19 a20 a21 b0 b1 b2 : Value) : lay [a0, a1, a2, a3, a4, a5, a6, a7, a8, a9, a10, a11, a12, a13, a14, a15, a16, a17, a18, a19, a20, a21] 16 [b0, b1, b2] = [a0, a1, a2, a3, a4, a5, a6, a7, a8, a9, a10, a11, a12, a13, a14, a15, b0, b1, b2, a19, a20, a21] := rfl
theorem lay_19 (a0 a1 a2 a3 a4 a5 a6 a7 a8 a9 a10 a11 a12 a13 a14 a15 a16 a17 a18 a19 a20 a21 b0 b1 b2 : Value) : lay [a0, a1, a2, a3, a4, a5, a6, a7, a8, a9, a10, a11, a12, a13, a14, a15, a16, a17, a18, a19, a20, a21] 19 [b0, b1, b2] = [a0, a1, a2, a3, a4, a5, a6, a7, a8, a9, a10, a11, a12, a13, a14, a15, a16, a17, a18, b0, b1, b2] := rfl
end Go.Fw
namespace Go.Proofs.YtakpdbmdfnialaaGreat
open Go.Fw Go.Proofs Go.RowKit Go.Proofs.Tryz
theorem c117 (w0 : World) (x : SLog) (h : LogRd w0 x) (hb : lenC3 x.u.1.seen ∧ lenC3 x.s.1 ∧ lenC3 x.c.1) :
   Rets Tryz.prog 117 #[.agg (SLog.enc x).toArray] w0 fun u L => ∃ A1 r1 A2 r2 A3 r3 B1 q1 B2 q2 B3 q3 C1 p1 C2 p2 C3 p3, u = .agg (SLog.enc (x.at3 ⟨A1, x.u.1.seen.ents.length, r1, A2, x.u.1.seen.ctx.marks.length, r2, A3, x.u.1.seen.ctx.cloud.length, r3⟩ ⟨B1, x.s.1.ents.length, q1, B2, x.s.1.ctx.marks.length, q2, B3, x.s.1.ctx.cloud.length, q3⟩ ⟨C1, x.c.1.ents.length, p1, C2, x.c.1.ctx.marks.length, p2, C3, x.c.1.ctx.cloud.length, p3⟩)).toArray ∧
     L = [rowOf 100 6 Ent.enc A1 r1 x.u.1.seen.ents, rowOf 30 3 Dot.enc A2 r2 x.u.1.seen.ctx.marks, rowOf 74 3 Dot.enc A3 r3 x.u.1.seen.ctx.cloud,
       rowOf 100 6 Ent.enc B1 q1 x.s.1.ents, rowOf 30 3 Dot.enc B2 q2 x.s.1.ctx.marks, rowOf 74 3 Dot.enc B3 q3 x.s.1.ctx.cloud,
       rowOf 100 6 Ent.enc C1 p1 x.c.1.ents, rowOf 30 3 Dot.enc C2 p2 x.c.1.ctx.marks, rowOf 74 3 Dot.enc C3 p3 x.c.1.ctx.cloud] := by
 have r1 := h.u.ents
 have r2 := h.u.ctx
 have r3 := h.s.ents
 have r4 := h.s.ctx
 have r5 := h.c.ents
 have r6 := h.c.ctx
 obtain ⟨⟨b1, b2, b3⟩, ⟨b4, b5, b6⟩, b7, b8, b9⟩ := hb
 have halt_d := trivial
 unfold Go.Fw.Rets
 refine enter1 func117 rfl ntmps117 rfl fun a S => wp_seq_k fun _ hK1 => wp_region_lit (Zi (Zy S (.t rfl) rfl fun g1 a w S => Zi (Zk S zeroValue96 (cs := _) rfl rfl fun g2 a w S => Zb (Za (hK1 _ _ (wp_seq_k fun _ hK1 => ?_))))))
 clear halt_d
 refine Code.wp_mono (Q := fun e a w => match e with
   | .normal => ∃ A1 r1 A2 r2 A3 r3 B1 q1 B2 q2 B3 q3 C1 p1 C2 p2 C3 p3, St 16 w0 [(2, true, .pointer (some ⟨g2, 0, none⟩)), (1, true, .pointer (some ⟨g1, 0, none⟩))] [rowOf 100 6 Ent.enc A1 r1 x.u.1.seen.ents, rowOf 30 3 Dot.enc A2 r2 x.u.1.seen.ctx.marks, rowOf 74 3 Dot.enc A3 r3 x.u.1.seen.ctx.cloud, rowOf 100 6 Ent.enc B1 q1 x.s.1.ents, rowOf 30 3 Dot.enc B2 q2 x.s.1.ctx.marks, rowOf 74 3 Dot.enc B3 q3 x.s.1.ctx.cloud, rowOf 100 6 Ent.enc C1 p1 x.c.1.ents, rowOf 30 3 Dot.enc C2 p2 x.c.1.ctx.marks, rowOf 74 3 Dot.enc C3 p3 x.c.1.ctx.cloud, .blk g2 (.cells #[.int .i64 0, .int .i64 0, .int .i64 0, .string { data := #[] }, .int .i64 0, .int .i64 0, .int .i64 0, .string { data := #[] }, .int .i64 0, .int .u64 0, .slice none 0 0, .slice none 0 0, .slice none 0 0, .int .i64 0, .int .i64 0, .string { data := #[] }, .slice none 0 0, .slice none 0 0, .slice none 0 0, .slice none 0 0, .slice none 0 0, .slice none 0 0] 96), .blk g1 (.cells (SLog.enc (x.at3 ⟨A1, x.u.1.seen.ents.length, r1, A2, x.u.1.seen.ctx.marks.length, r2, A3, x.u.1.seen.ctx.cloud.length, r3⟩ ⟨B1, x.s.1.ents.length, q1, B2, x.s.1.ctx.marks.length, q2, B3, x.s.1.ctx.cloud.length, q3⟩ ⟨C1, x.c.1.ents.length, p1, C2, x.c.1.ctx.marks.length, p2, C3, x.c.1.ctx.cloud.length, p3⟩)).toArray 96)] a w
   | _ => False) (fun e a w qq => ?_) ?_
 rotate_left
 · have rw_l := lay_upd x
   have rw_l2 := lay_16
   have rw_l3 := lay_19
   refine h_beginE S (by kernel_rfl) 1 fun a w S => hy 0 S rfl (Zc (FieldT.mk underlying96 rfl sizeOf77 rfl) (.t rfl) (i' := 3) rfl) rfl fun a w S => hy 3 S rfl (Zc (FieldT.mk underlying96 rfl sizeOf37 rfl) (.t rfl) (i' := 16) rfl) rfl fun a w S => hy 6 S rfl (Zc (FieldT.mk underlying96 rfl sizeOf37 rfl) (.t rfl) (i' := 19) rfl) rfl fun a w S => ?_
   refine h_split3 (i := 1) (j := 4) (k := 7) (by kernel_rfl) rfl rfl rfl ?_ ?_ ?_
   (refine Vn S (Yr.ys (Yc ⟨isAgg77, sizeOf77⟩ (.t rfl) (k := 1) rfl rfl)) rfl ?_; clear S a w; intro a w S; refine Zw S ?_)
   refine h_split3 (i := 2) (j := 4) (k := 7) (by kernel_rfl) rfl rfl rfl ?_ ?_ ?_
   (refine Zr S call103 (.cons (.t rfl) .nil) (c103 _ _ _ _ _ (by exact .old S.wd (by assumption)) (by exact .old S.wd (by assumption)) (by assumption) (by assumption) (by assumption)) rfl ?_; clear S a w; rintro _ _ ⟨A11, r11, A21, r21, A31, r31, rfl, rfl⟩ a w S; refine Zw S ?_)
   refine Xd (i := 4) (j := 7) (by kernel_rfl) rfl rfl ?_ ?_
   (refine Vn S (Yr.ys (Yc ⟨isAgg37, sizeOf37⟩ (.t rfl) (k := 4) rfl rfl)) rfl ?_; clear S a w; intro a w S; refine Zw S ?_)
   refine Xd (i := 5) (j := 7) (by kernel_rfl) rfl rfl ?_ ?_
   (refine Zr S call16 (.cons (.t rfl) .nil) (c16 _ _ _ _ _ (by exact .old S.wd (by assumption)) (by exact .old S.wd (by assumption)) (by assumption) (by assumption) (by assumption)) rfl ?_; clear S a w; rintro _ _ ⟨A12, r12, A22, r22, A32, r32, rfl, rfl⟩ a w S; refine Zw S ?_)
   refine h_q (i := 7) S (by repeat (first | exact List.Sublist.refl _ | exact List.nil_sublist _ | refine .cons_cons _ ?_ | refine .cons _ ?_)) rfl (by kernel_rfl) (Yr.ys (Yc ⟨isAgg37, sizeOf37⟩ (.t rfl) (k := 7) rfl rfl)) rfl fun a w S => hy 9 S rfl (Zc (FieldT.mk underlying96 rfl sizeOf77 rfl) (.t rfl) (i' := 3) rfl) rfl fun a w S => ?_
   (refine h_m (i := 8) rfl (by kernel_rfl) (Zr S call16 (.cons (.t rfl) .nil) (c16 _ _ _ _ _ (by exact .old S.wd (by assumption)) (by exact .old S.wd (by assumption)) (by assumption) (by assumption) (by assumption)) rfl ?_); clear S a w; rintro _ _ ⟨A13, r13, A23, r23, A33, r33, rfl, rfl⟩ a w S; refine Zw S ?_)
   (refine Xe (i := 10) rfl (by kernel_rfl) (Yw S sizeOf77 (.t rfl) (.t rfl) (k := 10) rfl rfl (by simp [Value.oneCell']) (by simp) ?_); clear S a w; intro a w S; refine Zw S ?_)
   rw [rw_l] at S
   refine hy 11 S rfl (Zc (FieldT.mk underlying96 rfl sizeOf37 rfl) (.t rfl) (i' := 16) rfl) rfl fun a w S => ?_
   (refine Xe (i := 12) rfl (by kernel_rfl) (Yw S sizeOf37 (.t rfl) (.t rfl) (k := 10) rfl rfl (by simp [Value.oneCell']) (by simp) ?_); clear S a w; intro a w S; refine Zw S ?_)
   rw [rw_l2] at S
   refine hy 13 S rfl (Zc (FieldT.mk underlying96 rfl sizeOf37 rfl) (.t rfl) (i' := 19) rfl) rfl fun a w S => ?_
   (refine Xe (i := 14) rfl (by kernel_rfl) (Yw S sizeOf37 (.t rfl) (.t rfl) (k := 10) rfl rfl (by simp [Value.oneCell']) (by simp) ?_); clear S a w; intro a w S; refine Zw S ?_)
   rw [rw_l3] at S
   refine Yq (by kernel_rfl) ?_
   rotate_left
   (refine Vn S (Yr.ys (Yc ⟨isAgg37, sizeOf37⟩ (.t rfl) (k := 4) rfl rfl)) rfl ?_; clear S a w; intro a w S; refine Zw S ?_)
   refine hy 9 S rfl (Zc (FieldT.mk underlying96 rfl sizeOf77 rfl) (.t rfl) (i' := 3) rfl) rfl fun a w S => ?_
   (refine h_m (i := 5) rfl (by kernel_rfl) (Zr S call16 (.cons (.t rfl) .nil) (c16 _ _ _ _ _ (by exact .old S.wd (by assumption)) (by exact .old S.wd (by assumption)) (by assumption) (by assumption) (by assumption)) rfl ?_); clear S a w; rintro _ _ ⟨A12, r12, A22, r22, A32, r32, rfl, rfl⟩ a w S; refine Zw S ?_)
   (refine h_m (i := 8) rfl (by kernel_rfl) (Zr S call16 (.cons (.t rfl) .nil) (c16 _ _ _ _ _ (by exact .old S.wd (by assumption)) (by exact .old S.wd (by assumption)) (by assumption) (by assumption) (by assumption)) rfl ?_); clear S a w; rintro _ _ ⟨A13, r13, A23, r23, A33, r33, rfl, rfl⟩ a w S; refine Zw S ?_)
   (refine Xe (i := 10) rfl (by kernel_rfl) (Yw S sizeOf77 (.t rfl) (.t rfl) (k := 10) rfl rfl (by simp [Value.oneCell']) (by simp) ?_); clear S a w; intro a w S; refine Zw S ?_)
   rw [rw_l] at S
   refine hy 11 S rfl (Zc (FieldT.mk underlying96 rfl sizeOf37 rfl) (.t rfl) (i' := 16) rfl) rfl fun a w S => ?_
   (refine Xe (i := 12) rfl (by kernel_rfl) (Yw S sizeOf37 (.t rfl) (.t rfl) (k := 10) rfl rfl (by simp [Value.oneCell']) (by simp) ?_); clear S a w; intro a w S; refine Zw S ?_)
   rw [rw_l2] at S
   refine hy 13 S rfl (Zc (FieldT.mk underlying96 rfl sizeOf37 rfl) (.t rfl) (i' := 19) rfl) rfl fun a w S => ?_
   (refine Xe (i := 14) rfl (by kernel_rfl) (Yw S sizeOf37 (.t rfl) (.t rfl) (k := 10) rfl rfl (by simp [Value.oneCell']) (by simp) ?_); clear S a w; intro a w S; refine Zw S ?_)
   rw [rw_l3] at S
   refine Yq (by kernel_rfl) ?_
   rotate_left
   (refine Vn S (Yr.ys (Yc ⟨isAgg37, sizeOf37⟩ (.t rfl) (k := 4) rfl rfl)) rfl ?_; clear S a w; intro a w S; refine Zw S ?_)
   refine h_q (i := 4) S (by repeat (first | exact List.Sublist.refl _ | exact List.nil_sublist _ | refine .cons_cons _ ?_ | refine .cons _ ?_)) rfl (by kernel_rfl) (Yr.ys (Yc ⟨isAgg37, sizeOf37⟩ (.t rfl) (k := 4) rfl rfl)) rfl fun a w S => hy 9 S rfl (Zc (FieldT.mk underlying96 rfl sizeOf77 rfl) (.t rfl) (i' := 3) rfl) rfl fun a w S => ?_
   (refine h_m (i := 5) rfl (by kernel_rfl) (Zr S call16 (.cons (.t rfl) .nil) (c16 _ _ _ _ _ (by exact .old S.wd (by assumption)) (by exact .old S.wd (by assumption)) (by assumption) (by assumption) (by assumption)) rfl ?_); clear S a w; rintro _ _ ⟨A12, r12, A22, r22, A32, r32, rfl, rfl⟩ a w S; refine Zw S ?_)
   (refine h_m (i := 8) rfl (by kernel_rfl) (Zr S call16 (.cons (.t rfl) .nil) (c16 _ _ _ _ _ (by exact .old S.wd (by assumption)) (by exact .old S.wd (by assumption)) (by assumption) (by assumption) (by assumption)) rfl ?_); clear S a w; rintro _ _ ⟨A13, r13, A23, r23, A33, r33, rfl, rfl⟩ a w S; refine Zw S ?_)
   (refine Xe (i := 10) rfl (by kernel_rfl) (Yw S sizeOf77 (.t rfl) (.t rfl) (k := 10) rfl rfl (by simp [Value.oneCell']) (by simp) ?_); clear S a w; intro a w S; refine Zw S ?_)
   rw [rw_l] at S
   refine hy 11 S rfl (Zc (FieldT.mk underlying96 rfl sizeOf37 rfl) (.t rfl) (i' := 16) rfl) rfl fun a w S => ?_
   (refine Xe (i := 12) rfl (by kernel_rfl) (Yw S sizeOf37 (.t rfl) (.t rfl) (k := 10) rfl rfl (by simp [Value.oneCell']) (by simp) ?_); clear S a w; intro a w S; refine Zw S ?_)
   rw [rw_l2] at S
   refine hy 13 S rfl (Zc (FieldT.mk underlying96 rfl sizeOf37 rfl) (.t rfl) (i' := 19) rfl) rfl fun a w S => ?_
   (refine Xe (i := 14) rfl (by kernel_rfl) (Yw S sizeOf37 (.t rfl) (.t rfl) (k := 10) rfl rfl (by simp [Value.oneCell']) (by simp) ?_); clear S a w; intro a w S; refine Zw S ?_)
   rw [rw_l3] at S
   refine Yq (by kernel_rfl) ?_
   rotate_left
   (refine Vn S (Yr.ys (Yc ⟨isAgg37, sizeOf37⟩ (.t rfl) (k := 1) rfl rfl)) rfl ?_; clear S a w; intro a w S; refine Zw S ?_)
   refine Xd (i := 2) (j := 7) (by kernel_rfl) rfl rfl ?_ ?_
   (refine Zr S call103 (.cons (.t rfl) .nil) (c103 _ _ _ _ _ (by exact .old S.wd (by assumption)) (by exact .old S.wd (by assumption)) (by assumption) (by assumption) (by assumption)) rfl ?_; clear S a w; rintro _ _ ⟨A11, r11, A21, r21, A31, r31, rfl, rfl⟩ a w S; refine Zw S ?_)
   refine Xd (i := 5) (j := 7) (by kernel_rfl) rfl rfl ?_ ?_
   (refine Zr S call16 (.cons (.t rfl) .nil) (c16 _ _ _ _ _ (by exact .old S.wd (by assumption)) (by exact .old S.wd (by assumption)) (by assumption) (by assumption) (by assumption)) rfl ?_; clear S a w; rintro _ _ ⟨A12, r12, A22, r22, A32, r32, rfl, rfl⟩ a w S; refine Zw S ?_)
   refine h_q (i := 7) S (by repeat (first | exact List.Sublist.refl _ | exact List.nil_sublist _ | refine .cons_cons _ ?_ | refine .cons _ ?_)) rfl (by kernel_rfl) (Yr.ys (Yc ⟨isAgg37, sizeOf37⟩ (.t rfl) (k := 7) rfl rfl)) rfl fun a w S => hy 9 S rfl (Zc (FieldT.mk underlying96 rfl sizeOf77 rfl) (.t rfl) (i' := 3) rfl) rfl fun a w S => ?_
   (refine h_m (i := 8) rfl (by kernel_rfl) (Zr S call16 (.cons (.t rfl) .nil) (c16 _ _ _ _ _ (by exact .old S.wd (by assumption)) (by exact .old S.wd (by assumption)) (by assumption) (by assumption) (by assumption)) rfl ?_); clear S a w; rintro _ _ ⟨A13, r13, A23, r23, A33, r33, rfl, rfl⟩ a w S; refine Zw S ?_)
   (refine Xe (i := 10) rfl (by kernel_rfl) (Yw S sizeOf77 (.t rfl) (.t rfl) (k := 10) rfl rfl (by simp [Value.oneCell']) (by simp) ?_); clear S a w; intro a w S; refine Zw S ?_)
   rw [rw_l] at S
   refine hy 11 S rfl (Zc (FieldT.mk underlying96 rfl sizeOf37 rfl) (.t rfl) (i' := 16) rfl) rfl fun a w S => ?_
   (refine Xe (i := 12) rfl (by kernel_rfl) (Yw S sizeOf37 (.t rfl) (.t rfl) (k := 10) rfl rfl (by simp [Value.oneCell']) (by simp) ?_); clear S a w; intro a w S; refine Zw S ?_)
   rw [rw_l2] at S
   refine hy 13 S rfl (Zc (FieldT.mk underlying96 rfl sizeOf37 rfl) (.t rfl) (i' := 19) rfl) rfl fun a w S => ?_
   (refine Xe (i := 14) rfl (by kernel_rfl) (Yw S sizeOf37 (.t rfl) (.t rfl) (k := 10) rfl rfl (by simp [Value.oneCell']) (by simp) ?_); clear S a w; intro a w S; refine Zw S ?_)
   rw [rw_l3] at S
   refine Yq (by kernel_rfl) ?_
   rotate_left
   (refine Vn S (Yr.ys (Yc ⟨isAgg37, sizeOf37⟩ (.t rfl) (k := 4) rfl rfl)) rfl ?_; clear S a w; intro a w S; refine Zw S ?_)
   refine hy 9 S rfl (Zc (FieldT.mk underlying96 rfl sizeOf77 rfl) (.t rfl) (i' := 3) rfl) rfl fun a w S => ?_
   (refine h_m (i := 5) rfl (by kernel_rfl) (Zr S call16 (.cons (.t rfl) .nil) (c16 _ _ _ _ _ (by exact .old S.wd (by assumption)) (by exact .old S.wd (by assumption)) (by assumption) (by assumption) (by assumption)) rfl ?_); clear S a w; rintro _ _ ⟨A12, r12, A22, r22, A32, r32, rfl, rfl⟩ a w S; refine Zw S ?_)
   (refine h_m (i := 8) rfl (by kernel_rfl) (Zr S call16 (.cons (.t rfl) .nil) (c16 _ _ _ _ _ (by exact .old S.wd (by assumption)) (by exact .old S.wd (by assumption)) (by assumption) (by assumption) (by assumption)) rfl ?_); clear S a w; rintro _ _ ⟨A13, r13, A23, r23, A33, r33, rfl, rfl⟩ a w S; refine Zw S ?_)
   (refine Xe (i := 10) rfl (by kernel_rfl) (Yw S sizeOf77 (.t rfl) (.t rfl) (k := 10) rfl rfl (by simp [Value.oneCell']) (by simp) ?_); clear S a w; intro a w S; refine Zw S ?_)
   rw [rw_l] at S
   refine hy 11 S rfl (Zc (FieldT.mk underlying96 rfl sizeOf37 rfl) (.t rfl) (i' := 16) rfl) rfl fun a w S => ?_
   (refine Xe (i := 12) rfl (by kernel_rfl) (Yw S sizeOf37 (.t rfl) (.t rfl) (k := 10) rfl rfl (by simp [Value.oneCell']) (by simp) ?_); clear S a w; intro a w S; refine Zw S ?_)
   rw [rw_l2] at S
   refine hy 13 S rfl (Zc (FieldT.mk underlying96 rfl sizeOf37 rfl) (.t rfl) (i' := 19) rfl) rfl fun a w S => ?_
   (refine Xe (i := 14) rfl (by kernel_rfl) (Yw S sizeOf37 (.t rfl) (.t rfl) (k := 10) rfl rfl (by simp [Value.oneCell']) (by simp) ?_); clear S a w; intro a w S; refine Zw S ?_)
   rw [rw_l3] at S
   refine Yq (by kernel_rfl) ?_
   rotate_left
   (refine Vn S (Yr.ys (Yc ⟨isAgg37, sizeOf37⟩ (.t rfl) (k := 1) rfl rfl)) rfl ?_; clear S a w; intro a w S; refine Zw S ?_)
   (refine h_m (i := 2) rfl (by kernel_rfl) (Zr S call103 (.cons (.t rfl) .nil) (c103 _ _ _ _ _ (by exact .old S.wd (by assumption)) (by exact .old S.wd (by assumption)) (by assumption) (by assumption) (by assumption)) rfl ?_); clear S a w; rintro _ _ ⟨A11, r11, A21, r21, A31, r31, rfl, rfl⟩ a w S; refine Zw S ?_)
   refine hy 9 S rfl (Zc (FieldT.mk underlying96 rfl sizeOf77 rfl) (.t rfl) (i' := 3) rfl) rfl fun a w S => ?_
   (refine h_m (i := 5) rfl (by kernel_rfl) (Zr S call16 (.cons (.t rfl) .nil) (c16 _ _ _ _ _ (by exact .old S.wd (by assumption)) (by exact .old S.wd (by assumption)) (by assumption) (by assumption) (by assumption)) rfl ?_); clear S a w; rintro _ _ ⟨A12, r12, A22, r22, A32, r32, rfl, rfl⟩ a w S; refine Zw S ?_)
   (refine h_m (i := 8) rfl (by kernel_rfl) (Zr S call16 (.cons (.t rfl) .nil) (c16 _ _ _ _ _ (by exact .old S.wd (by assumption)) (by exact .old S.wd (by assumption)) (by assumption) (by assumption) (by assumption)) rfl ?_); clear S a w; rintro _ _ ⟨A13, r13, A23, r23, A33, r33, rfl, rfl⟩ a w S; refine Zw S ?_)
   (refine Xe (i := 10) rfl (by kernel_rfl) (Yw S sizeOf77 (.t rfl) (.t rfl) (k := 10) rfl rfl (by simp [Value.oneCell']) (by simp) ?_); clear S a w; intro a w S; refine Zw S ?_)
   rw [rw_l] at S
   refine hy 11 S rfl (Zc (FieldT.mk underlying96 rfl sizeOf37 rfl) (.t rfl) (i' := 16) rfl) rfl fun a w S => ?_
   (refine Xe (i := 12) rfl (by kernel_rfl) (Yw S sizeOf37 (.t rfl) (.t rfl) (k := 10) rfl rfl (by simp [Value.oneCell']) (by simp) ?_); clear S a w; intro a w S; refine Zw S ?_)
   rw [rw_l2] at S
   refine hy 13 S rfl (Zc (FieldT.mk underlying96 rfl sizeOf37 rfl) (.t rfl) (i' := 19) rfl) rfl fun a w S => ?_
   (refine Xe (i := 14) rfl (by kernel_rfl) (Yw S sizeOf37 (.t rfl) (.t rfl) (k := 10) rfl rfl (by simp [Value.oneCell']) (by simp) ?_); clear S a w; intro a w S; refine Zw S ?_)
   rw [rw_l3] at S
   refine Yq (by kernel_rfl) ?_
   rotate_left
   (refine Vn S (Yr.ys (Yc ⟨isAgg37, sizeOf37⟩ (.t rfl) (k := 1) rfl rfl)) rfl ?_; clear S a w; intro a w S; refine Zw S ?_)
   refine Xd (i := 2) (j := 4) (by kernel_rfl) rfl rfl ?_ ?_
   (refine Zr S call103 (.cons (.t rfl) .nil) (c103 _ _ _ _ _ (by exact .old S.wd (by assumption)) (by exact .old S.wd (by assumption)) (by assumption) (by assumption) (by assumption)) rfl ?_; clear S a w; rintro _ _ ⟨A11, r11, A21, r21, A31, r31, rfl, rfl⟩ a w S; refine Zw S ?_)
   refine h_q (i := 4) S (by repeat (first | exact List.Sublist.refl _ | exact List.nil_sublist _ | refine .cons_cons _ ?_ | refine .cons _ ?_)) rfl (by kernel_rfl) (Yr.ys (Yc ⟨isAgg37, sizeOf37⟩ (.t rfl) (k := 4) rfl rfl)) rfl fun a w S => hy 9 S rfl (Zc (FieldT.mk underlying96 rfl sizeOf77 rfl) (.t rfl) (i' := 3) rfl) rfl fun a w S => ?_
   (refine h_m (i := 5) rfl (by kernel_rfl) (Zr S call16 (.cons (.t rfl) .nil) (c16 _ _ _ _ _ (by exact .old S.wd (by assumption)) (by exact .old S.wd (by assumption)) (by assumption) (by assumption) (by assumption)) rfl ?_); clear S a w; rintro _ _ ⟨A12, r12, A22, r22, A32, r32, rfl, rfl⟩ a w S; refine Zw S ?_)
   (refine h_m (i := 8) rfl (by kernel_rfl) (Zr S call16 (.cons (.t rfl) .nil) (c16 _ _ _ _ _ (by exact .old S.wd (by assumption)) (by exact .old S.wd (by assumption)) (by assumption) (by assumption) (by assumption)) rfl ?_); clear S a w; rintro _ _ ⟨A13, r13, A23, r23, A33, r33, rfl, rfl⟩ a w S; refine Zw S ?_)
   (refine Xe (i := 10) rfl (by kernel_rfl) (Yw S sizeOf77 (.t rfl) (.t rfl) (k := 10) rfl rfl (by simp [Value.oneCell']) (by simp) ?_); clear S a w; intro a w S; refine Zw S ?_)
   rw [rw_l] at S
   refine hy 11 S rfl (Zc (FieldT.mk underlying96 rfl sizeOf37 rfl) (.t rfl) (i' := 16) rfl) rfl fun a w S => ?_
   (refine Xe (i := 12) rfl (by kernel_rfl) (Yw S sizeOf37 (.t rfl) (.t rfl) (k := 10) rfl rfl (by simp [Value.oneCell']) (by simp) ?_); clear S a w; intro a w S; refine Zw S ?_)
   rw [rw_l2] at S
   refine hy 13 S rfl (Zc (FieldT.mk underlying96 rfl sizeOf37 rfl) (.t rfl) (i' := 19) rfl) rfl fun a w S => ?_
   (refine Xe (i := 14) rfl (by kernel_rfl) (Yw S sizeOf37 (.t rfl) (.t rfl) (k := 10) rfl rfl (by simp [Value.oneCell']) (by simp) ?_); clear S a w; intro a w S; refine Zw S ?_)
   rw [rw_l3] at S
   refine Yq (by kernel_rfl) ?_
   rotate_left
   (refine Vn S (Yr.ys (Yc ⟨isAgg37, sizeOf37⟩ (.t rfl) (k := 1) rfl rfl)) rfl ?_; clear S a w; intro a w S; refine Zw S ?_)
   (refine h_m (i := 2) rfl (by kernel_rfl) (Zr S call103 (.cons (.t rfl) .nil) (c103 _ _ _ _ _ (by exact .old S.wd (by assumption)) (by exact .old S.wd (by assumption)) (by assumption) (by assumption) (by assumption)) rfl ?_); clear S a w; rintro _ _ ⟨A11, r11, A21, r21, A31, r31, rfl, rfl⟩ a w S; refine Zw S ?_)
   refine hy 9 S rfl (Zc (FieldT.mk underlying96 rfl sizeOf77 rfl) (.t rfl) (i' := 3) rfl) rfl fun a w S => ?_
   (refine h_m (i := 5) rfl (by kernel_rfl) (Zr S call16 (.cons (.t rfl) .nil) (c16 _ _ _ _ _ (by exact .old S.wd (by assumption)) (by exact .old S.wd (by assumption)) (by assumption) (by assumption) (by assumption)) rfl ?_); clear S a w; rintro _ _ ⟨A12, r12, A22, r22, A32, r32, rfl, rfl⟩ a w S; refine Zw S ?_)
   (refine h_m (i := 8) rfl (by kernel_rfl) (Zr S call16 (.cons (.t rfl) .nil) (c16 _ _ _ _ _ (by exact .old S.wd (by assumption)) (by exact .old S.wd (by assumption)) (by assumption) (by assumption) (by assumption)) rfl ?_); clear S a w; rintro _ _ ⟨A13, r13, A23, r23, A33, r33, rfl, rfl⟩ a w S; refine Zw S ?_)
   (refine Xe (i := 10) rfl (by kernel_rfl) (Yw S sizeOf77 (.t rfl) (.t rfl) (k := 10) rfl rfl (by simp [Value.oneCell']) (by simp) ?_); clear S a w; intro a w S; refine Zw S ?_)
   rw [rw_l] at S
   refine hy 11 S rfl (Zc (FieldT.mk underlying96 rfl sizeOf37 rfl) (.t rfl) (i' := 16) rfl) rfl fun a w S => ?_
   (refine Xe (i := 12) rfl (by kernel_rfl) (Yw S sizeOf37 (.t rfl) (.t rfl) (k := 10) rfl rfl (by simp [Value.oneCell']) (by simp) ?_); clear S a w; intro a w S; refine Zw S ?_)
   rw [rw_l2] at S
   refine hy 13 S rfl (Zc (FieldT.mk underlying96 rfl sizeOf37 rfl) (.t rfl) (i' := 19) rfl) rfl fun a w S => ?_
   (refine Xe (i := 14) rfl (by kernel_rfl) (Yw S sizeOf37 (.t rfl) (.t rfl) (k := 10) rfl rfl (by simp [Value.oneCell']) (by simp) ?_); clear S a w; intro a w S; refine Zw S ?_)
   rw [rw_l3] at S
   refine Yq (by kernel_rfl) ?_
   rotate_left
   (refine Vn S (Yr.ys (Yc ⟨isAgg37, sizeOf37⟩ (.t rfl) (k := 1) rfl rfl)) rfl ?_; clear S a w; intro a w S; refine Zw S ?_)
   refine Xd (i := 1) (j := 7) (by kernel_rfl) rfl rfl ?_ ?_
   (refine Vn S (Yr.ys (Yc ⟨isAgg77, sizeOf77⟩ (.t rfl) (k := 1) rfl rfl)) rfl ?_; clear S a w; intro a w S; refine Zw S ?_)
   refine Xd (i := 2) (j := 7) (by kernel_rfl) rfl rfl ?_ ?_
   (refine Zr S call103 (.cons (.t rfl) .nil) (c103 _ _ _ _ _ (by exact .old S.wd (by assumption)) (by exact .old S.wd (by assumption)) (by assumption) (by assumption) (by assumption)) rfl ?_; clear S a w; rintro _ _ ⟨A11, r11, A21, r21, A31, r31, rfl, rfl⟩ a w S; refine Zw S ?_)
   refine Xd (i := 5) (j := 7) (by kernel_rfl) rfl rfl ?_ ?_
   (refine Zr S call16 (.cons (.t rfl) .nil) (c16 _ _ _ _ _ (by exact .old S.wd (by assumption)) (by exact .old S.wd (by assumption)) (by assumption) (by assumption) (by assumption)) rfl ?_; clear S a w; rintro _ _ ⟨A12, r12, A22, r22, A32, r32, rfl, rfl⟩ a w S; refine Zw S ?_)
   refine h_q (i := 7) S (by repeat (first | exact List.Sublist.refl _ | exact List.nil_sublist _ | refine .cons_cons _ ?_ | refine .cons _ ?_)) rfl (by kernel_rfl) (Yr.ys (Yc ⟨isAgg37, sizeOf37⟩ (.t rfl) (k := 7) rfl rfl)) rfl fun a w S => hy 9 S rfl (Zc (FieldT.mk underlying96 rfl sizeOf77 rfl) (.t rfl) (i' := 3) rfl) rfl fun a w S => ?_
   (refine h_m (i := 8) rfl (by kernel_rfl) (Zr S call16 (.cons (.t rfl) .nil) (c16 _ _ _ _ _ (by exact .old S.wd (by assumption)) (by exact .old S.wd (by assumption)) (by assumption) (by assumption) (by assumption)) rfl ?_); clear S a w; rintro _ _ ⟨A13, r13, A23, r23, A33, r33, rfl, rfl⟩ a w S; refine Zw S ?_)
   (refine Xe (i := 10) rfl (by kernel_rfl) (Yw S sizeOf77 (.t rfl) (.t rfl) (k := 10) rfl rfl (by simp [Value.oneCell']) (by simp) ?_); clear S a w; intro a w S; refine Zw S ?_)
   rw [rw_l] at S
   refine hy 11 S rfl (Zc (FieldT.mk underlying96 rfl sizeOf37 rfl) (.t rfl) (i' := 16) rfl) rfl fun a w S => ?_
   (refine Xe (i := 12) rfl (by kernel_rfl) (Yw S sizeOf37 (.t rfl) (.t rfl) (k := 10) rfl rfl (by simp [Value.oneCell']) (by simp) ?_); clear S a w; intro a w S; refine Zw S ?_)
   rw [rw_l2] at S
   refine hy 13 S rfl (Zc (FieldT.mk underlying96 rfl sizeOf37 rfl) (.t rfl) (i' := 19) rfl) rfl fun a w S => ?_
   (refine Xe (i := 14) rfl (by kernel_rfl) (Yw S sizeOf37 (.t rfl) (.t rfl) (k := 10) rfl rfl (by simp [Value.oneCell']) (by simp) ?_); clear S a w; intro a w S; refine Zw S ?_)
   rw [rw_l3] at S
   refine Yq (by kernel_rfl) ?_
   rotate_left
   (refine Vn S (Yr.ys (Yc ⟨isAgg37, sizeOf37⟩ (.t rfl) (k := 4) rfl rfl)) rfl ?_; clear S a w; intro a w S; refine Zw S ?_)
   refine hy 9 S rfl (Zc (FieldT.mk underlying96 rfl sizeOf77 rfl) (.t rfl) (i' := 3) rfl) rfl fun a w S => ?_
   (refine h_m (i := 5) rfl (by kernel_rfl) (Zr S call16 (.cons (.t rfl) .nil) (c16 _ _ _ _ _ (by exact .old S.wd (by assumption)) (by exact .old S.wd (by assumption)) (by assumption) (by assumption) (by assumption)) rfl ?_); clear S a w; rintro _ _ ⟨A12, r12, A22, r22, A32, r32, rfl, rfl⟩ a w S; refine Zw S ?_)
   (refine h_m (i := 8) rfl (by kernel_rfl) (Zr S call16 (.cons (.t rfl) .nil) (c16 _ _ _ _ _ (by exact .old S.wd (by assumption)) (by exact .old S.wd (by assumption)) (by assumption) (by assumption) (by assumption)) rfl ?_); clear S a w; rintro _ _ ⟨A13, r13, A23, r23, A33, r33, rfl, rfl⟩ a w S; refine Zw S ?_)
   (refine Xe (i := 10) rfl (by kernel_rfl) (Yw S sizeOf77 (.t rfl) (.t rfl) (k := 10) rfl rfl (by simp [Value.oneCell']) (by simp) ?_); clear S a w; intro a w S; refine Zw S ?_)
   rw [rw_l] at S
   refine hy 11 S rfl (Zc (FieldT.mk underlying96 rfl sizeOf37 rfl) (.t rfl) (i' := 16) rfl) rfl fun a w S => ?_
   (refine Xe (i := 12) rfl (by kernel_rfl) (Yw S sizeOf37 (.t rfl) (.t rfl) (k := 10) rfl rfl (by simp [Value.oneCell']) (by simp) ?_); clear S a w; intro a w S; refine Zw S ?_)
   rw [rw_l2] at S
   refine hy 13 S rfl (Zc (FieldT.mk underlying96 rfl sizeOf37 rfl) (.t rfl) (i' := 19) rfl) rfl fun a w S => ?_
   (refine Xe (i := 14) rfl (by kernel_rfl) (Yw S sizeOf37 (.t rfl) (.t rfl) (k := 10) rfl rfl (by simp [Value.oneCell']) (by simp) ?_); clear S a w; intro a w S; refine Zw S ?_)
   rw [rw_l3] at S
   refine Yq (by kernel_rfl) ?_
   rotate_left
   (refine Vn S (Yr.ys (Yc ⟨isAgg37, sizeOf37⟩ (.t rfl) (k := 1) rfl rfl)) rfl ?_; clear S a w; intro a w S; refine Zw S ?_)
   (refine h_m (i := 2) rfl (by kernel_rfl) (Zr S call103 (.cons (.t rfl) .nil) (c103 _ _ _ _ _ (by exact .old S.wd (by assumption)) (by exact .old S.wd (by assumption)) (by assumption) (by assumption) (by assumption)) rfl ?_); clear S a w; rintro _ _ ⟨A11, r11, A21, r21, A31, r31, rfl, rfl⟩ a w S; refine Zw S ?_)
   refine hy 9 S rfl (Zc (FieldT.mk underlying96 rfl sizeOf77 rfl) (.t rfl) (i' := 3) rfl) rfl fun a w S => ?_
   (refine h_m (i := 5) rfl (by kernel_rfl) (Zr S call16 (.cons (.t rfl) .nil) (c16 _ _ _ _ _ (by exact .old S.wd (by assumption)) (by exact .old S.wd (by assumption)) (by assumption) (by assumption) (by assumption)) rfl ?_); clear S a w; rintro _ _ ⟨A12, r12, A22, r22, A32, r32, rfl, rfl⟩ a w S; refine Zw S ?_)
   (refine h_m (i := 8) rfl (by kernel_rfl) (Zr S call16 (.cons (.t rfl) .nil) (c16 _ _ _ _ _ (by exact .old S.wd (by assumption)) (by exact .old S.wd (by assumption)) (by assumption) (by assumption) (by assumption)) rfl ?_); clear S a w; rintro _ _ ⟨A13, r13, A23, r23, A33, r33, rfl, rfl⟩ a w S; refine Zw S ?_)
   (refine Xe (i := 10) rfl (by kernel_rfl) (Yw S sizeOf77 (.t rfl) (.t rfl) (k := 10) rfl rfl (by simp [Value.oneCell']) (by simp) ?_); clear S a w; intro a w S; refine Zw S ?_)
   rw [rw_l] at S
   refine hy 11 S rfl (Zc (FieldT.mk underlying96 rfl sizeOf37 rfl) (.t rfl) (i' := 16) rfl) rfl fun a w S => ?_
   (refine Xe (i := 12) rfl (by kernel_rfl) (Yw S sizeOf37 (.t rfl) (.t rfl) (k := 10) rfl rfl (by simp [Value.oneCell']) (by simp) ?_); clear S a w; intro a w S; refine Zw S ?_)
   rw [rw_l2] at S
   refine hy 13 S rfl (Zc (FieldT.mk underlying96 rfl sizeOf37 rfl) (.t rfl) (i' := 19) rfl) rfl fun a w S => ?_
   (refine Xe (i := 14) rfl (by kernel_rfl) (Yw S sizeOf37 (.t rfl) (.t rfl) (k := 10) rfl rfl (by simp [Value.oneCell']) (by simp) ?_); clear S a w; intro a w S; refine Zw S ?_)
   rw [rw_l3] at S
   refine Yq (by kernel_rfl) ?_
   rotate_left
   (refine Vn S (Yr.ys (Yc ⟨isAgg37, sizeOf37⟩ (.t rfl) (k := 1) rfl rfl)) rfl ?_; clear S a w; intro a w S; refine Zw S ?_)
   refine h_q (i := 1) S (by repeat (first | exact List.Sublist.refl _ | exact List.nil_sublist _ | refine .cons_cons _ ?_ | refine .cons _ ?_)) rfl (by kernel_rfl) (Yr.ys (Yc ⟨isAgg77, sizeOf77⟩ (.t rfl) (k := 1) rfl rfl)) rfl fun a w S => ?_
   (refine h_m (i := 2) rfl (by kernel_rfl) (Zr S call103 (.cons (.t rfl) .nil) (c103 _ _ _ _ _ (by exact .old S.wd (by assumption)) (by exact .old S.wd (by assumption)) (by assumption) (by assumption) (by assumption)) rfl ?_); clear S a w; rintro _ _ ⟨A11, r11, A21, r21, A31, r31, rfl, rfl⟩ a w S; refine Zw S ?_)
   refine hy 9 S rfl (Zc (FieldT.mk underlying96 rfl sizeOf77 rfl) (.t rfl) (i' := 3) rfl) rfl fun a w S => ?_
   (refine h_m (i := 5) rfl (by kernel_rfl) (Zr S call16 (.cons (.t rfl) .nil) (c16 _ _ _ _ _ (by exact .old S.wd (by assumption)) (by exact .old S.wd (by assumption)) (by assumption) (by assumption) (by assumption)) rfl ?_); clear S a w; rintro _ _ ⟨A12, r12, A22, r22, A32, r32, rfl, rfl⟩ a w S; refine Zw S ?_)
   (refine h_m (i := 8) rfl (by kernel_rfl) (Zr S call16 (.cons (.t rfl) .nil) (c16 _ _ _ _ _ (by exact .old S.wd (by assumption)) (by exact .old S.wd (by assumption)) (by assumption) (by assumption) (by assumption)) rfl ?_); clear S a w; rintro _ _ ⟨A13, r13, A23, r23, A33, r33, rfl, rfl⟩ a w S; refine Zw S ?_)
   (refine Xe (i := 10) rfl (by kernel_rfl) (Yw S sizeOf77 (.t rfl) (.t rfl) (k := 10) rfl rfl (by simp [Value.oneCell']) (by simp) ?_); clear S a w; intro a w S; refine Zw S ?_)
   rw [rw_l] at S
   refine hy 11 S rfl (Zc (FieldT.mk underlying96 rfl sizeOf37 rfl) (.t rfl) (i' := 16) rfl) rfl fun a w S => ?_
   (refine Xe (i := 12) rfl (by kernel_rfl) (Yw S sizeOf37 (.t rfl) (.t rfl) (k := 10) rfl rfl (by simp [Value.oneCell']) (by simp) ?_); clear S a w; intro a w S; refine Zw S ?_)
   rw [rw_l2] at S
   refine hy 13 S rfl (Zc (FieldT.mk underlying96 rfl sizeOf37 rfl) (.t rfl) (i' := 19) rfl) rfl fun a w S => ?_
   (refine Xe (i := 14) rfl (by kernel_rfl) (Yw S sizeOf37 (.t rfl) (.t rfl) (k := 10) rfl rfl (by simp [Value.oneCell']) (by simp) ?_); clear S a w; intro a w S; refine Zw S ?_)
   rw [rw_l3] at S
   refine Yq (by kernel_rfl) ?_
   rotate_left
   (refine Vn S (Yr.ys (Yc ⟨isAgg37, sizeOf37⟩ (.t rfl) (k := 1) rfl rfl)) rfl ?_; clear S a w; intro a w S; refine Zw S ?_)
   refine Xd (i := 1) (j := 4) (by kernel_rfl) rfl rfl ?_ ?_
   (refine Vn S (Yr.ys (Yc ⟨isAgg77, sizeOf77⟩ (.t rfl) (k := 1) rfl rfl)) rfl ?_; clear S a w; intro a w S; refine Zw S ?_)
   refine Xd (i := 2) (j := 4) (by kernel_rfl) rfl rfl ?_ ?_
   (refine Zr S call103 (.cons (.t rfl) .nil) (c103 _ _ _ _ _ (by exact .old S.wd (by assumption)) (by exact .old S.wd (by assumption)) (by assumption) (by assumption) (by assumption)) rfl ?_; clear S a w; rintro _ _ ⟨A11, r11, A21, r21, A31, r31, rfl, rfl⟩ a w S; refine Zw S ?_)
   refine h_q (i := 4) S (by repeat (first | exact List.Sublist.refl _ | exact List.nil_sublist _ | refine .cons_cons _ ?_ | refine .cons _ ?_)) rfl (by kernel_rfl) (Yr.ys (Yc ⟨isAgg37, sizeOf37⟩ (.t rfl) (k := 4) rfl rfl)) rfl fun a w S => hy 9 S rfl (Zc (FieldT.mk underlying96 rfl sizeOf77 rfl) (.t rfl) (i' := 3) rfl) rfl fun a w S => ?_
   (refine h_m (i := 5) rfl (by kernel_rfl) (Zr S call16 (.cons (.t rfl) .nil) (c16 _ _ _ _ _ (by exact .old S.wd (by assumption)) (by exact .old S.wd (by assumption)) (by assumption) (by assumption) (by assumption)) rfl ?_); clear S a w; rintro _ _ ⟨A12, r12, A22, r22, A32, r32, rfl, rfl⟩ a w S; refine Zw S ?_)
   (refine h_m (i := 8) rfl (by kernel_rfl) (Zr S call16 (.cons (.t rfl) .nil) (c16 _ _ _ _ _ (by exact .old S.wd (by assumption)) (by exact .old S.wd (by assumption)) (by assumption) (by assumption) (by assumption)) rfl ?_); clear S a w; rintro _ _ ⟨A13, r13, A23, r23, A33, r33, rfl, rfl⟩ a w S; refine Zw S ?_)
   (refine Xe (i := 10) rfl (by kernel_rfl) (Yw S sizeOf77 (.t rfl) (.t rfl) (k := 10) rfl rfl (by simp [Value.oneCell']) (by simp) ?_); clear S a w; intro a w S; refine Zw S ?_)
   rw [rw_l] at S
   refine hy 11 S rfl (Zc (FieldT.mk underlying96 rfl sizeOf37 rfl) (.t rfl) (i' := 16) rfl) rfl fun a w S => ?_
   (refine Xe (i := 12) rfl (by kernel_rfl) (Yw S sizeOf37 (.t rfl) (.t rfl) (k := 10) rfl rfl (by simp [Value.oneCell']) (by simp) ?_); clear S a w; intro a w S; refine Zw S ?_)
   rw [rw_l2] at S
   refine hy 13 S rfl (Zc (FieldT.mk underlying96 rfl sizeOf37 rfl) (.t rfl) (i' := 19) rfl) rfl fun a w S => ?_
   (refine Xe (i := 14) rfl (by kernel_rfl) (Yw S sizeOf37 (.t rfl) (.t rfl) (k := 10) rfl rfl (by simp [Value.oneCell']) (by simp) ?_); clear S a w; intro a w S; refine Zw S ?_)
   rw [rw_l3] at S
   refine Yq (by kernel_rfl) ?_
   rotate_left
   (refine Vn S (Yr.ys (Yc ⟨isAgg37, sizeOf37⟩ (.t rfl) (k := 1) rfl rfl)) rfl ?_; clear S a w; intro a w S; refine Zw S ?_)
   (refine h_m (i := 2) rfl (by kernel_rfl) (Zr S call103 (.cons (.t rfl) .nil) (c103 _ _ _ _ _ (by exact .old S.wd (by assumption)) (by exact .old S.wd (by assumption)) (by assumption) (by assumption) (by assumption)) rfl ?_); clear S a w; rintro _ _ ⟨A11, r11, A21, r21, A31, r31, rfl, rfl⟩ a w S; refine Zw S ?_)
   refine hy 9 S rfl (Zc (FieldT.mk underlying96 rfl sizeOf77 rfl) (.t rfl) (i' := 3) rfl) rfl fun a w S => ?_
   (refine h_m (i := 5) rfl (by kernel_rfl) (Zr S call16 (.cons (.t rfl) .nil) (c16 _ _ _ _ _ (by exact .old S.wd (by assumption)) (by exact .old S.wd (by assumption)) (by assumption) (by assumption) (by assumption)) rfl ?_); clear S a w; rintro _ _ ⟨A12, r12, A22, r22, A32, r32, rfl, rfl⟩ a w S; refine Zw S ?_)
   (refine h_m (i := 8) rfl (by kernel_rfl) (Zr S call16 (.cons (.t rfl) .nil) (c16 _ _ _ _ _ (by exact .old S.wd (by assumption)) (by exact .old S.wd (by assumption)) (by assumption) (by assumption) (by assumption)) rfl ?_); clear S a w; rintro _ _ ⟨A13, r13, A23, r23, A33, r33, rfl, rfl⟩ a w S; refine Zw S ?_)
   (refine Xe (i := 10) rfl (by kernel_rfl) (Yw S sizeOf77 (.t rfl) (.t rfl) (k := 10) rfl rfl (by simp [Value.oneCell']) (by simp) ?_); clear S a w; intro a w S; refine Zw S ?_)
   rw [rw_l] at S
   refine hy 11 S rfl (Zc (FieldT.mk underlying96 rfl sizeOf37 rfl) (.t rfl) (i' := 16) rfl) rfl fun a w S => ?_
   (refine Xe (i := 12) rfl (by kernel_rfl) (Yw S sizeOf37 (.t rfl) (.t rfl) (k := 10) rfl rfl (by simp [Value.oneCell']) (by simp) ?_); clear S a w; intro a w S; refine Zw S ?_)
   rw [rw_l2] at S
   refine hy 13 S rfl (Zc (FieldT.mk underlying96 rfl sizeOf37 rfl) (.t rfl) (i' := 19) rfl) rfl fun a w S => ?_
   (refine Xe (i := 14) rfl (by kernel_rfl) (Yw S sizeOf37 (.t rfl) (.t rfl) (k := 10) rfl rfl (by simp [Value.oneCell']) (by simp) ?_); clear S a w; intro a w S; refine Zw S ?_)
   rw [rw_l3] at S
   refine Yq (by kernel_rfl) ?_
   rotate_left
   (refine Vn S (Yr.ys (Yc ⟨isAgg37, sizeOf37⟩ (.t rfl) (k := 1) rfl rfl)) rfl ?_; clear S a w; intro a w S; refine Zw S ?_)
   refine h_q (i := 1) S (by repeat (first | exact List.Sublist.refl _ | exact List.nil_sublist _ | refine .cons_cons _ ?_ | refine .cons _ ?_)) rfl (by kernel_rfl) (Yr.ys (Yc ⟨isAgg77, sizeOf77⟩ (.t rfl) (k := 1) rfl rfl)) rfl fun a w S => ?_
   (refine h_m (i := 2) rfl (by kernel_rfl) (Zr S call103 (.cons (.t rfl) .nil) (c103 _ _ _ _ _ (by exact .old S.wd (by assumption)) (by exact .old S.wd (by assumption)) (by assumption) (by assumption) (by assumption)) rfl ?_); clear S a w; rintro _ _ ⟨A11, r11, A21, r21, A31, r31, rfl, rfl⟩ a w S; refine Zw S ?_)
   refine hy 9 S rfl (Zc (FieldT.mk underlying96 rfl sizeOf77 rfl) (.t rfl) (i' := 3) rfl) rfl fun a w S => ?_
   (refine h_m (i := 5) rfl (by kernel_rfl) (Zr S call16 (.cons (.t rfl) .nil) (c16 _ _ _ _ _ (by exact .old S.wd (by assumption)) (by exact .old S.wd (by assumption)) (by assumption) (by assumption) (by assumption)) rfl ?_); clear S a w; rintro _ _ ⟨A12, r12, A22, r22, A32, r32, rfl, rfl⟩ a w S; refine Zw S ?_)
   (refine h_m (i := 8) rfl (by kernel_rfl) (Zr S call16 (.cons (.t rfl) .nil) (c16 _ _ _ _ _ (by exact .old S.wd (by assumption)) (by exact .old S.wd (by assumption)) (by assumption) (by assumption) (by assumption)) rfl ?_); clear S a w; rintro _ _ ⟨A13, r13, A23, r23, A33, r33, rfl, rfl⟩ a w S; refine Zw S ?_)
   (refine Xe (i := 10) rfl (by kernel_rfl) (Yw S sizeOf77 (.t rfl) (.t rfl) (k := 10) rfl rfl (by simp [Value.oneCell']) (by simp) ?_); clear S a w; intro a w S; refine Zw S ?_)
   rw [rw_l] at S
   refine hy 11 S rfl (Zc (FieldT.mk underlying96 rfl sizeOf37 rfl) (.t rfl) (i' := 16) rfl) rfl fun a w S => ?_
   (refine Xe (i := 12) rfl (by kernel_rfl) (Yw S sizeOf37 (.t rfl) (.t rfl) (k := 10) rfl rfl (by simp [Value.oneCell']) (by simp) ?_); clear S a w; intro a w S; refine Zw S ?_)
   rw [rw_l2] at S
   refine hy 13 S rfl (Zc (FieldT.mk underlying96 rfl sizeOf37 rfl) (.t rfl) (i' := 19) rfl) rfl fun a w S => ?_
   (refine Xe (i := 14) rfl (by kernel_rfl) (Yw S sizeOf37 (.t rfl) (.t rfl) (k := 10) rfl rfl (by simp [Value.oneCell']) (by simp) ?_); clear S a w; intro a w S; refine Zw S ?_)
   rw [rw_l3] at S
   refine Yq (by kernel_rfl) ?_
   rotate_left
   all_goals exact ⟨A11, r11, A21, r21, A31, r31, A12, r12, A22, r22, A32, r32, A13, r13, A23, r23, A33, r33, S.pk⟩
 clear S
 rcases e with _ | _ | _ | _ | _ | _ | _
 any_goals exact qq.elim
 obtain ⟨A1, c1, A2, c2, A3, c3, B1, d1, B2, d2, B3, d3, C1, e1, C2, e2, C3, e3, S⟩ := qq
 refine Za ?_
 first | refine hK9 _ _ ?_ | refine hK8 _ _ ?_ | refine hK7 _ _ ?_ | refine hK6 _ _ ?_ | refine hK5 _ _ ?_ | refine hK4 _ _ ?_ | refine hK3 _ _ ?_ | refine hK2 _ _ ?_ | refine hK1 _ _ ?_
 obtain ⟨y, hy⟩ : ∃ y, x.at3 ⟨A1, x.u.1.seen.ents.length, c1, A2, x.u.1.seen.ctx.marks.length, c2, A3, x.u.1.seen.ctx.cloud.length, c3⟩ ⟨B1, x.s.1.ents.length, d1, B2, x.s.1.ctx.marks.length, d2, B3, x.s.1.ctx.cloud.length, d3⟩ ⟨C1, x.c.1.ents.length, e1, C2, x.c.1.ctx.marks.length, e2, C3, x.c.1.ctx.cloud.length, e3⟩ = y := ⟨_, rfl⟩
 rw [hy] at S
 refine wp_seq_k fun _ hK2 => wp_region_lit (run S (.la gt96 10 rfl rfl rfl <| .z) fun a w S => Zi (Zp S sizeOf96 (.t rfl) (.t rfl) (k := 9) rfl rfl rfl (by simp [Value.oneCell']) fun a w S => Zb (Za (hK2 _ _ (wp_ret (Zn S (results1 S results117 (Rv.cell (k := 9) ⟨isAgg96, sizeOf96⟩ rfl rfl rfl)) ?_))))))
 exact ⟨_, _, rfl, S.wd.pk, A1, c1, A2, c2, A3, c3, B1, d1, B2, d2, B3, d3, C1, e1, C2, e2, C3, e3, by rw [hy], rfl⟩
end Go.Proofs.YtakpdbmdfnialaaGreat
namespace Go.Fw
open Go.RowKit
def isGone (key : List UInt8) (x : SLog) : Bool := decide (x.kind = 5) && decide (x.key = key)
def goneK (l : List SLog) (key : List UInt8) : List SLog := l.filter (isGone key)
def forgotB (d : Dot) (x : SLog) : Bool := decide (x.an = d.node ∧ x.al = d.life) && x.c.1.ctx.covers d
def forgotK (l : List SLog) (d : Dot) : Bool := l.any (forgotB d)
theorem gone_snoc {l : List SLog} {i : Nat} {x : SLog} {key : List UInt8} (h : l[i]? = some x) : goneK (l.take (i + 1)) key = goneK (l.take i) key ++ if isGone key x = true then [x] else [] := by
 unfold goneK
 rw [List.take_add_one, h, Option.toList_some, List.filter_append]
 congr 1
 rw [List.filter_cons, List.filter_nil]
theorem gone_len (l : List SLog) (key : List UInt8) : (goneK l key).length ≤ l.length := List.length_filter_le _ _
theorem log_enc (x : SLog) : #[Value.int .i64 x.kind, .int .i64 x.at_, .int .i64 x.ask, .string (bs x.u.1.key), .int .i64 x.u.1.dot.node, .int .i64 x.u.1.dot.life, .int .i64 x.u.1.dot.count, .string (bs x.u.1.item), .int .i64 x.u.1.qty, .int .u64 (x.u.1.price.toNat : Int), .slice x.u.2.a1 x.u.2.n1 x.u.2.c1, .slice x.u.2.a2 x.u.2.n2 x.u.2.c2, .slice x.u.2.a3 x.u.2.n3 x.u.2.c3, .int .i64 x.an, .int .i64 x.al, .string (bs x.key), .slice x.s.2.a1 x.s.2.n1 x.s.2.c1, .slice x.s.2.a2 x.s.2.n2 x.s.2.c2, .slice x.s.2.a3 x.s.2.n3 x.s.2.c3, .slice x.c.2.a1 x.c.2.n1 x.c.2.c1, .slice x.c.2.a2 x.c.2.n2 x.c.2.c2, .slice x.c.2.a3 x.c.2.n3 x.c.2.c3] = (SLog.enc x).toArray := rfl
end Go.Fw
namespace Go.Proofs.YtakpdbmdfnialaaGreat
open Go.Fw Go.Proofs Go.RowKit Go.Proofs.Tryz
theorem c119 (w0 : World) (v : Value) (l : List SLog) (key : List UInt8) (h : Sl SLog.enc 22 w0 w0.heap.size v l) (hn : l.length ≤ 1048576) :
   Rets Tryz.prog 119 #[v, .string (bs key)] w0 fun u L => ∃ A r, u = .slice A (goneK l key).length r ∧ L = [rowOf 96 22 SLog.enc A r (goneK l key)] := by
 obtain ⟨A, cap, rfl, hl, hcap, hA⟩ := h
 unfold Go.Fw.Rets
 refine enter2 func119 rfl ntmps119 rfl fun a S => sg S (.ac rfl <| .z) fun a w S => sg S (.ac rfl <| .z) fun a w S => wp_seq_k fun _ hK1 => sg S (.mv rfl <| .ln underlying84 rfl <| .mc rfl <| .z) fun a w S => wp_block ?_
 replace S := S.nil_ 96 22 SLog.enc none
 refine Xn S [5, 10] (X := Nat × Option Addr × Nat) (fun q => [(5, true, .slice q.2.1 (goneK (l.take q.1) key).length q.2.2), (10, true, .int .i64 (q.1 : Int))]) (fun q => [rowOf 96 22 SLog.enc q.2.1 q.2.2 (goneK (l.take q.1) key)]) (fun q => q.1 ≤ l.length) (fun q => l.length - q.1) (0, none, 0) (Nat.zero_le _) ?_
 clear S
 rintro ⟨i, B, cB⟩ a w hi S
 dsimp only at hi S
 have hgl := gone_len (l.take i) key
 rw [List.length_take] at hgl
 by_cases hlt : i < l.length
 · obtain ⟨gq, oq, x, rfl, hx, hd, hc⟩ := Yh hA hlt
   have hst := gone_snoc (key := key) hx
   generalize goneK (l.take i) key = G at *
   by_cases hk : x.kind = 5
   · have rw_k := decide_eq_true hk
     by_cases hy : x.key = key
     · have rw_y := decide_eq_true hy
       have rw_l := log_enc x
       rw [show isGone key x = true by unfold isGone; rw [rw_k, rw_y]; rfl, if_pos rfl] at hst
       refine sg S (.lt (by omega) rfl rfl <| .z) fun a w S => wp_seq_k fun _ hK2 => Zg S (.t rfl) (wp_skip (Za (hK2 _ _ (wp_seq_k fun _ hK2 => wp_block (wp_seq_k fun _ hK3 => wp_region_lit (run S (.ix underlying84 sizeOf96 (by omega) rfl rfl <| .yy (Zu ⟨isAgg96, sizeOf96⟩ (.t rfl) (vs := [_, _, _, _, _, _, _, _, _, _, _, _, _, _, _, _, _, _, _, _, _, _]) rfl (fun _ => hc)) rfl <| .z) fun a w S => ?_))))))
       rw [rw_l] at S
       refine Zi (Zk S zeroValue96 (cs := _) rfl rfl fun g1 a w S => ?_)
       rw [rw_l] at S
       refine Zi (Zp S sizeOf96 (.t rfl) (.t rfl) (k := 0) rfl rfl rfl (by simp [Value.oneCell']) fun a w S => ?_)
       rw [rw_l] at S
       refine Zb ?_
       rw [rw_l] at S
       refine Za (hK3 _ _ ?_)
       rw [rw_l] at S
       refine wp_seq_k fun _ hK3 => ?_
       rw [rw_l] at S
       refine wp_region_lit ?_
       rw [rw_l] at S
       refine run S (.fa underlying96 sizeOf3 0 rfl rfl rfl <| .z) fun a w S => ?_
       rw [rw_l] at S
       refine run S (.ld gt3 0 rfl rfl rfl <| .z) fun a w S => ?_
       rw [rw_l] at S
       refine run S (.yy (Yu (by omega) (Yj (.t rfl) Ev.c)) rfl <| .z) fun a w S => ?_
       rw [rw_l] at S
       refine run S (.mv rfl <| .z) fun a w S => ?_
       rw [rw_l] at S
       refine run S (.gy rfl rfl (Zc (FieldT.mk underlying96 rfl sizeOf9 rfl) (.t rfl) (i' := 15) rfl) <| .z) fun a w S => ?_
       rw [rw_l] at S
       refine run S (.gy rfl rfl (Zt ⟨isAgg9, sizeOf9⟩ (.t rfl) (k := 0) rfl rfl) <| .z) fun a w S => ?_
       rw [rw_l] at S
       refine run S (.gy rfl rfl (Zj (.t rfl)) <| .z) fun a w S => ?_
       rw [rw_l] at S
       refine run S (.gy rfl rfl (Wa (.t rfl) (.t rfl)) <| .z) fun a w S => ?_
       rw [rw_y] at S
       rw [rw_l] at S
       refine run S (.yy (Zz (.t rfl) (.t rfl)) rfl <| .z) fun a w S => ?_
       rw [rw_l] at S
       refine Zb ?_
       rw [rw_l] at S
       refine Za (hK3 _ _ ?_)
       rw [rw_l] at S
       refine Zg S (.t rfl) ?_
       rw [rw_l] at S
       refine wp_region_lit ?_
       rw [rw_l] at S
       refine run S (.mv rfl <| .z) fun a w S => ?_
       rw [rw_l] at S
       refine run S (.la gt96 0 rfl rfl rfl <| .z) fun a w S => ?_
       rw [rw_l] at S
       refine Zi (Yd S underlying84 inf96 rfl rfl rfl (.t rfl) rfl rfl rfl fun g2 a w S => ?_)
       rw [rw_l] at S
       refine Zi (Yv S underlying84 inf96 rfl (k := 2) (j := 0) rfl (.t rfl) (.t rfl) rfl rfl rfl rfl (by first | omega | (simp only [List.length_append, List.length_cons, List.length_nil]; omega)) rfl rfl rfl fun A1 cap1 a w S => ?_)
       rw [rw_l] at S
       refine run S (.as rfl <| .z) fun a w S => ?_
       rw [rw_l] at S
       refine Zb ?_
       rw [rw_l] at S
       refine Zm (Za (hK2 _ _ ?_))
       rw [rw_l] at S
       refine wp_region_lit ?_
       rw [rw_l] at S
       refine run S (.ad (by unfold I64; omega) rfl <| .z) fun a w S => ?_
       rw [rw_l] at S
       refine run S (.mv rfl <| .z) fun a w S => ?_
       rw [rw_l] at S
       refine Zb ?_
       rw [rw_l] at S
       refine Za ?_
       rw [rw_l] at S
       exact ⟨(i + 1, A1, cap1), by dsimp only; omega, by dsimp only; omega, by dsimp only; rw [hst]; exact S.pk⟩
     · have rw_y := decide_eq_false hy
       rw [show isGone key x = false by unfold isGone; rw [rw_k, rw_y]; rfl, if_neg (by decide), List.append_nil] at hst
       refine sg S (.lt (by omega) rfl rfl <| .z) fun a w S => wp_seq_k fun _ hK2 => Zg S (.t rfl) (wp_skip (Za (hK2 _ _ (wp_seq_k fun _ hK2 => wp_block (wp_seq_k fun _ hK3 => wp_region_lit (run S (.ix underlying84 sizeOf96 (by omega) rfl rfl <| .yy (Zu ⟨isAgg96, sizeOf96⟩ (.t rfl) (vs := [_, _, _, _, _, _, _, _, _, _, _, _, _, _, _, _, _, _, _, _, _, _]) rfl (fun _ => hc)) rfl <| .z) fun a w S => Zi (Zk S zeroValue96 (cs := _) rfl rfl fun g1 a w S => Zi (Zp S sizeOf96 (.t rfl) (.t rfl) (k := 0) rfl rfl rfl (by simp [Value.oneCell']) fun a w S => Zb (Za (hK3 _ _ (wp_seq_k fun _ hK3 => wp_region_lit (run S (.fa underlying96 sizeOf3 0 rfl rfl rfl <| .ld gt3 0 rfl rfl rfl <| .yy (Yu (by omega) (Yj (.t rfl) Ev.c)) rfl <| .mv rfl <| .gy rfl rfl (Zc (FieldT.mk underlying96 rfl sizeOf9 rfl) (.t rfl) (i' := 15) rfl) <| .gy rfl rfl (Zt ⟨isAgg9, sizeOf9⟩ (.t rfl) (k := 0) rfl rfl) <| .gy rfl rfl (Zj (.t rfl)) <| .gy rfl rfl (Wa (.t rfl) (.t rfl)) <| .z) fun a w S => ?_))))))))))))
       rw [rw_y] at S
       refine run S (.yy (Zz (.t rfl) (.t rfl)) rfl <| .z) fun a w S => Zb (Za (hK3 _ _ (Ze S (.t rfl) (wp_skip (Zm (Za (hK2 _ _ (wp_region_lit (run S (.ad (by unfold I64; omega) rfl <| .mv rfl <| .z) fun a w S => Zb (Za ?_))))))))))
       exact ⟨(i + 1, B, cB), by dsimp only; omega, by dsimp only; omega, by dsimp only; rw [hst]; exact S.pk⟩
   · have rw_k := decide_eq_false hk
     rw [show isGone key x = false by unfold isGone; rw [rw_k]; rfl, if_neg (by decide), List.append_nil] at hst
     refine sg S (.lt (by omega) rfl rfl <| .z) fun a w S => wp_seq_k fun _ hK2 => Zg S (.t rfl) (wp_skip (Za (hK2 _ _ (wp_seq_k fun _ hK2 => wp_block (wp_seq_k fun _ hK3 => wp_region_lit (run S (.ix underlying84 sizeOf96 (by omega) rfl rfl <| .yy (Zu ⟨isAgg96, sizeOf96⟩ (.t rfl) (vs := [_, _, _, _, _, _, _, _, _, _, _, _, _, _, _, _, _, _, _, _, _, _]) rfl (fun _ => hc)) rfl <| .z) fun a w S => Zi (Zk S zeroValue96 (cs := _) rfl rfl fun g1 a w S => Zi (Zp S sizeOf96 (.t rfl) (.t rfl) (k := 0) rfl rfl rfl (by simp [Value.oneCell']) fun a w S => Zb (Za (hK3 _ _ (sg S (.fa underlying96 sizeOf3 0 rfl rfl rfl <| .ld gt3 0 rfl rfl rfl <| .yy (Yp (by omega) (Yj (.t rfl) Ev.c)) rfl <| .mv rfl <| .sk rfl rfl rfl <| .sk rfl rfl rfl <| .sk rfl rfl rfl <| .sk rfl rfl rfl <| .yy (Zv (.t rfl) Ev.c) rfl <| .z) fun a w S => Ze S (.t rfl) (wp_skip (Zm (Za (hK2 _ _ (wp_region_lit (run S (.ad (by unfold I64; omega) rfl <| .mv rfl <| .z) fun a w S => Zb (Za ?_))))))))))))))))))
     exact ⟨(i + 1, B, cB), by dsimp only; omega, by dsimp only; omega, by dsimp only; rw [hst]; exact S.pk⟩
 obtain rfl : i = l.length := by omega
 rw [List.take_length] at S
 refine sg S (.ge (by omega) rfl rfl <| .z) fun a w S => wp_seq_k fun _ hK2 => Ze S (.t rfl) (wp_exit (Zh (Zh (Ya (Za (hK1 _ _ (sg S (.mv rfl <| .as rfl <| .z) fun a w S => wp_ret (Zn S (results1 S results119 (Rv.tmp rfl)) ?_))))))))
 exact ⟨_, _, rfl, S.wd.pk, B, cB, rfl, rfl⟩
theorem c171 (w0 : World) (x : SLog) (d : Dot) (g : Nat) (h : LogRd w0 x) (h1 : w0.cell? ⟨g, 0, none⟩ = some (.int .i64 d.node)) (h2 : w0.cell? ⟨g, 1, none⟩ = some (.int .i64 d.life)) (h3 : w0.cell? ⟨g, 2, none⟩ = some (.int .i64 d.count)) :
   Calls Tryz.prog 171 #[.agg (SLog.enc x).toArray, .pointer (some ⟨g, 0, none⟩)] w0 fun e w' => e = .returned (.bool (forgotB d x)) ∧ Bel w0.heap.size w0 w' := by
 have hdc := dot_cells (d := d) h1 h2 h3
 have r1 := h.c.ctx
 refine enter2 func171 rfl ntmps171 rfl fun a S => wp_seq_k fun _ hK1 => wp_region_lit (Zi (Zy S (.t rfl) rfl fun g1 a w S => run S (.ac rfl <| .z) fun a w S => Zb (Za (hK1 _ _ (wp_seq_k fun _ hK1 => wp_region_lit (run S (.fa underlying96 sizeOf66 13 rfl rfl rfl <| .la gt66 0 rfl rfl rfl <| .fa underlying74 sizeOf3 0 rfl rfl rfl <| .yy (Xp ⟨isAgg3, sizeOf3⟩ (.t rfl) (fun _ => h1)) rfl <| .fa underlying74 sizeOf3 1 rfl rfl rfl <| .yy (Xp ⟨isAgg3, sizeOf3⟩ (.t rfl) (fun _ => h2)) rfl <| .yy (Yn (ps := [(0, Go.Operand.tmp 7), (1, Go.Operand.tmp 9)]) (us := [_, _]) bld66 (.cons (.t rfl) (.cons (.t rfl) .nil)) rfl) rfl <| .yy (Wh (.t rfl) (.t rfl) eq66) rfl <| .mv rfl <| .z) fun a w S => Yi S rfl rfl (Yr.ys (Zc (FieldT.mk underlying96 rfl sizeOf37 rfl) (.t rfl) (i' := 19) rfl)) rfl fun a w S => Yi S rfl rfl (Yr.ys (Zc (FieldT.mk underlying37 rfl sizeOf35 rfl) (Ev.g rfl) (i' := 20) rfl)) rfl fun a w S => Yi S rfl rfl (Yr.ys (Yc ⟨isAgg35, sizeOf35⟩ (Ev.g rfl) (k := 0) rfl rfl)) rfl fun a w S => Yi S rfl rfl (Yr.ys (Zu ⟨isAgg74, sizeOf74⟩ (.t rfl) (vs := [_, _, _]) rfl (fun _ => hdc))) rfl fun a w S => Yi S rfl rfl (Zf call109 (.cons (Ev.g rfl) (.cons (Ev.g rfl) .nil)) (fun hp w W => c109 _ _ _ _ _ _ _ (by exact .old W (by assumption)))) rfl fun a w S => ?_))))))
 refine run S (.yy (Xy (.t rfl) (Ev.g rfl) Ev.c) rfl <| .as rfl <| .z) fun a w S => Zb (Za (hK1 _ _ (wp_ret (Zn S (results1 S results171 (Rv.tmp rfl)) ?_))))
 exact ⟨rfl, S.wd.below⟩
theorem c118 (w0 : World) (v : Value) (l : List SLog) (x y z : Int) (h : Sl SLog.enc 22 w0 w0.heap.size v l) (hl : LogsRd w0 l) :
   Calls Tryz.prog 118 #[v, .agg #[.int .i64 x, .int .i64 y, .int .i64 z]] w0 fun e w' => e = .returned (.bool (forgotK l ⟨x, y, z⟩)) ∧ Bel w0.heap.size w0 w' := by
 have hs := h
 have rw_i := idxW_any (forgotB ⟨x, y, z⟩) l 0
 refine enter2 func118 rfl ntmps118 rfl fun a S => wp_seq_k fun _ hK1 => wp_region_lit (Zi (Zy S (.t rfl) rfl fun g1 a w S => run S (.ac rfl <| .z) fun a w S => Zb (Za (hK1 _ _ (wp_seq_k fun _ hK1 => wp_region_lit (run S (.mv rfl <| .yy (ys_mkFunc (.cons (.t rfl) .nil)) rfl <| .z) fun a w S => ?_))))))
 refine Yk S (Zf call170 (.cons (.t rfl) (.cons (.t rfl) .nil)) (fun _ w' W' => x170 w' _ l 171 [.pointer (some ⟨g1, 0, none⟩)] (forgotB ⟨x, y, z⟩) call171
   (fun w'' W'' q hq => c171 w'' q ⟨x, y, z⟩ g1 (((hl q hq).old W').old W'') (Wd.cellOld W'' (Wd.cell W' (k := 0) rfl rfl)) (Wd.cellOld W'' (Wd.cell W' (k := 0) rfl rfl)) (Wd.cellOld W'' (Wd.cell W' (k := 0) rfl rfl))) (Sl.old W' hs))) rfl ?_
 clear S a w
 intro a w S
 refine run S (.yy (Xr (.t rfl) Ev.c) rfl <| .z) fun a w S => ?_
 rw [rw_i] at S
 refine run S (.as rfl <| .z) fun a w S => Zb (Za (hK1 _ _ (wp_ret (Zn S (results1 S results118 (Rv.tmp rfl)) ?_))))
 exact ⟨rfl, S.wd.below⟩
end Go.Proofs.YtakpdbmdfnialaaGreat
namespace Go.Fw
open Go.RowKit
def toldB (pr : List SLog) (x y : SLog) : Bool := decide (y.kind = 1) && decide (y.u.1.key = x.key) && (x.c.1.ctx.covers y.u.1.dot || forgotK pr y.u.1.dot)
def toldU (pr : List SLog) (x : SLog) (l : List SLog) : List SUpd := (l.filter (toldB pr x)).map (·.u)
def keepC (C : Ctx) (p : SLog) : Ctx := C.prune p.an p.al
def cutC (c : Cart) (p : SLog) : Cart := pruneK c p.an p.al
def rightK (l : List SLog) (x : SLog) : Bool :=
 decide ((meantK ((toldU (goneK l x.key) x l).map (·.1))).2 = 0) && (decide ((goneK l x.key).foldl cutC (meantK ((toldU (goneK l x.key) x l).map (·.1))).1 = x.c.1) && leqL ((goneK l x.key).foldl keepC x.s.1.ctx) x.c.1.ctx)
theorem told_snoc {pr l : List SLog} {x y : SLog} {i : Nat} (h : l[i]? = some y) : toldU pr x (l.take (i + 1)) = toldU pr x (l.take i) ++ if toldB pr x y = true then [y.u] else [] := by
 unfold toldU
 rw [List.take_add_one, h, Option.toList_some, List.filter_append, List.map_append]
 congr 1
 rw [List.filter_cons, List.filter_nil]
 split <;> rfl
theorem told_len (pr l : List SLog) (x : SLog) : (toldU pr x l).length ≤ l.length := by
 unfold toldU
 rw [List.length_map]
 exact List.length_filter_le _ _
theorem upd_enc (x : SUpd) : #[Value.string (bs x.1.key), .int .i64 x.1.dot.node, .int .i64 x.1.dot.life, .int .i64 x.1.dot.count, .string (bs x.1.item), .int .i64 x.1.qty, .int .u64 (x.1.price.toNat : Int), .slice x.2.a1 x.2.n1 x.2.c1, .slice x.2.a2 x.2.n2 x.2.c2, .slice x.2.a3 x.2.n3 x.2.c3] = (SUpd.enc x).toArray := rfl
structure CutOk (c : Cart) (T : Ctx) : Prop where
 l1 : c.ents.length ≤ 1048576
 l2 : c.ctx.marks.length ≤ 1048576
 l3 : c.ctx.cloud.length ≤ 1048576
 l4 : T.marks.length ≤ 1048576
 l5 : T.cloud.length ≤ 1048576
 may : ∀ m ∈ T.marks, mayD m = true
theorem CutOk.cut {c : Cart} {T : Ctx} (h : CutOk c T) (p : SLog) : CutOk (cutC c p) (keepC T p) := by
 obtain ⟨h1, h2, h3, h4, h5, h6⟩ := h
 have f := fun (α : Type) (q : α → Bool) (l : List α) => List.length_filter_le q l
 refine ⟨?_, ?_, ?_, ?_, ?_, ?_⟩
 · exact Nat.le_trans (List.length_filter_le _ _) h1
 · exact Nat.le_trans (List.length_filter_le _ _) h2
 · exact Nat.le_trans (List.length_filter_le _ _) h3
 · exact Nat.le_trans (List.length_filter_le _ _) h4
 · exact Nat.le_trans (List.length_filter_le _ _) h5
 · exact fun m hm => h6 m (List.mem_filter.1 hm).1
theorem meant_cart {U : List Upd} (h : (meantK U).2 = 0) : CartOk (meantK U).1 := by
 unfold meantK at h ⊢
 split at h
 · rename_i h1
   rw [if_pos h1]
   split at h
   · rename_i h2
     rw [if_pos h2]
     split at h
     · rename_i h3
       rw [if_pos h3]
       split at h
       · rename_i h4
         rw [if_pos h4]
         exact (Wv _).1 h4
       · rename_i h4; exact absurd h h4
     · rename_i h3; exact absurd h h3
   · rename_i h2; exact absurd h h2
 · exact absurd h (by decide)
end Go.Fw
namespace Go.Proofs.YtakpdbmdfnialaaGreat
open Go.Fw Go.Proofs Go.RowKit Go.Proofs.Tryz
theorem c125 (w0 : World) (v : Value) (l : List SLog) (x : SLog) (h : Sl SLog.enc 22 w0 w0.heap.size v l) (hl : LogsRd w0 l) (hn : l.length ≤ 1048576) (hx : LogRd w0 x) (hB : RoomU ((toldU (goneK l x.key) x l).map (·.1))) (hm1 : ∀ m ∈ x.s.1.ctx.marks, mayD m = true) (hm2 : ∀ m ∈ x.c.1.ctx.marks, mayD m = true) (hs1 : x.s.1.ctx.marks.length ≤ 1048576) (hs2 : x.s.1.ctx.cloud.length ≤ 1048576) :
   Calls Tryz.prog 125 #[v, .agg (SLog.enc x).toArray] w0 fun e w' => e = .returned (.bool (rightK l x)) ∧ Bel w0.heap.size w0 w' := by
 have hs := h
 obtain ⟨A, cap, rfl, hl0, hcap, hA⟩ := h
 have hpl := gone_len l x.key
 have hlp : LogsRd w0 (goneK l x.key) := fun y hy9 => hl y (List.mem_filter.1 hy9).1
 have q1 := hx.c.ctx
 have q2 := hx.s.ctx
 have q3 := hx.c.ents
 refine enter2 func125 rfl ntmps125 rfl fun a S => wp_seq_k fun _ hK1 => wp_region_lit (Zi (Zy S (.t rfl) rfl fun g1 a w S => run S (.ac rfl <| .z) fun a w S => Zb (Za (hK1 _ _ (wp_seq_k fun _ hK1 => wp_region_lit (run S (.mv rfl <| .fa underlying96 sizeOf9 15 rfl rfl rfl <| .ld gt9 0 rfl rfl rfl <| .z) fun a w S => ?_))))))
 (refine Zi (Zr S call119 (.cons (.t rfl) (.cons (.t rfl) .nil)) (c119 _ _ _ _ (by exact .old S.wd (by assumption)) (by assumption)) rfl ?_); clear S a w; rintro _ _ ⟨A1, r1, rfl, rfl⟩ a w S)
 refine run S (.as rfl <| .z) fun a w S => Zb (Za (hK1 _ _ (sg S (.ac rfl <| .z) fun a w S => wp_seq_k fun _ hK1 => sg S (.mv rfl <| .ln underlying84 rfl <| .mc rfl <| .z) fun a w S => wp_block ?_)))
 replace S := S.nil_ 77 10 SUpd.enc none
 refine Xn S [6, 20] (X := Nat × Option Addr × Nat) (fun q => [(6, true, .slice q.2.1 (toldU (goneK l x.key) x (l.take q.1)).length q.2.2), (20, true, .int .i64 (q.1 : Int))])
   (fun q => [rowOf 77 10 SUpd.enc q.2.1 q.2.2 (toldU (goneK l x.key) x (l.take q.1)), rowOf 96 22 SLog.enc A1 r1 (goneK l x.key), .blk g1 (.cells (SLog.enc x).toArray 96)]) (fun q => q.1 ≤ l.length) (fun q => l.length - q.1) (0, none, 0) (Nat.zero_le _) ?_
 clear S
 rintro ⟨i, B, cB⟩ a w hi S
 dsimp only at hi S
 have htl := told_len (goneK l x.key) (l.take i) x
 rw [List.length_take] at htl
 by_cases hlt : i < l.length
 · obtain ⟨gq, oq, y, rfl, hy9, hd, hc⟩ := Yh hA hlt
   have hst := told_snoc (pr := goneK l x.key) (x := x) hy9
   generalize toldU (goneK l x.key) x (l.take i) = G at *
   generalize hpr : goneK l x.key = pr at *
   by_cases hk : y.kind = 1
   · have rw_k := decide_eq_true hk
     by_cases hky : y.u.1.key = x.key
     · have rw_y := decide_eq_true hky
       cases hcv : x.c.1.ctx.covers y.u.1.dot with
       | true =>
         have rw_c := hcv
         have ht : toldB pr x y = true := by unfold toldB; rw [rw_k, rw_y, hcv]; rfl
         rw [ht, if_pos rfl] at hst
         have rw_e := upd_enc y.u
         refine sg S (.lt (by omega) rfl rfl <| .z) fun a w S => wp_seq_k fun _ hK2 => Zg S (.t rfl) (wp_skip (Za (hK2 _ _ (wp_seq_k fun _ hK2 => wp_block (wp_seq_k fun _ hK3 => wp_region_lit (run S (.ix underlying84 sizeOf96 (by omega) rfl rfl <| .yy (Zu ⟨isAgg96, sizeOf96⟩ (.t rfl) (vs := [_, _, _, _, _, _, _, _, _, _, _, _, _, _, _, _, _, _, _, _, _, _]) rfl (fun _ => hc)) rfl <| .z) fun a w S => Zi (Zk S zeroValue96 (cs := _) rfl rfl fun g2 a w S => Zi (Zp S sizeOf96 (.t rfl) (.t rfl) (k := 0) rfl rfl rfl (by simp [Value.oneCell']) fun a w S => Zb (Za (hK3 _ _ (wp_seq_k fun _ hK3 => wp_region_lit (run S (.fa underlying96 sizeOf3 0 rfl rfl rfl <| .ld gt3 0 rfl rfl rfl <| .yy (Yu (by omega) (Yj (.t rfl) Ev.c)) rfl <| .mv rfl <| .gy rfl rfl (Zc (FieldT.mk underlying96 rfl sizeOf77 rfl) (.t rfl) (i' := 3) rfl) <| .gy rfl rfl (Zc (FieldT.mk underlying77 rfl sizeOf9 rfl) (.t rfl) (i' := 3) rfl) <| .gy rfl rfl (Zt ⟨isAgg9, sizeOf9⟩ (.t rfl) (k := 0) rfl rfl) <| .gy rfl rfl (Zc (FieldT.mk underlying96 rfl sizeOf9 rfl) (.t rfl) (i' := 15) rfl) <| .gy rfl rfl (Zt ⟨isAgg9, sizeOf9⟩ (.t rfl) (k := 3) rfl rfl) <| .gy rfl rfl (Wa (.t rfl) (.t rfl)) <| .z) fun a w S => ?_))))))))))))
         rw [rw_y] at S
         refine run S (.yy (Zz (.t rfl) (.t rfl)) rfl <| .mv rfl <| .gy rfl rfl (Zc (FieldT.mk underlying96 rfl sizeOf37 rfl) (.t rfl) (i' := 19) rfl) <| .gy rfl rfl (Zc (FieldT.mk underlying37 rfl sizeOf35 rfl) (.t rfl) (i' := 20) rfl) <| .gy rfl rfl (Yc ⟨isAgg35, sizeOf35⟩ (.t rfl) (k := 3) rfl rfl) <| .gy rfl rfl (Zc (FieldT.mk underlying96 rfl sizeOf77 rfl) (.t rfl) (i' := 3) rfl) <| .gy rfl rfl (Zc (FieldT.mk underlying77 rfl sizeOf74 rfl) (.t rfl) (i' := 4) rfl) <| .gy rfl rfl (Yc ⟨isAgg74, sizeOf74⟩ (.t rfl) (k := 0) rfl rfl) <| .gx rfl rfl (Zf call109 (.cons (.t rfl) (.cons (.t rfl) .nil)) (fun hp w W => c109 _ _ _ _ _ _ _ (by exact .old W (by assumption)))) <| .z) fun a w S => ?_
         rw [rw_c] at S
         refine run S (.gy rfl rfl (Zj (.t rfl)) <| .sk rfl rfl rfl <| .sk rfl rfl rfl <| .sk rfl rfl rfl <| .sk rfl rfl rfl <| .sk rfl rfl rfl <| .gy rfl rfl (Zz (.t rfl) Ev.c) <| .yy (Zz (.t rfl) (.t rfl)) rfl <| .z) fun a w S => Zb (Za (hK3 _ _ (Zg S (.t rfl) (wp_region_lit (run S (.mv rfl <| .fa underlying96 sizeOf77 3 rfl rfl rfl <| .la gt77 0 rfl rfl rfl <| .z) fun a w S => ?_)))))
         rw [rw_e] at S
         refine Zi (Yd S underlying72 inf77 rfl rfl rfl (.t rfl) rfl rfl rfl fun g3 a w S => ?_)
         rw [rw_e] at S
         refine Zi (Yv S underlying72 inf77 rfl (k := 2) (j := 0) rfl (.t rfl) (.t rfl) rfl rfl rfl rfl (by first | omega | (simp only [List.length_append, List.length_cons, List.length_nil]; omega)) rfl rfl rfl fun A2 cap1 a w S => ?_)
         rw [rw_e] at S
         refine run S (.as rfl <| .z) fun a w S => ?_
         rw [rw_e] at S
         refine Zb ?_
         rw [rw_e] at S
         refine Zm (Za (hK2 _ _ ?_))
         rw [rw_e] at S
         refine wp_region_lit ?_
         rw [rw_e] at S
         refine run S (.ad (by unfold I64; omega) rfl <| .z) fun a w S => ?_
         rw [rw_e] at S
         refine run S (.mv rfl <| .z) fun a w S => ?_
         rw [rw_e] at S
         refine Zb ?_
         rw [rw_e] at S
         refine Za ?_
         rw [rw_e] at S
         exact ⟨(i + 1, A2, cap1), by dsimp only; omega, by dsimp only; omega, by dsimp only; rw [hst]; exact S.pk⟩
       | false =>
         have rw_c := hcv
         cases hfg : forgotK pr y.u.1.dot with
         | true =>
           have rw_f := hfg
           have ht : toldB pr x y = true := by unfold toldB; rw [rw_k, rw_y, hcv, hfg]; rfl
           rw [ht, if_pos rfl] at hst
           have rw_e := upd_enc y.u
           refine sg S (.lt (by omega) rfl rfl <| .z) fun a w S => wp_seq_k fun _ hK2 => Zg S (.t rfl) (wp_skip (Za (hK2 _ _ (wp_seq_k fun _ hK2 => wp_block (wp_seq_k fun _ hK3 => wp_region_lit (run S (.ix underlying84 sizeOf96 (by omega) rfl rfl <| .yy (Zu ⟨isAgg96, sizeOf96⟩ (.t rfl) (vs := [_, _, _, _, _, _, _, _, _, _, _, _, _, _, _, _, _, _, _, _, _, _]) rfl (fun _ => hc)) rfl <| .z) fun a w S => Zi (Zk S zeroValue96 (cs := _) rfl rfl fun g2 a w S => Zi (Zp S sizeOf96 (.t rfl) (.t rfl) (k := 0) rfl rfl rfl (by simp [Value.oneCell']) fun a w S => Zb (Za (hK3 _ _ (wp_seq_k fun _ hK3 => wp_region_lit (run S (.fa underlying96 sizeOf3 0 rfl rfl rfl <| .ld gt3 0 rfl rfl rfl <| .yy (Yu (by omega) (Yj (.t rfl) Ev.c)) rfl <| .mv rfl <| .gy rfl rfl (Zc (FieldT.mk underlying96 rfl sizeOf77 rfl) (.t rfl) (i' := 3) rfl) <| .gy rfl rfl (Zc (FieldT.mk underlying77 rfl sizeOf9 rfl) (.t rfl) (i' := 3) rfl) <| .gy rfl rfl (Zt ⟨isAgg9, sizeOf9⟩ (.t rfl) (k := 0) rfl rfl) <| .gy rfl rfl (Zc (FieldT.mk underlying96 rfl sizeOf9 rfl) (.t rfl) (i' := 15) rfl) <| .gy rfl rfl (Zt ⟨isAgg9, sizeOf9⟩ (.t rfl) (k := 3) rfl rfl) <| .gy rfl rfl (Wa (.t rfl) (.t rfl)) <| .z) fun a w S => ?_))))))))))))
           rw [rw_y] at S
           refine run S (.yy (Zz (.t rfl) (.t rfl)) rfl <| .mv rfl <| .gy rfl rfl (Zc (FieldT.mk underlying96 rfl sizeOf37 rfl) (.t rfl) (i' := 19) rfl) <| .gy rfl rfl (Zc (FieldT.mk underlying37 rfl sizeOf35 rfl) (.t rfl) (i' := 20) rfl) <| .gy rfl rfl (Yc ⟨isAgg35, sizeOf35⟩ (.t rfl) (k := 3) rfl rfl) <| .gy rfl rfl (Zc (FieldT.mk underlying96 rfl sizeOf77 rfl) (.t rfl) (i' := 3) rfl) <| .gy rfl rfl (Zc (FieldT.mk underlying77 rfl sizeOf74 rfl) (.t rfl) (i' := 4) rfl) <| .gy rfl rfl (Yc ⟨isAgg74, sizeOf74⟩ (.t rfl) (k := 0) rfl rfl) <| .gx rfl rfl (Zf call109 (.cons (.t rfl) (.cons (.t rfl) .nil)) (fun hp w W => c109 _ _ _ _ _ _ _ (by exact .old W (by assumption)))) <| .z) fun a w S => ?_
           rw [rw_c] at S
           refine run S (.gy rfl rfl (Zj (.t rfl)) <| .gy rfl rfl (Zj (.t rfl)) <| .gy rfl rfl (Zc (FieldT.mk underlying96 rfl sizeOf77 rfl) (.t rfl) (i' := 3) rfl) <| .gy rfl rfl (Zc (FieldT.mk underlying77 rfl sizeOf74 rfl) (.t rfl) (i' := 4) rfl) <| .gy rfl rfl (Yc ⟨isAgg74, sizeOf74⟩ (.t rfl) (k := 0) rfl rfl) <| .gx rfl rfl (Zf call118 (.cons (.t rfl) (.cons (.t rfl) .nil)) (fun hp w W => c118 _ _ _ _ _ _ (by exact Sl.of_own W (k := 2) rfl (fun _ => rfl)) (by exact .old W (by assumption)))) <| .z) fun a w S => ?_
           rw [rw_f] at S
           refine run S (.gy rfl rfl (Zv (.t rfl) (.t rfl)) <| .yy (Zz (.t rfl) (.t rfl)) rfl <| .z) fun a w S => Zb (Za (hK3 _ _ (Zg S (.t rfl) (wp_region_lit (run S (.mv rfl <| .fa underlying96 sizeOf77 3 rfl rfl rfl <| .la gt77 0 rfl rfl rfl <| .z) fun a w S => ?_)))))
           rw [rw_e] at S
           refine Zi (Yd S underlying72 inf77 rfl rfl rfl (.t rfl) rfl rfl rfl fun g3 a w S => ?_)
           rw [rw_e] at S
           refine Zi (Yv S underlying72 inf77 rfl (k := 2) (j := 0) rfl (.t rfl) (.t rfl) rfl rfl rfl rfl (by first | omega | (simp only [List.length_append, List.length_cons, List.length_nil]; omega)) rfl rfl rfl fun A2 cap1 a w S => ?_)
           rw [rw_e] at S
           refine run S (.as rfl <| .z) fun a w S => ?_
           rw [rw_e] at S
           refine Zb ?_
           rw [rw_e] at S
           refine Zm (Za (hK2 _ _ ?_))
           rw [rw_e] at S
           refine wp_region_lit ?_
           rw [rw_e] at S
           refine run S (.ad (by unfold I64; omega) rfl <| .z) fun a w S => ?_
           rw [rw_e] at S
           refine run S (.mv rfl <| .z) fun a w S => ?_
           rw [rw_e] at S
           refine Zb ?_
           rw [rw_e] at S
           refine Za ?_
           rw [rw_e] at S
           exact ⟨(i + 1, A2, cap1), by dsimp only; omega, by dsimp only; omega, by dsimp only; rw [hst]; exact S.pk⟩
         | false =>
           have rw_f := hfg
           have ht : toldB pr x y = false := by unfold toldB; rw [rw_k, rw_y, hcv, hfg]; rfl
           rw [ht, if_neg (by decide), List.append_nil] at hst
           refine sg S (.lt (by omega) rfl rfl <| .z) fun a w S => wp_seq_k fun _ hK2 => Zg S (.t rfl) (wp_skip (Za (hK2 _ _ (wp_seq_k fun _ hK2 => wp_block (wp_seq_k fun _ hK3 => wp_region_lit (run S (.ix underlying84 sizeOf96 (by omega) rfl rfl <| .yy (Zu ⟨isAgg96, sizeOf96⟩ (.t rfl) (vs := [_, _, _, _, _, _, _, _, _, _, _, _, _, _, _, _, _, _, _, _, _, _]) rfl (fun _ => hc)) rfl <| .z) fun a w S => Zi (Zk S zeroValue96 (cs := _) rfl rfl fun g2 a w S => Zi (Zp S sizeOf96 (.t rfl) (.t rfl) (k := 0) rfl rfl rfl (by simp [Value.oneCell']) fun a w S => Zb (Za (hK3 _ _ (wp_seq_k fun _ hK3 => wp_region_lit (run S (.fa underlying96 sizeOf3 0 rfl rfl rfl <| .ld gt3 0 rfl rfl rfl <| .yy (Yu (by omega) (Yj (.t rfl) Ev.c)) rfl <| .mv rfl <| .gy rfl rfl (Zc (FieldT.mk underlying96 rfl sizeOf77 rfl) (.t rfl) (i' := 3) rfl) <| .gy rfl rfl (Zc (FieldT.mk underlying77 rfl sizeOf9 rfl) (.t rfl) (i' := 3) rfl) <| .gy rfl rfl (Zt ⟨isAgg9, sizeOf9⟩ (.t rfl) (k := 0) rfl rfl) <| .gy rfl rfl (Zc (FieldT.mk underlying96 rfl sizeOf9 rfl) (.t rfl) (i' := 15) rfl) <| .gy rfl rfl (Zt ⟨isAgg9, sizeOf9⟩ (.t rfl) (k := 3) rfl rfl) <| .gy rfl rfl (Wa (.t rfl) (.t rfl)) <| .z) fun a w S => ?_))))))))))))
           rw [rw_y] at S
           refine run S (.yy (Zz (.t rfl) (.t rfl)) rfl <| .mv rfl <| .gy rfl rfl (Zc (FieldT.mk underlying96 rfl sizeOf37 rfl) (.t rfl) (i' := 19) rfl) <| .gy rfl rfl (Zc (FieldT.mk underlying37 rfl sizeOf35 rfl) (.t rfl) (i' := 20) rfl) <| .gy rfl rfl (Yc ⟨isAgg35, sizeOf35⟩ (.t rfl) (k := 3) rfl rfl) <| .gy rfl rfl (Zc (FieldT.mk underlying96 rfl sizeOf77 rfl) (.t rfl) (i' := 3) rfl) <| .gy rfl rfl (Zc (FieldT.mk underlying77 rfl sizeOf74 rfl) (.t rfl) (i' := 4) rfl) <| .gy rfl rfl (Yc ⟨isAgg74, sizeOf74⟩ (.t rfl) (k := 0) rfl rfl) <| .gx rfl rfl (Zf call109 (.cons (.t rfl) (.cons (.t rfl) .nil)) (fun hp w W => c109 _ _ _ _ _ _ _ (by exact .old W (by assumption)))) <| .z) fun a w S => ?_
           rw [rw_c] at S
           refine run S (.gy rfl rfl (Zj (.t rfl)) <| .gy rfl rfl (Zj (.t rfl)) <| .gy rfl rfl (Zc (FieldT.mk underlying96 rfl sizeOf77 rfl) (.t rfl) (i' := 3) rfl) <| .gy rfl rfl (Zc (FieldT.mk underlying77 rfl sizeOf74 rfl) (.t rfl) (i' := 4) rfl) <| .gy rfl rfl (Yc ⟨isAgg74, sizeOf74⟩ (.t rfl) (k := 0) rfl rfl) <| .gx rfl rfl (Zf call118 (.cons (.t rfl) (.cons (.t rfl) .nil)) (fun hp w W => c118 _ _ _ _ _ _ (by exact Sl.of_own W (k := 2) rfl (fun _ => rfl)) (by exact .old W (by assumption)))) <| .z) fun a w S => ?_
           rw [rw_f] at S
           refine run S (.gy rfl rfl (Zv (.t rfl) (.t rfl)) <| .yy (Zz (.t rfl) (.t rfl)) rfl <| .z) fun a w S => Zb (Za (hK3 _ _ (Ze S (.t rfl) (wp_skip (Zm (Za (hK2 _ _ (wp_region_lit (run S (.ad (by unfold I64; omega) rfl <| .mv rfl <| .z) fun a w S => Zb (Za ?_))))))))))
           exact ⟨(i + 1, B, cB), by dsimp only; omega, by dsimp only; omega, by dsimp only; rw [hst]; exact S.pk⟩
     · have rw_y := decide_eq_false hky
       have ht : toldB pr x y = false := by unfold toldB; rw [rw_k, rw_y]; rfl
       rw [ht, if_neg (by decide), List.append_nil] at hst
       refine sg S (.lt (by omega) rfl rfl <| .z) fun a w S => wp_seq_k fun _ hK2 => Zg S (.t rfl) (wp_skip (Za (hK2 _ _ (wp_seq_k fun _ hK2 => wp_block (wp_seq_k fun _ hK3 => wp_region_lit (run S (.ix underlying84 sizeOf96 (by omega) rfl rfl <| .yy (Zu ⟨isAgg96, sizeOf96⟩ (.t rfl) (vs := [_, _, _, _, _, _, _, _, _, _, _, _, _, _, _, _, _, _, _, _, _, _]) rfl (fun _ => hc)) rfl <| .z) fun a w S => Zi (Zk S zeroValue96 (cs := _) rfl rfl fun g2 a w S => Zi (Zp S sizeOf96 (.t rfl) (.t rfl) (k := 0) rfl rfl rfl (by simp [Value.oneCell']) fun a w S => Zb (Za (hK3 _ _ (wp_seq_k fun _ hK3 => wp_region_lit (run S (.fa underlying96 sizeOf3 0 rfl rfl rfl <| .ld gt3 0 rfl rfl rfl <| .yy (Yu (by omega) (Yj (.t rfl) Ev.c)) rfl <| .mv rfl <| .gy rfl rfl (Zc (FieldT.mk underlying96 rfl sizeOf77 rfl) (.t rfl) (i' := 3) rfl) <| .gy rfl rfl (Zc (FieldT.mk underlying77 rfl sizeOf9 rfl) (.t rfl) (i' := 3) rfl) <| .gy rfl rfl (Zt ⟨isAgg9, sizeOf9⟩ (.t rfl) (k := 0) rfl rfl) <| .gy rfl rfl (Zc (FieldT.mk underlying96 rfl sizeOf9 rfl) (.t rfl) (i' := 15) rfl) <| .gy rfl rfl (Zt ⟨isAgg9, sizeOf9⟩ (.t rfl) (k := 3) rfl rfl) <| .gy rfl rfl (Wa (.t rfl) (.t rfl)) <| .z) fun a w S => ?_))))))))))))
       rw [rw_y] at S
       refine run S (.yy (Zz (.t rfl) (.t rfl)) rfl <| .mv rfl <| .sk rfl rfl rfl <| .sk rfl rfl rfl <| .sk rfl rfl rfl <| .sk rfl rfl rfl <| .sk rfl rfl rfl <| .sk rfl rfl rfl <| .sk rfl rfl rfl <| .sk rfl rfl rfl <| .s0 rfl rfl <| .s0 rfl rfl <| .s0 rfl rfl <| .s0 rfl rfl <| .s0 rfl rfl <| .sk rfl rfl rfl <| .yy (Zv (.t rfl) Ev.c) rfl <| .z) fun a w S => Zb (Za (hK3 _ _ (Ze S (.t rfl) (wp_skip (Zm (Za (hK2 _ _ (wp_region_lit (run S (.ad (by unfold I64; omega) rfl <| .mv rfl <| .z) fun a w S => Zb (Za ?_))))))))))
       exact ⟨(i + 1, B, cB), by dsimp only; omega, by dsimp only; omega, by dsimp only; rw [hst]; exact S.pk⟩
   · have rw_k := decide_eq_false hk
     have ht : toldB pr x y = false := by unfold toldB; rw [rw_k]; rfl
     rw [ht, if_neg (by decide), List.append_nil] at hst
     refine sg S (.lt (by omega) rfl rfl <| .z) fun a w S => wp_seq_k fun _ hK2 => Zg S (.t rfl) (wp_skip (Za (hK2 _ _ (wp_seq_k fun _ hK2 => wp_block (wp_seq_k fun _ hK3 => wp_region_lit (run S (.ix underlying84 sizeOf96 (by omega) rfl rfl <| .yy (Zu ⟨isAgg96, sizeOf96⟩ (.t rfl) (vs := [_, _, _, _, _, _, _, _, _, _, _, _, _, _, _, _, _, _, _, _, _, _]) rfl (fun _ => hc)) rfl <| .z) fun a w S => Zi (Zk S zeroValue96 (cs := _) rfl rfl fun g2 a w S => Zi (Zp S sizeOf96 (.t rfl) (.t rfl) (k := 0) rfl rfl rfl (by simp [Value.oneCell']) fun a w S => Zb (Za (hK3 _ _ (sg S (.fa underlying96 sizeOf3 0 rfl rfl rfl <| .ld gt3 0 rfl rfl rfl <| .yy (Yp (by omega) (Yj (.t rfl) Ev.c)) rfl <| .mv rfl <| .sk rfl rfl rfl <| .sk rfl rfl rfl <| .sk rfl rfl rfl <| .sk rfl rfl rfl <| .sk rfl rfl rfl <| .sk rfl rfl rfl <| .yy (Zv (.t rfl) Ev.c) rfl <| .mv rfl <| .sk rfl rfl rfl <| .sk rfl rfl rfl <| .sk rfl rfl rfl <| .sk rfl rfl rfl <| .sk rfl rfl rfl <| .sk rfl rfl rfl <| .sk rfl rfl rfl <| .sk rfl rfl rfl <| .s0 rfl rfl <| .s0 rfl rfl <| .s0 rfl rfl <| .s0 rfl rfl <| .s0 rfl rfl <| .sk rfl rfl rfl <| .yy (Zv (.t rfl) Ev.c) rfl <| .z) fun a w S => Ze S (.t rfl) (wp_skip (Zm (Za (hK2 _ _ (wp_region_lit ?_))))))))))))))))
     refine run S (.ad (by unfold I64; omega) rfl <| .mv rfl <| .z) fun a w S => Zb (Za ?_)
     exact ⟨(i + 1, B, cB), by dsimp only; omega, by dsimp only; omega, by dsimp only; rw [hst]; exact S.pk⟩
 obtain rfl : i = l.length := by omega
 rw [List.take_length] at S
 have htl := told_len (goneK l x.key) l x
 have hur : ∀ u ∈ toldU (goneK l x.key) x l, CartRd w0 u.1.seen u.2 := fun u hu => by
   obtain ⟨y, hy9, rfl⟩ := List.mem_map.1 hu
   exact (hl y (List.mem_filter.1 hy9).1).u
 have hR : rightK l x = (decide ((meantK ((toldU (goneK l x.key) x l).map (·.1))).2 = 0) && (decide ((goneK l x.key).foldl cutC (meantK ((toldU (goneK l x.key) x l).map (·.1))).1 = x.c.1) && leqL ((goneK l x.key).foldl keepC x.s.1.ctx) x.c.1.ctx)) := rfl
 generalize toldU (goneK l x.key) x l = V at *
 generalize goneK l x.key = pr at *
 by_cases hm0 : (meantK (V.map (·.1))).2 = 0
 rotate_left
 · have rw_m : decide ((meantK (V.map (·.1))).2 ≠ 0) = true := decide_eq_true hm0
   refine sg S (.ge (by omega) rfl rfl <| .z) fun a w S => wp_seq_k fun _ hK2 => Ze S (.t rfl) (wp_exit (Zh (Zh (Ya (Za (hK1 _ _ (wp_seq_k fun _ hK1 => wp_region_lit (run S (.mv rfl <| .z) fun a w S => ?_))))))))
   (refine Zi (Zr S call39 (.cons (.t rfl) .nil) (c39 _ _ _ (by exact Sl.of_own S.wd (k := 0) rfl (fun _ => rfl)) (by exact .old S.wd (by assumption)) (by omega) (by assumption)) rfl ?_); clear S a w; rintro _ _ ⟨A11, r11, A21, r21, A31, r31, rfl, rfl⟩ a w S)
   simp only [List.nil_append] at S
   refine run S (.mv rfl <| .ex rfl rfl <| .ex rfl rfl <| .z) fun a w S => Zi (Zk S zeroValue37 (cs := _) rfl rfl fun g2 a w S => Zi (Zp S sizeOf37 (.t rfl) (.t rfl) (k := 0) rfl rfl rfl (by simp [Value.oneCell']) fun a w S => run S (.as rfl <| .z) fun a w S => Zb (Za (hK1 _ _ (wp_seq_k fun _ hK1 => sg S (.mv rfl <| .yy (Yu (by omega) (Yg (.t rfl) Ev.c)) rfl <| .z) fun a w S => Zg S (.t rfl) (sg S (.ac rfl <| .z) fun a w S => wp_ret (Zd (Zn S (results1 S results125 (Rv.tmp rfl)) ?_))))))))
   exact ⟨by rw [hR, decide_eq_false hm0]; rfl, S.wd.below⟩
 have rw_m := hm0
 obtain ⟨M, rw_M⟩ : ∃ M, (meantK (V.map (·.1))).1 = M := ⟨_, rfl⟩
 have hMl := cart_lens (by rw [← rw_M]; exact meant_cart hm0 : CartOk M)
 refine sg S (.ge (by omega) rfl rfl <| .z) fun a w S => wp_seq_k fun _ hK2 => Ze S (.t rfl) (wp_exit (Zh (Zh (Ya (Za (hK1 _ _ (wp_seq_k fun _ hK1 => wp_region_lit (run S (.mv rfl <| .z) fun a w S => ?_))))))))
 (refine Zi (Zr S call39 (.cons (.t rfl) .nil) (c39 _ _ _ (by exact Sl.of_own S.wd (k := 0) rfl (fun _ => rfl)) (by exact .old S.wd (by assumption)) (by omega) (by assumption)) rfl ?_); clear S a w; rintro _ _ ⟨A11, r11, A21, r21, A31, r31, rfl, rfl⟩ a w S)
 simp only [List.nil_append] at S
 rw [rw_m] at S
 rw [rw_M] at S
 refine run S (.mv rfl <| .ex rfl rfl <| .ex rfl rfl <| .z) fun a w S => Zi (Zk S zeroValue37 (cs := _) rfl rfl fun g2 a w S => Zi (Zp S sizeOf37 (.t rfl) (.t rfl) (k := 0) rfl rfl rfl (by simp [Value.oneCell']) fun a w S => run S (.as rfl <| .z) fun a w S => Zb (Za (hK1 _ _ (wp_seq_k fun _ hK1 => sg S (.mv rfl <| .yy (Yp (by omega) (Yg (.t rfl) Ev.c)) rfl <| .z) fun a w S => Ze S (.t rfl) (wp_skip (Za (hK1 _ _ (wp_seq_k fun _ hK1 => wp_region_lit (run S (.fa underlying96 sizeOf37 16 rfl rfl rfl <| .fa underlying37 sizeOf35 17 rfl rfl rfl <| .la gt35 6 rfl rfl rfl <| .z) fun a w S => Zi (Zk S zeroValue35 (cs := _) rfl rfl fun g3 a w S => Zi (Zp S sizeOf35 (.t rfl) (.t rfl) (k := 0) rfl rfl rfl (by simp [Value.oneCell']) fun a w S => Zb (Za (hK1 _ _ (wp_seq_k fun _ hK1 => sg S (.mv rfl <| .ln underlying84 rfl <| .mc rfl <| .z) fun a w S => wp_block ?_)))))))))))))))
 refine Xn S [69] (X := Nat × ((Option Addr × Nat) × (Option Addr × Nat) × (Option Addr × Nat)) × Cart × Option ((Option Addr × Nat) × (Option Addr × Nat)) × Ctx) (fun p => [(69, true, .int .i64 (p.1 : Int))])
   (fun p => match p.2.2.2.1 with
     | none => [rowOf 100 6 Ent.enc p.2.1.1.1 p.2.1.1.2 p.2.2.1.ents, rowOf 30 3 Dot.enc p.2.1.2.1.1 p.2.1.2.1.2 p.2.2.1.ctx.marks, rowOf 74 3 Dot.enc p.2.1.2.2.1 p.2.1.2.2.2 p.2.2.1.ctx.cloud, .blk g2 (.cells #[.slice p.2.1.1.1 p.2.2.1.ents.length p.2.1.1.2, .slice p.2.1.2.1.1 p.2.2.1.ctx.marks.length p.2.1.2.1.2, .slice p.2.1.2.2.1 p.2.2.1.ctx.cloud.length p.2.1.2.2.2] 37), .blk g3 (.cells #[.slice x.s.2.a2 x.s.2.n2 x.s.2.c2, .slice x.s.2.a3 x.s.2.n3 x.s.2.c3] 35), rowOf 77 10 SUpd.enc B cB V, rowOf 96 22 SLog.enc A1 r1 pr, .blk g1 (.cells (SLog.enc x).toArray 96)]
     | some o => [rowOf 100 6 Ent.enc p.2.1.1.1 p.2.1.1.2 p.2.2.1.ents, rowOf 30 3 Dot.enc p.2.1.2.1.1 p.2.1.2.1.2 p.2.2.1.ctx.marks, rowOf 74 3 Dot.enc p.2.1.2.2.1 p.2.1.2.2.2 p.2.2.1.ctx.cloud, .blk g2 (.cells #[.slice p.2.1.1.1 p.2.2.1.ents.length p.2.1.1.2, .slice p.2.1.2.1.1 p.2.2.1.ctx.marks.length p.2.1.2.1.2, .slice p.2.1.2.2.1 p.2.2.1.ctx.cloud.length p.2.1.2.2.2] 37), .blk g3 (.cells #[.slice o.1.1 p.2.2.2.2.marks.length o.1.2, .slice o.2.1 p.2.2.2.2.cloud.length o.2.2] 35), rowOf 30 3 Dot.enc o.1.1 o.1.2 p.2.2.2.2.marks, rowOf 74 3 Dot.enc o.2.1 o.2.2 p.2.2.2.2.cloud, rowOf 77 10 SUpd.enc B cB V, rowOf 96 22 SLog.enc A1 r1 pr, .blk g1 (.cells (SLog.enc x).toArray 96)])
   (fun p => p.1 ≤ pr.length ∧ p.2.2.1 = (pr.take p.1).foldl cutC M ∧ p.2.2.2.2 = (pr.take p.1).foldl keepC x.s.1.ctx ∧ (p.2.2.2.1 = none → p.2.2.2.2 = x.s.1.ctx) ∧ CutOk p.2.2.1 p.2.2.2.2) (fun p => pr.length - p.1)
   (0, ((A11, r11), (A21, r21), (A31, r31)), M, none, x.s.1.ctx) ⟨Nat.zero_le _, rfl, rfl, fun _ => rfl, ⟨by dsimp only; omega, by dsimp only; omega, by dsimp only; omega, hs1, hs2, hm1⟩⟩ ?_
 clear S
 rintro ⟨i, ⟨⟨E1, e1⟩, ⟨E2, e2⟩, ⟨E3, e3⟩⟩, c, o, T⟩ a w ⟨hi, hcI, hTI, hoI, hok⟩ S
 dsimp only at hi hcI hTI hoI hok S
 by_cases hlt : i < pr.length
 · obtain ⟨gP, rfl⟩ : ∃ gP, A1 = some ⟨gP, 0, none⟩ := by
     cases o with
     | none => exact S.wd.row_at (k := 6) rfl (by have := (S.wd.room (k := 6) rfl).1; omega)
     | some o => exact S.wd.row_at (k := 8) rfl (by have := (S.wd.room (k := 8) rfl).1; omega)
   obtain ⟨y, hy9⟩ : ∃ y, pr[i]? = some y := ⟨_, List.getElem?_eq_getElem hlt⟩
   have hc2 : (pr.take (i + 1)).foldl cutC M = cutC c y := by rw [List.take_add_one, hy9, Option.toList_some, List.foldl_append, ← hcI]; rfl
   have hT2 : (pr.take (i + 1)).foldl keepC x.s.1.ctx = keepC T y := by rw [List.take_add_one, hy9, Option.toList_some, List.foldl_append, ← hTI]; rfl
   obtain ⟨k1, k2, k3, k4, k5, k6⟩ := id hok
   cases o with
   | none =>
     obtain rfl := hoI rfl
     have halt_d := trivial
     refine sg S (.lt (by omega) rfl rfl <| .z) fun a w S => wp_seq_k fun _ hK3 => Zg S (.t rfl) (wp_skip (Za (hK3 _ _ (wp_seq_k fun _ hK3 => wp_block (wp_seq_k fun _ hK4 => wp_region_lit (run S (.ix underlying84 sizeOf96 (by omega) rfl rfl <| .yy (Xw ⟨isAgg96, sizeOf96⟩ (.t rfl) (k := 6) rfl hy9 (fun _ => rfl)) rfl <| .z) fun a w S => Zi (Zk S zeroValue96 (cs := _) rfl rfl fun g4 a w S => Zi (Zp S sizeOf96 (.t rfl) (.t rfl) (k := 0) rfl rfl rfl (by simp [Value.oneCell']) fun a w S => Zb (Za (hK4 _ _ ?_))))))))))
     clear halt_d
     refine Vz S (by kernel_rfl) [.blk g4 (.cells (SLog.enc y).toArray 96), rowOf 100 6 Ent.enc E1 e1 c.ents, rowOf 30 3 Dot.enc E2 e2 c.ctx.marks, rowOf 74 3 Dot.enc E3 e3 c.ctx.cloud, rowOf 77 10 SUpd.enc B cB V, rowOf 96 22 SLog.enc (some ⟨gP, 0, none⟩) r1 pr, .blk g1 (.cells (SLog.enc x).toArray 96)] ?_
     clear S
     intro a w S
     have hold_r := trivial
     refine hy 1 S rfl (Zc (FieldT.mk underlying96 rfl sizeOf66 rfl) (.t rfl) (i' := 13) rfl) rfl fun a w S => hy 2 S rfl (Yc ⟨isAgg66, sizeOf66⟩ (.t rfl) (k := 0) rfl rfl) rfl fun a w S => hy 5 S rfl (Zc (FieldT.mk underlying96 rfl sizeOf66 rfl) (.t rfl) (i' := 13) rfl) rfl fun a w S => hy 6 S rfl (Yc ⟨isAgg66, sizeOf66⟩ (.t rfl) (k := 0) rfl rfl) rfl fun a w S => ?_
     refine Xd (i := 0) (j := 4) (by kernel_rfl) rfl rfl ?_ ?_
     (refine Vn S (Yr.ys (Yc ⟨isAgg37, sizeOf37⟩ (.t rfl) (k := 4) rfl rfl)) rfl ?_; clear S a w; intro a w S; refine Zw S ?_)
     refine Xd (i := 3) (j := 4) (by kernel_rfl) rfl rfl ?_ ?_
     (refine Zr S call68 (.cons (.t rfl) (.cons (.t rfl) .nil)) (c68 _ _ _ _ _ _ _ (by exact Sl.of_own S.wd (k := 1) rfl (fun _ => rfl)) (by exact ⟨(by exact Sl.of_own S.wd (k := 2) rfl (fun _ => rfl)), (by exact Sl.of_own S.wd (k := 3) rfl (fun _ => rfl))⟩) (by assumption) (by assumption) (by assumption)) rfl ?_; clear S a w; rintro _ _ ⟨A12, r12, A22, r22, A32, r32, rfl, rfl⟩ a w S; refine Zw S ?_)
     simp only [List.nil_append] at S
     refine h_q (i := 4) S (by repeat (first | exact List.Sublist.refl _ | exact List.nil_sublist _ | refine .cons_cons _ ?_ | refine .cons _ ?_)) rfl (by kernel_rfl) (Yr.ys (Yc ⟨isAgg35, sizeOf35⟩ (.t rfl) (k := 8) rfl rfl)) rfl fun a w S => ?_
     (refine h_m (i := 7) rfl (by kernel_rfl) (Zr S call142 (.cons (.t rfl) (.cons (.t rfl) .nil)) (c142 _ _ _ _ _ _ (by exact .old S.wd (by assumption)) (by assumption) (by assumption)) rfl ?_); clear S a w; rintro _ _ ⟨A13, r13, A23, r23, rfl, rfl⟩ a w S; refine Zw S ?_)
     (refine Xe (i := 8) rfl (by kernel_rfl) (Zp S sizeOf37 (.t rfl) (.t rfl) (k := 9) rfl rfl rfl (by simp [Value.oneCell']) ?_); clear S a w; intro a w S; refine Zw S ?_)
     (refine Xe (i := 9) rfl (by kernel_rfl) (Zp S sizeOf35 (.t rfl) (.t rfl) (k := 10) rfl rfl rfl (by simp [Value.oneCell']) ?_); clear S a w; intro a w S; refine Zw S ?_)
     refine Yq (by kernel_rfl) (Zm (Za (hK3 _ _ (wp_region_lit (run S (.ad (by unfold I64; omega) rfl <| .mv rfl <| .z) fun a w S => Zb (Za ?_))))))
     rotate_left
     (refine Vn S (Yr.ys (Yc ⟨isAgg35, sizeOf35⟩ (.t rfl) (k := 5) rfl rfl)) rfl ?_; clear S a w; intro a w S; refine Zw S ?_)
     (refine h_m (i := 3) rfl (by kernel_rfl) (Zr S call68 (.cons (.t rfl) (.cons (.t rfl) .nil)) (c68 _ _ _ _ _ _ _ (by exact Sl.of_own S.wd (k := 1) rfl (fun _ => rfl)) (by exact ⟨(by exact Sl.of_own S.wd (k := 2) rfl (fun _ => rfl)), (by exact Sl.of_own S.wd (k := 3) rfl (fun _ => rfl))⟩) (by assumption) (by assumption) (by assumption)) rfl ?_); clear S a w; rintro _ _ ⟨A12, r12, A22, r22, A32, r32, rfl, rfl⟩ a w S; refine Zw S ?_)
     simp only [List.nil_append] at S
     (refine h_m (i := 7) rfl (by kernel_rfl) (Zr S call142 (.cons (.t rfl) (.cons (.t rfl) .nil)) (c142 _ _ _ _ _ _ (by exact .old S.wd (by assumption)) (by assumption) (by assumption)) rfl ?_); clear S a w; rintro _ _ ⟨A13, r13, A23, r23, rfl, rfl⟩ a w S; refine Zw S ?_)
     (refine Xe (i := 8) rfl (by kernel_rfl) (Zp S sizeOf37 (.t rfl) (.t rfl) (k := 9) rfl rfl rfl (by simp [Value.oneCell']) ?_); clear S a w; intro a w S; refine Zw S ?_)
     (refine Xe (i := 9) rfl (by kernel_rfl) (Zp S sizeOf35 (.t rfl) (.t rfl) (k := 10) rfl rfl rfl (by simp [Value.oneCell']) ?_); clear S a w; intro a w S; refine Zw S ?_)
     refine Yq (by kernel_rfl) (Zm (Za (hK3 _ _ (wp_region_lit (run S (.ad (by unfold I64; omega) rfl <| .mv rfl <| .z) fun a w S => Zb (Za ?_))))))
     rotate_left
     (refine Vn S (Yr.ys (Yc ⟨isAgg35, sizeOf35⟩ (.t rfl) (k := 5) rfl rfl)) rfl ?_; clear S a w; intro a w S; refine Zw S ?_)
     refine h_q (i := 0) S (by repeat (first | exact List.Sublist.refl _ | exact List.nil_sublist _ | refine .cons_cons _ ?_ | refine .cons _ ?_)) rfl (by kernel_rfl) (Yr.ys (Yc ⟨isAgg37, sizeOf37⟩ (.t rfl) (k := 4) rfl rfl)) rfl fun a w S => ?_
     (refine h_m (i := 3) rfl (by kernel_rfl) (Zr S call68 (.cons (.t rfl) (.cons (.t rfl) .nil)) (c68 _ _ _ _ _ _ _ (by exact Sl.of_own S.wd (k := 1) rfl (fun _ => rfl)) (by exact ⟨(by exact Sl.of_own S.wd (k := 2) rfl (fun _ => rfl)), (by exact Sl.of_own S.wd (k := 3) rfl (fun _ => rfl))⟩) (by assumption) (by assumption) (by assumption)) rfl ?_); clear S a w; rintro _ _ ⟨A12, r12, A22, r22, A32, r32, rfl, rfl⟩ a w S; refine Zw S ?_)
     simp only [List.nil_append] at S
     (refine h_m (i := 7) rfl (by kernel_rfl) (Zr S call142 (.cons (.t rfl) (.cons (.t rfl) .nil)) (c142 _ _ _ _ _ _ (by exact .old S.wd (by assumption)) (by assumption) (by assumption)) rfl ?_); clear S a w; rintro _ _ ⟨A13, r13, A23, r23, rfl, rfl⟩ a w S; refine Zw S ?_)
     (refine Xe (i := 8) rfl (by kernel_rfl) (Zp S sizeOf37 (.t rfl) (.t rfl) (k := 9) rfl rfl rfl (by simp [Value.oneCell']) ?_); clear S a w; intro a w S; refine Zw S ?_)
     (refine Xe (i := 9) rfl (by kernel_rfl) (Zp S sizeOf35 (.t rfl) (.t rfl) (k := 10) rfl rfl rfl (by simp [Value.oneCell']) ?_); clear S a w; intro a w S; refine Zw S ?_)
     refine Yq (by kernel_rfl) (Zm (Za (hK3 _ _ (wp_region_lit (run S (.ad (by unfold I64; omega) rfl <| .mv rfl <| .z) fun a w S => Zb (Za ?_))))))
     rotate_left
     all_goals exact ⟨(i + 1, ((A12, r12), (A22, r22), (A32, r32)), cutC c y, some ((A13, r13), (A23, r23)), keepC x.s.1.ctx y), ⟨by dsimp only; omega, hc2.symm, hT2.symm, fun h => (by cases h), hok.cut y⟩, by dsimp only; omega, S.pk⟩
   | some o =>
     obtain ⟨⟨P1, p1⟩, ⟨P2, p2⟩⟩ := o
     dsimp only at S
     have halt_d := trivial
     refine sg S (.lt (by omega) rfl rfl <| .z) fun a w S => wp_seq_k fun _ hK3 => Zg S (.t rfl) (wp_skip (Za (hK3 _ _ (wp_seq_k fun _ hK3 => wp_block (wp_seq_k fun _ hK4 => wp_region_lit (run S (.ix underlying84 sizeOf96 (by omega) rfl rfl <| .yy (Xw ⟨isAgg96, sizeOf96⟩ (.t rfl) (k := 8) rfl hy9 (fun _ => rfl)) rfl <| .z) fun a w S => Zi (Zk S zeroValue96 (cs := _) rfl rfl fun g4 a w S => Zi (Zp S sizeOf96 (.t rfl) (.t rfl) (k := 0) rfl rfl rfl (by simp [Value.oneCell']) fun a w S => Zb (Za (hK4 _ _ ?_))))))))))
     clear halt_d
     refine Vz S (by kernel_rfl) [.blk g4 (.cells (SLog.enc y).toArray 96), rowOf 100 6 Ent.enc E1 e1 c.ents, rowOf 30 3 Dot.enc E2 e2 c.ctx.marks, rowOf 74 3 Dot.enc E3 e3 c.ctx.cloud, rowOf 30 3 Dot.enc P1 p1 T.marks, rowOf 74 3 Dot.enc P2 p2 T.cloud, rowOf 77 10 SUpd.enc B cB V, rowOf 96 22 SLog.enc (some ⟨gP, 0, none⟩) r1 pr, .blk g1 (.cells (SLog.enc x).toArray 96)] ?_
     clear S
     intro a w S
     have hold_r := trivial
     refine hy 1 S rfl (Zc (FieldT.mk underlying96 rfl sizeOf66 rfl) (.t rfl) (i' := 13) rfl) rfl fun a w S => hy 2 S rfl (Yc ⟨isAgg66, sizeOf66⟩ (.t rfl) (k := 0) rfl rfl) rfl fun a w S => hy 5 S rfl (Zc (FieldT.mk underlying96 rfl sizeOf66 rfl) (.t rfl) (i' := 13) rfl) rfl fun a w S => hy 6 S rfl (Yc ⟨isAgg66, sizeOf66⟩ (.t rfl) (k := 0) rfl rfl) rfl fun a w S => ?_
     refine Xd (i := 0) (j := 4) (by kernel_rfl) rfl rfl ?_ ?_
     (refine Vn S (Yr.ys (Yc ⟨isAgg37, sizeOf37⟩ (.t rfl) (k := 4) rfl rfl)) rfl ?_; clear S a w; intro a w S; refine Zw S ?_)
     refine Xd (i := 3) (j := 4) (by kernel_rfl) rfl rfl ?_ ?_
     (refine Zr S call68 (.cons (.t rfl) (.cons (.t rfl) .nil)) (c68 _ _ _ _ _ _ _ (by exact Sl.of_own S.wd (k := 1) rfl (fun _ => rfl)) (by exact ⟨(by exact Sl.of_own S.wd (k := 2) rfl (fun _ => rfl)), (by exact Sl.of_own S.wd (k := 3) rfl (fun _ => rfl))⟩) (by assumption) (by assumption) (by assumption)) rfl ?_; clear S a w; rintro _ _ ⟨A12, r12, A22, r22, A32, r32, rfl, rfl⟩ a w S; refine Zw S ?_)
     refine h_q (i := 4) S (by repeat (first | exact List.Sublist.refl _ | exact List.nil_sublist _ | refine .cons_cons _ ?_ | refine .cons _ ?_)) rfl (by kernel_rfl) (Yr.ys (Yc ⟨isAgg35, sizeOf35⟩ (.t rfl) (k := 8) rfl rfl)) rfl fun a w S => ?_
     (refine h_m (i := 7) rfl (by kernel_rfl) (Zr S call142 (.cons (.t rfl) (.cons (.t rfl) .nil)) (c142 _ _ _ _ _ _ (by exact ⟨(by exact Sl.of_own S.wd (k := 9) rfl (fun _ => rfl)), (by exact Sl.of_own S.wd (k := 10) rfl (fun _ => rfl))⟩) (by assumption) (by assumption)) rfl ?_); clear S a w; rintro _ _ ⟨A13, r13, A23, r23, rfl, rfl⟩ a w S; refine Zw S ?_)
     (refine Xe (i := 8) rfl (by kernel_rfl) (Zp S sizeOf37 (.t rfl) (.t rfl) (k := 9) rfl rfl rfl (by simp [Value.oneCell']) ?_); clear S a w; intro a w S; refine Zw S ?_)
     (refine Xe (i := 9) rfl (by kernel_rfl) (Zp S sizeOf35 (.t rfl) (.t rfl) (k := 10) rfl rfl rfl (by simp [Value.oneCell']) ?_); clear S a w; intro a w S; refine Zw S ?_)
     refine Yq (by kernel_rfl) (Zm (Za (hK3 _ _ (wp_region_lit (run S (.ad (by unfold I64; omega) rfl <| .mv rfl <| .z) fun a w S => Zb (Za ?_))))))
     rotate_left
     (refine Vn S (Yr.ys (Yc ⟨isAgg35, sizeOf35⟩ (.t rfl) (k := 5) rfl rfl)) rfl ?_; clear S a w; intro a w S; refine Zw S ?_)
     (refine h_m (i := 3) rfl (by kernel_rfl) (Zr S call68 (.cons (.t rfl) (.cons (.t rfl) .nil)) (c68 _ _ _ _ _ _ _ (by exact Sl.of_own S.wd (k := 1) rfl (fun _ => rfl)) (by exact ⟨(by exact Sl.of_own S.wd (k := 2) rfl (fun _ => rfl)), (by exact Sl.of_own S.wd (k := 3) rfl (fun _ => rfl))⟩) (by assumption) (by assumption) (by assumption)) rfl ?_); clear S a w; rintro _ _ ⟨A12, r12, A22, r22, A32, r32, rfl, rfl⟩ a w S; refine Zw S ?_)
     (refine h_m (i := 7) rfl (by kernel_rfl) (Zr S call142 (.cons (.t rfl) (.cons (.t rfl) .nil)) (c142 _ _ _ _ _ _ (by exact ⟨(by exact Sl.of_own S.wd (k := 9) rfl (fun _ => rfl)), (by exact Sl.of_own S.wd (k := 10) rfl (fun _ => rfl))⟩) (by assumption) (by assumption)) rfl ?_); clear S a w; rintro _ _ ⟨A13, r13, A23, r23, rfl, rfl⟩ a w S; refine Zw S ?_)
     (refine Xe (i := 8) rfl (by kernel_rfl) (Zp S sizeOf37 (.t rfl) (.t rfl) (k := 9) rfl rfl rfl (by simp [Value.oneCell']) ?_); clear S a w; intro a w S; refine Zw S ?_)
     (refine Xe (i := 9) rfl (by kernel_rfl) (Zp S sizeOf35 (.t rfl) (.t rfl) (k := 10) rfl rfl rfl (by simp [Value.oneCell']) ?_); clear S a w; intro a w S; refine Zw S ?_)
     refine Yq (by kernel_rfl) (Zm (Za (hK3 _ _ (wp_region_lit (run S (.ad (by unfold I64; omega) rfl <| .mv rfl <| .z) fun a w S => Zb (Za ?_))))))
     rotate_left
     (refine Vn S (Yr.ys (Yc ⟨isAgg35, sizeOf35⟩ (.t rfl) (k := 5) rfl rfl)) rfl ?_; clear S a w; intro a w S; refine Zw S ?_)
     refine h_q (i := 0) S (by repeat (first | exact List.Sublist.refl _ | exact List.nil_sublist _ | refine .cons_cons _ ?_ | refine .cons _ ?_)) rfl (by kernel_rfl) (Yr.ys (Yc ⟨isAgg37, sizeOf37⟩ (.t rfl) (k := 4) rfl rfl)) rfl fun a w S => ?_
     (refine h_m (i := 3) rfl (by kernel_rfl) (Zr S call68 (.cons (.t rfl) (.cons (.t rfl) .nil)) (c68 _ _ _ _ _ _ _ (by exact Sl.of_own S.wd (k := 1) rfl (fun _ => rfl)) (by exact ⟨(by exact Sl.of_own S.wd (k := 2) rfl (fun _ => rfl)), (by exact Sl.of_own S.wd (k := 3) rfl (fun _ => rfl))⟩) (by assumption) (by assumption) (by assumption)) rfl ?_); clear S a w; rintro _ _ ⟨A12, r12, A22, r22, A32, r32, rfl, rfl⟩ a w S; refine Zw S ?_)
     (refine h_m (i := 7) rfl (by kernel_rfl) (Zr S call142 (.cons (.t rfl) (.cons (.t rfl) .nil)) (c142 _ _ _ _ _ _ (by exact ⟨(by exact Sl.of_own S.wd (k := 9) rfl (fun _ => rfl)), (by exact Sl.of_own S.wd (k := 10) rfl (fun _ => rfl))⟩) (by assumption) (by assumption)) rfl ?_); clear S a w; rintro _ _ ⟨A13, r13, A23, r23, rfl, rfl⟩ a w S; refine Zw S ?_)
     (refine Xe (i := 8) rfl (by kernel_rfl) (Zp S sizeOf37 (.t rfl) (.t rfl) (k := 9) rfl rfl rfl (by simp [Value.oneCell']) ?_); clear S a w; intro a w S; refine Zw S ?_)
     (refine Xe (i := 9) rfl (by kernel_rfl) (Zp S sizeOf35 (.t rfl) (.t rfl) (k := 10) rfl rfl rfl (by simp [Value.oneCell']) ?_); clear S a w; intro a w S; refine Zw S ?_)
     refine Yq (by kernel_rfl) (Zm (Za (hK3 _ _ (wp_region_lit (run S (.ad (by unfold I64; omega) rfl <| .mv rfl <| .z) fun a w S => Zb (Za ?_))))))
     rotate_left
     all_goals exact ⟨(i + 1, ((A12, r12), (A22, r22), (A32, r32)), cutC c y, some ((A13, r13), (A23, r23)), keepC T y), ⟨by dsimp only; omega, hc2.symm, hT2.symm, fun h => (by cases h), hok.cut y⟩, by dsimp only; omega, S.pk⟩
 obtain rfl : i = pr.length := by omega
 rw [List.take_length] at hcI hTI
 have k6 := hok.may
 have hfin : rightK l x = (decide (c = x.c.1) && leqL T x.c.1.ctx) := by rw [hR, decide_eq_true hm0, rw_M, ← hcI, ← hTI]; rfl
 cases o with
 | none =>
   obtain rfl := hoI rfl
   refine sg S (.ge (by omega) rfl rfl <| .z) fun a w S => wp_seq_k fun _ hK3 => Ze S (.t rfl) (wp_exit (Zh (Zh (Ya (Za (hK1 _ _ (wp_seq_k fun _ hK1 => wp_region_lit (run S (.la gt37 3 rfl rfl rfl <| .fa underlying96 sizeOf37 19 rfl rfl rfl <| .la gt37 7 rfl rfl rfl <| .xx (Zf call95 (.cons (.t rfl) (.cons (.t rfl) .nil)) (fun hp w W => c95 _ _ _ _ _ _ _ _ _ (by exact Sl.of_own W (k := 0) rfl (fun _ => rfl)) (by exact ⟨(by exact Sl.of_own W (k := 1) rfl (fun _ => rfl)), (by exact Sl.of_own W (k := 2) rfl (fun _ => rfl))⟩) (by exact .old W (by assumption)) (by exact .old W (by assumption)))) rfl <| .z) fun a w S => ?_))))))))
   simp only [List.nil_append] at S
   refine run S (.mv rfl <| .z) fun a w S => Yi S rfl rfl (Yr.ys (Yc ⟨isAgg35, sizeOf35⟩ (.t rfl) (k := 4) rfl rfl)) rfl fun a w S => Yi S rfl rfl (Yr.ys (Zc (FieldT.mk underlying96 rfl sizeOf37 rfl) (.t rfl) (i' := 19) rfl)) rfl fun a w S => Yi S rfl rfl (Yr.ys (Zc (FieldT.mk underlying37 rfl sizeOf35 rfl) (Ev.g rfl) (i' := 20) rfl)) rfl fun a w S => Yi S rfl rfl (Yr.ys (Yc ⟨isAgg35, sizeOf35⟩ (Ev.g rfl) (k := 7) rfl rfl)) rfl fun a w S => Yi S rfl rfl (Zf call173 (.cons (Ev.g rfl) (.cons (Ev.g rfl) .nil)) (fun hp w W => c173 _ _ _ _ _ _ _ (by exact .old W (by assumption)) (by exact .old W (by assumption)) (by assumption) (by assumption))) rfl fun a w S => run S (.yy (Xy (.t rfl) (Ev.g rfl) Ev.c) rfl <| .as rfl <| .z) fun a w S => Zb (Za (hK1 _ _ (wp_ret (Zn S (results1 S results125 (Rv.tmp rfl)) ?_))))
   exact ⟨by rw [hfin], S.wd.below⟩
 | some o =>
   obtain ⟨⟨P1, p1⟩, ⟨P2, p2⟩⟩ := o
   dsimp only at S
   refine sg S (.ge (by omega) rfl rfl <| .z) fun a w S => wp_seq_k fun _ hK3 => Ze S (.t rfl) (wp_exit (Zh (Zh (Ya (Za (hK1 _ _ (wp_seq_k fun _ hK1 => wp_region_lit (run S (.la gt37 3 rfl rfl rfl <| .fa underlying96 sizeOf37 19 rfl rfl rfl <| .la gt37 9 rfl rfl rfl <| .xx (Zf call95 (.cons (.t rfl) (.cons (.t rfl) .nil)) (fun hp w W => c95 _ _ _ _ _ _ _ _ _ (by exact Sl.of_own W (k := 0) rfl (fun _ => rfl)) (by exact ⟨(by exact Sl.of_own W (k := 1) rfl (fun _ => rfl)), (by exact Sl.of_own W (k := 2) rfl (fun _ => rfl))⟩) (by exact .old W (by assumption)) (by exact .old W (by assumption)))) rfl <| .mv rfl <| .z) fun a w S => Yi S rfl rfl (Yr.ys (Yc ⟨isAgg35, sizeOf35⟩ (.t rfl) (k := 4) rfl rfl)) rfl fun a w S => Yi S rfl rfl (Yr.ys (Zc (FieldT.mk underlying96 rfl sizeOf37 rfl) (.t rfl) (i' := 19) rfl)) rfl fun a w S => Yi S rfl rfl (Yr.ys (Zc (FieldT.mk underlying37 rfl sizeOf35 rfl) (Ev.g rfl) (i' := 20) rfl)) rfl fun a w S => Yi S rfl rfl (Yr.ys (Yc ⟨isAgg35, sizeOf35⟩ (Ev.g rfl) (k := 9) rfl rfl)) rfl fun a w S => ?_))))))))
   refine Yi S rfl rfl (Zf call173 (.cons (Ev.g rfl) (.cons (Ev.g rfl) .nil)) (fun hp w W => c173 _ _ _ _ _ _ _ (by exact ⟨(by exact Sl.of_own W (k := 5) rfl (fun _ => rfl)), (by exact Sl.of_own W (k := 6) rfl (fun _ => rfl))⟩) (by exact .old W (by assumption)) (by assumption) (by assumption))) rfl fun a w S => run S (.yy (Xy (.t rfl) (Ev.g rfl) Ev.c) rfl <| .as rfl <| .z) fun a w S => Zb (Za (hK1 _ _ (wp_ret (Zn S (results1 S results125 (Rv.tmp rfl)) ?_))))
   exact ⟨by rw [hfin], S.wd.below⟩
end Go.Proofs.YtakpdbmdfnialaaGreat
namespace Go.Fw
open Go.RowKit
theorem Sl.take_n {α : Type} {enc : α → List Value} {size B : Nat} {w : World} {A : Option Addr} {l : List α} {cap m : Nat} (h : Sl enc size w B (.slice A l.length cap) l) (hm : m ≤ l.length) : Sl enc size w B (.slice A m cap) (l.take m) := by
 obtain ⟨A', cap', e, h2, h3, h4⟩ := h
 simp only [Value.slice.injEq, true_and] at e
 obtain ⟨rfl, rfl⟩ := e
 have hl : (l.take m).length = m := by rw [List.length_take]; omega
 refine ⟨A, cap, by rw [hl], by omega, h3, fun hp => ?_⟩
 obtain ⟨g, o, k1, k2, k3⟩ := h4 (by omega)
 refine ⟨g, o, k1, k2, fun k x hx => k3 k x ?_⟩
 rw [List.getElem?_take] at hx
 split at hx
 · exact hx
 · cases hx
def readsF (l : List SLog) : Nat → List SLog → Int × Int
 | _, [] => (0, 0)
 | i, x :: r => if x.kind = 3 then (if rightK (l.take i) x = true then readsF l (i + 1) r else ((i : Int), 260)) else readsF l (i + 1) r
def readsK (l : List SLog) : Int × Int := readsF l 0 l
theorem readsF_at {l : List SLog} {x : SLog} {i : Nat} (h : l[i]? = some x) : readsF l i (l.drop i) = if x.kind = 3 then (if rightK (l.take i) x = true then readsF l (i + 1) (l.drop (i + 1)) else ((i : Int), 260)) else readsF l (i + 1) (l.drop (i + 1)) := by
 obtain ⟨h1, h2⟩ := List.getElem?_eq_some_iff.1 h
 rw [List.drop_eq_getElem_cons h1, h2, readsF]
structure JrnOk (w : World) (l : List SLog) : Prop where
 rd : LogsRd w l
 len : l.length ≤ 1048576
 ok : ∀ x ∈ l, CartOk x.s.1 ∧ ∀ m ∈ x.c.1.ctx.marks, mayD m = true
 room : ∀ i x, l[i]? = some x → RoomU ((toldU (goneK (l.take i) x.key) x (l.take i)).map (·.1))
theorem JrnOk.old {w0 w : World} {L : List Chunk} {l : List SLog} (W : Wd w0 L w) (h : JrnOk w0 l) : JrnOk w l := ⟨h.rd.old W, h.len, h.ok, h.room⟩
theorem CartOk.mayM {c : Cart} (h : CartOk c) : ∀ m ∈ c.ctx.marks, mayD m = true := ((canL_iff _).1 h.ctx).2.mayM
end Go.Fw
namespace Go.Proofs.YtakpdbmdfnialaaGreat
open Go.Fw Go.Proofs Go.RowKit Go.Proofs.Tryz
theorem d126 (w0 : World) (v : Value) (l : List SLog) (h : Sl SLog.enc 22 w0 w0.heap.size v l) (hl : JrnOk w0 l) :
   Calls Tryz.prog 126 #[.agg #[.int .i64 3, .func (.func 125) #[] #[]], v] w0 fun e w' => e = .returned (.tuple #[.int .i64 (readsK l).1, .int .i64 (readsK l).2]) ∧ Bel w0.heap.size w0 w' := by
 have hs := h
 obtain ⟨A, cap, rfl, hl0, hcap, hA⟩ := h
 refine enter2 func126 rfl ntmps126 rfl fun a S => wp_seq_k fun _ hK1 => wp_region_lit (Zi (Zy S (.t rfl) rfl fun g1 a w S => run S (.ac rfl <| .ac rfl <| .z) fun a w S => Zb (Za (hK1 _ _ (wp_seq_k fun _ hK1 => sg S (.mv rfl <| .ln underlying84 rfl <| .mc rfl <| .z) fun a w S => wp_block ?_)))))
 refine Xn S [10] (X := Nat) (fun q => [(10, true, .int .i64 (q : Int))])
   (fun q => [.blk g1 (.cells #[.int .i64 3, .func (.func 125) #[] #[]] 170)])
   (fun q => q ≤ l.length ∧ readsF l q (l.drop q) = readsK l) (fun q => l.length - q) 0 ⟨Nat.zero_le _, rfl⟩ ?_
 clear S
 rintro q a w ⟨hq, hF⟩ S
 by_cases hlt : q < l.length
 · obtain ⟨gq, oq, x, rfl, hx, hd, hc⟩ := Yh hA hlt
   rw [readsF_at hx] at hF
   by_cases hk : x.kind = 3
   · have rw_k := decide_eq_true hk
     rw [if_pos hk] at hF
     have hxr := hl.rd x (List.mem_of_getElem? hx)
     obtain ⟨o1, m2⟩ := hl.ok x (List.mem_of_getElem? hx)
     have hroom := hl.room q x hx
     have m1 := o1.mayM
     obtain ⟨l1, l2, l3⟩ := cart_lens o1
     have ht : (l.take q).length = q := by rw [List.length_take]; omega
     have hst := Sl.take_n hs (m := q) (by omega)
     have hlt2 : LogsRd w0 (l.take q) := fun y hy => hl.rd y (List.mem_of_mem_take hy)
     have hlen := hl.len
     cases hB : rightK (l.take q) x with
     | true =>
       have rw_B := hB
       rw [if_pos hB] at hF
       have halt_r := trivial
       refine sg S (.lt (by omega) rfl rfl <| .z) fun a w S => wp_seq_k fun _ hK2 => Zg S (.t rfl) (wp_skip (Za (hK2 _ _ (wp_seq_k fun _ hK2 => wp_block (wp_seq_k fun _ hK3 => wp_region_lit (run S (.mv rfl <| .ix underlying84 sizeOf96 (by omega) rfl rfl <| .yy (Zu ⟨isAgg96, sizeOf96⟩ (.t rfl) (vs := [_, _, _, _, _, _, _, _, _, _, _, _, _, _, _, _, _, _, _, _, _, _]) rfl (fun _ => hc)) rfl <| .z) fun a w S => Zi (Zk S zeroValue96 (cs := _) rfl rfl fun g2 a w S => run S (.as rfl <| .z) fun a w S => Zi (Zp S sizeOf96 (.t rfl) (.t rfl) (k := 0) rfl rfl rfl (by simp [Value.oneCell']) fun a w S => Zb (Za (hK3 _ _ (wp_seq_k fun _ hK3 => ?_)))))))))))
       clear halt_r
       refine Vz S (by kernel_rfl) [.blk g2 (.cells (SLog.enc x).toArray 96), .blk g1 (.cells #[.int .i64 3, .func (.func 125) #[] #[]] 170)] ?_
       clear S
       intro a w S
       have hold_r := trivial
       refine hy 0 S rfl (Zc (FieldT.mk underlying96 rfl sizeOf3 rfl) (.t rfl) (i' := 0) rfl) rfl fun a w S => hy 1 S rfl (Zt ⟨isAgg3, sizeOf3⟩ (.t rfl) (k := 0) rfl rfl) rfl fun a w S => hy 2 S rfl (Zc (FieldT.mk underlying170 rfl sizeOf3 rfl) (.t rfl) (i' := 0) rfl) rfl fun a w S => hy 3 S rfl (Zt ⟨isAgg3, sizeOf3⟩ (.t rfl) (k := 1) rfl rfl) rfl fun a w S => hy 4 S rfl (Yu (by omega) (Yj (.t rfl) (.t rfl))) rfl fun a w S => ?_
       refine hy 5 S rfl (Zj (.t rfl)) rfl fun a w S => hyt 6 S rfl rfl rfl (Zc (FieldT.mk underlying170 rfl sizeOf168 rfl) (.t rfl) (i' := 1) rfl) rfl fun a w S => hyt 7 S rfl rfl rfl (Zt ⟨isAgg168, sizeOf168⟩ (.t rfl) (k := 1) rfl rfl) rfl fun a w S => hyt 8 S rfl rfl rfl (Zj (.t rfl)) rfl fun a w S => hyt 9 S rfl rfl rfl (Zj (.t rfl)) rfl fun a w S => ?_
       refine hyt 10 S rfl rfl rfl (Vk underlying84 sizeOf96 (.t rfl) (.t rfl) (fun _ => by first | omega | (simp; done) | (simp; omega))) rfl fun a w S => hyt 11 S rfl rfl rfl (Yc ⟨isAgg96, sizeOf96⟩ (.t rfl) (k := 0) rfl rfl) rfl fun a w S => h_qg (i := 12) S (by repeat (first | exact List.Sublist.refl _ | exact List.nil_sublist _ | refine .cons_cons _ ?_ | refine .cons _ ?_)) rfl (by kernel_rfl) rfl rfl (ys_callV (.t rfl) call125 (.cons (.t rfl) (.cons (.t rfl) .nil)) (fun hp w W => c125 _ _ _ _ (by exact .old W (by assumption)) (by exact .old W (by assumption)) (by omega) (by exact .old W (by assumption)) (by assumption) (by assumption) (by assumption) (by omega) (by omega))) rfl fun a w S => ?_
       rw [rw_B] at S
       refine hyt 13 S rfl rfl rfl (Xi (.t rfl)) rfl fun a w S => hy 14 S rfl (Zz (.t rfl) (.t rfl)) rfl fun a w S => Yq (by kernel_rfl) (Za (hK3 _ _ (Ze S (.t rfl) (wp_skip (Zm (Za (hK2 _ _ (wp_region_lit (run S (.ad (by unfold I64; omega) rfl <| .mv rfl <| .z) fun a w S => Zb (Za ?_))))))))))
       exact ⟨q + 1, ⟨by omega, hF⟩, by omega, S.pk⟩
     | false =>
       have rw_B := hB
       rw [if_neg (by rw [hB]; decide)] at hF
       have halt_r := trivial
       refine sg S (.lt (by omega) rfl rfl <| .z) fun a w S => wp_seq_k fun _ hK2 => Zg S (.t rfl) (wp_skip (Za (hK2 _ _ (wp_seq_k fun _ hK2 => wp_block (wp_seq_k fun _ hK3 => wp_region_lit (run S (.mv rfl <| .ix underlying84 sizeOf96 (by omega) rfl rfl <| .yy (Zu ⟨isAgg96, sizeOf96⟩ (.t rfl) (vs := [_, _, _, _, _, _, _, _, _, _, _, _, _, _, _, _, _, _, _, _, _, _]) rfl (fun _ => hc)) rfl <| .z) fun a w S => Zi (Zk S zeroValue96 (cs := _) rfl rfl fun g2 a w S => run S (.as rfl <| .z) fun a w S => Zi (Zp S sizeOf96 (.t rfl) (.t rfl) (k := 0) rfl rfl rfl (by simp [Value.oneCell']) fun a w S => Zb (Za (hK3 _ _ (wp_seq_k fun _ hK3 => ?_)))))))))))
       clear halt_r
       refine Vz S (by kernel_rfl) [.blk g2 (.cells (SLog.enc x).toArray 96), .blk g1 (.cells #[.int .i64 3, .func (.func 125) #[] #[]] 170)] ?_
       clear S
       intro a w S
       have hold_r := trivial
       refine hy 0 S rfl (Zc (FieldT.mk underlying96 rfl sizeOf3 rfl) (.t rfl) (i' := 0) rfl) rfl fun a w S => hy 1 S rfl (Zt ⟨isAgg3, sizeOf3⟩ (.t rfl) (k := 0) rfl rfl) rfl fun a w S => hy 2 S rfl (Zc (FieldT.mk underlying170 rfl sizeOf3 rfl) (.t rfl) (i' := 0) rfl) rfl fun a w S => hy 3 S rfl (Zt ⟨isAgg3, sizeOf3⟩ (.t rfl) (k := 1) rfl rfl) rfl fun a w S => hy 4 S rfl (Yu (by omega) (Yj (.t rfl) (.t rfl))) rfl fun a w S => ?_
       refine hy 5 S rfl (Zj (.t rfl)) rfl fun a w S => hyt 6 S rfl rfl rfl (Zc (FieldT.mk underlying170 rfl sizeOf168 rfl) (.t rfl) (i' := 1) rfl) rfl fun a w S => hyt 7 S rfl rfl rfl (Zt ⟨isAgg168, sizeOf168⟩ (.t rfl) (k := 1) rfl rfl) rfl fun a w S => hyt 8 S rfl rfl rfl (Zj (.t rfl)) rfl fun a w S => hyt 9 S rfl rfl rfl (Zj (.t rfl)) rfl fun a w S => ?_
       refine hyt 10 S rfl rfl rfl (Vk underlying84 sizeOf96 (.t rfl) (.t rfl) (fun _ => by first | omega | (simp; done) | (simp; omega))) rfl fun a w S => hyt 11 S rfl rfl rfl (Yc ⟨isAgg96, sizeOf96⟩ (.t rfl) (k := 0) rfl rfl) rfl fun a w S => h_qg (i := 12) S (by repeat (first | exact List.Sublist.refl _ | exact List.nil_sublist _ | refine .cons_cons _ ?_ | refine .cons _ ?_)) rfl (by kernel_rfl) rfl rfl (ys_callV (.t rfl) call125 (.cons (.t rfl) (.cons (.t rfl) .nil)) (fun hp w W => c125 _ _ _ _ (by exact .old W (by assumption)) (by exact .old W (by assumption)) (by omega) (by exact .old W (by assumption)) (by assumption) (by assumption) (by assumption) (by omega) (by omega))) rfl fun a w S => ?_
       rw [rw_B] at S
       refine hyt 13 S rfl rfl rfl (Xi (.t rfl)) rfl fun a w S => hy 14 S rfl (Zz (.t rfl) (.t rfl)) rfl fun a w S => Yq (by kernel_rfl) (Za (hK3 _ _ (Zg S (.t rfl) (sg S (.mv rfl <| .as rfl <| .ac rfl <| .z) fun a w S => wp_ret (Zq (Zd (Zd (Zq (Zd (Zn S (results2 S results126 (Rv.tmp rfl) (Rv.tmp rfl)) ?_))))))))))
       rw [← hF]
       exact ⟨rfl, S.wd.below⟩
   · have rw_k := decide_eq_false hk
     rw [if_neg hk] at hF
     refine sg S (.lt (by omega) rfl rfl <| .z) fun a w S => wp_seq_k fun _ hK2 => Zg S (.t rfl) (wp_skip (Za (hK2 _ _ (wp_seq_k fun _ hK2 => wp_block (wp_seq_k fun _ hK3 => wp_region_lit (run S (.mv rfl <| .ix underlying84 sizeOf96 (by omega) rfl rfl <| .yy (Zu ⟨isAgg96, sizeOf96⟩ (.t rfl) (vs := [_, _, _, _, _, _, _, _, _, _, _, _, _, _, _, _, _, _, _, _, _, _]) rfl (fun _ => hc)) rfl <| .z) fun a w S => Zi (Zk S zeroValue96 (cs := _) rfl rfl fun g2 a w S => run S (.as rfl <| .z) fun a w S => Zi (Zp S sizeOf96 (.t rfl) (.t rfl) (k := 0) rfl rfl rfl (by simp [Value.oneCell']) fun a w S => Zb (Za (hK3 _ _ (wp_seq_k fun _ hK3 => Ye S (by kernel_rfl) (by kernel_rfl) fun a S => qrun S (.fa underlying96 sizeOf3 0 rfl rfl rfl <| .ld gt3 0 rfl rfl rfl <| .fa underlying170 sizeOf3 0 rfl rfl rfl <| .ld gt3 1 rfl rfl rfl <| .yy (Yp (by omega) (Yj (.t rfl) (.t rfl))) rfl <| .mv rfl <| .sk rfl rfl rfl <| .sk rfl rfl rfl <| .sk rfl rfl rfl <| .sk rfl rfl rfl <| .sk rfl rfl rfl <| .sk rfl rfl rfl <| .sk rfl rfl rfl <| .sk rfl rfl rfl <| .yy (Zv (.t rfl) Ev.c) rfl <| .z) fun a S => ?_)))))))))))
     (refine Xb ?_; intro w W; replace S := St.mk S W; clear W)
     refine Za (hK3 _ _ (Ze S (.t rfl) (wp_skip (Zm (Za (hK2 _ _ (wp_region_lit (run S (.ad (by unfold I64; omega) rfl <| .mv rfl <| .z) fun a w S => Zb (Za ?_)))))))))
     exact ⟨q + 1, ⟨by omega, hF⟩, by omega, S.pk⟩
 obtain rfl : q = l.length := by omega
 rw [List.drop_length] at hF
 refine sg S (.ge (by omega) rfl rfl <| .z) fun a w S => wp_seq_k fun _ hK2 => Ze S (.t rfl) (wp_exit (Zh (Zh (Ya (Za (hK1 _ _ (sg S (.ac rfl <| .ac rfl <| .z) fun a w S => wp_ret (Zn S (results2 S results126 (Rv.tmp rfl) (Rv.tmp rfl)) ?_))))))))
 rw [← hF]
 exact ⟨rfl, S.wd.below⟩
theorem c51 (w0 : World) (v : Value) (l : List SLog) (h : Sl SLog.enc 22 w0 w0.heap.size v l) (hl : JrnOk w0 l) :
   Calls Tryz.prog 51 #[v] w0 fun e w' => e = .returned (.tuple #[.int .i64 (readsK l).1, .int .i64 (readsK l).2]) ∧ Bel w0.heap.size w0 w' := by
 refine enter1 func51 rfl ntmps51 rfl fun a S => sg S (.ac rfl <| .ac rfl <| .z) fun a w S => sg S (.yy (Yn (ps := [(0, _), (1, _)]) (us := [_, _]) bld170 (.cons Ev.c (.cons Ev.f .nil)) rfl) rfl <| .mv rfl <| .xx (Zf call126 (.cons (.t rfl) (.cons (.t rfl) .nil)) (fun hp w W => d126 _ _ _ (by exact .old W (by assumption)) (by exact .old W (by assumption)))) rfl <| .ex rfl rfl <| .ex rfl rfl <| .as rfl <| .as rfl <| .z) fun a w S => wp_ret (Zn S (results2 S results51 (Rv.tmp rfl) (Rv.tmp rfl)) ?_)
 exact ⟨rfl, S.wd.below⟩
end Go.Proofs.YtakpdbmdfnialaaGreat
namespace Go.Fw
open Go.RowKit
def SLog.nul (x : SLog) : SLog := x.at3 ⟨none, 0, 0, none, 0, 0, none, 0, 0⟩ ⟨none, 0, 0, none, 0, 0, none, 0, 0⟩ ⟨none, 0, 0, none, 0, 0, none, 0, 0⟩
def SmallL (l : List SLog) : Prop := ∀ x ∈ l, lenC3 x.u.1.seen ∧ lenC3 x.s.1 ∧ lenC3 x.c.1
structure LogIn (w1 : World) (bs : List Nat) (x : SLog) : Prop where
 u : CartIn w1 bs x.u.1.seen x.u.2
 s : CartIn w1 bs x.s.1 x.s.2
 c : CartIn w1 bs x.c.1 x.c.2
theorem LogIn.rd {w0 w w1 : World} {L : List Chunk} {bs : List Nat} {k : Nat} {x : SLog} (h : LogIn w1 bs x) (W : Wd w0 L w) (hk : L[k]? = some (.ice w1 bs)) : LogRd w x := ⟨h.u.rd W hk, h.s.rd W hk, h.c.rd W hk⟩
theorem nul_take {s l : List SLog} {i : Nat} {x y : SLog} (h : s.map SLog.nul = (l.map SLog.nul).take i) (hx : l[i]? = some x) (hy : y.nul = x.nul) : (s ++ [y]).map SLog.nul = (l.map SLog.nul).take (i + 1) := by
 rw [List.map_append, h, List.take_add_one, List.getElem?_map, hx]
 simp [hy]
end Go.Fw
namespace Go.Proofs.YtakpdbmdfnialaaGreat
open Go.Fw Go.Proofs Go.RowKit Go.Proofs.Tryz
theorem c43 (w0 : World) (v : Value) (l : List SLog) (h : Sl SLog.enc 22 w0 w0.heap.size v l) (hc : LogsRd w0 l) (hb : SmallL l) (hn : l.length ≤ 1048576) :
   Rets Tryz.prog 43 #[v] w0 fun u L => ∃ A r s w1 bs, u = .slice A s.length r ∧ L = [rowOf 96 22 SLog.enc A r s, .ice w1 bs] ∧ s.map SLog.nul = l.map SLog.nul ∧ ∀ p ∈ s, LogIn w1 bs p := by
 obtain ⟨A, cap, rfl, hl, hcap, hA⟩ := h
 unfold Go.Fw.Rets
 refine enter1 func43 rfl ntmps43 rfl fun a S => sg S (.ac rfl <| .z) fun a w S => sg S (.ac rfl <| .z) fun a w S => wp_seq_k fun _ hK1 => sg S (.mv rfl <| .ln underlying84 rfl <| .mc rfl <| .z) fun a w S => wp_block ?_
 replace S := S.nil_ 96 22 SLog.enc none
 replace S : St _ _ _ (.ice w0 [] :: _) _ _ := ⟨S.kn, S.wd.bare (fun b hb => by cases hb) (fun b hb => by cases hb)⟩
 refine Xn S [3, 8] (X := Nat × Option Addr × Nat × List SLog × World × List Nat) (fun q => [(3, true, .slice q.2.1 q.2.2.2.1.length q.2.2.1), (8, true, .int .i64 (q.1 : Int))])
   (fun q => [rowOf 96 22 SLog.enc q.2.1 q.2.2.1 q.2.2.2.1, .ice q.2.2.2.2.1 q.2.2.2.2.2]) (fun q => q.1 ≤ l.length ∧ q.2.2.2.1.map SLog.nul = (l.map SLog.nul).take q.1 ∧ ∀ p ∈ q.2.2.2.1, LogIn q.2.2.2.2.1 q.2.2.2.2.2 p) (fun q => l.length - q.1) (0, none, 0, [], w0, []) ⟨Nat.zero_le _, by simp, by simp⟩ ?_
 clear S
 rintro ⟨i, B, cB, s, w1, bs⟩ a w ⟨hi, hsm, hsi⟩ S
 dsimp only at hi hsm hsi S
 have hsl : s.length = i := by
   have := congrArg List.length hsm
   rw [List.length_map, List.length_take, List.length_map] at this
   omega
 by_cases hlt : i < l.length
 · obtain ⟨gq, oq, x, rfl, hx, hd, hcx⟩ := Yh hA hlt
   have hxc := hc x (List.mem_of_getElem? hx)
   have hxb := hb x (List.mem_of_getElem? hx)
   refine sg S (.lt (by omega) rfl rfl <| .z) fun a w S => wp_seq_k fun _ hK2 => Zg S (.t rfl) (wp_skip (Za (hK2 _ _ (wp_seq_k fun _ hK2 => wp_block (wp_seq_k fun _ hK3 => wp_region_lit (run S (.ix underlying84 sizeOf96 (by omega) rfl rfl <| .yy (Zu ⟨isAgg96, sizeOf96⟩ (.t rfl) (vs := [_, _, _, _, _, _, _, _, _, _, _, _, _, _, _, _, _, _, _, _, _, _]) rfl (fun _ => hcx)) rfl <| .z) fun a w S => Zi (Zk S zeroValue96 (cs := _) rfl rfl fun g1 a w S => Zi (Zp S sizeOf96 (.t rfl) (.t rfl) (k := 0) rfl rfl rfl (by simp [Value.oneCell']) fun a w S => Zb (Za (hK3 _ _ (wp_region_lit (run S (.mv rfl <| .la gt96 0 rfl rfl rfl <| .z) fun a w S => ?_))))))))))))
   (refine Zi (Zr S call117 (.cons (.t rfl) .nil) (c117 _ _ (by exact .old S.wd (by assumption)) (by assumption)) rfl ?_); clear S a w; rintro _ _ ⟨A11, r11, A21, r21, A31, r31, B11, q11, B21, q21, B31, q31, C11, p11, C21, p21, C31, p31, rfl, rfl⟩ a w S)
   refine Zi (Yd S underlying84 inf96 rfl rfl rfl (.t rfl) rfl rfl rfl fun g2 a w S => Zi (Yv S underlying84 inf96 rfl (k := 11) (j := 0) rfl (.t rfl) (.t rfl) rfl rfl rfl rfl (by first | omega | (simp only [List.length_append, List.length_cons, List.length_nil]; omega)) rfl rfl rfl fun A1 cap1 a w S => run S (.as rfl <| .z) fun a w S => Zb (Zm (Za (hK2 _ _ (wp_region_lit (run S (.ad (by unfold I64; omega) rfl <| .mv rfl <| .z) fun a w S => Zb (Za ?_))))))))
   obtain ⟨y, hy⟩ : ∃ y, x.at3 ⟨A11, x.u.1.seen.ents.length, r11, A21, x.u.1.seen.ctx.marks.length, r21, A31, x.u.1.seen.ctx.cloud.length, r31⟩ ⟨B11, x.s.1.ents.length, q11, B21, x.s.1.ctx.marks.length, q21, B31, x.s.1.ctx.cloud.length, q31⟩ ⟨C11, x.c.1.ents.length, p11, C21, x.c.1.ctx.marks.length, p21, C31, x.c.1.ctx.cloud.length, p31⟩ = y := ⟨_, rfl⟩
   rw [hy] at S
   have hyn : y.nul = x.nul := by rw [← hy]; rfl
   obtain ⟨bs1, W1, n1, hold1⟩ := Vy (X := x.u.1.seen) (S.wd.picks (L' := [rowOf 100 6 Ent.enc A11 r11 x.u.1.seen.ents, rowOf 30 3 Dot.enc A21 r21 x.u.1.seen.ctx.marks, rowOf 74 3 Dot.enc A31 r31 x.u.1.seen.ctx.cloud, .ice w1 bs, rowOf 100 6 Ent.enc B11 q11 x.s.1.ents, rowOf 30 3 Dot.enc B21 q21 x.s.1.ctx.marks, rowOf 74 3 Dot.enc B31 q31 x.s.1.ctx.cloud, rowOf 100 6 Ent.enc C11 p11 x.c.1.ents, rowOf 30 3 Dot.enc C21 p21 x.c.1.ctx.marks, rowOf 74 3 Dot.enc C31 p31 x.c.1.ctx.cloud, rowOf 96 22 SLog.enc A1 cap1 (s ++ [y])]) (by repeat (first | exact Picks.nil | (refine Picks.rest ?_; (repeat (first | exact List.Sublist.refl _ | refine List.Sublist.cons_cons _ ?_ | refine List.Sublist.cons _ ?_)); done) | refine Picks.take 0 rfl ?_ | refine Picks.take 1 rfl ?_ | refine Picks.take 2 rfl ?_ | refine Picks.take 3 rfl ?_ | refine Picks.take 4 rfl ?_ | refine Picks.take 5 rfl ?_ | refine Picks.take 6 rfl ?_ | refine Picks.take 7 rfl ?_ | refine Picks.take 8 rfl ?_ | refine Picks.take 9 rfl ?_ | refine Picks.take 10 rfl ?_ | refine Picks.take 11 rfl ?_)))
   obtain ⟨bs2, W2, n2, hold2⟩ := Vy (X := x.s.1) (W1.picks (L' := [rowOf 100 6 Ent.enc B11 q11 x.s.1.ents, rowOf 30 3 Dot.enc B21 q21 x.s.1.ctx.marks, rowOf 74 3 Dot.enc B31 q31 x.s.1.ctx.cloud, .ice w bs1, rowOf 100 6 Ent.enc C11 p11 x.c.1.ents, rowOf 30 3 Dot.enc C21 p21 x.c.1.ctx.marks, rowOf 74 3 Dot.enc C31 p31 x.c.1.ctx.cloud, rowOf 96 22 SLog.enc A1 cap1 (s ++ [y])]) (by repeat (first | exact Picks.nil | (refine Picks.rest ?_; (repeat (first | exact List.Sublist.refl _ | refine List.Sublist.cons_cons _ ?_ | refine List.Sublist.cons _ ?_)); done) | refine Picks.take 0 rfl ?_ | refine Picks.take 1 rfl ?_ | refine Picks.take 2 rfl ?_ | refine Picks.take 3 rfl ?_ | refine Picks.take 4 rfl ?_ | refine Picks.take 5 rfl ?_ | refine Picks.take 6 rfl ?_ | refine Picks.take 7 rfl ?_ | refine Picks.take 8 rfl ?_ | refine Picks.take 9 rfl ?_ | refine Picks.take 10 rfl ?_ | refine Picks.take 11 rfl ?_)))
   obtain ⟨bs3, W3, n3, hold3⟩ := Vy (X := x.c.1) (W2.picks (L' := [rowOf 100 6 Ent.enc C11 p11 x.c.1.ents, rowOf 30 3 Dot.enc C21 p21 x.c.1.ctx.marks, rowOf 74 3 Dot.enc C31 p31 x.c.1.ctx.cloud, .ice w bs2, rowOf 96 22 SLog.enc A1 cap1 (s ++ [y])]) (by repeat (first | exact Picks.nil | (refine Picks.rest ?_; (repeat (first | exact List.Sublist.refl _ | refine List.Sublist.cons_cons _ ?_ | refine List.Sublist.cons _ ?_)); done) | refine Picks.take 0 rfl ?_ | refine Picks.take 1 rfl ?_ | refine Picks.take 2 rfl ?_ | refine Picks.take 3 rfl ?_ | refine Picks.take 4 rfl ?_ | refine Picks.take 5 rfl ?_ | refine Picks.take 6 rfl ?_ | refine Picks.take 7 rfl ?_ | refine Picks.take 8 rfl ?_ | refine Picks.take 9 rfl ?_ | refine Picks.take 10 rfl ?_ | refine Picks.take 11 rfl ?_)))
   replace S := St.mk S.kn W3
   refine ⟨(i + 1, A1, cap1, s ++ [y], w, bs3), ⟨by dsimp only; omega, nul_take hsm hx hyn, fun p hp => ?_⟩, by dsimp only; omega, S.pk⟩
   rcases List.mem_append.1 hp with hp | hp
   · obtain ⟨i1, i2, i3⟩ := hsi p hp
     exact ⟨hold3 _ _ (hold2 _ _ (hold1 _ _ i1)), hold3 _ _ (hold2 _ _ (hold1 _ _ i2)), hold3 _ _ (hold2 _ _ (hold1 _ _ i3))⟩
   · rw [List.mem_singleton.1 hp, ← hy]
     exact ⟨hold3 _ _ (hold2 _ _ n1), hold3 _ _ n2, n3⟩
 obtain rfl : i = l.length := by omega
 rw [List.take_of_length_le (by simp)] at hsm
 refine sg S (.ge (by omega) rfl rfl <| .z) fun a w S => wp_seq_k fun _ hK2 => Ze S (.t rfl) (wp_exit (Zh (Zh (Ya (Za (hK1 _ _ (sg S (.mv rfl <| .as rfl <| .z) fun a w S => wp_ret (Zn S (results1 S results43 (Rv.tmp rfl)) ?_))))))))
 exact ⟨_, _, rfl, S.wd.pk, _, _, s, _, _, rfl, rfl, hsm, hsi⟩
end Go.Proofs.YtakpdbmdfnialaaGreat
namespace Go.Fw
open Go.RowKit
theorem gone_nul (l : List SLog) (key : List UInt8) : goneK (l.map SLog.nul) key = (goneK l key).map SLog.nul := by
 unfold goneK
 rw [List.filter_map]
 rfl
theorem forgot_nul (l : List SLog) (d : Dot) : forgotK (l.map SLog.nul) d = forgotK l d := by
 unfold forgotK
 rw [List.any_map]
 rfl
theorem told_nul (pr : List SLog) (x : SLog) (l : List SLog) : (toldU (pr.map SLog.nul) x.nul (l.map SLog.nul)).map (·.1) = (toldU pr x l).map (·.1) := by
 unfold toldU
 rw [List.filter_map, List.map_map, List.map_map, List.map_map]
 have e : (toldB (pr.map SLog.nul) x.nul ∘ SLog.nul) = toldB pr x := by
   funext y
   show toldB (pr.map SLog.nul) x.nul y.nul = toldB pr x y
   unfold toldB
   rw [forgot_nul]
   rfl
 rw [e]
 rfl
theorem right_nul (l : List SLog) (x : SLog) : rightK (l.map SLog.nul) x.nul = rightK l x := by
 unfold rightK
 rw [show x.nul.key = x.key from rfl, gone_nul, told_nul, List.foldl_map, List.foldl_map]
 rfl
theorem readsF_nul (l : List SLog) : ∀ (r : List SLog) (i : Nat), readsF (l.map SLog.nul) i (r.map SLog.nul) = readsF l i r
 | [], i => rfl
 | x :: r, i => by
   rw [List.map_cons, readsF, readsF, readsF_nul l r, ← List.map_take, right_nul]
   rfl
theorem reads_nul (l : List SLog) : readsK (l.map SLog.nul) = readsK l := readsF_nul l l 0
theorem reads_like {s l : List SLog} (h : s.map SLog.nul = l.map SLog.nul) : readsK s = readsK l := by rw [← reads_nul s, h, reads_nul]
theorem nul_mem {s l : List SLog} (h : s.map SLog.nul = l.map SLog.nul) {x : SLog} (hx : x ∈ s) : ∃ y ∈ l, y.nul = x.nul := by
 have h2 : x.nul ∈ s.map SLog.nul := List.mem_map_of_mem hx
 rw [h] at h2
 exact List.mem_map.1 h2
theorem logOk_nul (x : SLog) : logOk x.nul = logOk x := rfl
theorem logOk_like {s l : List SLog} (h : s.map SLog.nul = l.map SLog.nul) (hl : l.all logOk = true) : s.all logOk = true := List.all_eq_true.2 fun x hx => by
 obtain ⟨y, hy, e⟩ := nul_mem h hx
 rw [← logOk_nul, ← e, logOk_nul]
 exact List.all_eq_true.1 hl y hy
theorem jrn_ok {s : List SLog} (hk : s.all logOk = true) : ∀ x ∈ s, CartOk x.s.1 ∧ ∀ m ∈ x.c.1.ctx.marks, mayD m = true := fun x hx => by
 obtain ⟨h1, h2, _⟩ := logOk_is (List.all_eq_true.1 hk x hx)
 exact ⟨h1, h2.mayM⟩
theorem jrn_few {w : World} {s : List SLog} (h : LogsRd w s) (hn : s.length ≤ 20000) (hk : ∀ x ∈ s, CartOk x.s.1 ∧ ∀ m ∈ x.c.1.ctx.marks, mayD m = true) : JrnOk w s := ⟨h, by omega, hk, fun i x hx => room_few (by
 rw [List.length_map]
 have h1 := told_len (goneK (s.take i) x.key) (s.take i) x
 have h2 := List.length_take (i := i) (l := s)
 omega)⟩
theorem like_len {s l : List SLog} (h : s.map SLog.nul = l.map SLog.nul) : s.length = l.length := by
 have := congrArg List.length h
 simpa using this
end Go.Fw
namespace Go.Fw
open Go.RowKit
section
variable {P : Program} {n : Nat} {w0 : World} {K : KL} {L : List Chunk} {ty : TypeId} {pos : String} {aft : Array Edge} {gd : Option (Nat × Bool)} {a : Act} {w : World} {Z : Act → World → Prop} {Q : Exit → Act → World → Prop} {d : Nat}
theorem op_stPart {α : Type} {enc : α → List Value} {size t e g cap k i j o m : Nat} {x y : Operand} {l : List α} {vs : List Value} {xo : α} (yn : α) (S : St n w0 K L a w) (he : ∀ x, (enc x).length = size) (hz : Size P t m) (hx : Ev n true K x (.pointer (some ⟨g, o, none⟩))) (hy : Ev n true K y (.agg vs.toArray)) (hv : ∀ v ∈ vs, v.oneCell' = true)
   (hk : L[k]? = some (rowOf e size enc (some ⟨g, 0, none⟩) cap l)) (hi : l[i]? = some xo) (ho : o = i * size + j) (hm : vs.length = m) (hm0 : 0 < m) (hj : j + m ≤ size) (hyn : lay (enc xo) j vs = enc yn)
   (next : ∀ a w, St n w0 K (L.set k (rowOf e size enc (some ⟨g, 0, none⟩) cap (l.set i yn))) a w → Z a w) : Oper.wp P ⟨none, .store t x y, ty, pos, aft, gd⟩ a w Z Q := by
 subst ho
 have hlt : i < l.length := (List.getElem?_eq_some_iff.1 hi).1
 have hle : i * size + j + vs.length ≤ l.length * size := by
   have := Nat.mul_le_mul_right size hlt
   rw [Nat.succ_mul] at this
   omega
 obtain ⟨w', hr, hw⟩ := row_store (P := P) S hk hle (by omega) hv
 have hfl := flat_lay he (x := xo) (y := yn) (j := j) (vs := vs) (by omega) hyn l i hi
 rw [hfl] at hw
 refine run_wp0 (w' := w') ?_ (next _ _ ⟨S.kn, by simpa [rowOf] using hw⟩)
 simp [execOp, hx a rfl S.kn, hy a rfl S.kn, Instr.storeAt, Instr.sureAddr, storeVar, hz w, Value.cells, hm, hr]
end
abbrev S00 : Sls3 := ⟨none, 0, 0, none, 0, 0, none, 0, 0⟩
abbrev Upd0 : Upd := ⟨[], ⟨0, 0, 0⟩, [], 0, 0, Cart.zero⟩
def issL (u : SUpd) : SLog := ⟨1, u.1.dot.node, 0, u, 0, 0, [107], (Cart.zero, S00), (Cart.zero, S00)⟩
def readL (s c : SCart) : SLog := ⟨3, 0, 0, (Upd0, S00), 0, 0, [107], s, c⟩
theorem issL_enc (u : SUpd) : #[Value.int .i64 1, .int .i64 u.1.dot.node, .int .i64 0, .string (bs u.1.key), .int .i64 u.1.dot.node, .int .i64 u.1.dot.life, .int .i64 u.1.dot.count, .string (bs u.1.item), .int .i64 u.1.qty, .int .u64 (u.1.price.toNat : Int), .slice u.2.a1 u.2.n1 u.2.c1, .slice u.2.a2 u.2.n2 u.2.c2, .slice u.2.a3 u.2.n3 u.2.c3, .int .i64 0, .int .i64 0, .string (bs [107]), .slice none 0 0, .slice none 0 0, .slice none 0 0, .slice none 0 0, .slice none 0 0, .slice none 0 0] = (SLog.enc (issL u)).toArray := rfl
theorem readL_enc (s c : SCart) : #[Value.int .i64 3, .int .i64 0, .int .i64 0, .string (bs []), .int .i64 0, .int .i64 0, .int .i64 0, .string (bs []), .int .i64 0, .int .u64 0, .slice none 0 0, .slice none 0 0, .slice none 0 0, .int .i64 0, .int .i64 0, .string (bs [107]), .slice s.2.a1 s.2.n1 s.2.c1, .slice s.2.a2 s.2.n2 s.2.c2, .slice s.2.a3 s.2.n3 s.2.c3, .slice c.2.a1 c.2.n1 c.2.c1, .slice c.2.a2 c.2.n2 c.2.c2, .slice c.2.a3 c.2.n3 c.2.c3] = (SLog.enc (readL s c)).toArray := rfl
theorem gone_iss (us : List SUpd) (key : List UInt8) : goneK (us.map issL) key = [] := by
 unfold goneK
 rw [List.filter_eq_nil_iff]
 intro x hx
 obtain ⟨u, _, rfl⟩ := List.mem_map.1 hx
 show ¬ (decide ((1 : Int) = 5) && decide ((issL u).key = key)) = true
 rw [decide_eq_false (by decide)]
 simp
theorem readsF_iss (l : List SLog) (x : SLog) (hx : x.kind = 3) : ∀ (us : List SUpd) (i : Nat), readsF l i (us.map issL ++ [x]) = if rightK (l.take (i + us.length)) x = true then (0, 0) else (((i + us.length : Nat) : Int), 260)
 | [], i => by
   rw [List.map_nil, List.nil_append, readsF, if_pos hx, readsF]
   rfl
 | u :: r, i => by
   rw [List.map_cons, List.cons_append, readsF, if_neg (by show ¬ (1 : Int) = 3; decide), readsF_iss l x hx r (i + 1), List.length_cons, show i + 1 + r.length = i + (r.length + 1) by omega]
theorem reads_hist {Z : Hst} (hZ : HstOk Z) {us : List SUpd} (hu : us.map (·.1) = Z.up) {c : Cart} (hc : InH Z.up c) (x : SLog) (hk : x.kind = 3) (hx : x.key = [107]) (hxc : x.c.1.ctx = c.ctx) :
   readsK (us.map issL ++ [x]) = if (decide (c = x.c.1) && leqL x.s.1.ctx c.ctx) = true then (0, 0) else ((us.length : Int), 260) := by
 unfold readsK
 rw [readsF_iss _ x hk, Nat.zero_add, List.take_left' (by rw [List.length_map])]
 have e : rightK (us.map issL) x = (decide (c = x.c.1) && leqL x.s.1.ctx c.ctx) := by
   unfold rightK
   rw [hx, gone_iss]
   have e2 : (toldU [] x (us.map issL)).map (·.1) = Z.up.filter fun u => c.ctx.covers u.dot := by
     unfold toldU
     rw [List.map_map, List.filter_map, List.map_map, ← hu, List.filter_map]
     have e3 : List.filter (toldB [] x ∘ issL) us = List.filter ((fun u : Upd => c.ctx.covers u.dot) ∘ (·.1)) us := by
       refine List.filter_congr fun u hu2 => ?_
       have hky := hZ.key u.1 (by rw [← hu]; exact List.mem_map.2 ⟨u, hu2, rfl⟩)
       show (decide ((1 : Int) = 1) && decide (u.1.key = x.key) && (x.c.1.ctx.covers u.1.dot || forgotK [] u.1.dot)) = c.ctx.covers u.1.dot
       rw [hky, hx, hxc]
       simp [forgotK]
     rw [e3]
     rfl
   rw [e2, meant_hist hZ.one (fun u hu v hv => by rw [hZ.key u hu, hZ.key v hv]) hZ.may hc, List.foldl_nil, List.foldl_nil, hxc]
   simp
 rw [e]
theorem leq_in {Z : List Upd} {s c : Cart} (hs : InH Z s) (hc : InH Z c) (h : ∀ x, s.ctx.covers x = true → c.ctx.covers x = true) : leqL s.ctx c.ctx = true := (leq_covers (Xz hs.ok.ctx) (Xz hc.ok.ctx)).2 h
def moreC (c : Cart) : Cart := ⟨match c.ents with | [] => [] | e :: r => { e with qty := e.qty + 1 } :: r, c.ctx⟩
theorem more_ne {c : Cart} (h : c.ents ≠ []) : c ≠ moreC c := by
 intro e
 unfold moreC at e
 cases hc : c.ents with
 | nil => exact h hc
 | cons x r =>
   have h2 := congrArg Cart.ents e
   rw [hc] at h2
   simp only [List.cons.injEq] at h2
   have h3 := congrArg Ent.qty h2.1
   dsimp only at h3
   omega
end Go.Fw
namespace Go.Fw
open Go.RowKit
theorem OutH.hold {w1 w2 : World} {bs bs2 : List Nat} {us : List SUpd} {ms : List SCart} {T : Hst} (h : OutH w1 bs us ms T) (hold : ∀ Y t, CartIn w1 bs Y t → CartIn w2 bs2 Y t) : OutH w2 bs2 us ms T := ⟨h.up, h.st, fun p hp => hold _ _ (h.iu p hp), fun p hp => hold _ _ (h.im p hp)⟩
theorem row_like {α : Type} {enc : α → List Value} {e size cap : Nat} {A : Option Addr} {G : List α} {x y : α} (h : enc x = enc y) : rowOf e size enc A cap (G ++ [x]) = rowOf e size enc A cap (G ++ [y]) := by
 unfold rowOf
 rw [List.flatMap_append, List.flatMap_append, List.length_append, List.length_append, List.flatMap_cons, List.flatMap_cons, h]
 rfl
theorem more_len (c : Cart) : (moreC c).ents.length = c.ents.length := by
 unfold moreC
 cases c.ents <;> rfl
theorem more_at {c : Cart} {e : Ent} {r : List Ent} (h : c.ents = e :: r) : c.ents.set 0 { e with qty := e.qty + 1 } = (moreC c).ents := by
 unfold moreC
 rw [h]
 rfl
theorem logOk_of {x : SLog} (h1 : CartOk x.s.1) (h2 : CartOk x.c.1) (h3 : CartOk x.u.1.seen) : logOk x = true := by
 unfold logOk
 rw [(Wv _).2 h1, (Wv _).2 h2, (Wv _).2 h3]
 rfl
theorem ok_small {l : List SLog} (h : ∀ x ∈ l, logOk x = true) : SmallL l := fun x hx => by
 obtain ⟨h1, h2, h3⟩ := logOk_is (h x hx)
 have k1 := cart_lens h1
 have k2 := cart_lens h2
 have k3 := cart_lens h3
 exact ⟨⟨by omega, by omega, by omega⟩, ⟨by omega, by omega, by omega⟩, by omega, by omega, by omega⟩
end Go.Fw
namespace Go.Proofs.YtakpdbmdfnialaaGreat
open Go.Fw Go.Proofs Go.RowKit Go.Proofs.Tryz
theorem c10 (w0 : World) (v1 v2 : Value) (l : List SSay) (o : List UInt64) (z : UInt64) (h : Sl SSay.enc 5 w0 w0.heap.size v1 l) (hc : SaysRd w0 l) (h2 : Sl encU 1 w0 w0.heap.size v2 o) :
   Calls Tryz.prog 10 #[v1, v2, .int .u64 (z.toNat : Int)] w0 fun e w' => e = .returned (.bool true) ∧ Bel w0.heap.size w0 w' := by
 have hs2 := h2
 obtain ⟨A', cap', rfl, hl', hcap', hA'⟩ := h2
 refine enter3 func10 rfl ntmps10 rfl fun a S => sg S (.ac rfl <| .z) fun a w S => wp_seq_k fun _ hK1 => wp_region_lit (run S (.mv rfl <| .z) fun a w S => Zi (Zr S call40 (.cons (.t rfl) .nil) (c40 _ _ l (.old S.wd h) (fun x hx => .old S.wd (hc x hx))) rfl ?_))
 clear S a w
 rintro _ _ (⟨Z, A, r, us, B, q, ms, w1, bs, hZ, hok, hup, rfl, rfl, hO⟩ | ⟨hZ, rfl, rfl⟩) a w S
 rotate_left
 · refine run S (.mv rfl <| .ex rfl rfl <| .ex rfl rfl <| .ex rfl rfl <| .as rfl <| .as rfl <| .as rfl <| .z) fun a w S => Zb (Za (hK1 _ _ (wp_seq_k fun _ hK1 => sg S (.mv rfl <| .nt rfl <| .mv rfl <| .sk rfl rfl rfl <| .sk rfl rfl rfl <| .yy (Zz (.t rfl) Ev.c) rfl <| .z) fun a w S => Zg S (.t rfl) (sg S (.xx (Zf call38 .nil (fun hp w W => c38 _)) rfl <| .as rfl <| .z) fun a w S => wp_ret (Zd (Zn S (results1 S results10 (Rv.tmp rfl)) ?_))))))
   exact ⟨rfl, S.wd.below⟩
 have hO0 := hO
 obtain ⟨ou, om, oi, oj⟩ := hO
 have hml : Z.st.length = ms.length := by rw [← om, List.length_map]
 have hul : us.length = Z.up.length := by rw [← ou, List.length_map]
 have hlen := hok.len
 refine run S (.mv rfl <| .ex rfl rfl <| .ex rfl rfl <| .ex rfl rfl <| .as rfl <| .as rfl <| .as rfl <| .z) fun a w S => Zb (Za (hK1 _ _ (wp_seq_k fun _ hK1 => sg S (.mv rfl <| .nt rfl <| .mv rfl <| .gx rfl rfl (Zf call38 .nil (fun hp w W => c38 _)) <| .gy rfl rfl (Xi (.t rfl)) <| .yy (Zv (.t rfl) (.t rfl)) rfl <| .z) fun a w S => Ze S (.t rfl) (wp_skip (Za (hK1 _ _ (sg S (.ac rfl <| .z) fun a w S => wp_seq_k fun _ hK1 => sg S (.mv rfl <| .ln underlying72 rfl <| .mc rfl <| .z) fun a w S => wp_block ?_)))))))
 replace S := S.nil_ 96 22 SLog.enc none
 refine Xn S [10, 36] (X := Nat × Option Addr × Nat) (fun q => [(10, true, .slice q.2.1 ((us.take q.1).map issL).length q.2.2), (36, true, .int .i64 (q.1 : Int))])
   (fun p => [rowOf 96 22 SLog.enc p.2.1 p.2.2 ((us.take p.1).map issL), rowOf 77 10 SUpd.enc A r us, rowOf 37 3 SCart.enc B q ms, .ice w1 bs])
   (fun q => q.1 ≤ us.length) (fun q => us.length - q.1) (0, none, 0) (Nat.zero_le _) ?_
 clear S
 rintro ⟨i, J, j⟩ a w hi S
 dsimp only at hi S
 have hul2 : us.length ≤ 21 := by omega
 have hjl : ((us.take i).map issL).length = i := by rw [List.length_map, List.length_take]; omega
 by_cases hlt : i < us.length
 · obtain ⟨u, hu⟩ : ∃ u, us[i]? = some u := ⟨_, List.getElem?_eq_getElem hlt⟩
   have hst : (us.take (i + 1)).map issL = (us.take i).map issL ++ [issL u] := by rw [List.take_add_one, hu, Option.toList_some, List.map_append]; rfl
   obtain ⟨gU, rfl⟩ := S.wd.row_at (k := 1) rfl (by have := (S.wd.room (k := 1) rfl).1; omega)
   have rw_l := issL_enc u
   generalize hG : (us.take i).map issL = G at *
   have halt_d := trivial
   refine sg S (.lt (by omega) rfl rfl <| .z) fun a w S => wp_seq_k fun _ hK2 => Zg S (.t rfl) (wp_skip (Za (hK2 _ _ (wp_seq_k fun _ hK2 => wp_block (sg S (.mv rfl <| .as rfl <| .z) fun a w S => ?_)))))
   clear halt_d
   refine Vz S (by kernel_rfl) [rowOf 77 10 SUpd.enc (some ⟨gU, 0, none⟩) r us, rowOf 37 3 SCart.enc B q ms, .ice w1 bs] ?_
   clear S
   intro a w S
   have hold_r := trivial
   refine hy 0 S rfl (Zj (.t rfl)) rfl fun a w S => hy 1 S rfl (Zj (.t rfl)) rfl fun a w S => hy 2 S rfl (Zj (.t rfl)) rfl fun a w S => hy 3 S rfl (Ym underlying72 sizeOf77 (.t rfl) (.t rfl) (fun _ => by omega)) rfl fun a w S => hy 4 S rfl (Xa (FieldT.mk underlying77 rfl sizeOf74 rfl) (.t rfl)) rfl fun a w S => ?_
   refine hy 5 S rfl (Xa (FieldT.mk underlying74 rfl sizeOf3 rfl) (.t rfl)) rfl fun a w S => hy 6 S rfl (ys_ldW ⟨isAgg3, sizeOf3⟩ (.t rfl) (k := 0) rfl hu (fun _ => rfl) rfl) rfl fun a w S => hy 7 S rfl (Zj (.t rfl)) rfl fun a w S => hy 8 S rfl (Zj (.t rfl)) rfl fun a w S => hy 9 S rfl (Ym underlying72 sizeOf77 (.t rfl) (.t rfl) (fun _ => by omega)) rfl fun a w S => ?_
   refine hy 10 S rfl (Xw ⟨isAgg77, sizeOf77⟩ (.t rfl) (k := 0) rfl hu (fun _ => rfl)) rfl fun a w S => hy 11 S rfl (Yn (ps := [(0, _), (1, Go.Operand.tmp 45), (3, Go.Operand.tmp 49), (5, _)]) (us := [_, _, _, _, _, _, _, _, _, _, _, _, _, _, _, _, _, _, _, _, _, _]) bld96 (.cons Ev.c (.cons (.t rfl) (.cons (.t rfl) (.cons Ev.c .nil)))) rfl) rfl fun a w S => ?_
   rw [rw_l] at S
   (refine h_m (i := 12) rfl (by kernel_rfl) (Yd S underlying84 inf96 rfl rfl rfl (.t rfl) rfl rfl rfl ?_); clear S a w; intro g1 a w S; refine Zw S ?_)
   (refine h_m (i := 13) rfl (by kernel_rfl) (Yv S underlying84 inf96 rfl (k := 1) (j := 0) rfl (.t rfl) (.t rfl) rfl rfl rfl rfl (by first | omega | (simp only [List.length_append, List.length_cons, List.length_nil]; omega)) rfl rfl rfl ?_); clear S a w; intro A1 cap1 a w S; refine Zw S ?_)
   refine hy 14 S rfl (Yb (.t rfl)) rfl fun a w S => Yq (by kernel_rfl) (Zm (Za (hK2 _ _ (wp_region_lit (run S (.ad (by unfold I64; omega) rfl <| .mv rfl <| .z) fun a w S => Zb (Za ?_))))))
   exact ⟨(i + 1, A1, cap1), by dsimp only; omega, by dsimp only; omega, by dsimp only; rw [hst]; exact S.pk⟩
 obtain rfl : i = us.length := by omega
 rw [List.take_length] at S
 have hst0 : 0 < ms.length := by omega
 have hz := Nat.mod_lt z.toNat hst0
 have rw_z : (z.toNat : Int) % (ms.length : Int) = ((z.toNat % ms.length : Nat) : Int) := by rw [Int.natCast_emod]
 generalize z.toNat % ms.length = m at *
 obtain ⟨s, hs⟩ : ∃ s, ms[m]? = some s := ⟨_, List.getElem?_eq_getElem hz⟩
 have hsH := hok.st s.1 (by rw [← om]; exact List.mem_map.2 ⟨s, List.mem_of_getElem? hs, rfl⟩)
 have hsI := oj s (List.mem_of_getElem? hs)
 obtain ⟨gB, rfl⟩ := S.wd.row_at (k := 2) rfl (by have := (S.wd.room (k := 2) rfl).1; omega)
 refine sg S (.ge (by omega) rfl rfl <| .z) fun a w S => wp_seq_k fun _ hK2 => Ze S (.t rfl) (wp_exit (Zh (Zh (Ya (Za (hK1 _ _ (wp_seq_k fun _ hK1 => wp_region_lit (run S (.mv rfl <| .mv rfl <| .mv rfl <| .ln underlying64 rfl <| .yy (ys_cvU underlying3 underlying61 (.t rfl) (fun _ => by omega)) rfl <| .yy (Vd (.t rfl) (.t rfl) (fun _ => by omega)) rfl <| .z) fun a w S => ?_))))))))
 rw [rw_z] at S
 refine run S (.ix underlying64 sizeOf37 (by omega) rfl rfl <| .yy (Xw ⟨isAgg37, sizeOf37⟩ (.t rfl) (k := 2) rfl hs (fun _ => rfl)) rfl <| .z) fun a w S => Zi (Zk S zeroValue37 (cs := _) rfl rfl fun g1 a w S => Zi (Zp S sizeOf37 (.t rfl) (.t rfl) (k := 0) rfl rfl rfl (by simp [Value.oneCell']) fun a w S => Zb (Za (hK1 _ _ (wp_seq_k fun _ hK1 => wp_region_lit (run S (.la gt37 0 rfl rfl rfl <| .z) fun a w S => Zi (Zk S zeroValue37 (cs := _) rfl rfl fun g2 a w S => Zi (Zp S sizeOf37 (.t rfl) (.t rfl) (k := 0) rfl rfl rfl (by simp [Value.oneCell']) fun a w S => Zb (Za (hK1 _ _ (wp_seq_k fun _ hK1 => sg S (.mv rfl <| .ln underlying58 rfl <| .mc rfl <| .z) fun a w S => wp_block ?_)))))))))))
 refine Xn S [65] (X := Nat × (World × List Nat) × SCart) (fun q => [(65, true, .int .i64 (q.1 : Int))])
   (fun p => [.blk g2 (.cells (SCart.enc p.2.2).toArray 37), .blk g1 (.cells (SCart.enc s).toArray 37), rowOf 96 22 SLog.enc J j (us.map issL), rowOf 77 10 SUpd.enc A r us, rowOf 37 3 SCart.enc (some ⟨gB, 0, none⟩) q ms, .ice p.2.1.1 p.2.1.2])
   (fun p => p.1 ≤ o.length ∧ OutH p.2.1.1 p.2.1.2 us ms Z ∧ CartIn p.2.1.1 p.2.1.2 s.1 s.2 ∧ CartIn p.2.1.1 p.2.1.2 p.2.2.1 p.2.2.2 ∧ InH Z.up p.2.2.1 ∧ ∀ x, s.1.ctx.covers x = true → p.2.2.1.ctx.covers x = true) (fun p => o.length - p.1) (0, (w1, bs), s) ⟨Nat.zero_le _, hO0, hsI, hsI, hsH, fun x hx => hx⟩ ?_
 clear S
 rintro ⟨i, ⟨w2, bs2⟩, c⟩ a w ⟨hi2, hO2, hs2I, hcI, hcH, hcov⟩ S
 dsimp only at hi2 hO2 hs2I hcI hcH hcov S
 have hO3 := hO2
 obtain ⟨ou2, om2, oi2, oj2⟩ := hO2
 by_cases hlt2 : i < o.length
 · obtain ⟨gs, os, k, rw_a, hk, hdk, hck⟩ := Yh hA' hlt2
   have hmp : k.toNat % ms.length < ms.length := Nat.mod_lt _ (by omega)
   have rw_r : (k.toNat : Int) % (ms.length : Int) = ((k.toNat % ms.length : Nat) : Int) := by rw [Int.natCast_emod]
   generalize k.toNat % ms.length = m2 at *
   obtain ⟨sc, hsc⟩ : ∃ sc, ms[m2]? = some sc := ⟨_, List.getElem?_eq_getElem hmp⟩
   have hscH := hok.st sc.1 (by rw [← om]; exact List.mem_map.2 ⟨sc, List.mem_of_getElem? hsc, rfl⟩)
   obtain ⟨i1, i2, i3⟩ := oj2 sc (List.mem_of_getElem? hsc)
   obtain ⟨i4, i5, i6⟩ := id hcI
   by_cases hjo : (joinK c.1 sc.1).2 = 0
   · by_cases h20 : 20 < i
     · refine wp_seq_k fun _ hK3 => ?_
       rw [rw_a] at S
       refine rg S (.lt (by omega) rfl rfl <| .z) hK3 fun a w S => wp_seq_k fun _ hK3 => Zg S (.t rfl) (wp_skip (Za (hK3 _ _ (wp_seq_k fun _ hK3 => wp_block (sg S (.mv rfl <| .ix underlying58 sizeOf61 (by omega) rfl rfl <| .yy (Xp ⟨isAgg61, sizeOf61⟩ (.t rfl) (fun _ => hck 0 _ rfl)) rfl <| .as rfl <| .as rfl <| .z) fun a w S => wp_seq_k fun _ hK4 => Ve S (by kernel_rfl) fun a w S => hy 0 S rfl (Yc ⟨isAgg37, sizeOf37⟩ (.t rfl) (k := 0) rfl rfl) rfl fun a w S => hy 1 S rfl (Zj (.t rfl)) rfl fun a w S => hy 2 S rfl (Zj (.t rfl)) rfl fun a w S => ?_)))))
       refine hy 3 S rfl (Zj (.t rfl)) rfl fun a w S => hy 4 S rfl (Wr underlying64 (.t rfl)) rfl fun a w S => hy 5 S rfl (ys_cvU underlying3 underlying61 (.t rfl) (fun _ => by omega)) rfl fun a w S => hy 6 S rfl (Vd (.t rfl) (.t rfl) (fun _ => by omega)) rfl fun a w S => ?_
       rw [rw_r] at S
       refine hy 7 S rfl (Ym underlying64 sizeOf37 (.t rfl) (.t rfl) (fun _ => by omega)) rfl fun a w S => hy 8 S rfl (Xw ⟨isAgg37, sizeOf37⟩ (.t rfl) (k := 4) rfl hsc (fun _ => rfl)) rfl fun a w S => ?_
       refine Xd (i := 9) (j := 13) (by kernel_rfl) rfl rfl ?_ ?_
       (refine Zr S call29 (.cons (.t rfl) (.cons (.t rfl) .nil)) (c29 _ _ _ _ _ _ _ _ _ (by exact SlIn.sl (by assumption) S.wd (k := 5) rfl) (by exact ⟨(by exact SlIn.sl (by assumption) S.wd (k := 5) rfl), (by exact SlIn.sl (by assumption) S.wd (k := 5) rfl)⟩) (by exact SlIn.sl (by assumption) S.wd (k := 5) rfl) (by exact ⟨(by exact SlIn.sl (by assumption) S.wd (k := 5) rfl), (by exact SlIn.sl (by assumption) S.wd (k := 5) rfl)⟩)) rfl ?_; clear S a w; rintro _ _ ⟨A11, r11, A21, r21, A31, r31, rfl, rfl⟩ a w S; refine Zw S ?_)
       refine hy 10 S rfl (Zj (.t rfl)) rfl fun a w S => hy 11 S rfl (Xj (.t rfl) rfl) rfl fun a w S => hy 12 S rfl (Xj (.t rfl) rfl) rfl fun a w S => ?_
       (refine h_m (i := 13) rfl (by kernel_rfl) (Zk S zeroValue37 (cs := _) rfl rfl ?_); clear S a w; intro g3 a w S; refine Zw S ?_)
       (refine Xe (i := 14) rfl (by kernel_rfl) (Zp S sizeOf37 (.t rfl) (.t rfl) (k := 0) rfl rfl rfl (by simp [Value.oneCell']) ?_); clear S a w; intro a w S; refine Zw S ?_)
       refine hy 15 S rfl (Yb (.t rfl)) rfl fun a w S => Yq (by kernel_rfl) (Za (hK4 _ _ (wp_seq_k fun _ hK4 => sg S (.mv rfl <| .yy (Yp (by omega) (Yg (.t rfl) Ev.c)) rfl <| .mv rfl <| .gy rfl rfl (Zj (.t rfl)) <| .gy rfl rfl (Yu (by omega) (Yf (.t rfl) Ev.c)) <| .yy (Zv (.t rfl) (.t rfl)) rfl <| .z) fun a w S => Zg S (.t rfl) (sg S (.ac rfl <| .z) fun a w S => wp_ret (Zd (Zq (Zd (Zd (Zq (Zd (Zn S (results1 S results10 (Rv.tmp rfl)) ?_)))))))))))
       rotate_left
       (refine Zk S zeroValue37 (cs := _) rfl rfl ?_; clear S a w; intro g3 a w S; refine Zw S ?_)
       (refine h_m (i := 9) rfl (by kernel_rfl) (Zr S call29 (.cons (.t rfl) (.cons (.t rfl) .nil)) (c29 _ _ _ _ _ _ _ _ _ (by exact SlIn.sl (by assumption) S.wd (k := 6) rfl) (by exact ⟨(by exact SlIn.sl (by assumption) S.wd (k := 6) rfl), (by exact SlIn.sl (by assumption) S.wd (k := 6) rfl)⟩) (by exact SlIn.sl (by assumption) S.wd (k := 6) rfl) (by exact ⟨(by exact SlIn.sl (by assumption) S.wd (k := 6) rfl), (by exact SlIn.sl (by assumption) S.wd (k := 6) rfl)⟩)) rfl ?_); clear S a w; rintro _ _ ⟨A11, r11, A21, r21, A31, r31, rfl, rfl⟩ a w S; refine Zw S ?_)
       refine hy 10 S rfl (Zj (.t rfl)) rfl fun a w S => hy 11 S rfl (Xj (.t rfl) rfl) rfl fun a w S => hy 12 S rfl (Xj (.t rfl) rfl) rfl fun a w S => ?_
       (refine Xe (i := 14) rfl (by kernel_rfl) (Zp S sizeOf37 (.t rfl) (.t rfl) (k := 3) rfl rfl rfl (by simp [Value.oneCell']) ?_); clear S a w; intro a w S; refine Zw S ?_)
       refine hy 15 S rfl (Yb (.t rfl)) rfl fun a w S => Yq (by kernel_rfl) (Za (hK4 _ _ (wp_seq_k fun _ hK4 => sg S (.mv rfl <| .yy (Yp (by omega) (Yg (.t rfl) Ev.c)) rfl <| .mv rfl <| .gy rfl rfl (Zj (.t rfl)) <| .gy rfl rfl (Yu (by omega) (Yf (.t rfl) Ev.c)) <| .yy (Zv (.t rfl) (.t rfl)) rfl <| .z) fun a w S => Zg S (.t rfl) (sg S (.ac rfl <| .z) fun a w S => wp_ret (Zd (Zq (Zd (Zd (Zq (Zd (Zn S (results1 S results10 (Rv.tmp rfl)) ?_)))))))))))
       rotate_left
       all_goals exact ⟨rfl, S.wd.below⟩
     · refine wp_seq_k fun _ hK3 => ?_
       rw [rw_a] at S
       refine rg S (.lt (by omega) rfl rfl <| .z) hK3 fun a w S => wp_seq_k fun _ hK3 => Zg S (.t rfl) (wp_skip (Za (hK3 _ _ (wp_seq_k fun _ hK3 => wp_block (sg S (.mv rfl <| .ix underlying58 sizeOf61 (by omega) rfl rfl <| .yy (Xp ⟨isAgg61, sizeOf61⟩ (.t rfl) (fun _ => hck 0 _ rfl)) rfl <| .as rfl <| .as rfl <| .z) fun a w S => wp_seq_k fun _ hK4 => Ve S (by kernel_rfl) fun a w S => hy 0 S rfl (Yc ⟨isAgg37, sizeOf37⟩ (.t rfl) (k := 0) rfl rfl) rfl fun a w S => hy 1 S rfl (Zj (.t rfl)) rfl fun a w S => hy 2 S rfl (Zj (.t rfl)) rfl fun a w S => ?_)))))
       refine hy 3 S rfl (Zj (.t rfl)) rfl fun a w S => hy 4 S rfl (Wr underlying64 (.t rfl)) rfl fun a w S => hy 5 S rfl (ys_cvU underlying3 underlying61 (.t rfl) (fun _ => by omega)) rfl fun a w S => hy 6 S rfl (Vd (.t rfl) (.t rfl) (fun _ => by omega)) rfl fun a w S => ?_
       rw [rw_r] at S
       refine hy 7 S rfl (Ym underlying64 sizeOf37 (.t rfl) (.t rfl) (fun _ => by omega)) rfl fun a w S => hy 8 S rfl (Xw ⟨isAgg37, sizeOf37⟩ (.t rfl) (k := 4) rfl hsc (fun _ => rfl)) rfl fun a w S => ?_
       refine Xd (i := 9) (j := 13) (by kernel_rfl) rfl rfl ?_ ?_
       (refine Zr S call29 (.cons (.t rfl) (.cons (.t rfl) .nil)) (c29 _ _ _ _ _ _ _ _ _ (by exact SlIn.sl (by assumption) S.wd (k := 5) rfl) (by exact ⟨(by exact SlIn.sl (by assumption) S.wd (k := 5) rfl), (by exact SlIn.sl (by assumption) S.wd (k := 5) rfl)⟩) (by exact SlIn.sl (by assumption) S.wd (k := 5) rfl) (by exact ⟨(by exact SlIn.sl (by assumption) S.wd (k := 5) rfl), (by exact SlIn.sl (by assumption) S.wd (k := 5) rfl)⟩)) rfl ?_; clear S a w; rintro _ _ ⟨A11, r11, A21, r21, A31, r31, rfl, rfl⟩ a w S; refine Zw S ?_)
       refine hy 10 S rfl (Zj (.t rfl)) rfl fun a w S => hy 11 S rfl (Xj (.t rfl) rfl) rfl fun a w S => hy 12 S rfl (Xj (.t rfl) rfl) rfl fun a w S => ?_
       (refine h_m (i := 13) rfl (by kernel_rfl) (Zk S zeroValue37 (cs := _) rfl rfl ?_); clear S a w; intro g3 a w S; refine Zw S ?_)
       (refine Xe (i := 14) rfl (by kernel_rfl) (Zp S sizeOf37 (.t rfl) (.t rfl) (k := 0) rfl rfl rfl (by simp [Value.oneCell']) ?_); clear S a w; intro a w S; refine Zw S ?_)
       refine hy 15 S rfl (Yb (.t rfl)) rfl fun a w S => Yq (by kernel_rfl) (Za (hK4 _ _ (wp_seq_k fun _ hK4 => sg S (.mv rfl <| .yy (Yp (by omega) (Yg (.t rfl) Ev.c)) rfl <| .mv rfl <| .gy rfl rfl (Zj (.t rfl)) <| .gy rfl rfl (Yp (by omega) (Yf (.t rfl) Ev.c)) <| .yy (Zv (.t rfl) (.t rfl)) rfl <| .z) fun a w S => Ze S (.t rfl) (wp_skip (Za (hK4 _ _ (wp_region_lit (run S (.la gt37 0 rfl rfl rfl <| .z) fun a w S => Zi (Zp S sizeOf37 (.t rfl) (.t rfl) (k := 4) rfl rfl rfl (by simp [Value.oneCell']) fun a w S => Zb (Zm (Za (hK3 _ _ (wp_region_lit (run S (.ad (by unfold I64; omega) rfl <| .mv rfl <| .z) fun a w S => Zb (Za ?_)))))))))))))))
       rotate_left
       (refine Zk S zeroValue37 (cs := _) rfl rfl ?_; clear S a w; intro g3 a w S; refine Zw S ?_)
       (refine h_m (i := 9) rfl (by kernel_rfl) (Zr S call29 (.cons (.t rfl) (.cons (.t rfl) .nil)) (c29 _ _ _ _ _ _ _ _ _ (by exact SlIn.sl (by assumption) S.wd (k := 6) rfl) (by exact ⟨(by exact SlIn.sl (by assumption) S.wd (k := 6) rfl), (by exact SlIn.sl (by assumption) S.wd (k := 6) rfl)⟩) (by exact SlIn.sl (by assumption) S.wd (k := 6) rfl) (by exact ⟨(by exact SlIn.sl (by assumption) S.wd (k := 6) rfl), (by exact SlIn.sl (by assumption) S.wd (k := 6) rfl)⟩)) rfl ?_); clear S a w; rintro _ _ ⟨A11, r11, A21, r21, A31, r31, rfl, rfl⟩ a w S; refine Zw S ?_)
       refine hy 10 S rfl (Zj (.t rfl)) rfl fun a w S => hy 11 S rfl (Xj (.t rfl) rfl) rfl fun a w S => hy 12 S rfl (Xj (.t rfl) rfl) rfl fun a w S => ?_
       (refine Xe (i := 14) rfl (by kernel_rfl) (Zp S sizeOf37 (.t rfl) (.t rfl) (k := 3) rfl rfl rfl (by simp [Value.oneCell']) ?_); clear S a w; intro a w S; refine Zw S ?_)
       refine hy 15 S rfl (Yb (.t rfl)) rfl fun a w S => Yq (by kernel_rfl) (Za (hK4 _ _ (wp_seq_k fun _ hK4 => sg S (.mv rfl <| .yy (Yp (by omega) (Yg (.t rfl) Ev.c)) rfl <| .mv rfl <| .gy rfl rfl (Zj (.t rfl)) <| .gy rfl rfl (Yp (by omega) (Yf (.t rfl) Ev.c)) <| .yy (Zv (.t rfl) (.t rfl)) rfl <| .z) fun a w S => Ze S (.t rfl) (wp_skip (Za (hK4 _ _ (wp_region_lit (run S (.la gt37 3 rfl rfl rfl <| .z) fun a w S => Zi (Zp S sizeOf37 (.t rfl) (.t rfl) (k := 4) rfl rfl rfl (by simp [Value.oneCell']) fun a w S => Zb (Zm (Za (hK3 _ _ (wp_region_lit (run S (.ad (by unfold I64; omega) rfl <| .mv rfl <| .z) fun a w S => Zb (Za ?_)))))))))))))))
       rotate_left
       all_goals
         obtain ⟨bs3, W1, n1, hold⟩ := Vy (X := (joinK c.1 sc.1).1) (S.wd.picks (L' := [rowOf 100 6 Ent.enc A11 r11 (joinK c.1 sc.1).1.ents, rowOf 30 3 Dot.enc A21 r21 (joinK c.1 sc.1).1.ctx.marks, rowOf 74 3 Dot.enc A31 r31 (joinK c.1 sc.1).1.ctx.cloud, .ice w2 bs2, .blk g2 (.cells (SCart.enc ((joinK c.1 sc.1).1, (⟨A11, (joinK c.1 sc.1).1.ents.length, r11, A21, (joinK c.1 sc.1).1.ctx.marks.length, r21, A31, (joinK c.1 sc.1).1.ctx.cloud.length, r31⟩ : Sls3))).toArray 37), .blk g1 (.cells (SCart.enc s).toArray 37), rowOf 96 22 SLog.enc J j (us.map issL), rowOf 77 10 SUpd.enc A r us, rowOf 37 3 SCart.enc (some ⟨gB, 0, none⟩) q ms]) (by repeat (first | exact Picks.nil | (refine Picks.rest ?_; (repeat (first | exact List.Sublist.refl _ | refine List.Sublist.cons_cons _ ?_ | refine List.Sublist.cons _ ?_)); done) | refine Picks.take 0 rfl ?_ | refine Picks.take 1 rfl ?_ | refine Picks.take 2 rfl ?_ | refine Picks.take 3 rfl ?_ | refine Picks.take 4 rfl ?_ | refine Picks.take 5 rfl ?_ | refine Picks.take 6 rfl ?_ | refine Picks.take 7 rfl ?_ | refine Picks.take 8 rfl ?_ | refine Picks.take 9 rfl ?_ | refine Picks.take 10 rfl ?_ | refine Picks.take 11 rfl ?_)))
         replace S := St.mk S.kn W1
         rw [← rw_a] at S
         exact ⟨(i + 1, (w, bs3), ((joinK c.1 sc.1).1, (⟨A11, (joinK c.1 sc.1).1.ents.length, r11, A21, (joinK c.1 sc.1).1.ctx.marks.length, r21, A31, (joinK c.1 sc.1).1.ctx.cloud.length, r31⟩ : Sls3))), ⟨by dsimp only; omega, hO3.hold hold, hold _ _ hs2I, n1, inH_join hcH hscH hjo, fun x hx => (join_cov hcH hscH hjo x).2 (.inl (hcov x hx))⟩, by dsimp only; omega, S.pk⟩
   · have rw_jo : decide ((joinK c.1 sc.1).2 ≠ 0) = true := decide_eq_true hjo
     refine wp_seq_k fun _ hK3 => ?_
     rw [rw_a] at S
     refine rg S (.lt (by omega) rfl rfl <| .z) hK3 fun a w S => wp_seq_k fun _ hK3 => Zg S (.t rfl) (wp_skip (Za (hK3 _ _ (wp_seq_k fun _ hK3 => wp_block (sg S (.mv rfl <| .ix underlying58 sizeOf61 (by omega) rfl rfl <| .yy (Xp ⟨isAgg61, sizeOf61⟩ (.t rfl) (fun _ => hck 0 _ rfl)) rfl <| .as rfl <| .as rfl <| .z) fun a w S => wp_seq_k fun _ hK4 => Ve S (by kernel_rfl) fun a w S => hy 0 S rfl (Yc ⟨isAgg37, sizeOf37⟩ (.t rfl) (k := 0) rfl rfl) rfl fun a w S => hy 1 S rfl (Zj (.t rfl)) rfl fun a w S => hy 2 S rfl (Zj (.t rfl)) rfl fun a w S => ?_)))))
     refine hy 3 S rfl (Zj (.t rfl)) rfl fun a w S => hy 4 S rfl (Wr underlying64 (.t rfl)) rfl fun a w S => hy 5 S rfl (ys_cvU underlying3 underlying61 (.t rfl) (fun _ => by omega)) rfl fun a w S => hy 6 S rfl (Vd (.t rfl) (.t rfl) (fun _ => by omega)) rfl fun a w S => ?_
     rw [rw_r] at S
     refine hy 7 S rfl (Ym underlying64 sizeOf37 (.t rfl) (.t rfl) (fun _ => by omega)) rfl fun a w S => hy 8 S rfl (Xw ⟨isAgg37, sizeOf37⟩ (.t rfl) (k := 4) rfl hsc (fun _ => rfl)) rfl fun a w S => ?_
     refine Xd (i := 9) (j := 13) (by kernel_rfl) rfl rfl ?_ ?_
     (refine Zr S call29 (.cons (.t rfl) (.cons (.t rfl) .nil)) (c29 _ _ _ _ _ _ _ _ _ (by exact SlIn.sl (by assumption) S.wd (k := 5) rfl) (by exact ⟨(by exact SlIn.sl (by assumption) S.wd (k := 5) rfl), (by exact SlIn.sl (by assumption) S.wd (k := 5) rfl)⟩) (by exact SlIn.sl (by assumption) S.wd (k := 5) rfl) (by exact ⟨(by exact SlIn.sl (by assumption) S.wd (k := 5) rfl), (by exact SlIn.sl (by assumption) S.wd (k := 5) rfl)⟩)) rfl ?_; clear S a w; rintro _ _ ⟨A11, r11, A21, r21, A31, r31, rfl, rfl⟩ a w S; refine Zw S ?_)
     refine hy 10 S rfl (Zj (.t rfl)) rfl fun a w S => hy 11 S rfl (Xj (.t rfl) rfl) rfl fun a w S => hy 12 S rfl (Xj (.t rfl) rfl) rfl fun a w S => ?_
     (refine h_m (i := 13) rfl (by kernel_rfl) (Zk S zeroValue37 (cs := _) rfl rfl ?_); clear S a w; intro g3 a w S; refine Zw S ?_)
     (refine Xe (i := 14) rfl (by kernel_rfl) (Zp S sizeOf37 (.t rfl) (.t rfl) (k := 0) rfl rfl rfl (by simp [Value.oneCell']) ?_); clear S a w; intro a w S; refine Zw S ?_)
     refine hy 15 S rfl (Yb (.t rfl)) rfl fun a w S => Yq (by kernel_rfl) (Za (hK4 _ _ (wp_seq_k fun _ hK4 => sg S (.mv rfl <| .yy (Yu (by omega) (Yg (.t rfl) Ev.c)) rfl <| .mv rfl <| .sk rfl rfl rfl <| .sk rfl rfl rfl <| .yy (Zz (.t rfl) Ev.c) rfl <| .z) fun a w S => Zg S (.t rfl) (sg S (.ac rfl <| .z) fun a w S => wp_ret (Zd (Zq (Zd (Zd (Zq (Zd (Zn S (results1 S results10 (Rv.tmp rfl)) ?_)))))))))))
     rotate_left
     (refine Zk S zeroValue37 (cs := _) rfl rfl ?_; clear S a w; intro g3 a w S; refine Zw S ?_)
     (refine h_m (i := 9) rfl (by kernel_rfl) (Zr S call29 (.cons (.t rfl) (.cons (.t rfl) .nil)) (c29 _ _ _ _ _ _ _ _ _ (by exact SlIn.sl (by assumption) S.wd (k := 6) rfl) (by exact ⟨(by exact SlIn.sl (by assumption) S.wd (k := 6) rfl), (by exact SlIn.sl (by assumption) S.wd (k := 6) rfl)⟩) (by exact SlIn.sl (by assumption) S.wd (k := 6) rfl) (by exact ⟨(by exact SlIn.sl (by assumption) S.wd (k := 6) rfl), (by exact SlIn.sl (by assumption) S.wd (k := 6) rfl)⟩)) rfl ?_); clear S a w; rintro _ _ ⟨A11, r11, A21, r21, A31, r31, rfl, rfl⟩ a w S; refine Zw S ?_)
     refine hy 10 S rfl (Zj (.t rfl)) rfl fun a w S => hy 11 S rfl (Xj (.t rfl) rfl) rfl fun a w S => hy 12 S rfl (Xj (.t rfl) rfl) rfl fun a w S => ?_
     (refine Xe (i := 14) rfl (by kernel_rfl) (Zp S sizeOf37 (.t rfl) (.t rfl) (k := 3) rfl rfl rfl (by simp [Value.oneCell']) ?_); clear S a w; intro a w S; refine Zw S ?_)
     refine hy 15 S rfl (Yb (.t rfl)) rfl fun a w S => Yq (by kernel_rfl) (Za (hK4 _ _ (wp_seq_k fun _ hK4 => sg S (.mv rfl <| .yy (Yu (by omega) (Yg (.t rfl) Ev.c)) rfl <| .mv rfl <| .sk rfl rfl rfl <| .sk rfl rfl rfl <| .yy (Zz (.t rfl) Ev.c) rfl <| .z) fun a w S => Zg S (.t rfl) (sg S (.ac rfl <| .z) fun a w S => wp_ret (Zd (Zq (Zd (Zd (Zq (Zd (Zn S (results1 S results10 (Rv.tmp rfl)) ?_)))))))))))
     rotate_left
     all_goals exact ⟨rfl, S.wd.below⟩
 obtain rfl : i = o.length := by omega
 have rw_e := readL_enc s c
 have hGk : ∀ x ∈ us.map issL, logOk x = true := fun x hx => by
   obtain ⟨u, hu, rfl⟩ := List.mem_map.1 hx
   have h1 := hok.seen u.1 (by rw [← ou]; exact List.mem_map.2 ⟨u, hu, rfl⟩)
   exact logOk_of cart_zero cart_zero h1.ok
 have hGr : ∀ {L : List Chunk} {w : World} {k : Nat}, Wd w0 L w → L[k]? = some (.ice w2 bs2) → ∀ x ∈ us.map issL, LogRd w x := fun W hk x hx => by
   obtain ⟨u, hu, rfl⟩ := List.mem_map.1 hx
   exact ⟨(oi2 u hu).rd W hk, ⟨Sl.nil_, Sl.nil_, Sl.nil_⟩, ⟨Sl.nil_, Sl.nil_, Sl.nil_⟩⟩
 have hRk : logOk (readL s c) = true := logOk_of hsH.ok hcH.ok cart_zero
 have hRr : ∀ {L : List Chunk} {w : World} {k : Nat}, Wd w0 L w → L[k]? = some (.ice w2 bs2) → LogRd w (readL s c) := fun W hk => ⟨⟨Sl.nil_, Sl.nil_, Sl.nil_⟩, hs2I.rd W hk, hcI.rd W hk⟩
 have hR1 := reads_hist hok ou hcH (readL s c) rfl rfl rfl
 rw [show (decide (c.1 = (readL s c).c.1) && leqL (readL s c).s.1.ctx c.1.ctx) = true by
   rw [Bool.and_eq_true, decide_eq_true_eq]; exact ⟨rfl, leq_in hsH hcH hcov⟩, if_pos rfl] at hR1
 have hGl : (us.map issL).length = us.length := List.length_map _
 have hR2 := fun t : Sls3 => reads_hist hok ou hcH (readL s (moreC c.1, t)) rfl rfl rfl
 generalize us.map issL = G at *
 refine sg S (.ge (by omega) rfl rfl <| .z) fun a w S => wp_seq_k fun _ hK3 => Ze S (.t rfl) (wp_exit (Zh (Zh (Ya (Za (hK1 _ _ (wp_seq_k fun _ hK1 => wp_region_lit (run S (.mv rfl <| .la gt37 1 rfl rfl rfl <| .la gt37 0 rfl rfl rfl <| .yy (Yn (ps := [(0, _), (5, _), (6, Go.Operand.tmp 92), (7, Go.Operand.tmp 93)]) (us := [_, _, _, _, _, _, _, _, _, _, _, _, _, _, _, _, _, _, _, _, _, _]) bld96 (.cons Ev.c (.cons Ev.c (.cons (.t rfl) (.cons (.t rfl) .nil)))) rfl) rfl <| .z) fun a w S => ?_))))))))
 rw [rw_e] at S
 refine Zi (Yd S underlying84 inf96 rfl rfl rfl (.t rfl) rfl rfl rfl fun g3 a w S => Zi (Yv S underlying84 inf96 rfl (k := 3) (j := 0) rfl (.t rfl) (.t rfl) rfl rfl rfl rfl (by first | omega | (simp only [List.length_append, List.length_cons, List.length_nil]; omega)) rfl rfl rfl fun A1 cap1 a w S => run S (.as rfl <| .z) fun a w S => Zb (Za (hK1 _ _ (wp_seq_k fun _ hK1 => wp_region_lit (run S (.mv rfl <| .z) fun a w S => ?_))))))
 have hJk : ∀ x ∈ G ++ [readL s c], logOk x = true := fun x hx => by
   rcases List.mem_append.1 hx with hx | hx
   · exact hGk x hx
   · rw [List.mem_singleton.1 hx]; exact hRk
 refine Zi (Zr S call43 (.cons (.t rfl) .nil) (c43 _ _ (G ++ [readL s c]) (Sl.of_own S.wd (k := 3) rfl SLog.enc_len) (fun x hx => (by
   rcases List.mem_append.1 hx with hx | hx
   · exact hGr S.wd (k := 6) rfl x hx
   · rw [List.mem_singleton.1 hx]; exact hRr S.wd (k := 6) rfl)) (ok_small hJk) (by rw [List.length_append, List.length_singleton]; omega)) rfl ?_)
 clear S a w
 rintro _ _ ⟨J1, j1, s1, w3, bs3, rfl, rfl, m1, n1⟩ a w S
 have l1 := like_len m1
 rw [List.length_append, List.length_singleton] at l1
 skip
 refine Yk S (Zf call51 (.cons (.t rfl) .nil) (fun _ w' W' => c51 w' _ s1 (Sl.of_own W' (k := 0) rfl SLog.enc_len) (jrn_few (fun x hx => (n1 x hx).rd W' (k := 1) rfl) (by omega) (jrn_ok (logOk_like m1 (List.all_eq_true.2 hJk)))))) rfl ?_
 clear S a w
 intro a w S
 rw [reads_like m1, hR1] at S
 obtain ⟨i4, i5, i6⟩ := id hcI
 have hn1 : c.2.n1 = c.1.ents.length := Sl.len_is (i4.sl S.wd (k := 8) rfl)
 have rw_n1 : ((c.2.n1 : Nat) : Int) = (c.1.ents.length : Int) := by rw [hn1]
 have hGL : (G ++ [readL s c]).length = G.length + 1 := by rw [List.length_append, List.length_singleton]
 have rw_w : IntKind.i64.wrap (((G ++ [readL s c]).length : Int) - 1) = ((G.length : Nat) : Int) := by rw [hGL, IntKind.wrap_i64]; omega
 have rw_w1 : (((G ++ [readL s c]).length : Int) - 1) = ((G.length : Nat) : Int) := by rw [hGL]; omega
 cases hce : c.1.ents with
 | nil =>
   have rw_n : ((c.1.ents.length : Nat) : Int) = 0 := by rw [hce]; rfl
   refine run S (.mv rfl <| .ex rfl rfl <| .ex rfl rfl <| .as rfl <| .as rfl <| .z) fun a w S => Zb (Za (hK1 _ _ (wp_seq_k fun _ hK1 => sg S (.mv rfl <| .yy (Yp (by omega) (Yg (.t rfl) Ev.c)) rfl <| .z) fun a w S => Ze S (.t rfl) (wp_skip (Za (hK1 _ _ (wp_seq_k fun _ hK1 => wp_seq_k fun _ hK4 => wp_region_lit (run S (.fa underlying37 sizeOf31 0 rfl rfl rfl <| .ld gt31 3 rfl rfl rfl <| .ln underlying31 rfl <| .z) fun a w S => ?_))))))))
   rw [rw_n1] at S
   rw [rw_n] at S
   refine run S (.yy (Yu (by omega) (Yj (.t rfl) Ev.c)) rfl <| .z) fun a w S => Zb (Za (hK4 _ _ (Zg S (.t rfl) (sg S (.ac rfl <| .z) fun a w S => wp_ret (Zd (Zn S (results1 S results10 (Rv.tmp rfl)) ?_))))))
   exact ⟨rfl, S.wd.below⟩
 | cons e0 er =>
   have hcl := cart_lens hcH.ok
   have hc0 : 0 < c.1.ents.length := by rw [hce, List.length_cons]; omega
   obtain ⟨gJ, rfl⟩ := S.wd.row_at (k := 5) rfl (by have := (S.wd.room (k := 5) rfl).1; omega)
   refine run S (.mv rfl <| .ex rfl rfl <| .ex rfl rfl <| .as rfl <| .as rfl <| .z) fun a w S => Zb (Za (hK1 _ _ (wp_seq_k fun _ hK1 => sg S (.mv rfl <| .yy (Yp (by omega) (Yg (.t rfl) Ev.c)) rfl <| .z) fun a w S => Ze S (.t rfl) (wp_skip (Za (hK1 _ _ (wp_seq_k fun _ hK1 => wp_seq_k fun _ hK4 => wp_region_lit (run S (.fa underlying37 sizeOf31 0 rfl rfl rfl <| .ld gt31 3 rfl rfl rfl <| .ln underlying31 rfl <| .z) fun a w S => ?_))))))))
   rw [rw_n1] at S
   refine run S (.yy (Yp (by omega) (Yj (.t rfl) Ev.c)) rfl <| .z) fun a w S => Zb (Za (hK4 _ _ (Ze S (.t rfl) (wp_skip (Za (hK1 _ _ (wp_seq_k fun _ hK1 => wp_region_lit (run S (.mv rfl <| .mv rfl <| .ln underlying84 rfl <| .yy (Xg (.t rfl) Ev.c (fun _ => by unfold I64; omega)) rfl <| .z) fun a w S => ?_))))))))
   rw [rw_w1] at S
   refine run S (.la gt37 3 rfl rfl rfl <| .z) fun a w S => ?_
   (refine Zi (Zr S call16 (.cons (.t rfl) .nil) (c16 _ _ _ _ _ (by exact SlIn.sl (by assumption) S.wd (k := 8) rfl) (by exact ⟨(by exact SlIn.sl (by assumption) S.wd (k := 8) rfl), (by exact SlIn.sl (by assumption) S.wd (k := 8) rfl)⟩) (by omega) (by omega) (by omega)) rfl ?_); clear S a w; rintro _ _ ⟨A11, r11, A21, r21, A31, r31, rfl, rfl⟩ a w S)
   simp only [List.nil_append] at S
   refine run S (.ix underlying84 sizeOf96 (by omega) rfl rfl <| .yy (Xa (FieldT.mk underlying96 rfl sizeOf37 rfl) (.t rfl)) rfl <| .z) fun a w S => ?_
   obtain ⟨t, ht⟩ : ∃ t : Sls3, (⟨A11, c.1.ents.length, r11, A21, c.1.ctx.marks.length, r21, A31, c.1.ctx.cloud.length, r31⟩ : Sls3) = t := ⟨_, rfl⟩
   refine Zi (op_stPart (enc := SLog.enc) (size := 22) (i := G.length) (j := 19) (m := 3) (vs := [.slice A11 c.1.ents.length r11, .slice A21 c.1.ctx.marks.length r21, .slice A31 c.1.ctx.cloud.length r31]) (xo := readL s c) (readL s (c.1, t)) S SLog.enc_len sizeOf37 (.t rfl) (.t rfl) (fun v hv => by
     simp only [List.mem_cons, List.not_mem_nil, or_false] at hv
     rcases hv with rfl | rfl | rfl <;> rfl) (k := 8) rfl (by simp) (by omega) rfl (by decide) (by decide) (by rw [← ht]; rfl) ?_)
   clear S a w
   intro a w S
   have hset : (G ++ [readL s c]).set G.length (readL s (c.1, t)) = G ++ [readL s (c.1, t)] := by simp
   rw [hset] at S
   have hGL2 : (G ++ [readL s (c.1, t)]).length = (G ++ [readL s c]).length := by simp
   rw [← hGL2] at S
   have rw_w2 : IntKind.i64.wrap (((G ++ [readL s (c.1, t)]).length : Int) - 1) = ((G.length : Nat) : Int) := by rw [hGL2]; exact rw_w
   have rw_w3 : (((G ++ [readL s (c.1, t)]).length : Int) - 1) = ((G.length : Nat) : Int) := by rw [hGL2]; exact rw_w1
   have hy : (G ++ [readL s (c.1, t)])[G.length]? = some (readL s (c.1, t)) := by simp
   have he0 : c.1.ents[0]? = some e0 := by rw [hce]; rfl
   have he0k := (hcH.ok.each e0 (by rw [hce]; simp)).qty
   have rw_q : IntKind.i64.wrap (e0.qty + 1) = e0.qty + 1 := by rw [IntKind.wrap_i64]; omega
   obtain ⟨gE, rfl⟩ := S.wd.row_at (k := 0) rfl (by have := (S.wd.room (k := 0) rfl).1; omega)
   have rw_t1 : (readL s (c.1, t)).c.2.a1 = some ⟨gE, 0, none⟩ := by rw [← ht]; rfl
   have rw_t2 : (readL s (c.1, t)).c.2.n1 = c.1.ents.length := by rw [← ht]; rfl
   have rw_t3 : (readL s (c.1, t)).c.2.c1 = r11 := by rw [← ht]; rfl
   refine Zb (Za (hK1 _ _ (wp_seq_k fun _ hK1 => wp_region_lit (run S (.mv rfl <| .mv rfl <| .ln underlying84 rfl <| .yy (Xg (.t rfl) Ev.c (fun _ => by unfold I64; omega)) rfl <| .z) fun a w S => ?_))))
   rw [rw_w3] at S
   refine run S (.ix underlying84 sizeOf96 (by omega) rfl rfl <| .yy (Xa (FieldT.mk underlying96 rfl sizeOf37 rfl) (.t rfl)) rfl <| .yy (Xa (FieldT.mk underlying37 rfl sizeOf31 rfl) (.t rfl)) rfl <| .yy (ys_ldW ⟨isAgg31, sizeOf31⟩ (.t rfl) (k := 8) rfl hy (fun _ => rfl) rfl) rfl <| .z) fun a w S => ?_
   rw [rw_t1] at S
   rw [rw_t2] at S
   rw [rw_t3] at S
   refine run S (.yy (Ym (j := 0) underlying31 sizeOf100 (.t rfl) Ev.c (fun _ => by omega)) rfl <| .yy (Xa (FieldT.mk underlying100 rfl sizeOf3 rfl) (.t rfl)) rfl <| .yy (ys_ldW ⟨isAgg3, sizeOf3⟩ (.t rfl) (k := 0) rfl he0 (fun _ => rfl) rfl) rfl <| .ad (by unfold I64; omega) rfl <| .yy (Ym (j := 0) underlying31 sizeOf100 (.t rfl) Ev.c (fun _ => by omega)) rfl <| .yy (Xa (FieldT.mk underlying100 rfl sizeOf3 rfl) (.t rfl)) rfl <| .z) fun a w S => Zi (op_stFld (enc := Ent.enc) (size := 6) (i := 0) (j := 4) (xo := e0) (v := .int .i64 (e0.qty + 1)) { e0 with qty := e0.qty + 1 } S (fun _ => rfl) sizeOf3 (.t rfl) (.t rfl) rfl (k := 0) rfl he0 rfl (by decide) rfl ?_)
   clear S a w
   intro a w S
   rw [more_at hce] at S
   have hrl : rowOf 96 22 SLog.enc (some ⟨gJ, 0, none⟩) cap1 (G ++ [readL s (c.1, t)]) = rowOf 96 22 SLog.enc (some ⟨gJ, 0, none⟩) cap1 (G ++ [readL s (moreC c.1, t)]) := row_like rfl
   have hGL3 : (G ++ [readL s (c.1, t)]).length = (G ++ [readL s (moreC c.1, t)]).length := by simp
   rw [hGL3] at S
   replace S := St.mk S.kn (S.wd.picks (L' := [rowOf 100 6 Ent.enc (some ⟨gE, 0, none⟩) r11 (moreC c.1).ents, rowOf 30 3 Dot.enc A21 r21 c.1.ctx.marks, rowOf 74 3 Dot.enc A31 r31 c.1.ctx.cloud, rowOf 96 22 SLog.enc (some ⟨gJ, 0, none⟩) cap1 (G ++ [readL s (c.1, t)]), .ice w2 bs2]) (by repeat (first | exact Picks.nil | (refine Picks.rest ?_; (repeat (first | exact List.Sublist.refl _ | refine List.Sublist.cons_cons _ ?_ | refine List.Sublist.cons _ ?_)); done) | refine Picks.take 0 rfl ?_ | refine Picks.take 1 rfl ?_ | refine Picks.take 2 rfl ?_ | refine Picks.take 3 rfl ?_ | refine Picks.take 4 rfl ?_ | refine Picks.take 5 rfl ?_ | refine Picks.take 6 rfl ?_ | refine Picks.take 7 rfl ?_ | refine Picks.take 8 rfl ?_ | refine Picks.take 9 rfl ?_ | refine Picks.take 10 rfl ?_ | refine Picks.take 11 rfl ?_)))
   rw [hrl] at S
   have rw_w4 : IntKind.i64.wrap (((G ++ [readL s (moreC c.1, t)]).length : Int) - 1) = ((G.length : Nat) : Int) := by rw [← hGL3]; exact rw_w2
   have rw_w5 : (((G ++ [readL s (moreC c.1, t)]).length : Int) - 1) = ((G.length : Nat) : Int) := by rw [← hGL3]; exact rw_w3
   have hr3 := hR2 t
   have hne : decide (c.1 = (moreC c.1)) = false := decide_eq_false (more_ne (by rw [hce]; simp))
   rw [show (decide (c.1 = (readL s (moreC c.1, t)).c.1) && leqL (readL s (moreC c.1, t)).s.1.ctx c.1.ctx) = false by
     rw [show (readL s (moreC c.1, t)).c.1 = moreC c.1 from rfl, hne]; rfl, if_neg (by decide)] at hr3
   have hml1 := more_len c.1
   refine Zb (Za (hK1 _ _ (wp_seq_k fun _ hK1 => wp_region_lit (run S (.mv rfl <| .z) fun a w S => ?_))))
   have hcr : CartRd w (moreC c.1) t := by
     rw [← ht]
     refine ⟨?_, Sl.of_own S.wd (k := 1) rfl (fun _ => rfl), Sl.of_own S.wd (k := 2) rfl (fun _ => rfl)⟩
     have := Sl.of_own S.wd (k := 0) (enc := Ent.enc) (l := (moreC c.1).ents) rfl (fun _ => rfl)
     rw [hml1] at this
     exact this
   refine Zi (Zr S call43 (.cons (.t rfl) .nil) (c43 _ _ (G ++ [readL s (moreC c.1, t)]) (Sl.of_own S.wd (k := 3) rfl SLog.enc_len) (fun x hx => (by
     rcases List.mem_append.1 hx with hx | hx
     · exact hGr S.wd (k := 4) rfl x hx
     · rw [List.mem_singleton.1 hx]; exact ⟨(hRr S.wd (k := 4) rfl).u, (hRr S.wd (k := 4) rfl).s, hcr⟩)) (fun x hx => (by
     rcases List.mem_append.1 hx with hx | hx
     · exact ok_small hGk x hx
     · rw [List.mem_singleton.1 hx]
       obtain ⟨k1, k2, k3⟩ := ok_small hJk (readL s c) (by simp)
       exact ⟨k1, k2, by rw [show (readL s (moreC c.1, t)).c.1 = moreC c.1 from rfl]; unfold lenC3; rw [hml1]; exact k3⟩)) (by rw [List.length_append, List.length_singleton]; omega)) rfl ?_)
   clear hcr S a w
   rintro _ _ ⟨J2, j2, s2, w4, bs4, rfl, rfl, m2, n2⟩ a w S
   have l2 := like_len m2
   rw [List.length_append, List.length_singleton] at l2
   skip
   refine Yk S (Zf call51 (.cons (.t rfl) .nil) (fun _ w' W' => c51 w' _ s2 (Sl.of_own W' (k := 0) rfl SLog.enc_len) (jrn_few (fun x hx => (n2 x hx).rd W' (k := 1) rfl) (by omega) (fun x hx => (by
     obtain ⟨y, hy, e⟩ := nul_mem m2 hx
     have e1 : x.s.1 = y.s.1 := by rw [show x.s.1 = x.nul.s.1 from rfl, ← e]; rfl
     have e2 : x.c.1 = y.c.1 := by rw [show x.c.1 = x.nul.c.1 from rfl, ← e]; rfl
     rw [e1, e2]
     rcases List.mem_append.1 hy with hy | hy
     · exact jrn_ok (List.all_eq_true.2 hGk) y hy
     · rw [List.mem_singleton.1 hy]; exact ⟨hsH.ok, hcH.ok.mayM⟩))))) rfl ?_
   clear S a w
   intro a w S
   rw [reads_like m2, hr3] at S
   refine run S (.mv rfl <| .ex rfl rfl <| .ex rfl rfl <| .as rfl <| .as rfl <| .z) fun a w S => Zb (Za (hK1 _ _ (wp_seq_k fun _ hK1 => wp_region_lit (run S (.mv rfl <| .mv rfl <| .ln underlying84 rfl <| .yy (Xg (.t rfl) Ev.c (fun _ => by unfold I64; omega)) rfl <| .z) fun a w S => ?_))))
   rw [rw_w5] at S
   refine run S (.yy (Yu (by omega) (Yj (.t rfl) (.t rfl))) rfl <| .mv rfl <| .gy rfl rfl (Zj (.t rfl)) <| .gy rfl rfl (Yu (by omega) (Yj (.t rfl) Ev.c)) <| .yy (Zz (.t rfl) (.t rfl)) rfl <| .as rfl <| .z) fun a w S => Zb (Za (hK1 _ _ (wp_ret (Zn S (results1 S results10 (Rv.tmp rfl)) ?_))))
   exact ⟨rfl, S.wd.below⟩
end Go.Proofs.YtakpdbmdfnialaaGreat
