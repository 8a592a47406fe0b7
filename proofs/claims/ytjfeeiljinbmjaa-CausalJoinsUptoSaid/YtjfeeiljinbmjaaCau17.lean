/- Layer 3: the law on joins, walked. -/
import Derived.Test.YtjfeeiljinbmjaaCau16
import Derived.Test.YtjfeeiljinbmjaaRow2
import Derived.Test.YtjfeeiljinbmjaaMore6
set_option linter.unusedVariables false
set_option linter.unusedSimpArgs false
set_option maxRecDepth 100000
set_option maxHeartbeats 20000000
namespace Go.Proofs.Ytjfeeiljinbmjaa
open Go.Fw Go.Proofs Go.RowKit

theorem joinL_len (A B : Ctx) : (joinL A B).1.marks.length ≤ 64 ∧ (joinL A B).1.cloud.length ≤ 64 := by
  unfold joinL
  split
  · simp
  · exact ⟨(normalL_facts _ _).2.2.1, (normalL_facts _ _).2.2.2⟩

theorem c12 (w0 : World) (v1 v2 v3 v4 : Value) (A B : Ctx) (x y z : Int) (h : RdCtx w0 w0.heap.size v1 v2 A) (h' : RdCtx w0 w0.heap.size v3 v4 B)
    (n1 : A.marks.length ≤ 1048576) (n2 : A.cloud.length ≤ 1048576) (n3 : B.marks.length ≤ 1048576) (n4 : B.cloud.length ≤ 1048576) :
    Calls Try.prog 12 #[.agg #[v1, v2], .agg #[v3, v4], .agg #[.int .i64 x, .int .i64 y, .int .i64 z]] w0 fun e w' => e = .returned (.bool true) ∧ Bel w0.heap.size w0 w' := by
  obtain ⟨g1, g2⟩ := id h
  obtain ⟨g3, g4⟩ := id h'
  obtain ⟨J, e1, rw_j⟩ : ∃ J e, joinL A B = (J, e) := ⟨_, _, rfl⟩
  obtain ⟨M, e2, rw_m⟩ : ∃ J e, addL A ⟨x, y, z⟩ = (J, e) := ⟨_, _, rfl⟩
  have hJ := joinL_len A B
  rw [rw_j] at hJ
  dsimp only at hJ
  have rw_eA : (⟨A.marks, A.cloud⟩ : Ctx) = A := rfl
  have rw_eB : (⟨B.marks, B.cloud⟩ : Ctx) = B := rfl
  have rw_s : ∀ C : Ctx, decide (C = C) = true := fun C => decide_eq_true rfl
  have rw_s2 : ∀ (i : Int) (C : Ctx), decide (i = i ∧ C = C) = true := fun i C => decide_eq_true ⟨rfl, rfl⟩
  refine enter3 Try.func12 rfl Try.ntmps12 rfl fun a S => ?_
  refine wp_seq_k fun _ hK1 => ?_
  refine wp_region_lit ?_
  (refine st_m (op_box S (Ev.t rfl) rfl ?_); clear S a; intro g5 a w S)
  (refine st_m (op_box S (Ev.t rfl) rfl ?_); clear S a w; intro g6 a w S)
  (refine st_m (op_box S (Ev.t rfl) rfl ?_); clear S a w; intro g7 a w S)
  (refine st_y S (Yr.ys (ys_assign Ev.c)) rfl ?_; clear S a w; intro a w S)
  refine st_nil ?_
  (refine (then_normal (hK1 _ _ ?_)); clear hK1)
  refine wp_seq_k fun _ hK1 => ?_
  refine Code.wp_mono (Q := fun e a w => match e with
    | .normal => ∃ ga gb A1 c1 A2 c2 A3 c3 A4 c4, St 120 w0 [(8, true, .pointer (some ⟨gb, 0, none⟩)), (7, true, .pointer (some ⟨ga, 0, none⟩)), (6, true, .bool false), (5, true, .pointer (some ⟨g7, 0, none⟩)), (4, true, .pointer (some ⟨g6, 0, none⟩)), (3, true, .pointer (some ⟨g5, 0, none⟩))]
        [.blk ga (.cells #[.slice A1 A.marks.length c1, .slice A2 A.cloud.length c2] 36), .blk gb (.cells #[.slice A3 B.marks.length c3, .slice A4 B.cloud.length c4] 36), rowOf 43 3 Dot.enc A1 c1 A.marks, rowOf 32 3 Dot.enc A2 c2 A.cloud, rowOf 43 3 Dot.enc A3 c3 B.marks, rowOf 32 3 Dot.enc A4 c4 B.cloud,
         .blk g7 (.cells #[.int .i64 x, .int .i64 y, .int .i64 z] 32), .blk g6 (.cells #[v3, v4] 36), .blk g5 (.cells #[v1, v2] 36)] a w
    | _ => False) (fun e a w q => ?_) ?_
  rotate_left
  · (refine h_begin0 S (by kernel_rfl) ?_; clear S a w; intro a w S)
    (refine h_y (i := 0) S (by repeat (first | exact List.Sublist.refl _ | exact List.nil_sublist _ | refine .cons_cons _ ?_ | refine .cons _ ?_)) rfl (by kernel_rfl) (by kernel_rfl) (by kernel_rfl) (fun _ _ _ _ h => h) (ys_ldA ⟨Try.isAgg36, Try.sizeOf36⟩ (Ev.t rfl) (k := 2) rfl rfl) rfl ?_; clear S a w; intro a w S)
    (refine h_y (i := 2) S (by repeat (first | exact List.Sublist.refl _ | exact List.nil_sublist _ | refine .cons_cons _ ?_ | refine .cons _ ?_)) rfl (by kernel_rfl) (by kernel_rfl) (by kernel_rfl) (fun _ _ _ _ h => h) (ys_ldA ⟨Try.isAgg36, Try.sizeOf36⟩ (Ev.t rfl) (k := 1) rfl rfl) rfl ?_; clear S a w; intro a w S)
    refine h_split3 (i := 1) (j := 4) (k := 5) (by kernel_rfl) rfl rfl rfl ?_ ?_ ?_
    (refine op_calls S Try.call40 (EvL.cons (Ev.t rfl) EvL.nil) (c40 _ _ _ _ (by exact .old S.wd (by assumption)) (by assumption) (by assumption)) rfl ?_; clear S a w; rintro _ _ ⟨A11, c11, A21, c29, rfl, rfl⟩ a w S; refine h_on S _ (List.Sublist.refl _) (by repeat (first | exact List.Sublist.refl _ | exact List.nil_sublist _ | refine .cons_cons _ ?_ | refine .cons _ ?_)) ?_)
    refine h_split3 (i := 3) (j := 4) (k := 5) (by kernel_rfl) rfl rfl rfl ?_ ?_ ?_
    (refine op_calls S Try.call40 (EvL.cons (Ev.t rfl) EvL.nil) (c40 _ _ _ _ (by exact .old S.wd (by assumption)) (by assumption) (by assumption)) rfl ?_; clear S a w; rintro _ _ ⟨A12, c13, A22, c210, rfl, rfl⟩ a w S; refine h_on S _ (List.Sublist.refl _) (by repeat (first | exact List.Sublist.refl _ | exact List.nil_sublist _ | refine .cons_cons _ ?_ | refine .cons _ ?_)) ?_)
    refine h_split (i := 4) (j := 5) (by kernel_rfl) rfl rfl ?_ ?_
    (refine op_alloc S Try.zeroValue36 (cs := _) rfl rfl ?_; clear S a w; intro g8 a w S; refine h_on S _ (List.Sublist.refl _) (by repeat (first | exact List.Sublist.refl _ | exact List.nil_sublist _ | refine .cons_cons _ ?_ | refine .cons _ ?_)) ?_)
    (refine h_m (i := 5) rfl (by kernel_rfl) (op_alloc S Try.zeroValue36 (cs := _) rfl rfl ?_); clear S a w; intro g9 a w S; refine h_on S _ (List.Sublist.refl _) (by repeat (first | exact List.Sublist.refl _ | exact List.nil_sublist _ | refine .cons_cons _ ?_ | refine .cons _ ?_)) ?_)
    (refine h_m0 (i := 6) rfl (by kernel_rfl) (op_stW S Try.sizeOf36 (Ev.t rfl) (Ev.t rfl) (k := 1) rfl rfl rfl (by simp [Value.oneCell']) ?_); clear S a w; intro a w S; refine h_on S _ (List.Sublist.refl _) (by repeat (first | exact List.Sublist.refl _ | exact List.nil_sublist _ | refine .cons_cons _ ?_ | refine .cons _ ?_)) ?_)
    (refine h_m0 (i := 7) rfl (by kernel_rfl) (op_stW S Try.sizeOf36 (Ev.t rfl) (Ev.t rfl) (k := 0) rfl rfl rfl (by simp [Value.oneCell']) ?_); clear S a w; intro a w S; refine h_on S _ (List.Sublist.refl _) (by repeat (first | exact List.Sublist.refl _ | exact List.nil_sublist _ | refine .cons_cons _ ?_ | refine .cons _ ?_)) ?_)
    refine h_done (by kernel_rfl) ?_
    rotate_left
    (refine op_alloc S Try.zeroValue36 (cs := _) rfl rfl ?_; clear S a w; intro g8 a w S; refine h_on S _ (List.Sublist.refl _) (by repeat (first | exact List.Sublist.refl _ | exact List.nil_sublist _ | refine .cons_cons _ ?_ | refine .cons _ ?_)) ?_)
    (refine h_m (i := 4) rfl (by kernel_rfl) (op_alloc S Try.zeroValue36 (cs := _) rfl rfl ?_); clear S a w; intro g9 a w S; refine h_on S _ (List.Sublist.refl _) (by repeat (first | exact List.Sublist.refl _ | exact List.nil_sublist _ | refine .cons_cons _ ?_ | refine .cons _ ?_)) ?_)
    (refine h_m0 (i := 6) rfl (by kernel_rfl) (op_stW S Try.sizeOf36 (Ev.t rfl) (Ev.t rfl) (k := 0) rfl rfl rfl (by simp [Value.oneCell']) ?_); clear S a w; intro a w S; refine h_on S _ (List.Sublist.refl _) (by repeat (first | exact List.Sublist.refl _ | exact List.nil_sublist _ | refine .cons_cons _ ?_ | refine .cons _ ?_)) ?_)
    (refine h_m0 (i := 7) rfl (by kernel_rfl) (op_stW S Try.sizeOf36 (Ev.t rfl) (Ev.t rfl) (k := 1) rfl rfl rfl (by simp [Value.oneCell']) ?_); clear S a w; intro a w S; refine h_on S _ (List.Sublist.refl _) (by repeat (first | exact List.Sublist.refl _ | exact List.nil_sublist _ | refine .cons_cons _ ?_ | refine .cons _ ?_)) ?_)
    refine h_done (by kernel_rfl) ?_
    rotate_left
    (refine op_alloc S Try.zeroValue36 (cs := _) rfl rfl ?_; clear S a w; intro g8 a w S; refine h_on S _ (List.Sublist.refl _) (by repeat (first | exact List.Sublist.refl _ | exact List.nil_sublist _ | refine .cons_cons _ ?_ | refine .cons _ ?_)) ?_)
    refine h_split (i := 3) (j := 5) (by kernel_rfl) rfl rfl ?_ ?_
    (refine op_calls S Try.call40 (EvL.cons (Ev.t rfl) EvL.nil) (c40 _ _ _ _ (by exact .old S.wd (by assumption)) (by assumption) (by assumption)) rfl ?_; clear S a w; rintro _ _ ⟨A12, c13, A22, c210, rfl, rfl⟩ a w S; refine h_on S _ (List.Sublist.refl _) (by repeat (first | exact List.Sublist.refl _ | exact List.nil_sublist _ | refine .cons_cons _ ?_ | refine .cons _ ?_)) ?_)
    (refine h_m (i := 5) rfl (by kernel_rfl) (op_alloc S Try.zeroValue36 (cs := _) rfl rfl ?_); clear S a w; intro g9 a w S; refine h_on S _ (List.Sublist.refl _) (by repeat (first | exact List.Sublist.refl _ | exact List.nil_sublist _ | refine .cons_cons _ ?_ | refine .cons _ ?_)) ?_)
    (refine h_m0 (i := 6) rfl (by kernel_rfl) (op_stW S Try.sizeOf36 (Ev.t rfl) (Ev.t rfl) (k := 3) rfl rfl rfl (by simp [Value.oneCell']) ?_); clear S a w; intro a w S; refine h_on S _ (List.Sublist.refl _) (by repeat (first | exact List.Sublist.refl _ | exact List.nil_sublist _ | refine .cons_cons _ ?_ | refine .cons _ ?_)) ?_)
    (refine h_m0 (i := 7) rfl (by kernel_rfl) (op_stW S Try.sizeOf36 (Ev.t rfl) (Ev.t rfl) (k := 0) rfl rfl rfl (by simp [Value.oneCell']) ?_); clear S a w; intro a w S; refine h_on S _ (List.Sublist.refl _) (by repeat (first | exact List.Sublist.refl _ | exact List.nil_sublist _ | refine .cons_cons _ ?_ | refine .cons _ ?_)) ?_)
    refine h_done (by kernel_rfl) ?_
    rotate_left
    (refine op_alloc S Try.zeroValue36 (cs := _) rfl rfl ?_; clear S a w; intro g9 a w S; refine h_on S _ (List.Sublist.refl _) (by repeat (first | exact List.Sublist.refl _ | exact List.nil_sublist _ | refine .cons_cons _ ?_ | refine .cons _ ?_)) ?_)
    (refine h_m (i := 3) rfl (by kernel_rfl) (op_calls S Try.call40 (EvL.cons (Ev.t rfl) EvL.nil) (c40 _ _ _ _ (by exact .old S.wd (by assumption)) (by assumption) (by assumption)) rfl ?_); clear S a w; rintro _ _ ⟨A12, c13, A22, c210, rfl, rfl⟩ a w S; refine h_on S _ (List.Sublist.refl _) (by repeat (first | exact List.Sublist.refl _ | exact List.nil_sublist _ | refine .cons_cons _ ?_ | refine .cons _ ?_)) ?_)
    (refine h_m0 (i := 6) rfl (by kernel_rfl) (op_stW S Try.sizeOf36 (Ev.t rfl) (Ev.t rfl) (k := 3) rfl rfl rfl (by simp [Value.oneCell']) ?_); clear S a w; intro a w S; refine h_on S _ (List.Sublist.refl _) (by repeat (first | exact List.Sublist.refl _ | exact List.nil_sublist _ | refine .cons_cons _ ?_ | refine .cons _ ?_)) ?_)
    (refine h_m0 (i := 7) rfl (by kernel_rfl) (op_stW S Try.sizeOf36 (Ev.t rfl) (Ev.t rfl) (k := 2) rfl rfl rfl (by simp [Value.oneCell']) ?_); clear S a w; intro a w S; refine h_on S _ (List.Sublist.refl _) (by repeat (first | exact List.Sublist.refl _ | exact List.nil_sublist _ | refine .cons_cons _ ?_ | refine .cons _ ?_)) ?_)
    refine h_done (by kernel_rfl) ?_
    rotate_left
    (refine op_alloc S Try.zeroValue36 (cs := _) rfl rfl ?_; clear S a w; intro g8 a w S; refine h_on S _ (List.Sublist.refl _) (by repeat (first | exact List.Sublist.refl _ | exact List.nil_sublist _ | refine .cons_cons _ ?_ | refine .cons _ ?_)) ?_)
    refine h_split (i := 3) (j := 4) (by kernel_rfl) rfl rfl ?_ ?_
    (refine op_calls S Try.call40 (EvL.cons (Ev.t rfl) EvL.nil) (c40 _ _ _ _ (by exact .old S.wd (by assumption)) (by assumption) (by assumption)) rfl ?_; clear S a w; rintro _ _ ⟨A12, c13, A22, c210, rfl, rfl⟩ a w S; refine h_on S _ (List.Sublist.refl _) (by repeat (first | exact List.Sublist.refl _ | exact List.nil_sublist _ | refine .cons_cons _ ?_ | refine .cons _ ?_)) ?_)
    (refine h_m (i := 4) rfl (by kernel_rfl) (op_alloc S Try.zeroValue36 (cs := _) rfl rfl ?_); clear S a w; intro g9 a w S; refine h_on S _ (List.Sublist.refl _) (by repeat (first | exact List.Sublist.refl _ | exact List.nil_sublist _ | refine .cons_cons _ ?_ | refine .cons _ ?_)) ?_)
    (refine h_m0 (i := 6) rfl (by kernel_rfl) (op_stW S Try.sizeOf36 (Ev.t rfl) (Ev.t rfl) (k := 0) rfl rfl rfl (by simp [Value.oneCell']) ?_); clear S a w; intro a w S; refine h_on S _ (List.Sublist.refl _) (by repeat (first | exact List.Sublist.refl _ | exact List.nil_sublist _ | refine .cons_cons _ ?_ | refine .cons _ ?_)) ?_)
    (refine h_m0 (i := 7) rfl (by kernel_rfl) (op_stW S Try.sizeOf36 (Ev.t rfl) (Ev.t rfl) (k := 3) rfl rfl rfl (by simp [Value.oneCell']) ?_); clear S a w; intro a w S; refine h_on S _ (List.Sublist.refl _) (by repeat (first | exact List.Sublist.refl _ | exact List.nil_sublist _ | refine .cons_cons _ ?_ | refine .cons _ ?_)) ?_)
    refine h_done (by kernel_rfl) ?_
    rotate_left
    (refine op_alloc S Try.zeroValue36 (cs := _) rfl rfl ?_; clear S a w; intro g9 a w S; refine h_on S _ (List.Sublist.refl _) (by repeat (first | exact List.Sublist.refl _ | exact List.nil_sublist _ | refine .cons_cons _ ?_ | refine .cons _ ?_)) ?_)
    (refine h_m (i := 3) rfl (by kernel_rfl) (op_calls S Try.call40 (EvL.cons (Ev.t rfl) EvL.nil) (c40 _ _ _ _ (by exact .old S.wd (by assumption)) (by assumption) (by assumption)) rfl ?_); clear S a w; rintro _ _ ⟨A12, c13, A22, c210, rfl, rfl⟩ a w S; refine h_on S _ (List.Sublist.refl _) (by repeat (first | exact List.Sublist.refl _ | exact List.nil_sublist _ | refine .cons_cons _ ?_ | refine .cons _ ?_)) ?_)
    (refine h_m0 (i := 6) rfl (by kernel_rfl) (op_stW S Try.sizeOf36 (Ev.t rfl) (Ev.t rfl) (k := 2) rfl rfl rfl (by simp [Value.oneCell']) ?_); clear S a w; intro a w S; refine h_on S _ (List.Sublist.refl _) (by repeat (first | exact List.Sublist.refl _ | exact List.nil_sublist _ | refine .cons_cons _ ?_ | refine .cons _ ?_)) ?_)
    (refine h_m0 (i := 7) rfl (by kernel_rfl) (op_stW S Try.sizeOf36 (Ev.t rfl) (Ev.t rfl) (k := 3) rfl rfl rfl (by simp [Value.oneCell']) ?_); clear S a w; intro a w S; refine h_on S _ (List.Sublist.refl _) (by repeat (first | exact List.Sublist.refl _ | exact List.nil_sublist _ | refine .cons_cons _ ?_ | refine .cons _ ?_)) ?_)
    refine h_done (by kernel_rfl) ?_
    rotate_left
    (refine op_alloc S Try.zeroValue36 (cs := _) rfl rfl ?_; clear S a w; intro g8 a w S; refine h_on S _ (List.Sublist.refl _) (by repeat (first | exact List.Sublist.refl _ | exact List.nil_sublist _ | refine .cons_cons _ ?_ | refine .cons _ ?_)) ?_)
    refine h_split (i := 1) (j := 5) (by kernel_rfl) rfl rfl ?_ ?_
    (refine op_calls S Try.call40 (EvL.cons (Ev.t rfl) EvL.nil) (c40 _ _ _ _ (by exact .old S.wd (by assumption)) (by assumption) (by assumption)) rfl ?_; clear S a w; rintro _ _ ⟨A11, c11, A21, c29, rfl, rfl⟩ a w S; refine h_on S _ (List.Sublist.refl _) (by repeat (first | exact List.Sublist.refl _ | exact List.nil_sublist _ | refine .cons_cons _ ?_ | refine .cons _ ?_)) ?_)
    refine h_split (i := 3) (j := 5) (by kernel_rfl) rfl rfl ?_ ?_
    (refine op_calls S Try.call40 (EvL.cons (Ev.t rfl) EvL.nil) (c40 _ _ _ _ (by exact .old S.wd (by assumption)) (by assumption) (by assumption)) rfl ?_; clear S a w; rintro _ _ ⟨A12, c13, A22, c210, rfl, rfl⟩ a w S; refine h_on S _ (List.Sublist.refl _) (by repeat (first | exact List.Sublist.refl _ | exact List.nil_sublist _ | refine .cons_cons _ ?_ | refine .cons _ ?_)) ?_)
    (refine h_m (i := 5) rfl (by kernel_rfl) (op_alloc S Try.zeroValue36 (cs := _) rfl rfl ?_); clear S a w; intro g9 a w S; refine h_on S _ (List.Sublist.refl _) (by repeat (first | exact List.Sublist.refl _ | exact List.nil_sublist _ | refine .cons_cons _ ?_ | refine .cons _ ?_)) ?_)
    (refine h_m0 (i := 6) rfl (by kernel_rfl) (op_stW S Try.sizeOf36 (Ev.t rfl) (Ev.t rfl) (k := 5) rfl rfl rfl (by simp [Value.oneCell']) ?_); clear S a w; intro a w S; refine h_on S _ (List.Sublist.refl _) (by repeat (first | exact List.Sublist.refl _ | exact List.nil_sublist _ | refine .cons_cons _ ?_ | refine .cons _ ?_)) ?_)
    (refine h_m0 (i := 7) rfl (by kernel_rfl) (op_stW S Try.sizeOf36 (Ev.t rfl) (Ev.t rfl) (k := 0) rfl rfl rfl (by simp [Value.oneCell']) ?_); clear S a w; intro a w S; refine h_on S _ (List.Sublist.refl _) (by repeat (first | exact List.Sublist.refl _ | exact List.nil_sublist _ | refine .cons_cons _ ?_ | refine .cons _ ?_)) ?_)
    refine h_done (by kernel_rfl) ?_
    rotate_left
    (refine op_alloc S Try.zeroValue36 (cs := _) rfl rfl ?_; clear S a w; intro g9 a w S; refine h_on S _ (List.Sublist.refl _) (by repeat (first | exact List.Sublist.refl _ | exact List.nil_sublist _ | refine .cons_cons _ ?_ | refine .cons _ ?_)) ?_)
    (refine h_m (i := 3) rfl (by kernel_rfl) (op_calls S Try.call40 (EvL.cons (Ev.t rfl) EvL.nil) (c40 _ _ _ _ (by exact .old S.wd (by assumption)) (by assumption) (by assumption)) rfl ?_); clear S a w; rintro _ _ ⟨A12, c13, A22, c210, rfl, rfl⟩ a w S; refine h_on S _ (List.Sublist.refl _) (by repeat (first | exact List.Sublist.refl _ | exact List.nil_sublist _ | refine .cons_cons _ ?_ | refine .cons _ ?_)) ?_)
    (refine h_m0 (i := 6) rfl (by kernel_rfl) (op_stW S Try.sizeOf36 (Ev.t rfl) (Ev.t rfl) (k := 5) rfl rfl rfl (by simp [Value.oneCell']) ?_); clear S a w; intro a w S; refine h_on S _ (List.Sublist.refl _) (by repeat (first | exact List.Sublist.refl _ | exact List.nil_sublist _ | refine .cons_cons _ ?_ | refine .cons _ ?_)) ?_)
    (refine h_m0 (i := 7) rfl (by kernel_rfl) (op_stW S Try.sizeOf36 (Ev.t rfl) (Ev.t rfl) (k := 2) rfl rfl rfl (by simp [Value.oneCell']) ?_); clear S a w; intro a w S; refine h_on S _ (List.Sublist.refl _) (by repeat (first | exact List.Sublist.refl _ | exact List.nil_sublist _ | refine .cons_cons _ ?_ | refine .cons _ ?_)) ?_)
    refine h_done (by kernel_rfl) ?_
    rotate_left
    (refine op_alloc S Try.zeroValue36 (cs := _) rfl rfl ?_; clear S a w; intro g9 a w S; refine h_on S _ (List.Sublist.refl _) (by repeat (first | exact List.Sublist.refl _ | exact List.nil_sublist _ | refine .cons_cons _ ?_ | refine .cons _ ?_)) ?_)
    (refine h_m (i := 1) rfl (by kernel_rfl) (op_calls S Try.call40 (EvL.cons (Ev.t rfl) EvL.nil) (c40 _ _ _ _ (by exact .old S.wd (by assumption)) (by assumption) (by assumption)) rfl ?_); clear S a w; rintro _ _ ⟨A11, c11, A21, c29, rfl, rfl⟩ a w S; refine h_on S _ (List.Sublist.refl _) (by repeat (first | exact List.Sublist.refl _ | exact List.nil_sublist _ | refine .cons_cons _ ?_ | refine .cons _ ?_)) ?_)
    (refine h_m (i := 3) rfl (by kernel_rfl) (op_calls S Try.call40 (EvL.cons (Ev.t rfl) EvL.nil) (c40 _ _ _ _ (by exact .old S.wd (by assumption)) (by assumption) (by assumption)) rfl ?_); clear S a w; rintro _ _ ⟨A12, c13, A22, c210, rfl, rfl⟩ a w S; refine h_on S _ (List.Sublist.refl _) (by repeat (first | exact List.Sublist.refl _ | exact List.nil_sublist _ | refine .cons_cons _ ?_ | refine .cons _ ?_)) ?_)
    (refine h_m0 (i := 6) rfl (by kernel_rfl) (op_stW S Try.sizeOf36 (Ev.t rfl) (Ev.t rfl) (k := 5) rfl rfl rfl (by simp [Value.oneCell']) ?_); clear S a w; intro a w S; refine h_on S _ (List.Sublist.refl _) (by repeat (first | exact List.Sublist.refl _ | exact List.nil_sublist _ | refine .cons_cons _ ?_ | refine .cons _ ?_)) ?_)
    (refine h_m0 (i := 7) rfl (by kernel_rfl) (op_stW S Try.sizeOf36 (Ev.t rfl) (Ev.t rfl) (k := 4) rfl rfl rfl (by simp [Value.oneCell']) ?_); clear S a w; intro a w S; refine h_on S _ (List.Sublist.refl _) (by repeat (first | exact List.Sublist.refl _ | exact List.nil_sublist _ | refine .cons_cons _ ?_ | refine .cons _ ?_)) ?_)
    refine h_done (by kernel_rfl) ?_
    rotate_left
    (refine op_alloc S Try.zeroValue36 (cs := _) rfl rfl ?_; clear S a w; intro g8 a w S; refine h_on S _ (List.Sublist.refl _) (by repeat (first | exact List.Sublist.refl _ | exact List.nil_sublist _ | refine .cons_cons _ ?_ | refine .cons _ ?_)) ?_)
    refine h_split (i := 1) (j := 4) (by kernel_rfl) rfl rfl ?_ ?_
    (refine op_calls S Try.call40 (EvL.cons (Ev.t rfl) EvL.nil) (c40 _ _ _ _ (by exact .old S.wd (by assumption)) (by assumption) (by assumption)) rfl ?_; clear S a w; rintro _ _ ⟨A11, c11, A21, c29, rfl, rfl⟩ a w S; refine h_on S _ (List.Sublist.refl _) (by repeat (first | exact List.Sublist.refl _ | exact List.nil_sublist _ | refine .cons_cons _ ?_ | refine .cons _ ?_)) ?_)
    refine h_split (i := 3) (j := 4) (by kernel_rfl) rfl rfl ?_ ?_
    (refine op_calls S Try.call40 (EvL.cons (Ev.t rfl) EvL.nil) (c40 _ _ _ _ (by exact .old S.wd (by assumption)) (by assumption) (by assumption)) rfl ?_; clear S a w; rintro _ _ ⟨A12, c13, A22, c210, rfl, rfl⟩ a w S; refine h_on S _ (List.Sublist.refl _) (by repeat (first | exact List.Sublist.refl _ | exact List.nil_sublist _ | refine .cons_cons _ ?_ | refine .cons _ ?_)) ?_)
    (refine h_m (i := 4) rfl (by kernel_rfl) (op_alloc S Try.zeroValue36 (cs := _) rfl rfl ?_); clear S a w; intro g9 a w S; refine h_on S _ (List.Sublist.refl _) (by repeat (first | exact List.Sublist.refl _ | exact List.nil_sublist _ | refine .cons_cons _ ?_ | refine .cons _ ?_)) ?_)
    (refine h_m0 (i := 6) rfl (by kernel_rfl) (op_stW S Try.sizeOf36 (Ev.t rfl) (Ev.t rfl) (k := 0) rfl rfl rfl (by simp [Value.oneCell']) ?_); clear S a w; intro a w S; refine h_on S _ (List.Sublist.refl _) (by repeat (first | exact List.Sublist.refl _ | exact List.nil_sublist _ | refine .cons_cons _ ?_ | refine .cons _ ?_)) ?_)
    (refine h_m0 (i := 7) rfl (by kernel_rfl) (op_stW S Try.sizeOf36 (Ev.t rfl) (Ev.t rfl) (k := 5) rfl rfl rfl (by simp [Value.oneCell']) ?_); clear S a w; intro a w S; refine h_on S _ (List.Sublist.refl _) (by repeat (first | exact List.Sublist.refl _ | exact List.nil_sublist _ | refine .cons_cons _ ?_ | refine .cons _ ?_)) ?_)
    refine h_done (by kernel_rfl) ?_
    rotate_left
    (refine op_alloc S Try.zeroValue36 (cs := _) rfl rfl ?_; clear S a w; intro g9 a w S; refine h_on S _ (List.Sublist.refl _) (by repeat (first | exact List.Sublist.refl _ | exact List.nil_sublist _ | refine .cons_cons _ ?_ | refine .cons _ ?_)) ?_)
    (refine h_m (i := 3) rfl (by kernel_rfl) (op_calls S Try.call40 (EvL.cons (Ev.t rfl) EvL.nil) (c40 _ _ _ _ (by exact .old S.wd (by assumption)) (by assumption) (by assumption)) rfl ?_); clear S a w; rintro _ _ ⟨A12, c13, A22, c210, rfl, rfl⟩ a w S; refine h_on S _ (List.Sublist.refl _) (by repeat (first | exact List.Sublist.refl _ | exact List.nil_sublist _ | refine .cons_cons _ ?_ | refine .cons _ ?_)) ?_)
    (refine h_m0 (i := 6) rfl (by kernel_rfl) (op_stW S Try.sizeOf36 (Ev.t rfl) (Ev.t rfl) (k := 2) rfl rfl rfl (by simp [Value.oneCell']) ?_); clear S a w; intro a w S; refine h_on S _ (List.Sublist.refl _) (by repeat (first | exact List.Sublist.refl _ | exact List.nil_sublist _ | refine .cons_cons _ ?_ | refine .cons _ ?_)) ?_)
    (refine h_m0 (i := 7) rfl (by kernel_rfl) (op_stW S Try.sizeOf36 (Ev.t rfl) (Ev.t rfl) (k := 5) rfl rfl rfl (by simp [Value.oneCell']) ?_); clear S a w; intro a w S; refine h_on S _ (List.Sublist.refl _) (by repeat (first | exact List.Sublist.refl _ | exact List.nil_sublist _ | refine .cons_cons _ ?_ | refine .cons _ ?_)) ?_)
    refine h_done (by kernel_rfl) ?_
    rotate_left
    (refine op_alloc S Try.zeroValue36 (cs := _) rfl rfl ?_; clear S a w; intro g9 a w S; refine h_on S _ (List.Sublist.refl _) (by repeat (first | exact List.Sublist.refl _ | exact List.nil_sublist _ | refine .cons_cons _ ?_ | refine .cons _ ?_)) ?_)
    (refine h_m (i := 1) rfl (by kernel_rfl) (op_calls S Try.call40 (EvL.cons (Ev.t rfl) EvL.nil) (c40 _ _ _ _ (by exact .old S.wd (by assumption)) (by assumption) (by assumption)) rfl ?_); clear S a w; rintro _ _ ⟨A11, c11, A21, c29, rfl, rfl⟩ a w S; refine h_on S _ (List.Sublist.refl _) (by repeat (first | exact List.Sublist.refl _ | exact List.nil_sublist _ | refine .cons_cons _ ?_ | refine .cons _ ?_)) ?_)
    (refine h_m (i := 3) rfl (by kernel_rfl) (op_calls S Try.call40 (EvL.cons (Ev.t rfl) EvL.nil) (c40 _ _ _ _ (by exact .old S.wd (by assumption)) (by assumption) (by assumption)) rfl ?_); clear S a w; rintro _ _ ⟨A12, c13, A22, c210, rfl, rfl⟩ a w S; refine h_on S _ (List.Sublist.refl _) (by repeat (first | exact List.Sublist.refl _ | exact List.nil_sublist _ | refine .cons_cons _ ?_ | refine .cons _ ?_)) ?_)
    (refine h_m0 (i := 6) rfl (by kernel_rfl) (op_stW S Try.sizeOf36 (Ev.t rfl) (Ev.t rfl) (k := 4) rfl rfl rfl (by simp [Value.oneCell']) ?_); clear S a w; intro a w S; refine h_on S _ (List.Sublist.refl _) (by repeat (first | exact List.Sublist.refl _ | exact List.nil_sublist _ | refine .cons_cons _ ?_ | refine .cons _ ?_)) ?_)
    (refine h_m0 (i := 7) rfl (by kernel_rfl) (op_stW S Try.sizeOf36 (Ev.t rfl) (Ev.t rfl) (k := 5) rfl rfl rfl (by simp [Value.oneCell']) ?_); clear S a w; intro a w S; refine h_on S _ (List.Sublist.refl _) (by repeat (first | exact List.Sublist.refl _ | exact List.nil_sublist _ | refine .cons_cons _ ?_ | refine .cons _ ?_)) ?_)
    refine h_done (by kernel_rfl) ?_
    rotate_left
    all_goals exact ⟨_, _, _, _, _, _, _, _, _, _, S.picks (by repeat (first | exact Fits.nil | refine Fits.skip rfl ?_ | refine Fits.cons rfl ?_)) (by repeat (first | exact Picks.nil | refine Picks.take 0 rfl ?_ | refine Picks.take 1 rfl ?_ | refine Picks.take 2 rfl ?_ | refine Picks.take 3 rfl ?_ | refine Picks.take 4 rfl ?_ | refine Picks.take 5 rfl ?_ | refine Picks.take 6 rfl ?_ | refine Picks.take 7 rfl ?_ | refine Picks.take 8 rfl ?_ | refine Picks.take 9 rfl ?_ | refine Picks.take 10 rfl ?_ | refine Picks.take 11 rfl ?_))⟩
  clear S
  rcases e with _ | _ | _ | _ | _ | _ | _
  any_goals exact q.elim
  obtain ⟨ga, gb, A1, c1, A2, c2, A3, c3, A4, c4, S⟩ := q
  refine then_normal (hK1 _ _ ?_)
  clear hK1
  cases rw_a : canL A with
  | true =>
    have kA := can_nf rw_a
    have mA := kA.mayM
    cases rw_b : canL B with
    | true =>
      have kB := can_nf rw_b
      have mB := kB.mayM
      have rw_q := leqR_eq kA kB
      refine wp_seq_k fun _ hK1 => ?_
      refine wp_region_lit ?_
      (refine st_y S (Yr.ys (ys_ldA ⟨Try.isAgg36, Try.sizeOf36⟩ (Ev.t rfl) (k := 0) rfl rfl)) rfl ?_; clear S a w; intro a w S)
      (refine st_y S (Yr.ys (ys_ldA ⟨Try.isAgg36, Try.sizeOf36⟩ (Ev.t rfl) (k := 1) rfl rfl)) rfl ?_; clear S a w; intro a w S)
      (refine st_m (op_calls S Try.call51 (EvL.cons (Ev.t rfl) (EvL.cons (Ev.t rfl) EvL.nil)) (c51 _ _ _ _ _ _ _ (by exact ⟨(by exact Sl.of_own S.wd (k := 2) rfl (fun _ => rfl)), (by exact Sl.of_own S.wd (k := 3) rfl (fun _ => rfl))⟩) (by exact ⟨(by exact Sl.of_own S.wd (k := 4) rfl (fun _ => rfl)), (by exact Sl.of_own S.wd (k := 5) rfl (fun _ => rfl))⟩)) rfl ?_); clear S a w; rintro _ _ ⟨A11, c11, A21, c29, rfl, rfl⟩ a w S)
      rw [rw_j] at S
      (refine st_y S (Yr.ys (ys_move (Ev.t rfl))) rfl ?_; clear S a w; intro a w S)
      (refine st_y S (Yr.ys (ys_ext (Ev.t rfl) rfl)) rfl ?_; clear S a w; intro a w S)
      (refine st_y S (Yr.ys (ys_ext (Ev.t rfl) rfl)) rfl ?_; clear S a w; intro a w S)
      (refine st_m (op_alloc S Try.zeroValue36 (cs := _) rfl rfl ?_); clear S a w; intro g8 a w S)
      (refine st_m (op_stW S Try.sizeOf36 (Ev.t rfl) (Ev.t rfl) (k := 0) rfl rfl rfl (by simp [Value.oneCell']) ?_); clear S a w; intro a w S)
      (refine st_y S (Yr.ys (ys_assign (Ev.t rfl))) rfl ?_; clear S a w; intro a w S)
      refine st_nil ?_
      (refine (then_normal (hK1 _ _ ?_)); clear hK1)
      refine wp_seq_k fun _ hK1 => ?_
      refine wp_region_lit ?_
      (refine st_y S (Yr.ys (ys_ldA ⟨Try.isAgg36, Try.sizeOf36⟩ (Ev.t rfl) (k := 11) rfl rfl)) rfl ?_; clear S a w; intro a w S)
      (refine st_y S (Yr.ys (ys_ldA ⟨Try.isAgg36, Try.sizeOf36⟩ (Ev.t rfl) (k := 10) rfl rfl)) rfl ?_; clear S a w; intro a w S)
      (refine st_m (op_calls S Try.call52 (EvL.cons (Ev.t rfl) (EvL.cons (Ev.t rfl) EvL.nil)) (c52 _ _ _ _ _ _ _ (by exact .old S.wd (by assumption)) (by exact .old S.wd (by assumption))) rfl ?_); clear S a w; rintro _ _ ⟨A12, c13, A22, c210, rfl, rfl⟩ a w S)
      rw [rw_j] at S
      (refine st_y S (Yr.ys (ys_move (Ev.t rfl))) rfl ?_; clear S a w; intro a w S)
      (refine st_y S (Yr.ys (ys_ext (Ev.t rfl) rfl)) rfl ?_; clear S a w; intro a w S)
      (refine st_y S (Yr.ys (ys_ext (Ev.t rfl) rfl)) rfl ?_; clear S a w; intro a w S)
      (refine st_m (op_alloc S Try.zeroValue36 (cs := _) rfl rfl ?_); clear S a w; intro g9 a w S)
      (refine st_m (op_stW S Try.sizeOf36 (Ev.t rfl) (Ev.t rfl) (k := 0) rfl rfl rfl (by simp [Value.oneCell']) ?_); clear S a w; intro a w S)
      (refine st_y S (Yr.ys (ys_assign (Ev.t rfl))) rfl ?_; clear S a w; intro a w S)
      refine st_nil ?_
      (refine (then_normal (hK1 _ _ ?_)); clear hK1)
      refine wp_seq_k fun _ hK1 => ?_
      refine wp_region_lit ?_
      (refine st_y S (Yr.ys (ys_ldA ⟨Try.isAgg36, Try.sizeOf36⟩ (Ev.t rfl) (k := 6) rfl rfl)) rfl ?_; clear S a w; intro a w S)
      (refine st_y S (Yr.ys (ys_ldA ⟨Try.isAgg32, Try.sizeOf32⟩ (Ev.t rfl) (k := 12) rfl rfl)) rfl ?_; clear S a w; intro a w S)
      (refine st_m (op_calls S Try.call53 (EvL.cons (Ev.t rfl) (EvL.cons (Ev.t rfl) EvL.nil)) (c53 _ _ _ _ _ _ _ (by exact ⟨(by exact Sl.of_own S.wd (k := 8) rfl (fun _ => rfl)), (by exact Sl.of_own S.wd (k := 9) rfl (fun _ => rfl))⟩)) rfl ?_); clear S a w; rintro _ _ ⟨A13, c14, A23, c211, rfl, rfl⟩ a w S)
      rw [rw_m] at S
      (refine st_y S (Yr.ys (ys_move (Ev.t rfl))) rfl ?_; clear S a w; intro a w S)
      (refine st_y S (Yr.ys (ys_ext (Ev.t rfl) rfl)) rfl ?_; clear S a w; intro a w S)
      (refine st_y S (Yr.ys (ys_ext (Ev.t rfl) rfl)) rfl ?_; clear S a w; intro a w S)
      (refine st_m (op_alloc S Try.zeroValue36 (cs := _) rfl rfl ?_); clear S a w; intro g10 a w S)
      (refine st_m (op_stW S Try.sizeOf36 (Ev.t rfl) (Ev.t rfl) (k := 0) rfl rfl rfl (by simp [Value.oneCell']) ?_); clear S a w; intro a w S)
      (refine st_y S (Yr.ys (ys_assign (Ev.t rfl))) rfl ?_; clear S a w; intro a w S)
      refine st_nil ?_
      (refine (then_normal (hK1 _ _ ?_)); clear hK1)
      refine wp_seq_k fun _ hK1 => ?_
      refine wp_region_lit ?_
      (refine st_y S (Yr.ys (ys_ldA ⟨Try.isAgg36, Try.sizeOf36⟩ (Ev.t rfl) (k := 17) rfl rfl)) rfl ?_; clear S a w; intro a w S)
      (refine st_y S (Yr.ys (ys_ldA ⟨Try.isAgg32, Try.sizeOf32⟩ (Ev.t rfl) (k := 15) rfl rfl)) rfl ?_; clear S a w; intro a w S)
      (refine st_m (op_calls S Try.call54 (EvL.cons (Ev.t rfl) (EvL.cons (Ev.t rfl) EvL.nil)) (c54 _ _ _ _ _ _ _ (by exact .old S.wd (by assumption))) rfl ?_); clear S a w; rintro _ _ ⟨A14, c15, A24, c212, rfl, rfl⟩ a w S)
      rw [rw_m] at S
      (refine st_y S (Yr.ys (ys_move (Ev.t rfl))) rfl ?_; clear S a w; intro a w S)
      (refine st_y S (Yr.ys (ys_ext (Ev.t rfl) rfl)) rfl ?_; clear S a w; intro a w S)
      (refine st_y S (Yr.ys (ys_ext (Ev.t rfl) rfl)) rfl ?_; clear S a w; intro a w S)
      (refine st_m (op_alloc S Try.zeroValue36 (cs := _) rfl rfl ?_); clear S a w; intro g11 a w S)
      (refine st_m (op_stW S Try.sizeOf36 (Ev.t rfl) (Ev.t rfl) (k := 0) rfl rfl rfl (by simp [Value.oneCell']) ?_); clear S a w; intro a w S)
      (refine st_y S (Yr.ys (ys_assign (Ev.t rfl))) rfl ?_; clear S a w; intro a w S)
      refine st_nil ?_
      (refine (then_normal (hK1 _ _ ?_)); clear hK1)
      refine wp_seq_k fun _ hK1 => ?_
      refine wp_seq_k fun _ hK2 => ?_
      refine wp_region_lit ?_
      (refine st_y S (Yr.ys (ys_ldA ⟨Try.isAgg36, Try.sizeOf36⟩ (Ev.t rfl) (k := 9) rfl rfl)) rfl ?_; clear S a w; intro a w S)
      (refine st_y S (Yr.ys (ys_move (Ev.t rfl))) rfl ?_; clear S a w; intro a w S)
      (refine st_y S (Yr.ys (ys_ldA ⟨Try.isAgg36, Try.sizeOf36⟩ (Ev.t rfl) (k := 6) rfl rfl)) rfl ?_; clear S a w; intro a w S)
      (refine st_y S (Yr.ys (ys_move (Ev.t rfl))) rfl ?_; clear S a w; intro a w S)
      (refine st_y S (ys_call Try.call45 (EvL.cons (Ev.t rfl) (EvL.cons (Ev.t rfl) (EvL.cons (Ev.t rfl) (EvL.cons (Ev.t rfl) EvL.nil)))) (fun hp w W => c45 _ _ _ _ _ _ _ _ _ (by exact ⟨(by exact Sl.of_own W (k := 10) rfl (fun _ => rfl)), (by exact Sl.of_own W (k := 11) rfl (fun _ => rfl))⟩) (by exact ⟨(by exact Sl.of_own W (k := 7) rfl (fun _ => rfl)), (by exact Sl.of_own W (k := 8) rfl (fun _ => rfl))⟩))) rfl ?_; clear S a w; intro a w S)
      rw [rw_s2] at S
      (refine st_y S (Yr.ys (ys_not (Ev.t rfl))) rfl ?_; clear S a w; intro a w S)
      (refine st_y S (Yr.ys (ys_move (Ev.t rfl))) rfl ?_; clear S a w; intro a w S)
      (refine st_yt S rfl rfl (Yr.ys (ys_ldA ⟨Try.isAgg36, Try.sizeOf36⟩ (Ev.t rfl) (k := 3) rfl rfl)) rfl ?_; clear S a w; intro a w S)
      (refine st_yt S rfl rfl (Yr.ys (ys_move (Ev.t rfl))) rfl ?_; clear S a w; intro a w S)
      (refine st_yt S rfl rfl (Yr.ys (ys_ldA ⟨Try.isAgg36, Try.sizeOf36⟩ (Ev.t rfl) (k := 0) rfl rfl)) rfl ?_; clear S a w; intro a w S)
      (refine st_yt S rfl rfl (Yr.ys (ys_move (Ev.t rfl))) rfl ?_; clear S a w; intro a w S)
      (refine st_yt S rfl rfl (ys_call Try.call45 (EvL.cons (Ev.t rfl) (EvL.cons (Ev.t rfl) (EvL.cons (Ev.t rfl) (EvL.cons (Ev.t rfl) EvL.nil)))) (fun hp w W => c45 _ _ _ _ _ _ _ _ _ (by exact ⟨(by exact Sl.of_own W (k := 4) rfl (fun _ => rfl)), (by exact Sl.of_own W (k := 5) rfl (fun _ => rfl))⟩) (by exact ⟨(by exact Sl.of_own W (k := 1) rfl (fun _ => rfl)), (by exact Sl.of_own W (k := 2) rfl (fun _ => rfl))⟩))) rfl ?_; clear S a w; intro a w S)
      rw [rw_s2] at S
      (refine st_yt S rfl rfl (Yr.ys (ys_not (Ev.t rfl))) rfl ?_; clear S a w; intro a w S)
      (refine st_y S (Yr.ys (ys_pickF (Ev.t rfl) (Ev.t rfl))) rfl ?_; clear S a w; intro a w S)
      (refine st_y S (Yr.ys (ys_move (Ev.t rfl))) rfl ?_; clear S a w; intro a w S)
      (refine st_yt S rfl rfl (Yr.ys (ys_ldA ⟨Try.isAgg36, Try.sizeOf36⟩ (Ev.t rfl) (k := 12) rfl rfl)) rfl ?_; clear S a w; intro a w S)
      (refine st_yt S rfl rfl (Yr.ys (ys_ldA ⟨Try.isAgg36, Try.sizeOf36⟩ (Ev.t rfl) (k := 20) rfl rfl)) rfl ?_; clear S a w; intro a w S)
      (refine st_yt S rfl rfl (ys_call Try.call26 (EvL.cons (Ev.t rfl) (EvL.cons (Ev.t rfl) EvL.nil)) (fun hp w W => c26 _ _ _ _ _ _ _ (by exact ⟨(by exact Sl.of_own W (k := 14) rfl (fun _ => rfl)), (by exact Sl.of_own W (k := 15) rfl (fun _ => rfl))⟩) (by exact .old W (by assumption)))) rfl ?_; clear S a w; intro a w S)
      rw [rw_s] at S
      (refine st_yt S rfl rfl (Yr.ys (ys_not (Ev.t rfl))) rfl ?_; clear S a w; intro a w S)
      (refine st_y S (Yr.ys (ys_pickF (Ev.t rfl) (Ev.t rfl))) rfl ?_; clear S a w; intro a w S)
      (refine st_y S (Yr.ys (ys_move (Ev.t rfl))) rfl ?_; clear S a w; intro a w S)
      (refine st_yt S rfl rfl (Yr.ys (ys_ldA ⟨Try.isAgg36, Try.sizeOf36⟩ (Ev.t rfl) (k := 13) rfl rfl)) rfl ?_; clear S a w; intro a w S)
      (refine st_yt S rfl rfl (Yr.ys (ys_ldA ⟨Try.isAgg36, Try.sizeOf36⟩ (Ev.t rfl) (k := 19) rfl rfl)) rfl ?_; clear S a w; intro a w S)
      (refine st_yt S rfl rfl (ys_call Try.call26 (EvL.cons (Ev.t rfl) (EvL.cons (Ev.t rfl) EvL.nil)) (fun hp w W => c26 _ _ _ _ _ _ _ (by exact ⟨(by exact Sl.of_own W (k := 16) rfl (fun _ => rfl)), (by exact Sl.of_own W (k := 17) rfl (fun _ => rfl))⟩) (by exact .old W (by assumption)))) rfl ?_; clear S a w; intro a w S)
      rw [rw_s] at S
      (refine st_yt S rfl rfl (Yr.ys (ys_not (Ev.t rfl))) rfl ?_; clear S a w; intro a w S)
      (refine st_y S (Yr.ys (ys_pickF (Ev.t rfl) (Ev.t rfl))) rfl ?_; clear S a w; intro a w S)
      refine st_nil ?_
      (refine (then_normal (hK2 _ _ ?_)); clear hK2)
      refine st_else S (Ev.t rfl) ?_
      refine wp_skip ?_
      (refine (then_normal (hK1 _ _ ?_)); clear hK1)
      refine wp_seq_k fun _ hK1 => ?_
      refine wp_seq_k fun _ hK2 => ?_
      (refine st_quiet S (by kernel_rfl) (by kernel_rfl) ?_; clear S w; intro a S)
      (refine q_y S (Yr.ys (ys_ldA ⟨Try.isAgg36, Try.sizeOf36⟩ (Ev.t rfl) (k := 20) rfl rfl)) rfl ?_; clear S a; intro a S)
      (refine q_y S (ys_call Try.call55 (EvL.cons (Ev.t rfl) EvL.nil) (fun hp w W => c55 _ _ _ _ (by exact .old W (by assumption)))) rfl ?_; clear S a; intro a S)
      rw [rw_a] at S
      (refine q_y S (Yr.ys (ys_move (Ev.t rfl))) rfl ?_; clear S a; intro a S)
      (refine q_yt S rfl rfl (Yr.ys (ys_ldA ⟨Try.isAgg36, Try.sizeOf36⟩ (Ev.t rfl) (k := 19) rfl rfl)) rfl ?_; clear S a; intro a S)
      (refine q_yt S rfl rfl (ys_call Try.call55 (EvL.cons (Ev.t rfl) EvL.nil) (fun hp w W => c55 _ _ _ _ (by exact .old W (by assumption)))) rfl ?_; clear S a; intro a S)
      rw [rw_b] at S
      (refine q_y S (Yr.ys (ys_pickT (Ev.t rfl) (Ev.t rfl))) rfl ?_; clear S a; intro a S)
      (refine q_y S (Yr.ys (ys_move (Ev.t rfl))) rfl ?_; clear S a; intro a S)
      (refine q_yt S rfl rfl (Yr.ys (ys_ldA ⟨Try.isAgg36, Try.sizeOf36⟩ (Ev.t rfl) (k := 12) rfl rfl)) rfl ?_; clear S a; intro a S)
      (refine q_yt S rfl rfl (Yr.ys (ys_ldA ⟨Try.isAgg36, Try.sizeOf36⟩ (Ev.t rfl) (k := 13) rfl rfl)) rfl ?_; clear S a; intro a S)
      (refine q_yt S rfl rfl (ys_call Try.call33 (EvL.cons (Ev.t rfl) (EvL.cons (Ev.t rfl) EvL.nil)) (fun hp w W => c33 _ _ _ _ _ _ _ (by exact ⟨(by exact Sl.of_own W (k := 14) rfl (fun _ => rfl)), (by exact Sl.of_own W (k := 15) rfl (fun _ => rfl))⟩) (by exact ⟨(by exact Sl.of_own W (k := 16) rfl (fun _ => rfl)), (by exact Sl.of_own W (k := 17) rfl (fun _ => rfl))⟩) (by assumption) (by assumption))) rfl ?_; clear S a; intro a S)
      (refine q_yt S rfl rfl (Yr.ys (ys_ldA ⟨Try.isAgg36, Try.sizeOf36⟩ (Ev.t rfl) (k := 20) rfl rfl)) rfl ?_; clear S a; intro a S)
      (refine q_yt S rfl rfl (Yr.ys (ys_ldA ⟨Try.isAgg36, Try.sizeOf36⟩ (Ev.t rfl) (k := 19) rfl rfl)) rfl ?_; clear S a; intro a S)
      (refine q_yt S rfl rfl (ys_call Try.call56 (EvL.cons (Ev.t rfl) (EvL.cons (Ev.t rfl) EvL.nil)) (fun hp w W => c56 _ _ _ _ _ _ _ (by exact .old W (by assumption)) (by exact .old W (by assumption)))) rfl ?_; clear S a; intro a S)
      rw [rw_q] at S
      (refine q_yt S rfl rfl (Yr.ys (ys_neqB Try.underlying4 (Ev.t rfl) (Ev.t rfl))) rfl ?_; clear S a; intro a S)
      (refine q_y S (Yr.ys (ys_pickT (Ev.t rfl) (Ev.t rfl))) rfl ?_; clear S a; intro a S)
      (refine q_nil ?_; intro w W; replace S := St.mk S W; clear W)
      (refine (then_normal (hK2 _ _ ?_)); clear hK2)
      refine st_cond S (Ev.t rfl) (fun h1 => ?_) (fun h1 => ?_)
      refine wp_seq_k fun _ hK2 => ?_
      refine wp_region_lit ?_
      (refine st_y S (Yr.ys (ys_assign Ev.c)) rfl ?_; clear S a w; intro a w S)
      refine st_nil ?_
      (refine (then_normal (hK2 _ _ ?_)); clear hK2)
      refine wp_ret ?_
      refine (then_ret ?_)
      refine st_ret S (results1 S Try.results12 (Rv.tmp rfl)) ?_
      rotate_left
      refine wp_skip ?_
      (refine (then_normal (hK1 _ _ ?_)); clear hK1)
      refine wp_seq_k fun _ hK1 => ?_
      refine wp_seq_k fun _ hK2 => ?_
      refine wp_region_lit ?_
      (refine st_y S (Yr.ys (ys_fieldN (FieldT.mk Try.underlying36 rfl Try.sizeOf29 rfl) (Ev.t rfl) (i' := 0) rfl)) rfl ?_; clear S a w; intro a w S)
      (refine st_y S (Yr.ys (ys_ld ⟨Try.isAgg29, Try.sizeOf29⟩ (Ev.t rfl) (k := 9) rfl rfl)) rfl ?_; clear S a w; intro a w S)
      (refine st_y S (Yr.ys (ys_lenS Try.underlying29 (Ev.t rfl))) rfl ?_; clear S a w; intro a w S)
      (refine st_y S (Yr.ys (ys_move Ev.c)) rfl ?_; clear S a w; intro a w S)
      refine st_nil ?_
      (refine (then_normal (hK2 _ _ ?_)); clear hK2)
      refine wp_block ?_
      rotate_left
      · simp at h1
      replace S := S.picks (K' := [(91, true, .int .i64 ((0 : Nat) : Int)), (90, true, .int .i64 (J.marks.length : Int)), (9, true, .pointer (some ⟨g8, 0, none⟩)), (8, true, .pointer (some ⟨gb, 0, none⟩)), (7, true, .pointer (some ⟨ga, 0, none⟩)), (6, true, .bool false), (4, true, .pointer (some ⟨g6, 0, none⟩)), (3, true, .pointer (some ⟨g5, 0, none⟩))])
        (L' := [rowOf 43 3 Dot.enc A11 c11 J.marks, rowOf 32 3 Dot.enc A21 c29 J.cloud, .blk g8 (.cells #[.slice A11 J.marks.length c11, .slice A21 J.cloud.length c29] 36),
        .blk ga (.cells #[.slice A1 A.marks.length c1, .slice A2 A.cloud.length c2] 36), .blk gb (.cells #[.slice A3 B.marks.length c3, .slice A4 B.cloud.length c4] 36), rowOf 43 3 Dot.enc A1 c1 A.marks, rowOf 32 3 Dot.enc A2 c2 A.cloud, rowOf 43 3 Dot.enc A3 c3 B.marks, rowOf 32 3 Dot.enc A4 c4 B.cloud,
        .blk g6 (.cells #[v3, v4] 36), .blk g5 (.cells #[v1, v2] 36)]) (by repeat (first | exact Fits.nil | refine Fits.skip rfl ?_ | refine Fits.cons rfl ?_)) (by repeat (first | exact Picks.nil | refine Picks.take 0 rfl ?_ | refine Picks.take 1 rfl ?_ | refine Picks.take 2 rfl ?_ | refine Picks.take 3 rfl ?_ | refine Picks.take 4 rfl ?_ | refine Picks.take 5 rfl ?_ | refine Picks.take 6 rfl ?_ | refine Picks.take 7 rfl ?_ | refine Picks.take 8 rfl ?_ | refine Picks.take 9 rfl ?_ | refine Picks.take 10 rfl ?_ | refine Picks.take 11 rfl ?_))
      refine st_loopK S (X := Nat × List Dot) (fun q => [(91, true, .int .i64 (q.1 : Int))]) (fun q L => L.set 0 (rowOf 43 3 Dot.enc A11 c11 q.2)) (fun q => q.1 ≤ J.marks.length ∧ q.2.length = J.marks.length) (fun q => J.marks.length - q.1) (0, J.marks) ⟨Nat.zero_le _, rfl⟩ (by repeat (first | exact Fits.nil | refine Fits.skip rfl ?_ | refine Fits.cons rfl ?_)) (by repeat (first | exact List.Sublist.refl _ | exact List.nil_sublist _ | refine .cons_cons _ ?_ | refine .cons _ ?_)) ?_
      clear S
      intro ⟨k, l⟩ a w ⟨hk, hl⟩ S
      dsimp only [List.set_cons_zero] at hk hl S
      by_cases hlt : k < J.marks.length
      · obtain ⟨gr, rfl⟩ := S.wd.row_at (k := 0) rfl (by have := (S.wd.room (k := 0) rfl).1; omega)
        obtain ⟨m, hm⟩ : ∃ m, l[k]? = some m := ⟨l[k], by simp⟩
        refine wp_seq_k fun _ hK2 => ?_
        refine wp_region_lit ?_
        (refine st_y S (Yr.ys (ys_T (by omega) (ys_lss (Ev.t rfl) (Ev.t rfl)))) rfl ?_; clear S a w; intro a w S)
        refine st_nil ?_
        (refine (then_normal (hK2 _ _ ?_)); clear hK2)
        refine wp_seq_k fun _ hK2 => ?_
        refine st_then S (Ev.t rfl) ?_
        refine wp_skip ?_
        (refine (then_normal (hK2 _ _ ?_)); clear hK2)
        refine wp_seq_k fun _ hK2 => ?_
        refine wp_block ?_
        refine wp_seq_k fun _ hK3 => ?_
        refine wp_region_lit ?_
        (refine st_y S (Yr.ys (ys_move (Ev.t rfl))) rfl ?_; clear S a w; intro a w S)
        (refine st_y S (Yr.ys (ys_assign (Ev.t rfl))) rfl ?_; clear S a w; intro a w S)
        refine st_nil ?_
        (refine (then_normal (hK3 _ _ ?_)); clear hK3)
        refine wp_region_lit ?_
        (refine st_y S (Yr.ys (ys_fieldN (FieldT.mk Try.underlying36 rfl Try.sizeOf29 rfl) (Ev.t rfl) (i' := 0) rfl)) rfl ?_; clear S a w; intro a w S)
        (refine st_y S (Yr.ys (ys_ld ⟨Try.isAgg29, Try.sizeOf29⟩ (Ev.t rfl) (k := 2) rfl rfl)) rfl ?_; clear S a w; intro a w S)
        (refine st_y S (Yr.ys (ys_move (Ev.t rfl))) rfl ?_; clear S a w; intro a w S)
        (refine st_y S (Yr.ys (ys_ixS Try.underlying29 Try.sizeOf43 (Ev.t rfl) (Ev.t rfl) (fun _ => by omega))) rfl ?_; clear S a w; intro a w S)
        (refine st_y S (Yr.ys (ys_field (FieldT.mk Try.underlying43 rfl Try.sizeOf3 rfl) (Ev.t rfl))) rfl ?_; clear S a w; intro a w S)
        refine st_m (op_stFld (enc := Dot.enc) (size := 3) (i := k) (j := 2) ⟨m.node, m.life, -1⟩ S (fun _ => rfl) Try.sizeOf3 (Ev.t rfl) Ev.c rfl (k := 0) rfl hm (by omega) rfl rfl ?_)
        clear S
        intro a w S
        refine st_nil ?_
        (refine (in_normal (then_normal (hK2 _ _ ?_))); clear hK2)
        refine wp_region_lit ?_
        (refine st_y S (Yr.ys (ys_addI (Ev.t rfl) Ev.c (fun _ => by unfold I64; omega))) rfl ?_; clear S a w; intro a w S)
        (refine st_y S (Yr.ys (ys_move (Ev.t rfl))) rfl ?_; clear S a w; intro a w S)
        refine st_nil ?_
        refine (then_normal ?_)
        exact ⟨(k + 1, l.set k ⟨m.node, m.life, -1⟩), ⟨by dsimp only; omega, by simp [hl]⟩, by dsimp only; omega, S.weak (by repeat (first | exact Fits.nil | refine Fits.skip rfl ?_ | refine Fits.cons rfl ?_)) (by repeat (first | exact List.Sublist.refl _ | exact List.nil_sublist _ | refine .cons_cons _ ?_ | refine .cons _ ?_))⟩
      refine wp_seq_k fun _ hK2 => ?_
      refine wp_region_lit ?_
      (refine st_y S (Yr.ys (ys_F (by omega) (ys_lss (Ev.t rfl) (Ev.t rfl)))) rfl ?_; clear S a w; intro a w S)
      refine st_nil ?_
      (refine (then_normal (hK2 _ _ ?_)); clear hK2)
      refine wp_seq_k fun _ hK2 => ?_
      refine st_else S (Ev.t rfl) ?_
      refine wp_exit ?_
      (refine (then_exit (then_exit (in_here (then_normal (hK1 _ _ ?_))))); clear hK1)
      refine wp_seq_k fun _ hK1 => ?_
      refine wp_seq_k fun _ hK3 => ?_
      refine wp_region_lit ?_
      (refine st_y S (Yr.ys (ys_fieldN (FieldT.mk Try.underlying36 rfl Try.sizeOf30 rfl) (Ev.t rfl) (i' := 1) rfl)) rfl ?_; clear S a w; intro a w S)
      (refine st_y S (Yr.ys (ys_ld ⟨Try.isAgg30, Try.sizeOf30⟩ (Ev.t rfl) (k := 2) rfl rfl)) rfl ?_; clear S a w; intro a w S)
      (refine st_y S (Yr.ys (ys_lenS Try.underlying30 (Ev.t rfl))) rfl ?_; clear S a w; intro a w S)
      (refine st_y S (Yr.ys (ys_move Ev.c)) rfl ?_; clear S a w; intro a w S)
      refine st_nil ?_
      (refine (then_normal (hK3 _ _ ?_)); clear hK3)
      refine wp_block ?_
      refine st_loopK S (X := Nat × List Dot) (fun q => [(103, true, .int .i64 (q.1 : Int))]) (fun q L => L.set 1 (rowOf 32 3 Dot.enc A21 c29 q.2)) (fun q => q.1 ≤ J.cloud.length ∧ q.2.length = J.cloud.length) (fun q => J.cloud.length - q.1) (0, J.cloud) ⟨Nat.zero_le _, rfl⟩ (by repeat (first | exact Fits.nil | refine Fits.skip rfl ?_ | refine Fits.cons rfl ?_)) (by repeat (first | exact List.Sublist.refl _ | exact List.nil_sublist _ | refine .cons_cons _ ?_ | refine .cons _ ?_)) ?_
      clear S
      intro ⟨k2, l2⟩ a w ⟨hk2, hl2⟩ S
      dsimp only [List.set_cons_zero, List.set_cons_succ] at hk2 hl2 S
      by_cases hlt2 : k2 < J.cloud.length
      · obtain ⟨gr, rfl⟩ := S.wd.row_at (k := 1) rfl (by have := (S.wd.room (k := 1) rfl).1; omega)
        obtain ⟨m, hm⟩ : ∃ m, l2[k2]? = some m := ⟨l2[k2], by simp⟩
        refine wp_seq_k fun _ hK3 => ?_
        refine wp_region_lit ?_
        (refine st_y S (Yr.ys (ys_T (by omega) (ys_lss (Ev.t rfl) (Ev.t rfl)))) rfl ?_; clear S a w; intro a w S)
        refine st_nil ?_
        (refine (then_normal (hK3 _ _ ?_)); clear hK3)
        refine wp_seq_k fun _ hK3 => ?_
        refine st_then S (Ev.t rfl) ?_
        refine wp_skip ?_
        (refine (then_normal (hK3 _ _ ?_)); clear hK3)
        refine wp_seq_k fun _ hK3 => ?_
        refine wp_block ?_
        refine wp_seq_k fun _ hK4 => ?_
        refine wp_region_lit ?_
        (refine st_y S (Yr.ys (ys_move (Ev.t rfl))) rfl ?_; clear S a w; intro a w S)
        (refine st_y S (Yr.ys (ys_assign (Ev.t rfl))) rfl ?_; clear S a w; intro a w S)
        refine st_nil ?_
        (refine (then_normal (hK4 _ _ ?_)); clear hK4)
        refine wp_region_lit ?_
        (refine st_y S (Yr.ys (ys_fieldN (FieldT.mk Try.underlying36 rfl Try.sizeOf30 rfl) (Ev.t rfl) (i' := 1) rfl)) rfl ?_; clear S a w; intro a w S)
        (refine st_y S (Yr.ys (ys_ld ⟨Try.isAgg30, Try.sizeOf30⟩ (Ev.t rfl) (k := 2) rfl rfl)) rfl ?_; clear S a w; intro a w S)
        (refine st_y S (Yr.ys (ys_move (Ev.t rfl))) rfl ?_; clear S a w; intro a w S)
        (refine st_y S (Yr.ys (ys_ixS Try.underlying30 Try.sizeOf32 (Ev.t rfl) (Ev.t rfl) (fun _ => by omega))) rfl ?_; clear S a w; intro a w S)
        (refine st_y S (Yr.ys (ys_field (FieldT.mk Try.underlying32 rfl Try.sizeOf3 rfl) (Ev.t rfl))) rfl ?_; clear S a w; intro a w S)
        refine st_m (op_stFld (enc := Dot.enc) (size := 3) (i := k2) (j := 2) ⟨m.node, m.life, -1⟩ S (fun _ => rfl) Try.sizeOf3 (Ev.t rfl) Ev.c rfl (k := 1) rfl hm (by omega) rfl rfl ?_)
        clear S
        intro a w S
        refine st_nil ?_
        (refine (in_normal (then_normal (hK3 _ _ ?_))); clear hK3)
        refine wp_region_lit ?_
        (refine st_y S (Yr.ys (ys_addI (Ev.t rfl) Ev.c (fun _ => by unfold I64; omega))) rfl ?_; clear S a w; intro a w S)
        (refine st_y S (Yr.ys (ys_move (Ev.t rfl))) rfl ?_; clear S a w; intro a w S)
        refine st_nil ?_
        refine (then_normal ?_)
        exact ⟨(k2 + 1, l2.set k2 ⟨m.node, m.life, -1⟩), ⟨by dsimp only; omega, by simp [hl2]⟩, by dsimp only; omega, S.weak (by repeat (first | exact Fits.nil | refine Fits.skip rfl ?_ | refine Fits.cons rfl ?_)) (by repeat (first | exact List.Sublist.refl _ | exact List.nil_sublist _ | refine .cons_cons _ ?_ | refine .cons _ ?_))⟩
      refine wp_seq_k fun _ hK3 => ?_
      refine wp_region_lit ?_
      (refine st_y S (Yr.ys (ys_F (by omega) (ys_lss (Ev.t rfl) (Ev.t rfl)))) rfl ?_; clear S a w; intro a w S)
      refine st_nil ?_
      (refine (then_normal (hK3 _ _ ?_)); clear hK3)
      refine wp_seq_k fun _ hK3 => ?_
      refine st_else S (Ev.t rfl) ?_
      refine wp_exit ?_
      (refine (then_exit (then_exit (in_here (then_normal (hK1 _ _ ?_))))); clear hK1)
      refine wp_seq_k fun _ hK1 => ?_
      refine wp_region_lit ?_
      (refine st_y S (Yr.ys (ys_ldA ⟨Try.isAgg36, Try.sizeOf36⟩ (Ev.t rfl) (k := 3) rfl rfl)) rfl ?_; clear S a w; intro a w S)
      (refine st_y S (Yr.ys (ys_ldA ⟨Try.isAgg36, Try.sizeOf36⟩ (Ev.t rfl) (k := 10) rfl rfl)) rfl ?_; clear S a w; intro a w S)
      (refine st_y S (ys_call Try.call26 (EvL.cons (Ev.t rfl) (EvL.cons (Ev.t rfl) EvL.nil)) (fun hp w W => c26 _ _ _ _ _ _ _ (by exact ⟨(by exact Sl.of_own W (k := 5) rfl (fun _ => rfl)), (by exact Sl.of_own W (k := 6) rfl (fun _ => rfl))⟩) (by exact .old W (by assumption)))) rfl ?_; clear S a w; intro a w S)
      rw [rw_s] at S
      (refine st_y S (Yr.ys (ys_move (Ev.t rfl))) rfl ?_; clear S a w; intro a w S)
      (refine st_yt S rfl rfl (Yr.ys (ys_ldA ⟨Try.isAgg36, Try.sizeOf36⟩ (Ev.t rfl) (k := 4) rfl rfl)) rfl ?_; clear S a w; intro a w S)
      (refine st_yt S rfl rfl (Yr.ys (ys_ldA ⟨Try.isAgg36, Try.sizeOf36⟩ (Ev.t rfl) (k := 9) rfl rfl)) rfl ?_; clear S a w; intro a w S)
      (refine st_yt S rfl rfl (ys_call Try.call26 (EvL.cons (Ev.t rfl) (EvL.cons (Ev.t rfl) EvL.nil)) (fun hp w W => c26 _ _ _ _ _ _ _ (by exact ⟨(by exact Sl.of_own W (k := 7) rfl (fun _ => rfl)), (by exact Sl.of_own W (k := 8) rfl (fun _ => rfl))⟩) (by exact .old W (by assumption)))) rfl ?_; clear S a w; intro a w S)
      rw [rw_s] at S
      (refine st_y S (Yr.ys (ys_pickT (Ev.t rfl) (Ev.t rfl))) rfl ?_; clear S a w; intro a w S)
      (refine st_y S (Yr.ys (ys_assign (Ev.t rfl))) rfl ?_; clear S a w; intro a w S)
      refine st_nil ?_
      (refine (then_normal (hK1 _ _ ?_)); clear hK1)
      refine wp_ret ?_
      refine st_ret S (results1 S Try.results12 (Rv.tmp rfl)) ?_
      exact ⟨rfl, S.wd.below⟩
    | false =>
      refine wp_seq_k fun _ hK1 => ?_
      refine wp_region_lit ?_
      (refine st_y S (Yr.ys (ys_ldA ⟨Try.isAgg36, Try.sizeOf36⟩ (Ev.t rfl) (k := 0) rfl rfl)) rfl ?_; clear S a w; intro a w S)
      (refine st_y S (Yr.ys (ys_ldA ⟨Try.isAgg36, Try.sizeOf36⟩ (Ev.t rfl) (k := 1) rfl rfl)) rfl ?_; clear S a w; intro a w S)
      (refine st_m (op_calls S Try.call51 (EvL.cons (Ev.t rfl) (EvL.cons (Ev.t rfl) EvL.nil)) (c51 _ _ _ _ _ _ _ (by exact ⟨(by exact Sl.of_own S.wd (k := 2) rfl (fun _ => rfl)), (by exact Sl.of_own S.wd (k := 3) rfl (fun _ => rfl))⟩) (by exact ⟨(by exact Sl.of_own S.wd (k := 4) rfl (fun _ => rfl)), (by exact Sl.of_own S.wd (k := 5) rfl (fun _ => rfl))⟩)) rfl ?_); clear S a w; rintro _ _ ⟨A11, c11, A21, c29, rfl, rfl⟩ a w S)
      rw [rw_j] at S
      (refine st_y S (Yr.ys (ys_move (Ev.t rfl))) rfl ?_; clear S a w; intro a w S)
      (refine st_y S (Yr.ys (ys_ext (Ev.t rfl) rfl)) rfl ?_; clear S a w; intro a w S)
      (refine st_y S (Yr.ys (ys_ext (Ev.t rfl) rfl)) rfl ?_; clear S a w; intro a w S)
      (refine st_m (op_alloc S Try.zeroValue36 (cs := _) rfl rfl ?_); clear S a w; intro g8 a w S)
      (refine st_m (op_stW S Try.sizeOf36 (Ev.t rfl) (Ev.t rfl) (k := 0) rfl rfl rfl (by simp [Value.oneCell']) ?_); clear S a w; intro a w S)
      (refine st_y S (Yr.ys (ys_assign (Ev.t rfl))) rfl ?_; clear S a w; intro a w S)
      refine st_nil ?_
      (refine (then_normal (hK1 _ _ ?_)); clear hK1)
      refine wp_seq_k fun _ hK1 => ?_
      refine wp_region_lit ?_
      (refine st_y S (Yr.ys (ys_ldA ⟨Try.isAgg36, Try.sizeOf36⟩ (Ev.t rfl) (k := 11) rfl rfl)) rfl ?_; clear S a w; intro a w S)
      (refine st_y S (Yr.ys (ys_ldA ⟨Try.isAgg36, Try.sizeOf36⟩ (Ev.t rfl) (k := 10) rfl rfl)) rfl ?_; clear S a w; intro a w S)
      (refine st_m (op_calls S Try.call52 (EvL.cons (Ev.t rfl) (EvL.cons (Ev.t rfl) EvL.nil)) (c52 _ _ _ _ _ _ _ (by exact .old S.wd (by assumption)) (by exact .old S.wd (by assumption))) rfl ?_); clear S a w; rintro _ _ ⟨A12, c13, A22, c210, rfl, rfl⟩ a w S)
      rw [rw_j] at S
      (refine st_y S (Yr.ys (ys_move (Ev.t rfl))) rfl ?_; clear S a w; intro a w S)
      (refine st_y S (Yr.ys (ys_ext (Ev.t rfl) rfl)) rfl ?_; clear S a w; intro a w S)
      (refine st_y S (Yr.ys (ys_ext (Ev.t rfl) rfl)) rfl ?_; clear S a w; intro a w S)
      (refine st_m (op_alloc S Try.zeroValue36 (cs := _) rfl rfl ?_); clear S a w; intro g9 a w S)
      (refine st_m (op_stW S Try.sizeOf36 (Ev.t rfl) (Ev.t rfl) (k := 0) rfl rfl rfl (by simp [Value.oneCell']) ?_); clear S a w; intro a w S)
      (refine st_y S (Yr.ys (ys_assign (Ev.t rfl))) rfl ?_; clear S a w; intro a w S)
      refine st_nil ?_
      (refine (then_normal (hK1 _ _ ?_)); clear hK1)
      refine wp_seq_k fun _ hK1 => ?_
      refine wp_region_lit ?_
      (refine st_y S (Yr.ys (ys_ldA ⟨Try.isAgg36, Try.sizeOf36⟩ (Ev.t rfl) (k := 6) rfl rfl)) rfl ?_; clear S a w; intro a w S)
      (refine st_y S (Yr.ys (ys_ldA ⟨Try.isAgg32, Try.sizeOf32⟩ (Ev.t rfl) (k := 12) rfl rfl)) rfl ?_; clear S a w; intro a w S)
      (refine st_m (op_calls S Try.call53 (EvL.cons (Ev.t rfl) (EvL.cons (Ev.t rfl) EvL.nil)) (c53 _ _ _ _ _ _ _ (by exact ⟨(by exact Sl.of_own S.wd (k := 8) rfl (fun _ => rfl)), (by exact Sl.of_own S.wd (k := 9) rfl (fun _ => rfl))⟩)) rfl ?_); clear S a w; rintro _ _ ⟨A13, c14, A23, c211, rfl, rfl⟩ a w S)
      rw [rw_m] at S
      (refine st_y S (Yr.ys (ys_move (Ev.t rfl))) rfl ?_; clear S a w; intro a w S)
      (refine st_y S (Yr.ys (ys_ext (Ev.t rfl) rfl)) rfl ?_; clear S a w; intro a w S)
      (refine st_y S (Yr.ys (ys_ext (Ev.t rfl) rfl)) rfl ?_; clear S a w; intro a w S)
      (refine st_m (op_alloc S Try.zeroValue36 (cs := _) rfl rfl ?_); clear S a w; intro g10 a w S)
      (refine st_m (op_stW S Try.sizeOf36 (Ev.t rfl) (Ev.t rfl) (k := 0) rfl rfl rfl (by simp [Value.oneCell']) ?_); clear S a w; intro a w S)
      (refine st_y S (Yr.ys (ys_assign (Ev.t rfl))) rfl ?_; clear S a w; intro a w S)
      refine st_nil ?_
      (refine (then_normal (hK1 _ _ ?_)); clear hK1)
      refine wp_seq_k fun _ hK1 => ?_
      refine wp_region_lit ?_
      (refine st_y S (Yr.ys (ys_ldA ⟨Try.isAgg36, Try.sizeOf36⟩ (Ev.t rfl) (k := 17) rfl rfl)) rfl ?_; clear S a w; intro a w S)
      (refine st_y S (Yr.ys (ys_ldA ⟨Try.isAgg32, Try.sizeOf32⟩ (Ev.t rfl) (k := 15) rfl rfl)) rfl ?_; clear S a w; intro a w S)
      (refine st_m (op_calls S Try.call54 (EvL.cons (Ev.t rfl) (EvL.cons (Ev.t rfl) EvL.nil)) (c54 _ _ _ _ _ _ _ (by exact .old S.wd (by assumption))) rfl ?_); clear S a w; rintro _ _ ⟨A14, c15, A24, c212, rfl, rfl⟩ a w S)
      rw [rw_m] at S
      (refine st_y S (Yr.ys (ys_move (Ev.t rfl))) rfl ?_; clear S a w; intro a w S)
      (refine st_y S (Yr.ys (ys_ext (Ev.t rfl) rfl)) rfl ?_; clear S a w; intro a w S)
      (refine st_y S (Yr.ys (ys_ext (Ev.t rfl) rfl)) rfl ?_; clear S a w; intro a w S)
      (refine st_m (op_alloc S Try.zeroValue36 (cs := _) rfl rfl ?_); clear S a w; intro g11 a w S)
      (refine st_m (op_stW S Try.sizeOf36 (Ev.t rfl) (Ev.t rfl) (k := 0) rfl rfl rfl (by simp [Value.oneCell']) ?_); clear S a w; intro a w S)
      (refine st_y S (Yr.ys (ys_assign (Ev.t rfl))) rfl ?_; clear S a w; intro a w S)
      refine st_nil ?_
      (refine (then_normal (hK1 _ _ ?_)); clear hK1)
      refine wp_seq_k fun _ hK1 => ?_
      refine wp_seq_k fun _ hK2 => ?_
      refine wp_region_lit ?_
      (refine st_y S (Yr.ys (ys_ldA ⟨Try.isAgg36, Try.sizeOf36⟩ (Ev.t rfl) (k := 9) rfl rfl)) rfl ?_; clear S a w; intro a w S)
      (refine st_y S (Yr.ys (ys_move (Ev.t rfl))) rfl ?_; clear S a w; intro a w S)
      (refine st_y S (Yr.ys (ys_ldA ⟨Try.isAgg36, Try.sizeOf36⟩ (Ev.t rfl) (k := 6) rfl rfl)) rfl ?_; clear S a w; intro a w S)
      (refine st_y S (Yr.ys (ys_move (Ev.t rfl))) rfl ?_; clear S a w; intro a w S)
      (refine st_y S (ys_call Try.call45 (EvL.cons (Ev.t rfl) (EvL.cons (Ev.t rfl) (EvL.cons (Ev.t rfl) (EvL.cons (Ev.t rfl) EvL.nil)))) (fun hp w W => c45 _ _ _ _ _ _ _ _ _ (by exact ⟨(by exact Sl.of_own W (k := 10) rfl (fun _ => rfl)), (by exact Sl.of_own W (k := 11) rfl (fun _ => rfl))⟩) (by exact ⟨(by exact Sl.of_own W (k := 7) rfl (fun _ => rfl)), (by exact Sl.of_own W (k := 8) rfl (fun _ => rfl))⟩))) rfl ?_; clear S a w; intro a w S)
      rw [rw_s2] at S
      (refine st_y S (Yr.ys (ys_not (Ev.t rfl))) rfl ?_; clear S a w; intro a w S)
      (refine st_y S (Yr.ys (ys_move (Ev.t rfl))) rfl ?_; clear S a w; intro a w S)
      (refine st_yt S rfl rfl (Yr.ys (ys_ldA ⟨Try.isAgg36, Try.sizeOf36⟩ (Ev.t rfl) (k := 3) rfl rfl)) rfl ?_; clear S a w; intro a w S)
      (refine st_yt S rfl rfl (Yr.ys (ys_move (Ev.t rfl))) rfl ?_; clear S a w; intro a w S)
      (refine st_yt S rfl rfl (Yr.ys (ys_ldA ⟨Try.isAgg36, Try.sizeOf36⟩ (Ev.t rfl) (k := 0) rfl rfl)) rfl ?_; clear S a w; intro a w S)
      (refine st_yt S rfl rfl (Yr.ys (ys_move (Ev.t rfl))) rfl ?_; clear S a w; intro a w S)
      (refine st_yt S rfl rfl (ys_call Try.call45 (EvL.cons (Ev.t rfl) (EvL.cons (Ev.t rfl) (EvL.cons (Ev.t rfl) (EvL.cons (Ev.t rfl) EvL.nil)))) (fun hp w W => c45 _ _ _ _ _ _ _ _ _ (by exact ⟨(by exact Sl.of_own W (k := 4) rfl (fun _ => rfl)), (by exact Sl.of_own W (k := 5) rfl (fun _ => rfl))⟩) (by exact ⟨(by exact Sl.of_own W (k := 1) rfl (fun _ => rfl)), (by exact Sl.of_own W (k := 2) rfl (fun _ => rfl))⟩))) rfl ?_; clear S a w; intro a w S)
      rw [rw_s2] at S
      (refine st_yt S rfl rfl (Yr.ys (ys_not (Ev.t rfl))) rfl ?_; clear S a w; intro a w S)
      (refine st_y S (Yr.ys (ys_pickF (Ev.t rfl) (Ev.t rfl))) rfl ?_; clear S a w; intro a w S)
      (refine st_y S (Yr.ys (ys_move (Ev.t rfl))) rfl ?_; clear S a w; intro a w S)
      (refine st_yt S rfl rfl (Yr.ys (ys_ldA ⟨Try.isAgg36, Try.sizeOf36⟩ (Ev.t rfl) (k := 12) rfl rfl)) rfl ?_; clear S a w; intro a w S)
      (refine st_yt S rfl rfl (Yr.ys (ys_ldA ⟨Try.isAgg36, Try.sizeOf36⟩ (Ev.t rfl) (k := 20) rfl rfl)) rfl ?_; clear S a w; intro a w S)
      (refine st_yt S rfl rfl (ys_call Try.call26 (EvL.cons (Ev.t rfl) (EvL.cons (Ev.t rfl) EvL.nil)) (fun hp w W => c26 _ _ _ _ _ _ _ (by exact ⟨(by exact Sl.of_own W (k := 14) rfl (fun _ => rfl)), (by exact Sl.of_own W (k := 15) rfl (fun _ => rfl))⟩) (by exact .old W (by assumption)))) rfl ?_; clear S a w; intro a w S)
      rw [rw_s] at S
      (refine st_yt S rfl rfl (Yr.ys (ys_not (Ev.t rfl))) rfl ?_; clear S a w; intro a w S)
      (refine st_y S (Yr.ys (ys_pickF (Ev.t rfl) (Ev.t rfl))) rfl ?_; clear S a w; intro a w S)
      (refine st_y S (Yr.ys (ys_move (Ev.t rfl))) rfl ?_; clear S a w; intro a w S)
      (refine st_yt S rfl rfl (Yr.ys (ys_ldA ⟨Try.isAgg36, Try.sizeOf36⟩ (Ev.t rfl) (k := 13) rfl rfl)) rfl ?_; clear S a w; intro a w S)
      (refine st_yt S rfl rfl (Yr.ys (ys_ldA ⟨Try.isAgg36, Try.sizeOf36⟩ (Ev.t rfl) (k := 19) rfl rfl)) rfl ?_; clear S a w; intro a w S)
      (refine st_yt S rfl rfl (ys_call Try.call26 (EvL.cons (Ev.t rfl) (EvL.cons (Ev.t rfl) EvL.nil)) (fun hp w W => c26 _ _ _ _ _ _ _ (by exact ⟨(by exact Sl.of_own W (k := 16) rfl (fun _ => rfl)), (by exact Sl.of_own W (k := 17) rfl (fun _ => rfl))⟩) (by exact .old W (by assumption)))) rfl ?_; clear S a w; intro a w S)
      rw [rw_s] at S
      (refine st_yt S rfl rfl (Yr.ys (ys_not (Ev.t rfl))) rfl ?_; clear S a w; intro a w S)
      (refine st_y S (Yr.ys (ys_pickF (Ev.t rfl) (Ev.t rfl))) rfl ?_; clear S a w; intro a w S)
      refine st_nil ?_
      (refine (then_normal (hK2 _ _ ?_)); clear hK2)
      refine st_else S (Ev.t rfl) ?_
      refine wp_skip ?_
      (refine (then_normal (hK1 _ _ ?_)); clear hK1)
      refine wp_seq_k fun _ hK1 => ?_
      refine wp_seq_k fun _ hK2 => ?_
      (refine st_quiet S (by kernel_rfl) (by kernel_rfl) ?_; clear S w; intro a S)
      (refine q_y S (Yr.ys (ys_ldA ⟨Try.isAgg36, Try.sizeOf36⟩ (Ev.t rfl) (k := 20) rfl rfl)) rfl ?_; clear S a; intro a S)
      (refine q_y S (ys_call Try.call55 (EvL.cons (Ev.t rfl) EvL.nil) (fun hp w W => c55 _ _ _ _ (by exact .old W (by assumption)))) rfl ?_; clear S a; intro a S)
      rw [rw_a] at S
      (refine q_y S (Yr.ys (ys_move (Ev.t rfl))) rfl ?_; clear S a; intro a S)
      (refine q_yt S rfl rfl (Yr.ys (ys_ldA ⟨Try.isAgg36, Try.sizeOf36⟩ (Ev.t rfl) (k := 19) rfl rfl)) rfl ?_; clear S a; intro a S)
      (refine q_yt S rfl rfl (ys_call Try.call55 (EvL.cons (Ev.t rfl) EvL.nil) (fun hp w W => c55 _ _ _ _ (by exact .old W (by assumption)))) rfl ?_; clear S a; intro a S)
      rw [rw_b] at S
      (refine q_y S (Yr.ys (ys_pickT (Ev.t rfl) (Ev.t rfl))) rfl ?_; clear S a; intro a S)
      (refine q_y S (Yr.ys (ys_move (Ev.t rfl))) rfl ?_; clear S a; intro a S)
      (refine q_skip S rfl rfl rfl rfl ?_; clear S a; intro a S)
      (refine q_skip S rfl rfl rfl rfl ?_; clear S a; intro a S)
      (refine q_skip S rfl rfl rfl rfl ?_; clear S a; intro a S)
      (refine q_skip S rfl rfl rfl rfl ?_; clear S a; intro a S)
      (refine q_skip S rfl rfl rfl rfl ?_; clear S a; intro a S)
      (refine q_skip S rfl rfl rfl rfl ?_; clear S a; intro a S)
      (refine q_skip S rfl rfl rfl rfl ?_; clear S a; intro a S)
      (refine q_y S (Yr.ys (ys_pickF (Ev.t rfl) Ev.c)) rfl ?_; clear S a; intro a S)
      (refine q_nil ?_; intro w W; replace S := St.mk S W; clear W)
      (refine (then_normal (hK2 _ _ ?_)); clear hK2)
      refine st_else S (Ev.t rfl) ?_
      refine wp_skip ?_
      (refine (then_normal (hK1 _ _ ?_)); clear hK1)
      refine wp_seq_k fun _ hK1 => ?_
      refine wp_seq_k fun _ hK2 => ?_
      refine wp_region_lit ?_
      (refine st_y S (Yr.ys (ys_fieldN (FieldT.mk Try.underlying36 rfl Try.sizeOf29 rfl) (Ev.t rfl) (i' := 0) rfl)) rfl ?_; clear S a w; intro a w S)
      (refine st_y S (Yr.ys (ys_ld ⟨Try.isAgg29, Try.sizeOf29⟩ (Ev.t rfl) (k := 9) rfl rfl)) rfl ?_; clear S a w; intro a w S)
      (refine st_y S (Yr.ys (ys_lenS Try.underlying29 (Ev.t rfl))) rfl ?_; clear S a w; intro a w S)
      (refine st_y S (Yr.ys (ys_move Ev.c)) rfl ?_; clear S a w; intro a w S)
      refine st_nil ?_
      (refine (then_normal (hK2 _ _ ?_)); clear hK2)
      refine wp_block ?_
      replace S := S.picks (K' := [(91, true, .int .i64 ((0 : Nat) : Int)), (90, true, .int .i64 (J.marks.length : Int)), (9, true, .pointer (some ⟨g8, 0, none⟩)), (8, true, .pointer (some ⟨gb, 0, none⟩)), (7, true, .pointer (some ⟨ga, 0, none⟩)), (6, true, .bool false), (4, true, .pointer (some ⟨g6, 0, none⟩)), (3, true, .pointer (some ⟨g5, 0, none⟩))])
        (L' := [rowOf 43 3 Dot.enc A11 c11 J.marks, rowOf 32 3 Dot.enc A21 c29 J.cloud, .blk g8 (.cells #[.slice A11 J.marks.length c11, .slice A21 J.cloud.length c29] 36),
        .blk ga (.cells #[.slice A1 A.marks.length c1, .slice A2 A.cloud.length c2] 36), .blk gb (.cells #[.slice A3 B.marks.length c3, .slice A4 B.cloud.length c4] 36), rowOf 43 3 Dot.enc A1 c1 A.marks, rowOf 32 3 Dot.enc A2 c2 A.cloud, rowOf 43 3 Dot.enc A3 c3 B.marks, rowOf 32 3 Dot.enc A4 c4 B.cloud,
        .blk g6 (.cells #[v3, v4] 36), .blk g5 (.cells #[v1, v2] 36)]) (by repeat (first | exact Fits.nil | refine Fits.skip rfl ?_ | refine Fits.cons rfl ?_)) (by repeat (first | exact Picks.nil | refine Picks.take 0 rfl ?_ | refine Picks.take 1 rfl ?_ | refine Picks.take 2 rfl ?_ | refine Picks.take 3 rfl ?_ | refine Picks.take 4 rfl ?_ | refine Picks.take 5 rfl ?_ | refine Picks.take 6 rfl ?_ | refine Picks.take 7 rfl ?_ | refine Picks.take 8 rfl ?_ | refine Picks.take 9 rfl ?_ | refine Picks.take 10 rfl ?_ | refine Picks.take 11 rfl ?_))
      refine st_loopK S (X := Nat × List Dot) (fun q => [(91, true, .int .i64 (q.1 : Int))]) (fun q L => L.set 0 (rowOf 43 3 Dot.enc A11 c11 q.2)) (fun q => q.1 ≤ J.marks.length ∧ q.2.length = J.marks.length) (fun q => J.marks.length - q.1) (0, J.marks) ⟨Nat.zero_le _, rfl⟩ (by repeat (first | exact Fits.nil | refine Fits.skip rfl ?_ | refine Fits.cons rfl ?_)) (by repeat (first | exact List.Sublist.refl _ | exact List.nil_sublist _ | refine .cons_cons _ ?_ | refine .cons _ ?_)) ?_
      clear S
      intro ⟨k, l⟩ a w ⟨hk, hl⟩ S
      dsimp only [List.set_cons_zero] at hk hl S
      by_cases hlt : k < J.marks.length
      · obtain ⟨gr, rfl⟩ := S.wd.row_at (k := 0) rfl (by have := (S.wd.room (k := 0) rfl).1; omega)
        obtain ⟨m, hm⟩ : ∃ m, l[k]? = some m := ⟨l[k], by simp⟩
        refine wp_seq_k fun _ hK2 => ?_
        refine wp_region_lit ?_
        (refine st_y S (Yr.ys (ys_T (by omega) (ys_lss (Ev.t rfl) (Ev.t rfl)))) rfl ?_; clear S a w; intro a w S)
        refine st_nil ?_
        (refine (then_normal (hK2 _ _ ?_)); clear hK2)
        refine wp_seq_k fun _ hK2 => ?_
        refine st_then S (Ev.t rfl) ?_
        refine wp_skip ?_
        (refine (then_normal (hK2 _ _ ?_)); clear hK2)
        refine wp_seq_k fun _ hK2 => ?_
        refine wp_block ?_
        refine wp_seq_k fun _ hK3 => ?_
        refine wp_region_lit ?_
        (refine st_y S (Yr.ys (ys_move (Ev.t rfl))) rfl ?_; clear S a w; intro a w S)
        (refine st_y S (Yr.ys (ys_assign (Ev.t rfl))) rfl ?_; clear S a w; intro a w S)
        refine st_nil ?_
        (refine (then_normal (hK3 _ _ ?_)); clear hK3)
        refine wp_region_lit ?_
        (refine st_y S (Yr.ys (ys_fieldN (FieldT.mk Try.underlying36 rfl Try.sizeOf29 rfl) (Ev.t rfl) (i' := 0) rfl)) rfl ?_; clear S a w; intro a w S)
        (refine st_y S (Yr.ys (ys_ld ⟨Try.isAgg29, Try.sizeOf29⟩ (Ev.t rfl) (k := 2) rfl rfl)) rfl ?_; clear S a w; intro a w S)
        (refine st_y S (Yr.ys (ys_move (Ev.t rfl))) rfl ?_; clear S a w; intro a w S)
        (refine st_y S (Yr.ys (ys_ixS Try.underlying29 Try.sizeOf43 (Ev.t rfl) (Ev.t rfl) (fun _ => by omega))) rfl ?_; clear S a w; intro a w S)
        (refine st_y S (Yr.ys (ys_field (FieldT.mk Try.underlying43 rfl Try.sizeOf3 rfl) (Ev.t rfl))) rfl ?_; clear S a w; intro a w S)
        refine st_m (op_stFld (enc := Dot.enc) (size := 3) (i := k) (j := 2) ⟨m.node, m.life, -1⟩ S (fun _ => rfl) Try.sizeOf3 (Ev.t rfl) Ev.c rfl (k := 0) rfl hm (by omega) rfl rfl ?_)
        clear S
        intro a w S
        refine st_nil ?_
        (refine (in_normal (then_normal (hK2 _ _ ?_))); clear hK2)
        refine wp_region_lit ?_
        (refine st_y S (Yr.ys (ys_addI (Ev.t rfl) Ev.c (fun _ => by unfold I64; omega))) rfl ?_; clear S a w; intro a w S)
        (refine st_y S (Yr.ys (ys_move (Ev.t rfl))) rfl ?_; clear S a w; intro a w S)
        refine st_nil ?_
        refine (then_normal ?_)
        exact ⟨(k + 1, l.set k ⟨m.node, m.life, -1⟩), ⟨by dsimp only; omega, by simp [hl]⟩, by dsimp only; omega, S.weak (by repeat (first | exact Fits.nil | refine Fits.skip rfl ?_ | refine Fits.cons rfl ?_)) (by repeat (first | exact List.Sublist.refl _ | exact List.nil_sublist _ | refine .cons_cons _ ?_ | refine .cons _ ?_))⟩
      refine wp_seq_k fun _ hK2 => ?_
      refine wp_region_lit ?_
      (refine st_y S (Yr.ys (ys_F (by omega) (ys_lss (Ev.t rfl) (Ev.t rfl)))) rfl ?_; clear S a w; intro a w S)
      refine st_nil ?_
      (refine (then_normal (hK2 _ _ ?_)); clear hK2)
      refine wp_seq_k fun _ hK2 => ?_
      refine st_else S (Ev.t rfl) ?_
      refine wp_exit ?_
      (refine (then_exit (then_exit (in_here (then_normal (hK1 _ _ ?_))))); clear hK1)
      refine wp_seq_k fun _ hK1 => ?_
      refine wp_seq_k fun _ hK3 => ?_
      refine wp_region_lit ?_
      (refine st_y S (Yr.ys (ys_fieldN (FieldT.mk Try.underlying36 rfl Try.sizeOf30 rfl) (Ev.t rfl) (i' := 1) rfl)) rfl ?_; clear S a w; intro a w S)
      (refine st_y S (Yr.ys (ys_ld ⟨Try.isAgg30, Try.sizeOf30⟩ (Ev.t rfl) (k := 2) rfl rfl)) rfl ?_; clear S a w; intro a w S)
      (refine st_y S (Yr.ys (ys_lenS Try.underlying30 (Ev.t rfl))) rfl ?_; clear S a w; intro a w S)
      (refine st_y S (Yr.ys (ys_move Ev.c)) rfl ?_; clear S a w; intro a w S)
      refine st_nil ?_
      (refine (then_normal (hK3 _ _ ?_)); clear hK3)
      refine wp_block ?_
      refine st_loopK S (X := Nat × List Dot) (fun q => [(103, true, .int .i64 (q.1 : Int))]) (fun q L => L.set 1 (rowOf 32 3 Dot.enc A21 c29 q.2)) (fun q => q.1 ≤ J.cloud.length ∧ q.2.length = J.cloud.length) (fun q => J.cloud.length - q.1) (0, J.cloud) ⟨Nat.zero_le _, rfl⟩ (by repeat (first | exact Fits.nil | refine Fits.skip rfl ?_ | refine Fits.cons rfl ?_)) (by repeat (first | exact List.Sublist.refl _ | exact List.nil_sublist _ | refine .cons_cons _ ?_ | refine .cons _ ?_)) ?_
      clear S
      intro ⟨k2, l2⟩ a w ⟨hk2, hl2⟩ S
      dsimp only [List.set_cons_zero, List.set_cons_succ] at hk2 hl2 S
      by_cases hlt2 : k2 < J.cloud.length
      · obtain ⟨gr, rfl⟩ := S.wd.row_at (k := 1) rfl (by have := (S.wd.room (k := 1) rfl).1; omega)
        obtain ⟨m, hm⟩ : ∃ m, l2[k2]? = some m := ⟨l2[k2], by simp⟩
        refine wp_seq_k fun _ hK3 => ?_
        refine wp_region_lit ?_
        (refine st_y S (Yr.ys (ys_T (by omega) (ys_lss (Ev.t rfl) (Ev.t rfl)))) rfl ?_; clear S a w; intro a w S)
        refine st_nil ?_
        (refine (then_normal (hK3 _ _ ?_)); clear hK3)
        refine wp_seq_k fun _ hK3 => ?_
        refine st_then S (Ev.t rfl) ?_
        refine wp_skip ?_
        (refine (then_normal (hK3 _ _ ?_)); clear hK3)
        refine wp_seq_k fun _ hK3 => ?_
        refine wp_block ?_
        refine wp_seq_k fun _ hK4 => ?_
        refine wp_region_lit ?_
        (refine st_y S (Yr.ys (ys_move (Ev.t rfl))) rfl ?_; clear S a w; intro a w S)
        (refine st_y S (Yr.ys (ys_assign (Ev.t rfl))) rfl ?_; clear S a w; intro a w S)
        refine st_nil ?_
        (refine (then_normal (hK4 _ _ ?_)); clear hK4)
        refine wp_region_lit ?_
        (refine st_y S (Yr.ys (ys_fieldN (FieldT.mk Try.underlying36 rfl Try.sizeOf30 rfl) (Ev.t rfl) (i' := 1) rfl)) rfl ?_; clear S a w; intro a w S)
        (refine st_y S (Yr.ys (ys_ld ⟨Try.isAgg30, Try.sizeOf30⟩ (Ev.t rfl) (k := 2) rfl rfl)) rfl ?_; clear S a w; intro a w S)
        (refine st_y S (Yr.ys (ys_move (Ev.t rfl))) rfl ?_; clear S a w; intro a w S)
        (refine st_y S (Yr.ys (ys_ixS Try.underlying30 Try.sizeOf32 (Ev.t rfl) (Ev.t rfl) (fun _ => by omega))) rfl ?_; clear S a w; intro a w S)
        (refine st_y S (Yr.ys (ys_field (FieldT.mk Try.underlying32 rfl Try.sizeOf3 rfl) (Ev.t rfl))) rfl ?_; clear S a w; intro a w S)
        refine st_m (op_stFld (enc := Dot.enc) (size := 3) (i := k2) (j := 2) ⟨m.node, m.life, -1⟩ S (fun _ => rfl) Try.sizeOf3 (Ev.t rfl) Ev.c rfl (k := 1) rfl hm (by omega) rfl rfl ?_)
        clear S
        intro a w S
        refine st_nil ?_
        (refine (in_normal (then_normal (hK3 _ _ ?_))); clear hK3)
        refine wp_region_lit ?_
        (refine st_y S (Yr.ys (ys_addI (Ev.t rfl) Ev.c (fun _ => by unfold I64; omega))) rfl ?_; clear S a w; intro a w S)
        (refine st_y S (Yr.ys (ys_move (Ev.t rfl))) rfl ?_; clear S a w; intro a w S)
        refine st_nil ?_
        refine (then_normal ?_)
        exact ⟨(k2 + 1, l2.set k2 ⟨m.node, m.life, -1⟩), ⟨by dsimp only; omega, by simp [hl2]⟩, by dsimp only; omega, S.weak (by repeat (first | exact Fits.nil | refine Fits.skip rfl ?_ | refine Fits.cons rfl ?_)) (by repeat (first | exact List.Sublist.refl _ | exact List.nil_sublist _ | refine .cons_cons _ ?_ | refine .cons _ ?_))⟩
      refine wp_seq_k fun _ hK3 => ?_
      refine wp_region_lit ?_
      (refine st_y S (Yr.ys (ys_F (by omega) (ys_lss (Ev.t rfl) (Ev.t rfl)))) rfl ?_; clear S a w; intro a w S)
      refine st_nil ?_
      (refine (then_normal (hK3 _ _ ?_)); clear hK3)
      refine wp_seq_k fun _ hK3 => ?_
      refine st_else S (Ev.t rfl) ?_
      refine wp_exit ?_
      (refine (then_exit (then_exit (in_here (then_normal (hK1 _ _ ?_))))); clear hK1)
      refine wp_seq_k fun _ hK1 => ?_
      refine wp_region_lit ?_
      (refine st_y S (Yr.ys (ys_ldA ⟨Try.isAgg36, Try.sizeOf36⟩ (Ev.t rfl) (k := 3) rfl rfl)) rfl ?_; clear S a w; intro a w S)
      (refine st_y S (Yr.ys (ys_ldA ⟨Try.isAgg36, Try.sizeOf36⟩ (Ev.t rfl) (k := 10) rfl rfl)) rfl ?_; clear S a w; intro a w S)
      (refine st_y S (ys_call Try.call26 (EvL.cons (Ev.t rfl) (EvL.cons (Ev.t rfl) EvL.nil)) (fun hp w W => c26 _ _ _ _ _ _ _ (by exact ⟨(by exact Sl.of_own W (k := 5) rfl (fun _ => rfl)), (by exact Sl.of_own W (k := 6) rfl (fun _ => rfl))⟩) (by exact .old W (by assumption)))) rfl ?_; clear S a w; intro a w S)
      rw [rw_s] at S
      (refine st_y S (Yr.ys (ys_move (Ev.t rfl))) rfl ?_; clear S a w; intro a w S)
      (refine st_yt S rfl rfl (Yr.ys (ys_ldA ⟨Try.isAgg36, Try.sizeOf36⟩ (Ev.t rfl) (k := 4) rfl rfl)) rfl ?_; clear S a w; intro a w S)
      (refine st_yt S rfl rfl (Yr.ys (ys_ldA ⟨Try.isAgg36, Try.sizeOf36⟩ (Ev.t rfl) (k := 9) rfl rfl)) rfl ?_; clear S a w; intro a w S)
      (refine st_yt S rfl rfl (ys_call Try.call26 (EvL.cons (Ev.t rfl) (EvL.cons (Ev.t rfl) EvL.nil)) (fun hp w W => c26 _ _ _ _ _ _ _ (by exact ⟨(by exact Sl.of_own W (k := 7) rfl (fun _ => rfl)), (by exact Sl.of_own W (k := 8) rfl (fun _ => rfl))⟩) (by exact .old W (by assumption)))) rfl ?_; clear S a w; intro a w S)
      rw [rw_s] at S
      (refine st_y S (Yr.ys (ys_pickT (Ev.t rfl) (Ev.t rfl))) rfl ?_; clear S a w; intro a w S)
      (refine st_y S (Yr.ys (ys_assign (Ev.t rfl))) rfl ?_; clear S a w; intro a w S)
      refine st_nil ?_
      (refine (then_normal (hK1 _ _ ?_)); clear hK1)
      refine wp_ret ?_
      refine st_ret S (results1 S Try.results12 (Rv.tmp rfl)) ?_
      exact ⟨rfl, S.wd.below⟩
  | false =>
    refine wp_seq_k fun _ hK1 => ?_
    refine wp_region_lit ?_
    (refine st_y S (Yr.ys (ys_ldA ⟨Try.isAgg36, Try.sizeOf36⟩ (Ev.t rfl) (k := 0) rfl rfl)) rfl ?_; clear S a w; intro a w S)
    (refine st_y S (Yr.ys (ys_ldA ⟨Try.isAgg36, Try.sizeOf36⟩ (Ev.t rfl) (k := 1) rfl rfl)) rfl ?_; clear S a w; intro a w S)
    (refine st_m (op_calls S Try.call51 (EvL.cons (Ev.t rfl) (EvL.cons (Ev.t rfl) EvL.nil)) (c51 _ _ _ _ _ _ _ (by exact ⟨(by exact Sl.of_own S.wd (k := 2) rfl (fun _ => rfl)), (by exact Sl.of_own S.wd (k := 3) rfl (fun _ => rfl))⟩) (by exact ⟨(by exact Sl.of_own S.wd (k := 4) rfl (fun _ => rfl)), (by exact Sl.of_own S.wd (k := 5) rfl (fun _ => rfl))⟩)) rfl ?_); clear S a w; rintro _ _ ⟨A11, c11, A21, c29, rfl, rfl⟩ a w S)
    rw [rw_j] at S
    (refine st_y S (Yr.ys (ys_move (Ev.t rfl))) rfl ?_; clear S a w; intro a w S)
    (refine st_y S (Yr.ys (ys_ext (Ev.t rfl) rfl)) rfl ?_; clear S a w; intro a w S)
    (refine st_y S (Yr.ys (ys_ext (Ev.t rfl) rfl)) rfl ?_; clear S a w; intro a w S)
    (refine st_m (op_alloc S Try.zeroValue36 (cs := _) rfl rfl ?_); clear S a w; intro g8 a w S)
    (refine st_m (op_stW S Try.sizeOf36 (Ev.t rfl) (Ev.t rfl) (k := 0) rfl rfl rfl (by simp [Value.oneCell']) ?_); clear S a w; intro a w S)
    (refine st_y S (Yr.ys (ys_assign (Ev.t rfl))) rfl ?_; clear S a w; intro a w S)
    refine st_nil ?_
    (refine (then_normal (hK1 _ _ ?_)); clear hK1)
    refine wp_seq_k fun _ hK1 => ?_
    refine wp_region_lit ?_
    (refine st_y S (Yr.ys (ys_ldA ⟨Try.isAgg36, Try.sizeOf36⟩ (Ev.t rfl) (k := 11) rfl rfl)) rfl ?_; clear S a w; intro a w S)
    (refine st_y S (Yr.ys (ys_ldA ⟨Try.isAgg36, Try.sizeOf36⟩ (Ev.t rfl) (k := 10) rfl rfl)) rfl ?_; clear S a w; intro a w S)
    (refine st_m (op_calls S Try.call52 (EvL.cons (Ev.t rfl) (EvL.cons (Ev.t rfl) EvL.nil)) (c52 _ _ _ _ _ _ _ (by exact .old S.wd (by assumption)) (by exact .old S.wd (by assumption))) rfl ?_); clear S a w; rintro _ _ ⟨A12, c13, A22, c210, rfl, rfl⟩ a w S)
    rw [rw_j] at S
    (refine st_y S (Yr.ys (ys_move (Ev.t rfl))) rfl ?_; clear S a w; intro a w S)
    (refine st_y S (Yr.ys (ys_ext (Ev.t rfl) rfl)) rfl ?_; clear S a w; intro a w S)
    (refine st_y S (Yr.ys (ys_ext (Ev.t rfl) rfl)) rfl ?_; clear S a w; intro a w S)
    (refine st_m (op_alloc S Try.zeroValue36 (cs := _) rfl rfl ?_); clear S a w; intro g9 a w S)
    (refine st_m (op_stW S Try.sizeOf36 (Ev.t rfl) (Ev.t rfl) (k := 0) rfl rfl rfl (by simp [Value.oneCell']) ?_); clear S a w; intro a w S)
    (refine st_y S (Yr.ys (ys_assign (Ev.t rfl))) rfl ?_; clear S a w; intro a w S)
    refine st_nil ?_
    (refine (then_normal (hK1 _ _ ?_)); clear hK1)
    refine wp_seq_k fun _ hK1 => ?_
    refine wp_region_lit ?_
    (refine st_y S (Yr.ys (ys_ldA ⟨Try.isAgg36, Try.sizeOf36⟩ (Ev.t rfl) (k := 6) rfl rfl)) rfl ?_; clear S a w; intro a w S)
    (refine st_y S (Yr.ys (ys_ldA ⟨Try.isAgg32, Try.sizeOf32⟩ (Ev.t rfl) (k := 12) rfl rfl)) rfl ?_; clear S a w; intro a w S)
    (refine st_m (op_calls S Try.call53 (EvL.cons (Ev.t rfl) (EvL.cons (Ev.t rfl) EvL.nil)) (c53 _ _ _ _ _ _ _ (by exact ⟨(by exact Sl.of_own S.wd (k := 8) rfl (fun _ => rfl)), (by exact Sl.of_own S.wd (k := 9) rfl (fun _ => rfl))⟩)) rfl ?_); clear S a w; rintro _ _ ⟨A13, c14, A23, c211, rfl, rfl⟩ a w S)
    rw [rw_m] at S
    (refine st_y S (Yr.ys (ys_move (Ev.t rfl))) rfl ?_; clear S a w; intro a w S)
    (refine st_y S (Yr.ys (ys_ext (Ev.t rfl) rfl)) rfl ?_; clear S a w; intro a w S)
    (refine st_y S (Yr.ys (ys_ext (Ev.t rfl) rfl)) rfl ?_; clear S a w; intro a w S)
    (refine st_m (op_alloc S Try.zeroValue36 (cs := _) rfl rfl ?_); clear S a w; intro g10 a w S)
    (refine st_m (op_stW S Try.sizeOf36 (Ev.t rfl) (Ev.t rfl) (k := 0) rfl rfl rfl (by simp [Value.oneCell']) ?_); clear S a w; intro a w S)
    (refine st_y S (Yr.ys (ys_assign (Ev.t rfl))) rfl ?_; clear S a w; intro a w S)
    refine st_nil ?_
    (refine (then_normal (hK1 _ _ ?_)); clear hK1)
    refine wp_seq_k fun _ hK1 => ?_
    refine wp_region_lit ?_
    (refine st_y S (Yr.ys (ys_ldA ⟨Try.isAgg36, Try.sizeOf36⟩ (Ev.t rfl) (k := 17) rfl rfl)) rfl ?_; clear S a w; intro a w S)
    (refine st_y S (Yr.ys (ys_ldA ⟨Try.isAgg32, Try.sizeOf32⟩ (Ev.t rfl) (k := 15) rfl rfl)) rfl ?_; clear S a w; intro a w S)
    (refine st_m (op_calls S Try.call54 (EvL.cons (Ev.t rfl) (EvL.cons (Ev.t rfl) EvL.nil)) (c54 _ _ _ _ _ _ _ (by exact .old S.wd (by assumption))) rfl ?_); clear S a w; rintro _ _ ⟨A14, c15, A24, c212, rfl, rfl⟩ a w S)
    rw [rw_m] at S
    (refine st_y S (Yr.ys (ys_move (Ev.t rfl))) rfl ?_; clear S a w; intro a w S)
    (refine st_y S (Yr.ys (ys_ext (Ev.t rfl) rfl)) rfl ?_; clear S a w; intro a w S)
    (refine st_y S (Yr.ys (ys_ext (Ev.t rfl) rfl)) rfl ?_; clear S a w; intro a w S)
    (refine st_m (op_alloc S Try.zeroValue36 (cs := _) rfl rfl ?_); clear S a w; intro g11 a w S)
    (refine st_m (op_stW S Try.sizeOf36 (Ev.t rfl) (Ev.t rfl) (k := 0) rfl rfl rfl (by simp [Value.oneCell']) ?_); clear S a w; intro a w S)
    (refine st_y S (Yr.ys (ys_assign (Ev.t rfl))) rfl ?_; clear S a w; intro a w S)
    refine st_nil ?_
    (refine (then_normal (hK1 _ _ ?_)); clear hK1)
    refine wp_seq_k fun _ hK1 => ?_
    refine wp_seq_k fun _ hK2 => ?_
    refine wp_region_lit ?_
    (refine st_y S (Yr.ys (ys_ldA ⟨Try.isAgg36, Try.sizeOf36⟩ (Ev.t rfl) (k := 9) rfl rfl)) rfl ?_; clear S a w; intro a w S)
    (refine st_y S (Yr.ys (ys_move (Ev.t rfl))) rfl ?_; clear S a w; intro a w S)
    (refine st_y S (Yr.ys (ys_ldA ⟨Try.isAgg36, Try.sizeOf36⟩ (Ev.t rfl) (k := 6) rfl rfl)) rfl ?_; clear S a w; intro a w S)
    (refine st_y S (Yr.ys (ys_move (Ev.t rfl))) rfl ?_; clear S a w; intro a w S)
    (refine st_y S (ys_call Try.call45 (EvL.cons (Ev.t rfl) (EvL.cons (Ev.t rfl) (EvL.cons (Ev.t rfl) (EvL.cons (Ev.t rfl) EvL.nil)))) (fun hp w W => c45 _ _ _ _ _ _ _ _ _ (by exact ⟨(by exact Sl.of_own W (k := 10) rfl (fun _ => rfl)), (by exact Sl.of_own W (k := 11) rfl (fun _ => rfl))⟩) (by exact ⟨(by exact Sl.of_own W (k := 7) rfl (fun _ => rfl)), (by exact Sl.of_own W (k := 8) rfl (fun _ => rfl))⟩))) rfl ?_; clear S a w; intro a w S)
    rw [rw_s2] at S
    (refine st_y S (Yr.ys (ys_not (Ev.t rfl))) rfl ?_; clear S a w; intro a w S)
    (refine st_y S (Yr.ys (ys_move (Ev.t rfl))) rfl ?_; clear S a w; intro a w S)
    (refine st_yt S rfl rfl (Yr.ys (ys_ldA ⟨Try.isAgg36, Try.sizeOf36⟩ (Ev.t rfl) (k := 3) rfl rfl)) rfl ?_; clear S a w; intro a w S)
    (refine st_yt S rfl rfl (Yr.ys (ys_move (Ev.t rfl))) rfl ?_; clear S a w; intro a w S)
    (refine st_yt S rfl rfl (Yr.ys (ys_ldA ⟨Try.isAgg36, Try.sizeOf36⟩ (Ev.t rfl) (k := 0) rfl rfl)) rfl ?_; clear S a w; intro a w S)
    (refine st_yt S rfl rfl (Yr.ys (ys_move (Ev.t rfl))) rfl ?_; clear S a w; intro a w S)
    (refine st_yt S rfl rfl (ys_call Try.call45 (EvL.cons (Ev.t rfl) (EvL.cons (Ev.t rfl) (EvL.cons (Ev.t rfl) (EvL.cons (Ev.t rfl) EvL.nil)))) (fun hp w W => c45 _ _ _ _ _ _ _ _ _ (by exact ⟨(by exact Sl.of_own W (k := 4) rfl (fun _ => rfl)), (by exact Sl.of_own W (k := 5) rfl (fun _ => rfl))⟩) (by exact ⟨(by exact Sl.of_own W (k := 1) rfl (fun _ => rfl)), (by exact Sl.of_own W (k := 2) rfl (fun _ => rfl))⟩))) rfl ?_; clear S a w; intro a w S)
    rw [rw_s2] at S
    (refine st_yt S rfl rfl (Yr.ys (ys_not (Ev.t rfl))) rfl ?_; clear S a w; intro a w S)
    (refine st_y S (Yr.ys (ys_pickF (Ev.t rfl) (Ev.t rfl))) rfl ?_; clear S a w; intro a w S)
    (refine st_y S (Yr.ys (ys_move (Ev.t rfl))) rfl ?_; clear S a w; intro a w S)
    (refine st_yt S rfl rfl (Yr.ys (ys_ldA ⟨Try.isAgg36, Try.sizeOf36⟩ (Ev.t rfl) (k := 12) rfl rfl)) rfl ?_; clear S a w; intro a w S)
    (refine st_yt S rfl rfl (Yr.ys (ys_ldA ⟨Try.isAgg36, Try.sizeOf36⟩ (Ev.t rfl) (k := 20) rfl rfl)) rfl ?_; clear S a w; intro a w S)
    (refine st_yt S rfl rfl (ys_call Try.call26 (EvL.cons (Ev.t rfl) (EvL.cons (Ev.t rfl) EvL.nil)) (fun hp w W => c26 _ _ _ _ _ _ _ (by exact ⟨(by exact Sl.of_own W (k := 14) rfl (fun _ => rfl)), (by exact Sl.of_own W (k := 15) rfl (fun _ => rfl))⟩) (by exact .old W (by assumption)))) rfl ?_; clear S a w; intro a w S)
    rw [rw_s] at S
    (refine st_yt S rfl rfl (Yr.ys (ys_not (Ev.t rfl))) rfl ?_; clear S a w; intro a w S)
    (refine st_y S (Yr.ys (ys_pickF (Ev.t rfl) (Ev.t rfl))) rfl ?_; clear S a w; intro a w S)
    (refine st_y S (Yr.ys (ys_move (Ev.t rfl))) rfl ?_; clear S a w; intro a w S)
    (refine st_yt S rfl rfl (Yr.ys (ys_ldA ⟨Try.isAgg36, Try.sizeOf36⟩ (Ev.t rfl) (k := 13) rfl rfl)) rfl ?_; clear S a w; intro a w S)
    (refine st_yt S rfl rfl (Yr.ys (ys_ldA ⟨Try.isAgg36, Try.sizeOf36⟩ (Ev.t rfl) (k := 19) rfl rfl)) rfl ?_; clear S a w; intro a w S)
    (refine st_yt S rfl rfl (ys_call Try.call26 (EvL.cons (Ev.t rfl) (EvL.cons (Ev.t rfl) EvL.nil)) (fun hp w W => c26 _ _ _ _ _ _ _ (by exact ⟨(by exact Sl.of_own W (k := 16) rfl (fun _ => rfl)), (by exact Sl.of_own W (k := 17) rfl (fun _ => rfl))⟩) (by exact .old W (by assumption)))) rfl ?_; clear S a w; intro a w S)
    rw [rw_s] at S
    (refine st_yt S rfl rfl (Yr.ys (ys_not (Ev.t rfl))) rfl ?_; clear S a w; intro a w S)
    (refine st_y S (Yr.ys (ys_pickF (Ev.t rfl) (Ev.t rfl))) rfl ?_; clear S a w; intro a w S)
    refine st_nil ?_
    (refine (then_normal (hK2 _ _ ?_)); clear hK2)
    refine st_else S (Ev.t rfl) ?_
    refine wp_skip ?_
    (refine (then_normal (hK1 _ _ ?_)); clear hK1)
    refine wp_seq_k fun _ hK1 => ?_
    refine wp_seq_k fun _ hK2 => ?_
    (refine st_quiet S (by kernel_rfl) (by kernel_rfl) ?_; clear S w; intro a S)
    (refine q_y S (Yr.ys (ys_ldA ⟨Try.isAgg36, Try.sizeOf36⟩ (Ev.t rfl) (k := 20) rfl rfl)) rfl ?_; clear S a; intro a S)
    (refine q_y S (ys_call Try.call55 (EvL.cons (Ev.t rfl) EvL.nil) (fun hp w W => c55 _ _ _ _ (by exact .old W (by assumption)))) rfl ?_; clear S a; intro a S)
    rw [rw_a] at S
    (refine q_y S (Yr.ys (ys_move (Ev.t rfl))) rfl ?_; clear S a; intro a S)
    (refine q_skip S rfl rfl rfl rfl ?_; clear S a; intro a S)
    (refine q_skip S rfl rfl rfl rfl ?_; clear S a; intro a S)
    (refine q_y S (Yr.ys (ys_pickF (Ev.t rfl) Ev.c)) rfl ?_; clear S a; intro a S)
    (refine q_y S (Yr.ys (ys_move (Ev.t rfl))) rfl ?_; clear S a; intro a S)
    (refine q_skip S rfl rfl rfl rfl ?_; clear S a; intro a S)
    (refine q_skip S rfl rfl rfl rfl ?_; clear S a; intro a S)
    (refine q_skip S rfl rfl rfl rfl ?_; clear S a; intro a S)
    (refine q_skip S rfl rfl rfl rfl ?_; clear S a; intro a S)
    (refine q_skip S rfl rfl rfl rfl ?_; clear S a; intro a S)
    (refine q_skip S rfl rfl rfl rfl ?_; clear S a; intro a S)
    (refine q_skip S rfl rfl rfl rfl ?_; clear S a; intro a S)
    (refine q_y S (Yr.ys (ys_pickF (Ev.t rfl) Ev.c)) rfl ?_; clear S a; intro a S)
    (refine q_nil ?_; intro w W; replace S := St.mk S W; clear W)
    (refine (then_normal (hK2 _ _ ?_)); clear hK2)
    refine st_else S (Ev.t rfl) ?_
    refine wp_skip ?_
    (refine (then_normal (hK1 _ _ ?_)); clear hK1)
    refine wp_seq_k fun _ hK1 => ?_
    refine wp_seq_k fun _ hK2 => ?_
    refine wp_region_lit ?_
    (refine st_y S (Yr.ys (ys_fieldN (FieldT.mk Try.underlying36 rfl Try.sizeOf29 rfl) (Ev.t rfl) (i' := 0) rfl)) rfl ?_; clear S a w; intro a w S)
    (refine st_y S (Yr.ys (ys_ld ⟨Try.isAgg29, Try.sizeOf29⟩ (Ev.t rfl) (k := 9) rfl rfl)) rfl ?_; clear S a w; intro a w S)
    (refine st_y S (Yr.ys (ys_lenS Try.underlying29 (Ev.t rfl))) rfl ?_; clear S a w; intro a w S)
    (refine st_y S (Yr.ys (ys_move Ev.c)) rfl ?_; clear S a w; intro a w S)
    refine st_nil ?_
    (refine (then_normal (hK2 _ _ ?_)); clear hK2)
    refine wp_block ?_
    replace S := S.picks (K' := [(91, true, .int .i64 ((0 : Nat) : Int)), (90, true, .int .i64 (J.marks.length : Int)), (9, true, .pointer (some ⟨g8, 0, none⟩)), (8, true, .pointer (some ⟨gb, 0, none⟩)), (7, true, .pointer (some ⟨ga, 0, none⟩)), (6, true, .bool false), (4, true, .pointer (some ⟨g6, 0, none⟩)), (3, true, .pointer (some ⟨g5, 0, none⟩))])
      (L' := [rowOf 43 3 Dot.enc A11 c11 J.marks, rowOf 32 3 Dot.enc A21 c29 J.cloud, .blk g8 (.cells #[.slice A11 J.marks.length c11, .slice A21 J.cloud.length c29] 36),
      .blk ga (.cells #[.slice A1 A.marks.length c1, .slice A2 A.cloud.length c2] 36), .blk gb (.cells #[.slice A3 B.marks.length c3, .slice A4 B.cloud.length c4] 36), rowOf 43 3 Dot.enc A1 c1 A.marks, rowOf 32 3 Dot.enc A2 c2 A.cloud, rowOf 43 3 Dot.enc A3 c3 B.marks, rowOf 32 3 Dot.enc A4 c4 B.cloud,
      .blk g6 (.cells #[v3, v4] 36), .blk g5 (.cells #[v1, v2] 36)]) (by repeat (first | exact Fits.nil | refine Fits.skip rfl ?_ | refine Fits.cons rfl ?_)) (by repeat (first | exact Picks.nil | refine Picks.take 0 rfl ?_ | refine Picks.take 1 rfl ?_ | refine Picks.take 2 rfl ?_ | refine Picks.take 3 rfl ?_ | refine Picks.take 4 rfl ?_ | refine Picks.take 5 rfl ?_ | refine Picks.take 6 rfl ?_ | refine Picks.take 7 rfl ?_ | refine Picks.take 8 rfl ?_ | refine Picks.take 9 rfl ?_ | refine Picks.take 10 rfl ?_ | refine Picks.take 11 rfl ?_))
    refine st_loopK S (X := Nat × List Dot) (fun q => [(91, true, .int .i64 (q.1 : Int))]) (fun q L => L.set 0 (rowOf 43 3 Dot.enc A11 c11 q.2)) (fun q => q.1 ≤ J.marks.length ∧ q.2.length = J.marks.length) (fun q => J.marks.length - q.1) (0, J.marks) ⟨Nat.zero_le _, rfl⟩ (by repeat (first | exact Fits.nil | refine Fits.skip rfl ?_ | refine Fits.cons rfl ?_)) (by repeat (first | exact List.Sublist.refl _ | exact List.nil_sublist _ | refine .cons_cons _ ?_ | refine .cons _ ?_)) ?_
    clear S
    intro ⟨k, l⟩ a w ⟨hk, hl⟩ S
    dsimp only [List.set_cons_zero] at hk hl S
    by_cases hlt : k < J.marks.length
    · obtain ⟨gr, rfl⟩ := S.wd.row_at (k := 0) rfl (by have := (S.wd.room (k := 0) rfl).1; omega)
      obtain ⟨m, hm⟩ : ∃ m, l[k]? = some m := ⟨l[k], by simp⟩
      refine wp_seq_k fun _ hK2 => ?_
      refine wp_region_lit ?_
      (refine st_y S (Yr.ys (ys_T (by omega) (ys_lss (Ev.t rfl) (Ev.t rfl)))) rfl ?_; clear S a w; intro a w S)
      refine st_nil ?_
      (refine (then_normal (hK2 _ _ ?_)); clear hK2)
      refine wp_seq_k fun _ hK2 => ?_
      refine st_then S (Ev.t rfl) ?_
      refine wp_skip ?_
      (refine (then_normal (hK2 _ _ ?_)); clear hK2)
      refine wp_seq_k fun _ hK2 => ?_
      refine wp_block ?_
      refine wp_seq_k fun _ hK3 => ?_
      refine wp_region_lit ?_
      (refine st_y S (Yr.ys (ys_move (Ev.t rfl))) rfl ?_; clear S a w; intro a w S)
      (refine st_y S (Yr.ys (ys_assign (Ev.t rfl))) rfl ?_; clear S a w; intro a w S)
      refine st_nil ?_
      (refine (then_normal (hK3 _ _ ?_)); clear hK3)
      refine wp_region_lit ?_
      (refine st_y S (Yr.ys (ys_fieldN (FieldT.mk Try.underlying36 rfl Try.sizeOf29 rfl) (Ev.t rfl) (i' := 0) rfl)) rfl ?_; clear S a w; intro a w S)
      (refine st_y S (Yr.ys (ys_ld ⟨Try.isAgg29, Try.sizeOf29⟩ (Ev.t rfl) (k := 2) rfl rfl)) rfl ?_; clear S a w; intro a w S)
      (refine st_y S (Yr.ys (ys_move (Ev.t rfl))) rfl ?_; clear S a w; intro a w S)
      (refine st_y S (Yr.ys (ys_ixS Try.underlying29 Try.sizeOf43 (Ev.t rfl) (Ev.t rfl) (fun _ => by omega))) rfl ?_; clear S a w; intro a w S)
      (refine st_y S (Yr.ys (ys_field (FieldT.mk Try.underlying43 rfl Try.sizeOf3 rfl) (Ev.t rfl))) rfl ?_; clear S a w; intro a w S)
      refine st_m (op_stFld (enc := Dot.enc) (size := 3) (i := k) (j := 2) ⟨m.node, m.life, -1⟩ S (fun _ => rfl) Try.sizeOf3 (Ev.t rfl) Ev.c rfl (k := 0) rfl hm (by omega) rfl rfl ?_)
      clear S
      intro a w S
      refine st_nil ?_
      (refine (in_normal (then_normal (hK2 _ _ ?_))); clear hK2)
      refine wp_region_lit ?_
      (refine st_y S (Yr.ys (ys_addI (Ev.t rfl) Ev.c (fun _ => by unfold I64; omega))) rfl ?_; clear S a w; intro a w S)
      (refine st_y S (Yr.ys (ys_move (Ev.t rfl))) rfl ?_; clear S a w; intro a w S)
      refine st_nil ?_
      refine (then_normal ?_)
      exact ⟨(k + 1, l.set k ⟨m.node, m.life, -1⟩), ⟨by dsimp only; omega, by simp [hl]⟩, by dsimp only; omega, S.weak (by repeat (first | exact Fits.nil | refine Fits.skip rfl ?_ | refine Fits.cons rfl ?_)) (by repeat (first | exact List.Sublist.refl _ | exact List.nil_sublist _ | refine .cons_cons _ ?_ | refine .cons _ ?_))⟩
    refine wp_seq_k fun _ hK2 => ?_
    refine wp_region_lit ?_
    (refine st_y S (Yr.ys (ys_F (by omega) (ys_lss (Ev.t rfl) (Ev.t rfl)))) rfl ?_; clear S a w; intro a w S)
    refine st_nil ?_
    (refine (then_normal (hK2 _ _ ?_)); clear hK2)
    refine wp_seq_k fun _ hK2 => ?_
    refine st_else S (Ev.t rfl) ?_
    refine wp_exit ?_
    (refine (then_exit (then_exit (in_here (then_normal (hK1 _ _ ?_))))); clear hK1)
    refine wp_seq_k fun _ hK1 => ?_
    refine wp_seq_k fun _ hK3 => ?_
    refine wp_region_lit ?_
    (refine st_y S (Yr.ys (ys_fieldN (FieldT.mk Try.underlying36 rfl Try.sizeOf30 rfl) (Ev.t rfl) (i' := 1) rfl)) rfl ?_; clear S a w; intro a w S)
    (refine st_y S (Yr.ys (ys_ld ⟨Try.isAgg30, Try.sizeOf30⟩ (Ev.t rfl) (k := 2) rfl rfl)) rfl ?_; clear S a w; intro a w S)
    (refine st_y S (Yr.ys (ys_lenS Try.underlying30 (Ev.t rfl))) rfl ?_; clear S a w; intro a w S)
    (refine st_y S (Yr.ys (ys_move Ev.c)) rfl ?_; clear S a w; intro a w S)
    refine st_nil ?_
    (refine (then_normal (hK3 _ _ ?_)); clear hK3)
    refine wp_block ?_
    refine st_loopK S (X := Nat × List Dot) (fun q => [(103, true, .int .i64 (q.1 : Int))]) (fun q L => L.set 1 (rowOf 32 3 Dot.enc A21 c29 q.2)) (fun q => q.1 ≤ J.cloud.length ∧ q.2.length = J.cloud.length) (fun q => J.cloud.length - q.1) (0, J.cloud) ⟨Nat.zero_le _, rfl⟩ (by repeat (first | exact Fits.nil | refine Fits.skip rfl ?_ | refine Fits.cons rfl ?_)) (by repeat (first | exact List.Sublist.refl _ | exact List.nil_sublist _ | refine .cons_cons _ ?_ | refine .cons _ ?_)) ?_
    clear S
    intro ⟨k2, l2⟩ a w ⟨hk2, hl2⟩ S
    dsimp only [List.set_cons_zero, List.set_cons_succ] at hk2 hl2 S
    by_cases hlt2 : k2 < J.cloud.length
    · obtain ⟨gr, rfl⟩ := S.wd.row_at (k := 1) rfl (by have := (S.wd.room (k := 1) rfl).1; omega)
      obtain ⟨m, hm⟩ : ∃ m, l2[k2]? = some m := ⟨l2[k2], by simp⟩
      refine wp_seq_k fun _ hK3 => ?_
      refine wp_region_lit ?_
      (refine st_y S (Yr.ys (ys_T (by omega) (ys_lss (Ev.t rfl) (Ev.t rfl)))) rfl ?_; clear S a w; intro a w S)
      refine st_nil ?_
      (refine (then_normal (hK3 _ _ ?_)); clear hK3)
      refine wp_seq_k fun _ hK3 => ?_
      refine st_then S (Ev.t rfl) ?_
      refine wp_skip ?_
      (refine (then_normal (hK3 _ _ ?_)); clear hK3)
      refine wp_seq_k fun _ hK3 => ?_
      refine wp_block ?_
      refine wp_seq_k fun _ hK4 => ?_
      refine wp_region_lit ?_
      (refine st_y S (Yr.ys (ys_move (Ev.t rfl))) rfl ?_; clear S a w; intro a w S)
      (refine st_y S (Yr.ys (ys_assign (Ev.t rfl))) rfl ?_; clear S a w; intro a w S)
      refine st_nil ?_
      (refine (then_normal (hK4 _ _ ?_)); clear hK4)
      refine wp_region_lit ?_
      (refine st_y S (Yr.ys (ys_fieldN (FieldT.mk Try.underlying36 rfl Try.sizeOf30 rfl) (Ev.t rfl) (i' := 1) rfl)) rfl ?_; clear S a w; intro a w S)
      (refine st_y S (Yr.ys (ys_ld ⟨Try.isAgg30, Try.sizeOf30⟩ (Ev.t rfl) (k := 2) rfl rfl)) rfl ?_; clear S a w; intro a w S)
      (refine st_y S (Yr.ys (ys_move (Ev.t rfl))) rfl ?_; clear S a w; intro a w S)
      (refine st_y S (Yr.ys (ys_ixS Try.underlying30 Try.sizeOf32 (Ev.t rfl) (Ev.t rfl) (fun _ => by omega))) rfl ?_; clear S a w; intro a w S)
      (refine st_y S (Yr.ys (ys_field (FieldT.mk Try.underlying32 rfl Try.sizeOf3 rfl) (Ev.t rfl))) rfl ?_; clear S a w; intro a w S)
      refine st_m (op_stFld (enc := Dot.enc) (size := 3) (i := k2) (j := 2) ⟨m.node, m.life, -1⟩ S (fun _ => rfl) Try.sizeOf3 (Ev.t rfl) Ev.c rfl (k := 1) rfl hm (by omega) rfl rfl ?_)
      clear S
      intro a w S
      refine st_nil ?_
      (refine (in_normal (then_normal (hK3 _ _ ?_))); clear hK3)
      refine wp_region_lit ?_
      (refine st_y S (Yr.ys (ys_addI (Ev.t rfl) Ev.c (fun _ => by unfold I64; omega))) rfl ?_; clear S a w; intro a w S)
      (refine st_y S (Yr.ys (ys_move (Ev.t rfl))) rfl ?_; clear S a w; intro a w S)
      refine st_nil ?_
      refine (then_normal ?_)
      exact ⟨(k2 + 1, l2.set k2 ⟨m.node, m.life, -1⟩), ⟨by dsimp only; omega, by simp [hl2]⟩, by dsimp only; omega, S.weak (by repeat (first | exact Fits.nil | refine Fits.skip rfl ?_ | refine Fits.cons rfl ?_)) (by repeat (first | exact List.Sublist.refl _ | exact List.nil_sublist _ | refine .cons_cons _ ?_ | refine .cons _ ?_))⟩
    refine wp_seq_k fun _ hK3 => ?_
    refine wp_region_lit ?_
    (refine st_y S (Yr.ys (ys_F (by omega) (ys_lss (Ev.t rfl) (Ev.t rfl)))) rfl ?_; clear S a w; intro a w S)
    refine st_nil ?_
    (refine (then_normal (hK3 _ _ ?_)); clear hK3)
    refine wp_seq_k fun _ hK3 => ?_
    refine st_else S (Ev.t rfl) ?_
    refine wp_exit ?_
    (refine (then_exit (then_exit (in_here (then_normal (hK1 _ _ ?_))))); clear hK1)
    refine wp_seq_k fun _ hK1 => ?_
    refine wp_region_lit ?_
    (refine st_y S (Yr.ys (ys_ldA ⟨Try.isAgg36, Try.sizeOf36⟩ (Ev.t rfl) (k := 3) rfl rfl)) rfl ?_; clear S a w; intro a w S)
    (refine st_y S (Yr.ys (ys_ldA ⟨Try.isAgg36, Try.sizeOf36⟩ (Ev.t rfl) (k := 10) rfl rfl)) rfl ?_; clear S a w; intro a w S)
    (refine st_y S (ys_call Try.call26 (EvL.cons (Ev.t rfl) (EvL.cons (Ev.t rfl) EvL.nil)) (fun hp w W => c26 _ _ _ _ _ _ _ (by exact ⟨(by exact Sl.of_own W (k := 5) rfl (fun _ => rfl)), (by exact Sl.of_own W (k := 6) rfl (fun _ => rfl))⟩) (by exact .old W (by assumption)))) rfl ?_; clear S a w; intro a w S)
    rw [rw_s] at S
    (refine st_y S (Yr.ys (ys_move (Ev.t rfl))) rfl ?_; clear S a w; intro a w S)
    (refine st_yt S rfl rfl (Yr.ys (ys_ldA ⟨Try.isAgg36, Try.sizeOf36⟩ (Ev.t rfl) (k := 4) rfl rfl)) rfl ?_; clear S a w; intro a w S)
    (refine st_yt S rfl rfl (Yr.ys (ys_ldA ⟨Try.isAgg36, Try.sizeOf36⟩ (Ev.t rfl) (k := 9) rfl rfl)) rfl ?_; clear S a w; intro a w S)
    (refine st_yt S rfl rfl (ys_call Try.call26 (EvL.cons (Ev.t rfl) (EvL.cons (Ev.t rfl) EvL.nil)) (fun hp w W => c26 _ _ _ _ _ _ _ (by exact ⟨(by exact Sl.of_own W (k := 7) rfl (fun _ => rfl)), (by exact Sl.of_own W (k := 8) rfl (fun _ => rfl))⟩) (by exact .old W (by assumption)))) rfl ?_; clear S a w; intro a w S)
    rw [rw_s] at S
    (refine st_y S (Yr.ys (ys_pickT (Ev.t rfl) (Ev.t rfl))) rfl ?_; clear S a w; intro a w S)
    (refine st_y S (Yr.ys (ys_assign (Ev.t rfl))) rfl ?_; clear S a w; intro a w S)
    refine st_nil ?_
    (refine (then_normal (hK1 _ _ ?_)); clear hK1)
    refine wp_ret ?_
    refine st_ret S (results1 S Try.results12 (Rv.tmp rfl)) ?_
    exact ⟨rfl, S.wd.below⟩
end Go.Proofs.Ytjfeeiljinbmjaa
