/- Layer 3: the program's Join, and the law of the lattice. -/
import Derived.Test.YtjfeeiljinbmjaaLibD
import Derived.Test.YtjfeeiljinbmjaaLat
import Derived.Test.YtjfeeiljinbmjaaCau8
set_option linter.unusedVariables false
set_option linter.unusedSimpArgs false
set_option maxRecDepth 100000
namespace Go.Proofs.Ytjfeeiljinbmjaa
open Go.Fw Go.Proofs Go.RowKit

theorem c51 (w0 : World) (v1 v2 v3 v4 : Value) (C D : Ctx) (h : RdCtx w0 w0.heap.size v1 v2 C) (h' : RdCtx w0 w0.heap.size v3 v4 D) :
    Rets Try.prog 51 #[.agg #[v1, v2], .agg #[v3, v4]] w0 fun v L => ∃ A1 c1 A2 c2, v = .tuple #[.agg #[.slice A1 (joinL C D).1.marks.length c1, .slice A2 (joinL C D).1.cloud.length c2], .int .i64 (joinL C D).2] ∧
      L = [rowOf 43 3 Dot.enc A1 c1 (joinL C D).1.marks, rowOf 32 3 Dot.enc A2 c2 (joinL C D).1.cloud] := by
  obtain ⟨h1, h2⟩ := id h
  obtain ⟨h3, h4⟩ := id h'
  obtain ⟨B1, q1, rfl, _⟩ := id h1
  obtain ⟨B2, q2, rfl, _⟩ := id h2
  obtain ⟨B3, q3, rfl, _⟩ := id h3
  obtain ⟨B4, q4, rfl, _⟩ := id h4
  by_cases hC : canL C = true
  · by_cases hD : canL D = true
    · have hc1 := can_len hC
      have hd1 := can_len hD
      have hj1 : (C.marks ++ D.marks).length ≤ 2097152 := by rw [List.length_append]; omega
      have hj2 : (C.cloud ++ D.cloud).length ≤ 2097152 := by rw [List.length_append]; omega
      have rw_c := hC
      have rw_d := hD
      unfold Go.Fw.Rets
      refine enter2 Try.func51 rfl Try.ntmps51 rfl fun a S => ?_
      refine wp_seq_k fun _ hK1 => ?_
      refine wp_region_lit ?_
      (refine st_m (op_box S (Ev.t rfl) rfl ?_); clear S a; intro g1 a w S)
      (refine st_m (op_box S (Ev.t rfl) rfl ?_); clear S a w; intro g2 a w S)
      (refine st_m (op_alloc S Try.zeroValue36 (cs := _) rfl rfl ?_); clear S a w; intro g3 a w S)
      (refine st_y S (Yr.ys (ys_assign Ev.c)) rfl ?_; clear S a w; intro a w S)
      refine st_nil ?_
      (refine (then_normal (hK1 _ _ ?_)); clear hK1)
      refine wp_seq_k fun _ hK1 => ?_
      refine wp_seq_k fun _ hK2 => ?_
      refine wp_region_lit ?_
      (refine st_y S (Yr.ys (ys_ldA ⟨Try.isAgg36, Try.sizeOf36⟩ (Ev.t rfl) (k := 2) rfl rfl)) rfl ?_; clear S a w; intro a w S)
      (refine st_y S (ys_call Try.call32 (EvL.cons (Ev.t rfl) EvL.nil) (fun hp w W => c32 _ _ _ _ (by first | assumption | omega | exact .old W (by assumption)  | exact ⟨(by first | exact .old W (by assumption)), (by first | exact .old W (by assumption))⟩ | exact RdCtx.mk' (by first | exact .old W (by assumption)) (by first | exact .old W (by assumption)) | (simp at hp; omega)))) rfl ?_; clear S a w; intro a w S)
      rw [rw_c] at S
      (refine st_y S (Yr.ys (ys_not (Ev.t rfl))) rfl ?_; clear S a w; intro a w S)
      (refine st_y S (Yr.ys (ys_move (Ev.t rfl))) rfl ?_; clear S a w; intro a w S)
      (refine st_yt S rfl rfl (Yr.ys (ys_ldA ⟨Try.isAgg36, Try.sizeOf36⟩ (Ev.t rfl) (k := 1) rfl rfl)) rfl ?_; clear S a w; intro a w S)
      (refine st_yt S rfl rfl (ys_call Try.call32 (EvL.cons (Ev.t rfl) EvL.nil) (fun hp w W => c32 _ _ _ _ (by first | assumption | omega | exact .old W (by assumption)  | exact ⟨(by first | exact .old W (by assumption)), (by first | exact .old W (by assumption))⟩ | exact RdCtx.mk' (by first | exact .old W (by assumption)) (by first | exact .old W (by assumption)) | (simp at hp; omega)))) rfl ?_; clear S a w; intro a w S)
      rw [rw_d] at S
      (refine st_yt S rfl rfl (Yr.ys (ys_not (Ev.t rfl))) rfl ?_; clear S a w; intro a w S)
      (refine st_y S (Yr.ys (ys_pickF (Ev.t rfl) (Ev.t rfl))) rfl ?_; clear S a w; intro a w S)
      refine st_nil ?_
      (refine (then_normal (hK2 _ _ ?_)); clear hK2)
      refine st_else S (Ev.t rfl) ?_
      refine wp_skip ?_
      (refine (then_normal (hK1 _ _ ?_)); clear hK1)
      refine wp_seq_k fun _ hK1 => ?_
      (refine h_beginE S (by kernel_rfl) 0 ?_; clear S a w; intro a w S)
      (refine h_y (i := 0) S (by repeat (first | exact List.Sublist.refl _ | exact List.nil_sublist _ | refine .cons_cons _ ?_ | refine .cons _ ?_)) rfl (by kernel_rfl) (by kernel_rfl) (by kernel_rfl) (fun _ _ _ _ h => h) (ys_fieldN (FieldT.mk Try.underlying36 rfl Try.sizeOf29 rfl) (Ev.t rfl) (i' := 0) rfl) rfl ?_; clear S a w; intro a w S)
      (refine h_y (i := 1) S (by repeat (first | exact List.Sublist.refl _ | exact List.nil_sublist _ | refine .cons_cons _ ?_ | refine .cons _ ?_)) rfl (by kernel_rfl) (by kernel_rfl) (by kernel_rfl) (fun _ _ _ _ h => h) (ys_ld ⟨Try.isAgg29, Try.sizeOf29⟩ (Ev.t rfl) (k := 1) rfl rfl) rfl ?_; clear S a w; intro a w S)
      (refine h_y (i := 2) S (by repeat (first | exact List.Sublist.refl _ | exact List.nil_sublist _ | refine .cons_cons _ ?_ | refine .cons _ ?_)) rfl (by kernel_rfl) (by kernel_rfl) (by kernel_rfl) (fun _ _ _ _ h => h) (ys_fieldN (FieldT.mk Try.underlying36 rfl Try.sizeOf29 rfl) (Ev.t rfl) (i' := 0) rfl) rfl ?_; clear S a w; intro a w S)
      (refine h_y (i := 3) S (by repeat (first | exact List.Sublist.refl _ | exact List.nil_sublist _ | refine .cons_cons _ ?_ | refine .cons _ ?_)) rfl (by kernel_rfl) (by kernel_rfl) (by kernel_rfl) (fun _ _ _ _ h => h) (ys_ld ⟨Try.isAgg29, Try.sizeOf29⟩ (Ev.t rfl) (k := 0) rfl rfl) rfl ?_; clear S a w; intro a w S)
      (refine h_y (i := 6) S (by repeat (first | exact List.Sublist.refl _ | exact List.nil_sublist _ | refine .cons_cons _ ?_ | refine .cons _ ?_)) rfl (by kernel_rfl) (by kernel_rfl) (by kernel_rfl) (fun _ _ _ _ h => h) (ys_fieldN (FieldT.mk Try.underlying36 rfl Try.sizeOf30 rfl) (Ev.t rfl) (i' := 1) rfl) rfl ?_; clear S a w; intro a w S)
      (refine h_y (i := 7) S (by repeat (first | exact List.Sublist.refl _ | exact List.nil_sublist _ | refine .cons_cons _ ?_ | refine .cons _ ?_)) rfl (by kernel_rfl) (by kernel_rfl) (by kernel_rfl) (fun _ _ _ _ h => h) (ys_ld ⟨Try.isAgg30, Try.sizeOf30⟩ (Ev.t rfl) (k := 1) rfl rfl) rfl ?_; clear S a w; intro a w S)
      (refine h_y (i := 8) S (by repeat (first | exact List.Sublist.refl _ | exact List.nil_sublist _ | refine .cons_cons _ ?_ | refine .cons _ ?_)) rfl (by kernel_rfl) (by kernel_rfl) (by kernel_rfl) (fun _ _ _ _ h => h) (ys_fieldN (FieldT.mk Try.underlying36 rfl Try.sizeOf30 rfl) (Ev.t rfl) (i' := 1) rfl) rfl ?_; clear S a w; intro a w S)
      (refine h_y (i := 9) S (by repeat (first | exact List.Sublist.refl _ | exact List.nil_sublist _ | refine .cons_cons _ ?_ | refine .cons _ ?_)) rfl (by kernel_rfl) (by kernel_rfl) (by kernel_rfl) (fun _ _ _ _ h => h) (ys_ld ⟨Try.isAgg30, Try.sizeOf30⟩ (Ev.t rfl) (k := 0) rfl rfl) rfl ?_; clear S a w; intro a w S)
      refine h_split (i := 4) (j := 10) (by kernel_rfl) rfl rfl ?_ ?_
      (refine op_bsliceZ (ps := [(0, Go.Operand.tmp 16), (1, Go.Operand.tmp 18)]) (us := [_, _]) S Try.underlying160 Try.sizeOf29 Try.zeroValue29 rfl rfl (EvL.cons (Ev.t rfl) (EvL.cons (Ev.t rfl) EvL.nil)) rfl rfl ?_; clear S a w; intro g4 a w S; refine h_on S _ (List.Sublist.refl _) (by repeat (first | exact List.Sublist.refl _ | exact List.nil_sublist _ | refine .cons_cons _ ?_ | refine .cons _ ?_)) ?_)
      refine h_split (i := 5) (j := 10) (by kernel_rfl) rfl rfl ?_ ?_
      (refine op_calls S Try.call92 (EvL.cons (Ev.t rfl) EvL.nil) (c92 _ _ _ _ _ _ (by first | assumption | omega | exact .old S.wd (by assumption) | exact Wd.cell S.wd (k := 0) rfl rfl | exact Wd.cell S.wd (k := 1) rfl rfl | exact Wd.cell S.wd (k := 2) rfl rfl | exact Wd.cell S.wd (k := 3) rfl rfl) (by first | assumption | omega | exact .old S.wd (by assumption) | exact Wd.cell S.wd (k := 0) rfl rfl | exact Wd.cell S.wd (k := 1) rfl rfl | exact Wd.cell S.wd (k := 2) rfl rfl | exact Wd.cell S.wd (k := 3) rfl rfl) (by first | assumption | omega | exact .old S.wd (by assumption) | exact Wd.cell S.wd (k := 0) rfl rfl | exact Wd.cell S.wd (k := 1) rfl rfl | exact Wd.cell S.wd (k := 2) rfl rfl | exact Wd.cell S.wd (k := 3) rfl rfl) (by first | assumption | omega | exact .old S.wd (by assumption) | exact Wd.cell S.wd (k := 0) rfl rfl | exact Wd.cell S.wd (k := 1) rfl rfl | exact Wd.cell S.wd (k := 2) rfl rfl | exact Wd.cell S.wd (k := 3) rfl rfl) (by first | assumption | omega | exact .old S.wd (by assumption) | exact Wd.cell S.wd (k := 0) rfl rfl | exact Wd.cell S.wd (k := 1) rfl rfl | exact Wd.cell S.wd (k := 2) rfl rfl | exact Wd.cell S.wd (k := 3) rfl rfl) (by first | assumption | omega | exact .old S.wd (by assumption) | exact Wd.cell S.wd (k := 0) rfl rfl | exact Wd.cell S.wd (k := 1) rfl rfl | exact Wd.cell S.wd (k := 2) rfl rfl | exact Wd.cell S.wd (k := 3) rfl rfl)) rfl ?_; clear S a w; rintro _ _ ⟨A1, c1, rfl, rfl⟩ a w S; refine h_on S _ (List.Sublist.refl _) (by repeat (first | exact List.Sublist.refl _ | exact List.nil_sublist _ | refine .cons_cons _ ?_ | refine .cons _ ?_)) ?_)
      (refine h_m (i := 10) rfl (by kernel_rfl) (op_bsliceZ (ps := [(0, Go.Operand.tmp 22), (1, Go.Operand.tmp 24)]) (us := [_, _]) S Try.underlying162 Try.sizeOf30 Try.zeroValue30 rfl rfl (EvL.cons (Ev.t rfl) (EvL.cons (Ev.t rfl) EvL.nil)) rfl rfl ?_); clear S a w; intro g5 a w S; refine h_on S _ (List.Sublist.refl _) (by repeat (first | exact List.Sublist.refl _ | exact List.nil_sublist _ | refine .cons_cons _ ?_ | refine .cons _ ?_)) ?_)
      (refine h_m (i := 11) rfl (by kernel_rfl) (op_calls S Try.call93 (EvL.cons (Ev.t rfl) EvL.nil) (c93 _ _ _ _ _ _ (by first | assumption | omega | exact .old S.wd (by assumption) | exact Wd.cell S.wd (k := 0) rfl rfl | exact Wd.cell S.wd (k := 2) rfl rfl | exact Wd.cell S.wd (k := 3) rfl rfl | exact Wd.cell S.wd (k := 4) rfl rfl | exact Wd.cell S.wd (k := 5) rfl rfl | exact Sl.of_own S.wd (k := 1) rfl (fun _ => rfl)) (by first | assumption | omega | exact .old S.wd (by assumption) | exact Wd.cell S.wd (k := 0) rfl rfl | exact Wd.cell S.wd (k := 2) rfl rfl | exact Wd.cell S.wd (k := 3) rfl rfl | exact Wd.cell S.wd (k := 4) rfl rfl | exact Wd.cell S.wd (k := 5) rfl rfl | exact Sl.of_own S.wd (k := 1) rfl (fun _ => rfl)) (by first | assumption | omega | exact .old S.wd (by assumption) | exact Wd.cell S.wd (k := 0) rfl rfl | exact Wd.cell S.wd (k := 2) rfl rfl | exact Wd.cell S.wd (k := 3) rfl rfl | exact Wd.cell S.wd (k := 4) rfl rfl | exact Wd.cell S.wd (k := 5) rfl rfl | exact Sl.of_own S.wd (k := 1) rfl (fun _ => rfl)) (by first | assumption | omega | exact .old S.wd (by assumption) | exact Wd.cell S.wd (k := 0) rfl rfl | exact Wd.cell S.wd (k := 2) rfl rfl | exact Wd.cell S.wd (k := 3) rfl rfl | exact Wd.cell S.wd (k := 4) rfl rfl | exact Wd.cell S.wd (k := 5) rfl rfl | exact Sl.of_own S.wd (k := 1) rfl (fun _ => rfl)) (by first | assumption | omega | exact .old S.wd (by assumption) | exact Wd.cell S.wd (k := 0) rfl rfl | exact Wd.cell S.wd (k := 2) rfl rfl | exact Wd.cell S.wd (k := 3) rfl rfl | exact Wd.cell S.wd (k := 4) rfl rfl | exact Wd.cell S.wd (k := 5) rfl rfl | exact Sl.of_own S.wd (k := 1) rfl (fun _ => rfl)) (by first | assumption | omega | exact .old S.wd (by assumption) | exact Wd.cell S.wd (k := 0) rfl rfl | exact Wd.cell S.wd (k := 2) rfl rfl | exact Wd.cell S.wd (k := 3) rfl rfl | exact Wd.cell S.wd (k := 4) rfl rfl | exact Wd.cell S.wd (k := 5) rfl rfl | exact Sl.of_own S.wd (k := 1) rfl (fun _ => rfl))) rfl ?_); clear S a w; rintro _ _ ⟨A2, c2, rfl, rfl⟩ a w S; refine h_on S _ (List.Sublist.refl _) (by repeat (first | exact List.Sublist.refl _ | exact List.nil_sublist _ | refine .cons_cons _ ?_ | refine .cons _ ?_)) ?_)
      (refine h_m (i := 12) rfl (by kernel_rfl) (op_calls S Try.call91 (EvL.cons (Ev.t rfl) (EvL.cons (Ev.t rfl) EvL.nil)) (c91 _ _ _ _ _ (by first | assumption | omega | exact .old S.wd (by assumption) | exact Sl.of_own S.wd (k := 0) rfl (fun _ => rfl) | exact Sl.of_own S.wd (k := 2) rfl (fun _ => rfl)) (by first | assumption | omega | exact .old S.wd (by assumption) | exact Sl.of_own S.wd (k := 0) rfl (fun _ => rfl) | exact Sl.of_own S.wd (k := 2) rfl (fun _ => rfl)) (by first | assumption | omega | exact .old S.wd (by assumption) | exact Sl.of_own S.wd (k := 0) rfl (fun _ => rfl) | exact Sl.of_own S.wd (k := 2) rfl (fun _ => rfl)) (by first | assumption | omega | exact .old S.wd (by assumption) | exact Sl.of_own S.wd (k := 0) rfl (fun _ => rfl) | exact Sl.of_own S.wd (k := 2) rfl (fun _ => rfl))) rfl ?_); clear S a w; rintro _ _ ⟨A11, c11, A21, c29, rfl, rfl⟩ a w S; refine h_on S _ (List.Sublist.refl _) (by repeat (first | exact List.Sublist.refl _ | exact List.nil_sublist _ | refine .cons_cons _ ?_ | refine .cons _ ?_)) ?_)
      (refine h_y (i := 13) S (by repeat (first | exact List.Sublist.refl _ | exact List.nil_sublist _ | refine .cons_cons _ ?_ | refine .cons _ ?_)) rfl (by kernel_rfl) (by kernel_rfl) (by kernel_rfl) (fun _ _ _ _ h => h) (ys_ext (Ev.t rfl) rfl) rfl ?_; clear S a w; intro a w S)
      (refine h_y (i := 14) S (by repeat (first | exact List.Sublist.refl _ | exact List.nil_sublist _ | refine .cons_cons _ ?_ | refine .cons _ ?_)) rfl (by kernel_rfl) (by kernel_rfl) (by kernel_rfl) (fun _ _ _ _ h => h) (ys_ext (Ev.t rfl) rfl) rfl ?_; clear S a w; intro a w S)
      (refine h_m0 (i := 15) rfl (by kernel_rfl) (op_stW S Try.sizeOf36 (Ev.t rfl) (Ev.t rfl) (k := 6) rfl rfl rfl (by simp [Value.oneCell']) ?_); clear S a w; intro a w S; refine h_on S _ (List.Sublist.refl _) (by repeat (first | exact List.Sublist.refl _ | exact List.nil_sublist _ | refine .cons_cons _ ?_ | refine .cons _ ?_)) ?_)
      (refine h_y (i := 16) S (by repeat (first | exact List.Sublist.refl _ | exact List.nil_sublist _ | refine .cons_cons _ ?_ | refine .cons _ ?_)) rfl (by kernel_rfl) (by kernel_rfl) (by kernel_rfl) (fun _ _ _ _ h => h) (ys_assign (Ev.t rfl)) rfl ?_; clear S a w; intro a w S)
      refine h_done (by kernel_rfl) ?_
      (refine (then_normal (hK1 _ _ ?_)); clear hK1)
      refine wp_ret ?_
      refine st_ret S (results2 S Try.results51 (Rv.cell (k := 6) ⟨Try.isAgg36, Try.sizeOf36⟩ rfl rfl rfl) (Rv.tmp rfl)) ?_
      rotate_left
      (refine op_bsliceZ (ps := [(0, Go.Operand.tmp 22), (1, Go.Operand.tmp 24)]) (us := [_, _]) S Try.underlying162 Try.sizeOf30 Try.zeroValue30 rfl rfl (EvL.cons (Ev.t rfl) (EvL.cons (Ev.t rfl) EvL.nil)) rfl rfl ?_; clear S a w; intro g5 a w S; refine h_on S _ (List.Sublist.refl _) (by repeat (first | exact List.Sublist.refl _ | exact List.nil_sublist _ | refine .cons_cons _ ?_ | refine .cons _ ?_)) ?_)
      (refine h_m (i := 5) rfl (by kernel_rfl) (op_calls S Try.call92 (EvL.cons (Ev.t rfl) EvL.nil) (c92 _ _ _ _ _ _ (by first | assumption | omega | exact .old S.wd (by assumption) | exact Wd.cell S.wd (k := 0) rfl rfl | exact Wd.cell S.wd (k := 1) rfl rfl | exact Wd.cell S.wd (k := 2) rfl rfl | exact Wd.cell S.wd (k := 3) rfl rfl | exact Wd.cell S.wd (k := 4) rfl rfl) (by first | assumption | omega | exact .old S.wd (by assumption) | exact Wd.cell S.wd (k := 0) rfl rfl | exact Wd.cell S.wd (k := 1) rfl rfl | exact Wd.cell S.wd (k := 2) rfl rfl | exact Wd.cell S.wd (k := 3) rfl rfl | exact Wd.cell S.wd (k := 4) rfl rfl) (by first | assumption | omega | exact .old S.wd (by assumption) | exact Wd.cell S.wd (k := 0) rfl rfl | exact Wd.cell S.wd (k := 1) rfl rfl | exact Wd.cell S.wd (k := 2) rfl rfl | exact Wd.cell S.wd (k := 3) rfl rfl | exact Wd.cell S.wd (k := 4) rfl rfl) (by first | assumption | omega | exact .old S.wd (by assumption) | exact Wd.cell S.wd (k := 0) rfl rfl | exact Wd.cell S.wd (k := 1) rfl rfl | exact Wd.cell S.wd (k := 2) rfl rfl | exact Wd.cell S.wd (k := 3) rfl rfl | exact Wd.cell S.wd (k := 4) rfl rfl) (by first | assumption | omega | exact .old S.wd (by assumption) | exact Wd.cell S.wd (k := 0) rfl rfl | exact Wd.cell S.wd (k := 1) rfl rfl | exact Wd.cell S.wd (k := 2) rfl rfl | exact Wd.cell S.wd (k := 3) rfl rfl | exact Wd.cell S.wd (k := 4) rfl rfl) (by first | assumption | omega | exact .old S.wd (by assumption) | exact Wd.cell S.wd (k := 0) rfl rfl | exact Wd.cell S.wd (k := 1) rfl rfl | exact Wd.cell S.wd (k := 2) rfl rfl | exact Wd.cell S.wd (k := 3) rfl rfl | exact Wd.cell S.wd (k := 4) rfl rfl)) rfl ?_); clear S a w; rintro _ _ ⟨A1, c1, rfl, rfl⟩ a w S; refine h_on S _ (List.Sublist.refl _) (by repeat (first | exact List.Sublist.refl _ | exact List.nil_sublist _ | refine .cons_cons _ ?_ | refine .cons _ ?_)) ?_)
      (refine h_m (i := 11) rfl (by kernel_rfl) (op_calls S Try.call93 (EvL.cons (Ev.t rfl) EvL.nil) (c93 _ _ _ _ _ _ (by first | assumption | omega | exact .old S.wd (by assumption) | exact Wd.cell S.wd (k := 1) rfl rfl | exact Wd.cell S.wd (k := 2) rfl rfl | exact Wd.cell S.wd (k := 3) rfl rfl | exact Wd.cell S.wd (k := 4) rfl rfl | exact Wd.cell S.wd (k := 5) rfl rfl | exact Sl.of_own S.wd (k := 0) rfl (fun _ => rfl)) (by first | assumption | omega | exact .old S.wd (by assumption) | exact Wd.cell S.wd (k := 1) rfl rfl | exact Wd.cell S.wd (k := 2) rfl rfl | exact Wd.cell S.wd (k := 3) rfl rfl | exact Wd.cell S.wd (k := 4) rfl rfl | exact Wd.cell S.wd (k := 5) rfl rfl | exact Sl.of_own S.wd (k := 0) rfl (fun _ => rfl)) (by first | assumption | omega | exact .old S.wd (by assumption) | exact Wd.cell S.wd (k := 1) rfl rfl | exact Wd.cell S.wd (k := 2) rfl rfl | exact Wd.cell S.wd (k := 3) rfl rfl | exact Wd.cell S.wd (k := 4) rfl rfl | exact Wd.cell S.wd (k := 5) rfl rfl | exact Sl.of_own S.wd (k := 0) rfl (fun _ => rfl)) (by first | assumption | omega | exact .old S.wd (by assumption) | exact Wd.cell S.wd (k := 1) rfl rfl | exact Wd.cell S.wd (k := 2) rfl rfl | exact Wd.cell S.wd (k := 3) rfl rfl | exact Wd.cell S.wd (k := 4) rfl rfl | exact Wd.cell S.wd (k := 5) rfl rfl | exact Sl.of_own S.wd (k := 0) rfl (fun _ => rfl)) (by first | assumption | omega | exact .old S.wd (by assumption) | exact Wd.cell S.wd (k := 1) rfl rfl | exact Wd.cell S.wd (k := 2) rfl rfl | exact Wd.cell S.wd (k := 3) rfl rfl | exact Wd.cell S.wd (k := 4) rfl rfl | exact Wd.cell S.wd (k := 5) rfl rfl | exact Sl.of_own S.wd (k := 0) rfl (fun _ => rfl)) (by first | assumption | omega | exact .old S.wd (by assumption) | exact Wd.cell S.wd (k := 1) rfl rfl | exact Wd.cell S.wd (k := 2) rfl rfl | exact Wd.cell S.wd (k := 3) rfl rfl | exact Wd.cell S.wd (k := 4) rfl rfl | exact Wd.cell S.wd (k := 5) rfl rfl | exact Sl.of_own S.wd (k := 0) rfl (fun _ => rfl))) rfl ?_); clear S a w; rintro _ _ ⟨A2, c2, rfl, rfl⟩ a w S; refine h_on S _ (List.Sublist.refl _) (by repeat (first | exact List.Sublist.refl _ | exact List.nil_sublist _ | refine .cons_cons _ ?_ | refine .cons _ ?_)) ?_)
      (refine h_m (i := 12) rfl (by kernel_rfl) (op_calls S Try.call91 (EvL.cons (Ev.t rfl) (EvL.cons (Ev.t rfl) EvL.nil)) (c91 _ _ _ _ _ (by first | assumption | omega | exact .old S.wd (by assumption) | exact Sl.of_own S.wd (k := 0) rfl (fun _ => rfl) | exact Sl.of_own S.wd (k := 1) rfl (fun _ => rfl)) (by first | assumption | omega | exact .old S.wd (by assumption) | exact Sl.of_own S.wd (k := 0) rfl (fun _ => rfl) | exact Sl.of_own S.wd (k := 1) rfl (fun _ => rfl)) (by first | assumption | omega | exact .old S.wd (by assumption) | exact Sl.of_own S.wd (k := 0) rfl (fun _ => rfl) | exact Sl.of_own S.wd (k := 1) rfl (fun _ => rfl)) (by first | assumption | omega | exact .old S.wd (by assumption) | exact Sl.of_own S.wd (k := 0) rfl (fun _ => rfl) | exact Sl.of_own S.wd (k := 1) rfl (fun _ => rfl))) rfl ?_); clear S a w; rintro _ _ ⟨A11, c11, A21, c29, rfl, rfl⟩ a w S; refine h_on S _ (List.Sublist.refl _) (by repeat (first | exact List.Sublist.refl _ | exact List.nil_sublist _ | refine .cons_cons _ ?_ | refine .cons _ ?_)) ?_)
      (refine h_y (i := 13) S (by repeat (first | exact List.Sublist.refl _ | exact List.nil_sublist _ | refine .cons_cons _ ?_ | refine .cons _ ?_)) rfl (by kernel_rfl) (by kernel_rfl) (by kernel_rfl) (fun _ _ _ _ h => h) (ys_ext (Ev.t rfl) rfl) rfl ?_; clear S a w; intro a w S)
      (refine h_y (i := 14) S (by repeat (first | exact List.Sublist.refl _ | exact List.nil_sublist _ | refine .cons_cons _ ?_ | refine .cons _ ?_)) rfl (by kernel_rfl) (by kernel_rfl) (by kernel_rfl) (fun _ _ _ _ h => h) (ys_ext (Ev.t rfl) rfl) rfl ?_; clear S a w; intro a w S)
      (refine h_m0 (i := 15) rfl (by kernel_rfl) (op_stW S Try.sizeOf36 (Ev.t rfl) (Ev.t rfl) (k := 6) rfl rfl rfl (by simp [Value.oneCell']) ?_); clear S a w; intro a w S; refine h_on S _ (List.Sublist.refl _) (by repeat (first | exact List.Sublist.refl _ | exact List.nil_sublist _ | refine .cons_cons _ ?_ | refine .cons _ ?_)) ?_)
      (refine h_y (i := 16) S (by repeat (first | exact List.Sublist.refl _ | exact List.nil_sublist _ | refine .cons_cons _ ?_ | refine .cons _ ?_)) rfl (by kernel_rfl) (by kernel_rfl) (by kernel_rfl) (fun _ _ _ _ h => h) (ys_assign (Ev.t rfl)) rfl ?_; clear S a w; intro a w S)
      refine h_done (by kernel_rfl) ?_
      (refine (then_normal (hK1 _ _ ?_)); clear hK1)
      refine wp_ret ?_
      refine st_ret S (results2 S Try.results51 (Rv.cell (k := 6) ⟨Try.isAgg36, Try.sizeOf36⟩ rfl rfl rfl) (Rv.tmp rfl)) ?_
      rotate_left
      (refine op_bsliceZ (ps := [(0, Go.Operand.tmp 22), (1, Go.Operand.tmp 24)]) (us := [_, _]) S Try.underlying162 Try.sizeOf30 Try.zeroValue30 rfl rfl (EvL.cons (Ev.t rfl) (EvL.cons (Ev.t rfl) EvL.nil)) rfl rfl ?_; clear S a w; intro g4 a w S; refine h_on S _ (List.Sublist.refl _) (by repeat (first | exact List.Sublist.refl _ | exact List.nil_sublist _ | refine .cons_cons _ ?_ | refine .cons _ ?_)) ?_)
      (refine h_m (i := 4) rfl (by kernel_rfl) (op_bsliceZ (ps := [(0, Go.Operand.tmp 16), (1, Go.Operand.tmp 18)]) (us := [_, _]) S Try.underlying160 Try.sizeOf29 Try.zeroValue29 rfl rfl (EvL.cons (Ev.t rfl) (EvL.cons (Ev.t rfl) EvL.nil)) rfl rfl ?_); clear S a w; intro g5 a w S; refine h_on S _ (List.Sublist.refl _) (by repeat (first | exact List.Sublist.refl _ | exact List.nil_sublist _ | refine .cons_cons _ ?_ | refine .cons _ ?_)) ?_)
      (refine h_m (i := 5) rfl (by kernel_rfl) (op_calls S Try.call92 (EvL.cons (Ev.t rfl) EvL.nil) (c92 _ _ _ _ _ _ (by first | assumption | omega | exact .old S.wd (by assumption) | exact Wd.cell S.wd (k := 0) rfl rfl | exact Wd.cell S.wd (k := 1) rfl rfl | exact Wd.cell S.wd (k := 2) rfl rfl | exact Wd.cell S.wd (k := 3) rfl rfl | exact Wd.cell S.wd (k := 4) rfl rfl) (by first | assumption | omega | exact .old S.wd (by assumption) | exact Wd.cell S.wd (k := 0) rfl rfl | exact Wd.cell S.wd (k := 1) rfl rfl | exact Wd.cell S.wd (k := 2) rfl rfl | exact Wd.cell S.wd (k := 3) rfl rfl | exact Wd.cell S.wd (k := 4) rfl rfl) (by first | assumption | omega | exact .old S.wd (by assumption) | exact Wd.cell S.wd (k := 0) rfl rfl | exact Wd.cell S.wd (k := 1) rfl rfl | exact Wd.cell S.wd (k := 2) rfl rfl | exact Wd.cell S.wd (k := 3) rfl rfl | exact Wd.cell S.wd (k := 4) rfl rfl) (by first | assumption | omega | exact .old S.wd (by assumption) | exact Wd.cell S.wd (k := 0) rfl rfl | exact Wd.cell S.wd (k := 1) rfl rfl | exact Wd.cell S.wd (k := 2) rfl rfl | exact Wd.cell S.wd (k := 3) rfl rfl | exact Wd.cell S.wd (k := 4) rfl rfl) (by first | assumption | omega | exact .old S.wd (by assumption) | exact Wd.cell S.wd (k := 0) rfl rfl | exact Wd.cell S.wd (k := 1) rfl rfl | exact Wd.cell S.wd (k := 2) rfl rfl | exact Wd.cell S.wd (k := 3) rfl rfl | exact Wd.cell S.wd (k := 4) rfl rfl) (by first | assumption | omega | exact .old S.wd (by assumption) | exact Wd.cell S.wd (k := 0) rfl rfl | exact Wd.cell S.wd (k := 1) rfl rfl | exact Wd.cell S.wd (k := 2) rfl rfl | exact Wd.cell S.wd (k := 3) rfl rfl | exact Wd.cell S.wd (k := 4) rfl rfl)) rfl ?_); clear S a w; rintro _ _ ⟨A1, c1, rfl, rfl⟩ a w S; refine h_on S _ (List.Sublist.refl _) (by repeat (first | exact List.Sublist.refl _ | exact List.nil_sublist _ | refine .cons_cons _ ?_ | refine .cons _ ?_)) ?_)
      (refine h_m (i := 11) rfl (by kernel_rfl) (op_calls S Try.call93 (EvL.cons (Ev.t rfl) EvL.nil) (c93 _ _ _ _ _ _ (by first | assumption | omega | exact .old S.wd (by assumption) | exact Wd.cell S.wd (k := 1) rfl rfl | exact Wd.cell S.wd (k := 2) rfl rfl | exact Wd.cell S.wd (k := 3) rfl rfl | exact Wd.cell S.wd (k := 4) rfl rfl | exact Wd.cell S.wd (k := 5) rfl rfl | exact Sl.of_own S.wd (k := 0) rfl (fun _ => rfl)) (by first | assumption | omega | exact .old S.wd (by assumption) | exact Wd.cell S.wd (k := 1) rfl rfl | exact Wd.cell S.wd (k := 2) rfl rfl | exact Wd.cell S.wd (k := 3) rfl rfl | exact Wd.cell S.wd (k := 4) rfl rfl | exact Wd.cell S.wd (k := 5) rfl rfl | exact Sl.of_own S.wd (k := 0) rfl (fun _ => rfl)) (by first | assumption | omega | exact .old S.wd (by assumption) | exact Wd.cell S.wd (k := 1) rfl rfl | exact Wd.cell S.wd (k := 2) rfl rfl | exact Wd.cell S.wd (k := 3) rfl rfl | exact Wd.cell S.wd (k := 4) rfl rfl | exact Wd.cell S.wd (k := 5) rfl rfl | exact Sl.of_own S.wd (k := 0) rfl (fun _ => rfl)) (by first | assumption | omega | exact .old S.wd (by assumption) | exact Wd.cell S.wd (k := 1) rfl rfl | exact Wd.cell S.wd (k := 2) rfl rfl | exact Wd.cell S.wd (k := 3) rfl rfl | exact Wd.cell S.wd (k := 4) rfl rfl | exact Wd.cell S.wd (k := 5) rfl rfl | exact Sl.of_own S.wd (k := 0) rfl (fun _ => rfl)) (by first | assumption | omega | exact .old S.wd (by assumption) | exact Wd.cell S.wd (k := 1) rfl rfl | exact Wd.cell S.wd (k := 2) rfl rfl | exact Wd.cell S.wd (k := 3) rfl rfl | exact Wd.cell S.wd (k := 4) rfl rfl | exact Wd.cell S.wd (k := 5) rfl rfl | exact Sl.of_own S.wd (k := 0) rfl (fun _ => rfl)) (by first | assumption | omega | exact .old S.wd (by assumption) | exact Wd.cell S.wd (k := 1) rfl rfl | exact Wd.cell S.wd (k := 2) rfl rfl | exact Wd.cell S.wd (k := 3) rfl rfl | exact Wd.cell S.wd (k := 4) rfl rfl | exact Wd.cell S.wd (k := 5) rfl rfl | exact Sl.of_own S.wd (k := 0) rfl (fun _ => rfl))) rfl ?_); clear S a w; rintro _ _ ⟨A2, c2, rfl, rfl⟩ a w S; refine h_on S _ (List.Sublist.refl _) (by repeat (first | exact List.Sublist.refl _ | exact List.nil_sublist _ | refine .cons_cons _ ?_ | refine .cons _ ?_)) ?_)
      (refine h_m (i := 12) rfl (by kernel_rfl) (op_calls S Try.call91 (EvL.cons (Ev.t rfl) (EvL.cons (Ev.t rfl) EvL.nil)) (c91 _ _ _ _ _ (by first | assumption | omega | exact .old S.wd (by assumption) | exact Sl.of_own S.wd (k := 0) rfl (fun _ => rfl) | exact Sl.of_own S.wd (k := 1) rfl (fun _ => rfl)) (by first | assumption | omega | exact .old S.wd (by assumption) | exact Sl.of_own S.wd (k := 0) rfl (fun _ => rfl) | exact Sl.of_own S.wd (k := 1) rfl (fun _ => rfl)) (by first | assumption | omega | exact .old S.wd (by assumption) | exact Sl.of_own S.wd (k := 0) rfl (fun _ => rfl) | exact Sl.of_own S.wd (k := 1) rfl (fun _ => rfl)) (by first | assumption | omega | exact .old S.wd (by assumption) | exact Sl.of_own S.wd (k := 0) rfl (fun _ => rfl) | exact Sl.of_own S.wd (k := 1) rfl (fun _ => rfl))) rfl ?_); clear S a w; rintro _ _ ⟨A11, c11, A21, c29, rfl, rfl⟩ a w S; refine h_on S _ (List.Sublist.refl _) (by repeat (first | exact List.Sublist.refl _ | exact List.nil_sublist _ | refine .cons_cons _ ?_ | refine .cons _ ?_)) ?_)
      (refine h_y (i := 13) S (by repeat (first | exact List.Sublist.refl _ | exact List.nil_sublist _ | refine .cons_cons _ ?_ | refine .cons _ ?_)) rfl (by kernel_rfl) (by kernel_rfl) (by kernel_rfl) (fun _ _ _ _ h => h) (ys_ext (Ev.t rfl) rfl) rfl ?_; clear S a w; intro a w S)
      (refine h_y (i := 14) S (by repeat (first | exact List.Sublist.refl _ | exact List.nil_sublist _ | refine .cons_cons _ ?_ | refine .cons _ ?_)) rfl (by kernel_rfl) (by kernel_rfl) (by kernel_rfl) (fun _ _ _ _ h => h) (ys_ext (Ev.t rfl) rfl) rfl ?_; clear S a w; intro a w S)
      (refine h_m0 (i := 15) rfl (by kernel_rfl) (op_stW S Try.sizeOf36 (Ev.t rfl) (Ev.t rfl) (k := 6) rfl rfl rfl (by simp [Value.oneCell']) ?_); clear S a w; intro a w S; refine h_on S _ (List.Sublist.refl _) (by repeat (first | exact List.Sublist.refl _ | exact List.nil_sublist _ | refine .cons_cons _ ?_ | refine .cons _ ?_)) ?_)
      (refine h_y (i := 16) S (by repeat (first | exact List.Sublist.refl _ | exact List.nil_sublist _ | refine .cons_cons _ ?_ | refine .cons _ ?_)) rfl (by kernel_rfl) (by kernel_rfl) (by kernel_rfl) (fun _ _ _ _ h => h) (ys_assign (Ev.t rfl)) rfl ?_; clear S a w; intro a w S)
      refine h_done (by kernel_rfl) ?_
      (refine (then_normal (hK1 _ _ ?_)); clear hK1)
      refine wp_ret ?_
      refine st_ret S (results2 S Try.results51 (Rv.cell (k := 6) ⟨Try.isAgg36, Try.sizeOf36⟩ rfl rfl rfl) (Rv.tmp rfl)) ?_
      rotate_left
      all_goals have e : joinL C D = normalL (C.marks ++ D.marks) (C.cloud ++ D.cloud) := by unfold joinL; rw [hC, hD]; rfl
      all_goals rw [e]
      all_goals exact ⟨_, _, rfl, S.wd.sub (by repeat (first | exact List.Sublist.refl _ | exact List.nil_sublist _ | refine .cons_cons _ ?_ | refine .cons _ ?_)), _, _, _, _, rfl, rfl⟩
    · have hD : canL D = false := by simpa using hD
      have rw_c := hC
      have rw_d := hD
      unfold Go.Fw.Rets
      refine enter2 Try.func51 rfl Try.ntmps51 rfl fun a S => ?_
      refine wp_seq_k fun _ hK1 => ?_
      refine wp_region_lit ?_
      (refine st_m (op_box S (Ev.t rfl) rfl ?_); clear S a; intro g1 a w S)
      (refine st_m (op_box S (Ev.t rfl) rfl ?_); clear S a w; intro g2 a w S)
      (refine st_m (op_alloc S Try.zeroValue36 (cs := _) rfl rfl ?_); clear S a w; intro g3 a w S)
      (refine st_y S (Yr.ys (ys_assign Ev.c)) rfl ?_; clear S a w; intro a w S)
      refine st_nil ?_
      (refine (then_normal (hK1 _ _ ?_)); clear hK1)
      refine wp_seq_k fun _ hK1 => ?_
      refine wp_seq_k fun _ hK2 => ?_
      refine wp_region_lit ?_
      (refine st_y S (Yr.ys (ys_ldA ⟨Try.isAgg36, Try.sizeOf36⟩ (Ev.t rfl) (k := 2) rfl rfl)) rfl ?_; clear S a w; intro a w S)
      (refine st_y S (ys_call Try.call32 (EvL.cons (Ev.t rfl) EvL.nil) (fun hp w W => c32 _ _ _ _ (by first | assumption | omega | exact .old W (by assumption)  | exact ⟨(by first | exact .old W (by assumption)), (by first | exact .old W (by assumption))⟩ | exact RdCtx.mk' (by first | exact .old W (by assumption)) (by first | exact .old W (by assumption)) | (simp at hp; omega)))) rfl ?_; clear S a w; intro a w S)
      rw [rw_c] at S
      (refine st_y S (Yr.ys (ys_not (Ev.t rfl))) rfl ?_; clear S a w; intro a w S)
      (refine st_y S (Yr.ys (ys_move (Ev.t rfl))) rfl ?_; clear S a w; intro a w S)
      (refine st_yt S rfl rfl (Yr.ys (ys_ldA ⟨Try.isAgg36, Try.sizeOf36⟩ (Ev.t rfl) (k := 1) rfl rfl)) rfl ?_; clear S a w; intro a w S)
      (refine st_yt S rfl rfl (ys_call Try.call32 (EvL.cons (Ev.t rfl) EvL.nil) (fun hp w W => c32 _ _ _ _ (by first | assumption | omega | exact .old W (by assumption)  | exact ⟨(by first | exact .old W (by assumption)), (by first | exact .old W (by assumption))⟩ | exact RdCtx.mk' (by first | exact .old W (by assumption)) (by first | exact .old W (by assumption)) | (simp at hp; omega)))) rfl ?_; clear S a w; intro a w S)
      rw [rw_d] at S
      (refine st_yt S rfl rfl (Yr.ys (ys_not (Ev.t rfl))) rfl ?_; clear S a w; intro a w S)
      (refine st_y S (Yr.ys (ys_pickF (Ev.t rfl) (Ev.t rfl))) rfl ?_; clear S a w; intro a w S)
      refine st_nil ?_
      (refine (then_normal (hK2 _ _ ?_)); clear hK2)
      refine st_then S (Ev.t rfl) ?_
      refine wp_seq_k fun _ hK2 => ?_
      refine wp_region_lit ?_
      (refine st_y S (Yr.ys (ys_bld (ps := []) (us := [_, _]) bld36 EvL.nil rfl)) rfl ?_; clear S a w; intro a w S)
      (refine st_m (op_stW S Try.sizeOf36 (Ev.t rfl) (Ev.t rfl) (k := 0) rfl rfl rfl (by simp [Value.oneCell']) ?_); clear S a w; intro a w S)
      (refine st_y S (Yr.ys (ys_assign Ev.c)) rfl ?_; clear S a w; intro a w S)
      refine st_nil ?_
      (refine (then_normal (hK2 _ _ ?_)); clear hK2)
      refine wp_ret ?_
      refine (then_ret ?_)
      refine st_ret S (results2 S Try.results51 (Rv.cell (k := 0) ⟨Try.isAgg36, Try.sizeOf36⟩ rfl rfl rfl) (Rv.tmp rfl)) ?_
      have e : joinL C D = (⟨[], []⟩, 30) := by unfold joinL; rw [hC, hD]; rfl
      rw [e]
      exact ⟨_, _, rfl, ((S.nil_ 32 3 Dot.enc none).nil_ 43 3 Dot.enc none).wd.sub (by repeat (first | exact List.Sublist.refl _ | exact List.nil_sublist _ | refine .cons_cons _ ?_ | refine .cons _ ?_)), none, 0, none, 0, rfl, rfl⟩
  · have hC : canL C = false := by simpa using hC
    have rw_c := hC
    unfold Go.Fw.Rets
    refine enter2 Try.func51 rfl Try.ntmps51 rfl fun a S => ?_
    refine wp_seq_k fun _ hK1 => ?_
    refine wp_region_lit ?_
    (refine st_m (op_box S (Ev.t rfl) rfl ?_); clear S a; intro g1 a w S)
    (refine st_m (op_box S (Ev.t rfl) rfl ?_); clear S a w; intro g2 a w S)
    (refine st_m (op_alloc S Try.zeroValue36 (cs := _) rfl rfl ?_); clear S a w; intro g3 a w S)
    (refine st_y S (Yr.ys (ys_assign Ev.c)) rfl ?_; clear S a w; intro a w S)
    refine st_nil ?_
    (refine (then_normal (hK1 _ _ ?_)); clear hK1)
    refine wp_seq_k fun _ hK1 => ?_
    refine wp_seq_k fun _ hK2 => ?_
    refine wp_region_lit ?_
    (refine st_y S (Yr.ys (ys_ldA ⟨Try.isAgg36, Try.sizeOf36⟩ (Ev.t rfl) (k := 2) rfl rfl)) rfl ?_; clear S a w; intro a w S)
    (refine st_y S (ys_call Try.call32 (EvL.cons (Ev.t rfl) EvL.nil) (fun hp w W => c32 _ _ _ _ (by first | assumption | omega | exact .old W (by assumption)  | exact ⟨(by first | exact .old W (by assumption)), (by first | exact .old W (by assumption))⟩ | exact RdCtx.mk' (by first | exact .old W (by assumption)) (by first | exact .old W (by assumption)) | (simp at hp; omega)))) rfl ?_; clear S a w; intro a w S)
    rw [rw_c] at S
    (refine st_y S (Yr.ys (ys_not (Ev.t rfl))) rfl ?_; clear S a w; intro a w S)
    (refine st_y S (Yr.ys (ys_move (Ev.t rfl))) rfl ?_; clear S a w; intro a w S)
    (refine st_skip S rfl rfl rfl rfl ?_; clear S a w; intro a w S)
    (refine st_skip S rfl rfl rfl rfl ?_; clear S a w; intro a w S)
    (refine st_skip S rfl rfl rfl rfl ?_; clear S a w; intro a w S)
    (refine st_y S (Yr.ys (ys_pickT (Ev.t rfl) Ev.c)) rfl ?_; clear S a w; intro a w S)
    refine st_nil ?_
    (refine (then_normal (hK2 _ _ ?_)); clear hK2)
    refine st_then S (Ev.t rfl) ?_
    refine wp_seq_k fun _ hK2 => ?_
    refine wp_region_lit ?_
    (refine st_y S (Yr.ys (ys_bld (ps := []) (us := [_, _]) bld36 EvL.nil rfl)) rfl ?_; clear S a w; intro a w S)
    (refine st_m (op_stW S Try.sizeOf36 (Ev.t rfl) (Ev.t rfl) (k := 0) rfl rfl rfl (by simp [Value.oneCell']) ?_); clear S a w; intro a w S)
    (refine st_y S (Yr.ys (ys_assign Ev.c)) rfl ?_; clear S a w; intro a w S)
    refine st_nil ?_
    (refine (then_normal (hK2 _ _ ?_)); clear hK2)
    refine wp_ret ?_
    refine (then_ret ?_)
    refine st_ret S (results2 S Try.results51 (Rv.cell (k := 0) ⟨Try.isAgg36, Try.sizeOf36⟩ rfl rfl rfl) (Rv.tmp rfl)) ?_
    have e : joinL C D = (⟨[], []⟩, 30) := by unfold joinL; rw [hC]; rfl
    rw [e]
    exact ⟨_, _, rfl, ((S.nil_ 32 3 Dot.enc none).nil_ 43 3 Dot.enc none).wd.sub (by repeat (first | exact List.Sublist.refl _ | exact List.nil_sublist _ | refine .cons_cons _ ?_ | refine .cons _ ?_)), none, 0, none, 0, rfl, rfl⟩

end Go.Proofs.Ytjfeeiljinbmjaa
