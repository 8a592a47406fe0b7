/- Layer 3, fifth part: what is asked of contexts: the law walked. -/
import Derived.Test.YtjfeeiljinbmjaaCau4
import Derived.Test.YtjfeeiljinbmjaaMore2
set_option linter.unusedVariables false
set_option linter.unusedSimpArgs false
set_option maxRecDepth 100000
namespace Go.Proofs.Ytjfeeiljinbmjaa
open Go.Fw Go.Proofs Go.RowKit

theorem c4 (w0 : World) (v1 v2 : Value) (l d : List Dot) (x y z p q : Int) (h : Sl Dot.enc 3 w0 w0.heap.size v1 l) (h' : Sl Dot.enc 3 w0 w0.heap.size v2 d) (hn : l.length ≤ 1900000) (hn' : d.length ≤ 1900000) :
    Calls Try.prog 4 #[v1, v2, .agg #[.int .i64 x, .int .i64 y, .int .i64 z], .agg #[.int .i64 p, .int .i64 q]] w0 fun e w' => e = .returned (.bool true) ∧ Bel w0.heap.size w0 w' := by
  obtain ⟨hN1, hN2, hN3, hN4⟩ := normalL_facts l d
  have hN5 : (normalL l d).1.marks.length ≤ 1048576 := by omega
  have hN6 : (normalL l d).1.cloud.length ≤ 1048576 := by omega
  have hcov := covers_eq hN2 ⟨x, y, z⟩
  refine enter4 Try.func4 rfl Try.ntmps4 rfl fun a S => ?_
  refine wp_seq_k fun _ hK1 => ?_
  refine wp_region_lit ?_
  (refine st_m (op_box S (Ev.t rfl) rfl ?_); clear S a; intro g1 a w S)
  (refine st_m (op_box S (Ev.t rfl) rfl ?_); clear S a w; intro g2 a w S)
  (refine st_y S (Yr.ys (ys_assign Ev.c)) rfl ?_; clear S a w; intro a w S)
  refine st_nil ?_
  (refine (then_normal (hK1 _ _ ?_)); clear hK1)
  refine wp_seq_k fun _ hK1 => ?_
  refine wp_region_lit ?_
  (refine st_y S (Yr.ys (ys_move (Ev.t rfl))) rfl ?_; clear S a w; intro a w S)
  (refine st_y S (Yr.ys (ys_move (Ev.t rfl))) rfl ?_; clear S a w; intro a w S)
  (refine st_m (op_calls S Try.call19 (EvL.cons (Ev.t rfl) (EvL.cons (Ev.t rfl) EvL.nil)) (c19 _ _ _ _ _ (by exact .old S.wd (by assumption)) (by exact .old S.wd (by assumption)) (by assumption) (by assumption)) rfl ?_); clear S a w; rintro _ _ ⟨A11, c11, A21, c29, rfl, rfl⟩ a w S)
  (refine st_m (op_alloc S Try.zeroValue36 (cs := _) rfl rfl ?_); clear S a w; intro g3 a w S)
  (refine st_m (op_stW S Try.sizeOf36 (Ev.t rfl) (Ev.t rfl) (k := 0) rfl rfl rfl (by simp [Value.oneCell']) ?_); clear S a w; intro a w S)
  refine st_nil ?_
  (refine (then_normal (hK1 _ _ ?_)); clear hK1)
  refine wp_seq_k fun _ hK1 => ?_
  refine wp_seq_k fun _ hK2 => ?_
  (refine st_quiet S (by kernel_rfl) (by kernel_rfl) ?_; clear S w; intro a S)
  (refine q_y S (Yr.ys (ys_ldA ⟨Try.isAgg36, Try.sizeOf36⟩ (Ev.t rfl) (k := 0) rfl rfl)) rfl ?_; clear S a; intro a S)
  (refine q_y S (Yr.ys (ys_ldA ⟨Try.isAgg32, Try.sizeOf32⟩ (Ev.t rfl) (k := 4) rfl rfl)) rfl ?_; clear S a; intro a S)
  (refine q_y S (ys_call Try.call20 (EvL.cons (Ev.t rfl) (EvL.cons (Ev.t rfl) EvL.nil)) (fun hp w W => c20 _ _ _ _ _ _ _ (by exact ⟨(by exact Sl.of_own W (k := 1) rfl (fun _ => rfl)), (by exact Sl.of_own W (k := 2) rfl (fun _ => rfl))⟩))) rfl ?_; clear S a; intro a S)
  (refine q_y S (Yr.ys (ys_ldA ⟨Try.isAgg36, Try.sizeOf36⟩ (Ev.t rfl) (k := 0) rfl rfl)) rfl ?_; clear S a; intro a S)
  (refine q_y S (Yr.ys (ys_ldA ⟨Try.isAgg32, Try.sizeOf32⟩ (Ev.t rfl) (k := 4) rfl rfl)) rfl ?_; clear S a; intro a S)
  (refine q_y S (ys_call Try.call21 (EvL.cons (Ev.t rfl) (EvL.cons (Ev.t rfl) EvL.nil)) (fun hp w W => c21 _ _ _ _ _ _ _ (by exact ⟨(by exact Sl.of_own W (k := 1) rfl (fun _ => rfl)), (by exact Sl.of_own W (k := 2) rfl (fun _ => rfl))⟩))) rfl ?_; clear S a; intro a S)
  (refine q_y S (Yr.ys (ys_neqB Try.underlying4 (Ev.t rfl) (Ev.t rfl))) rfl ?_; clear S a; intro a S)
  (refine q_y S (Yr.ys (ys_move (Ev.t rfl))) rfl ?_; clear S a; intro a S)
  (refine q_yf S rfl rfl (Yr.ys (ys_ldA ⟨Try.isAgg36, Try.sizeOf36⟩ (Ev.t rfl) (k := 0) rfl rfl)) rfl ?_; clear S a; intro a S)
  (refine q_yf S rfl rfl (Yr.ys (ys_ldA ⟨Try.isAgg34, Try.sizeOf34⟩ (Ev.t rfl) (k := 3) rfl rfl)) rfl ?_; clear S a; intro a S)
  (refine q_yf S rfl rfl (ys_call Try.call22 (EvL.cons (Ev.g rfl) (EvL.cons (Ev.g rfl) EvL.nil)) (fun hp w W => c22 _ _ _ _ _ _ (by exact ⟨(by exact Sl.of_own W (k := 1) rfl (fun _ => rfl)), (by exact Sl.of_own W (k := 2) rfl (fun _ => rfl))⟩))) rfl ?_; clear S a; intro a S)
  (refine q_yf S rfl rfl (Yr.ys (ys_ldA ⟨Try.isAgg36, Try.sizeOf36⟩ (Ev.t rfl) (k := 0) rfl rfl)) rfl ?_; clear S a; intro a S)
  (refine q_yf S rfl rfl (Yr.ys (ys_ldA ⟨Try.isAgg34, Try.sizeOf34⟩ (Ev.t rfl) (k := 3) rfl rfl)) rfl ?_; clear S a; intro a S)
  (refine q_yf S rfl rfl (ys_call Try.call23 (EvL.cons (Ev.g rfl) (EvL.cons (Ev.g rfl) EvL.nil)) (fun hp w W => c23 _ _ _ _ _ _ (by exact ⟨(by exact Sl.of_own W (k := 1) rfl (fun _ => rfl)), (by exact Sl.of_own W (k := 2) rfl (fun _ => rfl))⟩))) rfl ?_; clear S a; intro a S)
  (refine q_yf S rfl rfl (Yr.ys (ys_F (by omega) (ys_neq (Ev.g rfl) (Ev.g rfl)))) rfl ?_; clear S a; intro a S)
  (refine q_y S (Yr.ys (ys_or (Ev.t rfl) Ev.c (Ev.g rfl))) rfl ?_; clear S a; intro a S)
  (refine q_y S (Yr.ys (ys_move (Ev.t rfl))) rfl ?_; clear S a; intro a S)
  (refine q_yf S rfl rfl (Yr.ys (ys_ldA ⟨Try.isAgg36, Try.sizeOf36⟩ (Ev.t rfl) (k := 0) rfl rfl)) rfl ?_; clear S a; intro a S)
  (refine q_yf S rfl rfl (ys_call Try.call24 (EvL.cons (Ev.g rfl) EvL.nil) (fun hp w W => c24 _ _ _ _ (by exact ⟨(by exact Sl.of_own W (k := 1) rfl (fun _ => rfl)), (by exact Sl.of_own W (k := 2) rfl (fun _ => rfl))⟩) (by assumption) (by assumption) (by assumption))) rfl ?_; clear S a; intro a S)
  (refine q_yf S rfl rfl (Yr.ys (ys_ldA ⟨Try.isAgg36, Try.sizeOf36⟩ (Ev.t rfl) (k := 0) rfl rfl)) rfl ?_; clear S a; intro a S)
  (refine q_yf S rfl rfl (ys_call Try.call25 (EvL.cons (Ev.g rfl) EvL.nil) (fun hp w W => c25 _ _ _ _ (by exact ⟨(by exact Sl.of_own W (k := 1) rfl (fun _ => rfl)), (by exact Sl.of_own W (k := 2) rfl (fun _ => rfl))⟩) (by assumption) (by assumption) (by assumption))) rfl ?_; clear S a; intro a S)
  (refine q_yf S rfl rfl (Yr.ys (ys_F (by omega) (ys_neq (Ev.g rfl) (Ev.g rfl)))) rfl ?_; clear S a; intro a S)
  (refine q_y S (Yr.ys (ys_or (Ev.t rfl) Ev.c (Ev.g rfl))) rfl ?_; clear S a; intro a S)
  (refine q_nil ?_; intro w W; replace S := St.mk S W; clear W)
  (refine (then_normal (hK2 _ _ ?_)); clear hK2)
  refine st_cond S (Ev.t rfl) (fun h1 => ?_) (fun h1 => ?_)
  refine wp_seq_k fun _ hK2 => ?_
  refine wp_region_lit ?_
  (refine st_y S (Yr.ys (ys_assign Ev.c)) rfl ?_; clear S a w; intro a w S)
  refine st_nil ?_
  (refine (then_normal (hK2 _ _ ?_)); clear hK2)
  refine wp_ret ?_
  refine (then_ret ?_)
  refine st_ret S (results1 S Try.results4 (Rv.tmp rfl)) ?_
  rotate_left
  refine wp_skip ?_
  (refine (then_normal (hK1 _ _ ?_)); clear hK1)
  refine wp_seq_k fun _ hK1 => ?_
  (refine h_begin0 S (by kernel_rfl) ?_; clear S a w; intro a w S)
  (refine h_y (i := 0) S (by repeat (first | exact List.Sublist.refl _ | exact List.nil_sublist _ | refine .cons_cons _ ?_ | refine .cons _ ?_)) rfl (by kernel_rfl) (by kernel_rfl) (by kernel_rfl) (fun _ _ _ _ h => h) (ys_ldA ⟨Try.isAgg36, Try.sizeOf36⟩ (Ev.t rfl) (k := 0) rfl rfl) rfl ?_; clear S a w; intro a w S)
  (refine h_y (i := 1) S (by repeat (first | exact List.Sublist.refl _ | exact List.nil_sublist _ | refine .cons_cons _ ?_ | refine .cons _ ?_)) rfl (by kernel_rfl) (by kernel_rfl) (by kernel_rfl) (fun _ _ _ _ h => h) (ys_ldA ⟨Try.isAgg34, Try.sizeOf34⟩ (Ev.t rfl) (k := 3) rfl rfl) rfl ?_; clear S a w; intro a w S)
  (refine h_y (i := 3) S (by repeat (first | exact List.Sublist.refl _ | exact List.nil_sublist _ | refine .cons_cons _ ?_ | refine .cons _ ?_)) rfl (by kernel_rfl) (by kernel_rfl) (by kernel_rfl) (fun _ _ _ _ h => h) (ys_ldA ⟨Try.isAgg36, Try.sizeOf36⟩ (Ev.t rfl) (k := 0) rfl rfl) rfl ?_; clear S a w; intro a w S)
  (refine h_y (i := 4) S (by repeat (first | exact List.Sublist.refl _ | exact List.nil_sublist _ | refine .cons_cons _ ?_ | refine .cons _ ?_)) rfl (by kernel_rfl) (by kernel_rfl) (by kernel_rfl) (fun _ _ _ _ h => h) (ys_ldA ⟨Try.isAgg34, Try.sizeOf34⟩ (Ev.t rfl) (k := 3) rfl rfl) rfl ?_; clear S a w; intro a w S)
  (refine h_m (i := 2) rfl (by kernel_rfl) (op_calls S Try.call27 (EvL.cons (Ev.t rfl) (EvL.cons (Ev.t rfl) EvL.nil)) (c27 _ _ _ _ _ _ (by exact ⟨(by exact Sl.of_own S.wd (k := 1) rfl (fun _ => rfl)), (by exact Sl.of_own S.wd (k := 2) rfl (fun _ => rfl))⟩) (by assumption) (by assumption)) rfl ?_); clear S a w; rintro _ _ ⟨A12, c12, A22, c210, rfl, rfl⟩ a w S; refine h_on S _ (by repeat (first | exact List.Sublist.refl _ | exact List.nil_sublist _ | refine .cons_cons _ ?_ | refine .cons _ ?_)) (List.Sublist.refl _) ?_)
  (refine h_m (i := 5) rfl (by kernel_rfl) (op_calls S Try.call28 (EvL.cons (Ev.t rfl) (EvL.cons (Ev.t rfl) EvL.nil)) (c28 _ _ _ _ _ _ (by exact ⟨(by exact Sl.of_own S.wd (k := 3) rfl (fun _ => rfl)), (by exact Sl.of_own S.wd (k := 4) rfl (fun _ => rfl))⟩) (by assumption) (by assumption)) rfl ?_); clear S a w; rintro _ _ ⟨A13, c13, A23, c211, rfl, rfl⟩ a w S; refine h_on S _ (by repeat (first | exact List.Sublist.refl _ | exact List.nil_sublist _ | refine .cons_cons _ ?_ | refine .cons _ ?_)) (List.Sublist.refl _) ?_)
  (refine h_q (i := 6) S (by repeat (first | exact List.Sublist.refl _ | exact List.nil_sublist _ | refine .cons_cons _ ?_ | refine .cons _ ?_)) rfl (by kernel_rfl) (ys_call Try.call26 (EvL.cons (Ev.t rfl) (EvL.cons (Ev.t rfl) EvL.nil)) (fun hp w W => c26 _ _ _ _ _ _ _ (by exact RdCtx.mk' (by exact Sl.of_own W (k := 3) rfl (fun _ => rfl)) (by exact Sl.of_own W (k := 2) rfl (fun _ => rfl))) (by exact RdCtx.mk' (by exact Sl.of_own W (k := 1) rfl (fun _ => rfl)) (by exact Sl.of_own W (k := 0) rfl (fun _ => rfl))))) rfl ?_; clear S a w; intro a w S)
  (refine h_y (i := 7) S (by repeat (first | exact List.Sublist.refl _ | exact List.nil_sublist _ | refine .cons_cons _ ?_ | refine .cons _ ?_)) rfl (by kernel_rfl) (by kernel_rfl) (by kernel_rfl) (fun _ _ _ _ h => h) (ys_move (Ev.t rfl)) rfl ?_; clear S a w; intro a w S)
  (refine h_yg1 (i := 8) S (by repeat (first | exact List.Sublist.refl _ | exact List.nil_sublist _ | refine .cons_cons _ ?_ | refine .cons _ ?_)) rfl (by kernel_rfl) (by kernel_rfl) (by kernel_rfl) (fun _ _ _ _ h => h) rfl rfl (ys_bld (ps := [(1, _), (2, _)]) (us := [_, _, _]) bld43 (EvL.cons Ev.c (EvL.cons Ev.c EvL.nil)) rfl) rfl ?_; clear S a w; intro a w S)
  (refine h_yg1 (i := 11) S (by repeat (first | exact List.Sublist.refl _ | exact List.nil_sublist _ | refine .cons_cons _ ?_ | refine .cons _ ?_)) rfl (by kernel_rfl) (by kernel_rfl) (by kernel_rfl) (fun _ _ _ _ h => h) rfl rfl (ys_bld (ps := [(1, _), (2, _)]) (us := [_, _, _]) bld32 (EvL.cons Ev.c (EvL.cons Ev.c EvL.nil)) rfl) rfl ?_; clear S a w; intro a w S)
  rotate_left
  · exfalso
    simp [hcov] at h1
  · rw [decide_eq_true rfl] at S
    (refine h_mg (i := 9) S rfl (by kernel_rfl) rfl rfl (op_bslice1 S Try.underlying29 inf43 rfl rfl rfl (Ev.t rfl) rfl rfl rfl ?_); clear S a w; intro g4 a w S; refine h_on S _ (by repeat (first | exact List.Sublist.refl _ | exact List.nil_sublist _ | refine .cons_cons _ ?_ | refine .cons _ ?_)) (List.Sublist.refl _) ?_)
    (refine h_yt (i := 10) S (by repeat (first | exact List.Sublist.refl _ | exact List.nil_sublist _ | refine .cons_cons _ ?_ | refine .cons _ ?_)) rfl (by kernel_rfl) (by kernel_rfl) (by kernel_rfl) (fun _ _ _ _ h => h) rfl rfl (ys_bld (ps := [(0, Go.Operand.tmp 45)]) (us := [_, _]) bld36 (EvL.cons (Ev.t rfl) EvL.nil) rfl) rfl ?_; clear S a w; intro a w S)
    refine h_qg (i := 12) S (by repeat (first | exact List.Sublist.refl _ | exact List.nil_sublist _ | refine .cons_cons _ ?_ | refine .cons _ ?_)) rfl (by kernel_rfl) rfl rfl (ys_call Try.call20 (EvL.cons (Ev.t rfl) (EvL.cons (Ev.t rfl) EvL.nil)) (fun hp w W => c20 w _ _ ⟨[⟨0, 1, 2⟩], []⟩ 0 1 2 ⟨Sl.of_blk (enc := Dot.enc) (cap := 1) ([⟨0, 1, 2⟩] : List Dot) W (k := 0) rfl rfl (fun _ => rfl) (by decide) (by decide), Sl.nil_⟩)) rfl ?_
    clear S
    intro a w S
    (refine h_y (i := 13) S (by repeat (first | exact List.Sublist.refl _ | exact List.nil_sublist _ | refine .cons_cons _ ?_ | refine .cons _ ?_)) rfl (by kernel_rfl) (by kernel_rfl) (by kernel_rfl) (fun _ _ _ _ h => h) (ys_pickT (Ev.t rfl) (Ev.t rfl)) rfl ?_; clear S a w; intro a w S)
    (refine h_y (i := 14) S (by repeat (first | exact List.Sublist.refl _ | exact List.nil_sublist _ | refine .cons_cons _ ?_ | refine .cons _ ?_)) rfl (by kernel_rfl) (by kernel_rfl) (by kernel_rfl) (fun _ _ _ _ h => h) (ys_assign (Ev.t rfl)) rfl ?_; clear S a w; intro a w S)
    refine h_done (by kernel_rfl) ?_
    (refine (then_normal (hK1 _ _ ?_)); clear hK1)
    refine wp_ret ?_
    refine st_ret S (results1 S Try.results4 (Rv.tmp rfl)) ?_
    exact ⟨rfl, S.wd.below⟩
end Go.Proofs.Ytjfeeiljinbmjaa
