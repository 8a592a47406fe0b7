/- Layer 3, first part: small functions, marks, what is covered. -/
import Derived.Test.YtjfeeiljinbmjaaData
import Derived.Test.YtjfeeiljinbmjaaTy
set_option linter.unusedVariables false
set_option linter.unusedSimpArgs false
set_option maxRecDepth 100000
namespace Go.Proofs.Ytjfeeiljinbmjaa
open Go.Fw Go.Proofs Go.RowKit

theorem c61 (x y z : Int) (w0 : World) : Calls Try.prog 61 #[.agg #[.int .i64 x, .int .i64 y, .int .i64 z]] w0 fun e w' => e = .returned (.agg #[.int .i64 x, .int .i64 y]) ∧ Bel w0.heap.size w0 w' := by
  refine enter1 Try.func61 rfl Try.ntmps61 rfl fun a S => ?_
  refine wp_seq_k fun _ hK1 => ?_
  refine wp_region_lit ?_
  (refine st_m (op_box S (Ev.t rfl) rfl ?_); clear S a; intro g1 a w S)
  (refine st_m (op_alloc S Try.zeroValue34 (cs := _) rfl rfl ?_); clear S a w; intro g2 a w S)
  refine st_nil ?_
  (refine (then_normal (hK1 _ _ ?_)); clear hK1)
  refine wp_seq_k fun _ hK1 => ?_
  refine wp_region_lit ?_
  (refine st_y S (Yr.ys (ys_fieldN (FieldT.mk Try.underlying32 rfl Try.sizeOf3 rfl) (Ev.t rfl) (i' := 0) rfl)) rfl ?_; clear S a w; intro a w S)
  (refine st_y S (Yr.ys (ys_ld ⟨Try.isAgg3, Try.sizeOf3⟩ (Ev.t rfl) (k := 1) rfl rfl)) rfl ?_; clear S a w; intro a w S)
  (refine st_y S (Yr.ys (ys_fieldN (FieldT.mk Try.underlying32 rfl Try.sizeOf3 rfl) (Ev.t rfl) (i' := 1) rfl)) rfl ?_; clear S a w; intro a w S)
  (refine st_y S (Yr.ys (ys_ld ⟨Try.isAgg3, Try.sizeOf3⟩ (Ev.t rfl) (k := 1) rfl rfl)) rfl ?_; clear S a w; intro a w S)
  (refine st_y S (Yr.ys (ys_bld (ps := [(0, Go.Operand.tmp 4), (1, Go.Operand.tmp 6)]) (us := [_, _]) bld34 (EvL.cons (Ev.t rfl) (EvL.cons (Ev.t rfl) EvL.nil)) rfl)) rfl ?_; clear S a w; intro a w S)
  (refine st_m (op_stW S Try.sizeOf34 (Ev.t rfl) (Ev.t rfl) (k := 0) rfl rfl rfl (by simp [Value.oneCell']) ?_); clear S a w; intro a w S)
  refine st_nil ?_
  (refine (then_normal (hK1 _ _ ?_)); clear hK1)
  refine wp_ret ?_
  refine st_ret S (results1 S Try.results61 (Rv.cell (k := 0) ⟨Try.isAgg34, Try.sizeOf34⟩ rfl rfl rfl)) ?_
  exact ⟨rfl, S.wd.below⟩
theorem c66 (x y z : Int) (w0 : World) : Calls Try.prog 66 #[.agg #[.int .i64 x, .int .i64 y, .int .i64 z]] w0 fun e w' => e = .returned (.agg #[.int .i64 x, .int .i64 y, .int .i64 z]) ∧ Bel w0.heap.size w0 w' := by
  refine enter1 Try.func66 rfl Try.ntmps66 rfl fun a S => ?_
  refine wp_seq_k fun _ hK1 => ?_
  refine wp_region_lit ?_
  (refine st_m (op_box S (Ev.t rfl) rfl ?_); clear S a; intro g1 a w S)
  (refine st_m (op_alloc S Try.zeroValue32 (cs := _) rfl rfl ?_); clear S a w; intro g2 a w S)
  refine st_nil ?_
  (refine (then_normal (hK1 _ _ ?_)); clear hK1)
  refine wp_seq_k fun _ hK1 => ?_
  refine wp_region_lit ?_
  (refine st_y S (Yr.ys (ys_ldA ⟨Try.isAgg43, Try.sizeOf43⟩ (Ev.t rfl) (k := 1) rfl rfl)) rfl ?_; clear S a w; intro a w S)
  (refine st_m (op_stW S Try.sizeOf32 (Ev.t rfl) (Ev.t rfl) (k := 0) rfl rfl rfl (by simp [Value.oneCell']) ?_); clear S a w; intro a w S)
  refine st_nil ?_
  (refine (then_normal (hK1 _ _ ?_)); clear hK1)
  refine wp_ret ?_
  refine st_ret S (results1 S Try.results66 (Rv.cell (k := 0) ⟨Try.isAgg32, Try.sizeOf32⟩ rfl rfl rfl)) ?_
  exact ⟨rfl, S.wd.below⟩

theorem c60 (w0 : World) (v1 v2 : Value) (l : List Dot) (x y : Int) (h : Sl Dot.enc 3 w0 w0.heap.size v1 l) :
    Calls Try.prog 60 #[.agg #[v1, v2], .agg #[.int .i64 x, .int .i64 y]] w0 fun e w' => e = .returned (.int .i64 (markOf l x y)) ∧ Bel w0.heap.size w0 w' := by
  obtain ⟨A, cap, rfl, hl, hcap, hA⟩ := h
  refine enter2 Try.func60 rfl Try.ntmps60 rfl fun a S => ?_
  refine wp_seq_k fun _ hK1 => ?_
  refine wp_region_lit ?_
  (refine st_m (op_box S (Ev.t rfl) rfl ?_); clear S a; intro g1 a w S)
  (refine st_m (op_box S (Ev.t rfl) rfl ?_); clear S a w; intro g2 a w S)
  (refine st_y S (Yr.ys (ys_assign Ev.c)) rfl ?_; clear S a w; intro a w S)
  refine st_nil ?_
  (refine (then_normal (hK1 _ _ ?_)); clear hK1)
  refine wp_seq_k fun _ hK1 => ?_
  refine wp_seq_k fun _ hK2 => ?_
  refine wp_region_lit ?_
  (refine st_y S (Yr.ys (ys_fieldN (FieldT.mk Try.underlying36 rfl Try.sizeOf29 rfl) (Ev.t rfl) (i' := 0) rfl)) rfl ?_; clear S a w; intro a w S)
  (refine st_y S (Yr.ys (ys_ld ⟨Try.isAgg29, Try.sizeOf29⟩ (Ev.t rfl) (k := 1) rfl rfl)) rfl ?_; clear S a w; intro a w S)
  (refine st_y S (Yr.ys (ys_lenS Try.underlying29 (Ev.t rfl))) rfl ?_; clear S a w; intro a w S)
  (refine st_y S (Yr.ys (ys_move Ev.c)) rfl ?_; clear S a w; intro a w S)
  refine st_nil ?_
  (refine (then_normal (hK2 _ _ ?_)); clear hK2)
  refine wp_block ?_
  refine st_loopK S (X := Nat) (fun k => [(10, true, .int .i64 (k : Int))]) (fun _ L => L) (fun k => k ≤ l.length ∧ markOf (l.drop k) x y = markOf l x y) (fun k => l.length - k) 0 ⟨Nat.zero_le _, rfl⟩ (by repeat (first | exact Fits.nil | refine Fits.skip rfl ?_ | refine Fits.cons rfl ?_)) (by repeat (first | exact List.Sublist.refl _ | exact List.nil_sublist _ | refine .cons_cons _ ?_ | refine .cons _ ?_)) ?_
  clear S
  intro k a w ⟨hk, hno⟩ S
  by_cases hlt : k < l.length
  · obtain ⟨g, o, m, rfl, hm, hd, hc⟩ := row_at hA hlt
    clear hA
    refine wp_seq_k fun _ hK2 => ?_
    refine wp_region_lit ?_
    (refine st_y S (Yr.ys (ys_T (by omega) (ys_lss (Ev.t rfl) (Ev.t rfl)))) rfl ?_; clear S a w; intro a w S)
    refine st_nil ?_
    (refine (then_normal (hK2 _ _ ?_)); clear hK2)
    refine wp_seq_k fun _ hK2 => ?_
    refine st_then S (Ev.t rfl) ?_
    refine wp_skip ?_
    (refine (then_normal (hK2 _ _ ?_)); clear hK2)
    refine wp_seq_k fun _ hK2 => ?_
    refine wp_block ?_
    refine wp_seq_k fun _ hK3 => ?_
    refine wp_region_lit ?_
    (refine st_y S (Yr.ys (ys_ixS Try.underlying29 Try.sizeOf43 (Ev.t rfl) (Ev.t rfl) (fun _ => by omega))) rfl ?_; clear S a w; intro a w S)
    (refine st_y S (Yr.ys (ys_ldOA ⟨Try.isAgg43, Try.sizeOf43⟩ (Ev.t rfl) (vs := [_, _, _]) rfl (fun _ => hc))) rfl ?_; clear S a w; intro a w S)
    (refine st_m (op_alloc S Try.zeroValue43 (cs := _) rfl rfl ?_); clear S a w; intro g3 a w S)
    (refine st_m (op_stW S Try.sizeOf43 (Ev.t rfl) (Ev.t rfl) (k := 0) rfl rfl rfl (by simp [Value.oneCell']) ?_); clear S a w; intro a w S)
    refine st_nil ?_
    (refine (then_normal (hK3 _ _ ?_)); clear hK3)
    refine wp_seq_k fun _ hK3 => ?_
    (refine st_quiet S (by kernel_rfl) (by kernel_rfl) ?_; clear S w; intro a S)
    (refine q_y S (Yr.ys (ys_ldA ⟨Try.isAgg43, Try.sizeOf43⟩ (Ev.t rfl) (k := 0) rfl rfl)) rfl ?_; clear S a; intro a S)
    (refine q_y S (ys_call Try.call66 (EvL.cons (Ev.t rfl) EvL.nil) (fun hp w W => c66 _ _ _ _)) rfl ?_; clear S a; intro a S)
    (refine q_y S (ys_call Try.call61 (EvL.cons (Ev.t rfl) EvL.nil) (fun hp w W => c61 _ _ _ _)) rfl ?_; clear S a; intro a S)
    (refine q_y S (Yr.ys (ys_ldA ⟨Try.isAgg34, Try.sizeOf34⟩ (Ev.t rfl) (k := 1) rfl rfl)) rfl ?_; clear S a; intro a S)
    (refine q_y S (Yr.ys (ys_eqA (Ev.t rfl) (Ev.t rfl) eq34)) rfl ?_; clear S a; intro a S)
    (refine q_nil ?_; intro w W; replace S := St.mk S W; clear W)
    (refine (then_normal (hK3 _ _ ?_)); clear hK3)
    refine st_if S (Ev.t rfl) (fun h1 => ?_) (fun h1 => ?_)
    refine wp_seq_k fun _ hK3 => ?_
    refine wp_region_lit ?_
    (refine st_y S (Yr.ys (ys_fieldN (FieldT.mk Try.underlying43 rfl Try.sizeOf3 rfl) (Ev.t rfl) (i' := 2) rfl)) rfl ?_; clear S a w; intro a w S)
    (refine st_y S (Yr.ys (ys_ld ⟨Try.isAgg3, Try.sizeOf3⟩ (Ev.t rfl) (k := 0) rfl rfl)) rfl ?_; clear S a w; intro a w S)
    (refine st_y S (Yr.ys (ys_assign (Ev.t rfl))) rfl ?_; clear S a w; intro a w S)
    refine st_nil ?_
    (refine (then_normal (hK3 _ _ ?_)); clear hK3)
    refine wp_ret ?_
    refine (in_ret (then_ret (then_ret (in_ret (then_ret ?_)))))
    refine st_ret S (results1 S Try.results60 (Rv.tmp rfl)) ?_
    rotate_left
    refine wp_skip ?_
    (refine (in_normal (then_normal (hK2 _ _ ?_))); clear hK2)
    refine wp_region_lit ?_
    (refine st_y S (Yr.ys (ys_addI (Ev.t rfl) Ev.c (fun _ => by unfold I64; omega))) rfl ?_; clear S a w; intro a w S)
    (refine st_y S (Yr.ys (ys_move (Ev.t rfl))) rfl ?_; clear S a w; intro a w S)
    refine st_nil ?_
    refine (then_normal ?_)
    rotate_left
    · refine ⟨?_, S.wd.below⟩
      rw [← hno, hd, markOf, if_pos h1]
    · rw [hd, markOf, if_neg h1] at hno
      exact ⟨k + 1, ⟨by omega, hno⟩, by omega, S.weak (by repeat (first | exact Fits.nil | refine Fits.skip rfl ?_ | refine Fits.cons rfl ?_)) (by repeat (first | exact List.Sublist.refl _ | exact List.nil_sublist _ | refine .cons_cons _ ?_ | refine .cons _ ?_))⟩
  · refine wp_seq_k fun _ hK2 => ?_
    refine wp_region_lit ?_
    (refine st_y S (Yr.ys (ys_F (by omega) (ys_lss (Ev.t rfl) (Ev.t rfl)))) rfl ?_; clear S a w; intro a w S)
    refine st_nil ?_
    (refine (then_normal (hK2 _ _ ?_)); clear hK2)
    refine wp_seq_k fun _ hK2 => ?_
    refine st_else S (Ev.t rfl) ?_
    refine wp_exit ?_
    (refine (then_exit (then_exit (in_here (then_normal (hK1 _ _ ?_))))); clear hK1)
    refine wp_seq_k fun _ hK1 => ?_
    refine wp_region_lit ?_
    (refine st_y S (Yr.ys (ys_assign Ev.c)) rfl ?_; clear S a w; intro a w S)
    refine st_nil ?_
    (refine (then_normal (hK1 _ _ ?_)); clear hK1)
    refine wp_ret ?_
    refine st_ret S (results1 S Try.results60 (Rv.tmp rfl)) ?_
    refine ⟨?_, S.wd.below⟩
    rw [← hno, List.drop_eq_nil_of_le (by omega)]; rfl

theorem c63 (w0 : World) (v1 : Value) (l : List Dot) (x y : Int) (h : Sl Dot.enc 3 w0 w0.heap.size v1 l) :
    Calls Try.prog 63 #[v1, .int .i64 x, .int .i64 y] w0 fun e w' => e = .returned (.int .i64 (markOf l x y)) ∧ Bel w0.heap.size w0 w' := by
  obtain ⟨A, cap, rfl, hl, hcap, hA⟩ := h
  refine enter3 Try.func63 rfl Try.ntmps63 rfl fun a S => ?_
  refine wp_seq_k fun _ hK1 => ?_
  refine wp_region_lit ?_
  (refine st_y S (Yr.ys (ys_assign Ev.c)) rfl ?_; clear S a; intro a w S)
  refine st_nil ?_
  (refine (then_normal (hK1 _ _ ?_)); clear hK1)
  refine wp_seq_k fun _ hK1 => ?_
  refine wp_seq_k fun _ hK2 => ?_
  refine wp_region_lit ?_
  (refine st_y S (Yr.ys (ys_move (Ev.t rfl))) rfl ?_; clear S a w; intro a w S)
  (refine st_y S (Yr.ys (ys_lenS Try.underlying29 (Ev.t rfl))) rfl ?_; clear S a w; intro a w S)
  (refine st_y S (Yr.ys (ys_move Ev.c)) rfl ?_; clear S a w; intro a w S)
  refine st_nil ?_
  (refine (then_normal (hK2 _ _ ?_)); clear hK2)
  refine wp_block ?_
  refine st_loopK S (X := Nat) (fun k => [(11, true, .int .i64 (k : Int))]) (fun _ L => L) (fun k => k ≤ l.length ∧ markOf (l.drop k) x y = markOf l x y) (fun k => l.length - k) 0 ⟨Nat.zero_le _, rfl⟩ (by repeat (first | exact Fits.nil | refine Fits.skip rfl ?_ | refine Fits.cons rfl ?_)) (by repeat (first | exact List.Sublist.refl _ | exact List.nil_sublist _ | refine .cons_cons _ ?_ | refine .cons _ ?_)) ?_
  clear S
  intro k a w ⟨hk, hno⟩ S
  by_cases hlt : k < l.length
  · obtain ⟨g, o, m, rfl, hm, hd, hc⟩ := row_at hA hlt
    clear hA
    refine wp_seq_k fun _ hK2 => ?_
    refine wp_region_lit ?_
    (refine st_y S (Yr.ys (ys_T (by omega) (ys_lss (Ev.t rfl) (Ev.t rfl)))) rfl ?_; clear S a w; intro a w S)
    refine st_nil ?_
    (refine (then_normal (hK2 _ _ ?_)); clear hK2)
    refine wp_seq_k fun _ hK2 => ?_
    refine st_then S (Ev.t rfl) ?_
    refine wp_skip ?_
    (refine (then_normal (hK2 _ _ ?_)); clear hK2)
    refine wp_seq_k fun _ hK2 => ?_
    refine wp_block ?_
    refine wp_seq_k fun _ hK3 => ?_
    refine wp_region_lit ?_
    (refine st_y S (Yr.ys (ys_ixS Try.underlying29 Try.sizeOf43 (Ev.t rfl) (Ev.t rfl) (fun _ => by omega))) rfl ?_; clear S a w; intro a w S)
    (refine st_y S (Yr.ys (ys_ldOA ⟨Try.isAgg43, Try.sizeOf43⟩ (Ev.t rfl) (vs := [_, _, _]) rfl (fun _ => hc))) rfl ?_; clear S a w; intro a w S)
    (refine st_m (op_alloc S Try.zeroValue43 (cs := _) rfl rfl ?_); clear S a w; intro g1 a w S)
    (refine st_m (op_stW S Try.sizeOf43 (Ev.t rfl) (Ev.t rfl) (k := 0) rfl rfl rfl (by simp [Value.oneCell']) ?_); clear S a w; intro a w S)
    refine st_nil ?_
    (refine (then_normal (hK3 _ _ ?_)); clear hK3)
    refine wp_seq_k fun _ hK3 => ?_
    refine wp_region_lit ?_
    (refine st_y S (Yr.ys (ys_fieldN (FieldT.mk Try.underlying43 rfl Try.sizeOf3 rfl) (Ev.t rfl) (i' := 0) rfl)) rfl ?_; clear S a w; intro a w S)
    (refine st_y S (Yr.ys (ys_ld ⟨Try.isAgg3, Try.sizeOf3⟩ (Ev.t rfl) (k := 0) rfl rfl)) rfl ?_; clear S a w; intro a w S)
    (refine st_y S (Yr.ys (ys_move (Ev.t rfl))) rfl ?_; clear S a w; intro a w S)
    (refine st_y S (Yr.ys (ys_eql (Ev.t rfl) (Ev.t rfl))) rfl ?_; clear S a w; intro a w S)
    (refine st_y S (Yr.ys (ys_move (Ev.t rfl))) rfl ?_; clear S a w; intro a w S)
    (refine st_yg S rfl rfl (Yr.ys (ys_fieldN (FieldT.mk Try.underlying43 rfl Try.sizeOf3 rfl) (Ev.t rfl) (i' := 1) rfl)) rfl ?_; clear S a w; intro a w S)
    (refine st_yg S rfl rfl (Yr.ys (ys_ld ⟨Try.isAgg3, Try.sizeOf3⟩ (Ev.g rfl) (k := 0) rfl rfl)) rfl ?_; clear S a w; intro a w S)
    (refine st_yg S rfl rfl (Yr.ys (ys_move (Ev.t rfl))) rfl ?_; clear S a w; intro a w S)
    (refine st_yg S rfl rfl (Yr.ys (ys_eql (Ev.g rfl) (Ev.g rfl))) rfl ?_; clear S a w; intro a w S)
    (refine st_y S (Yr.ys (ys_and (Ev.t rfl) (Ev.g rfl) Ev.c)) rfl ?_; clear S a w; intro a w S)
    refine st_nil ?_
    (refine (then_normal (hK3 _ _ ?_)); clear hK3)
    refine st_cond S (Ev.t rfl) (fun h1 => ?_) (fun h1 => ?_)
    refine wp_seq_k fun _ hK3 => ?_
    refine wp_region_lit ?_
    (refine st_y S (Yr.ys (ys_fieldN (FieldT.mk Try.underlying43 rfl Try.sizeOf3 rfl) (Ev.t rfl) (i' := 2) rfl)) rfl ?_; clear S a w; intro a w S)
    (refine st_y S (Yr.ys (ys_ld ⟨Try.isAgg3, Try.sizeOf3⟩ (Ev.t rfl) (k := 0) rfl rfl)) rfl ?_; clear S a w; intro a w S)
    (refine st_y S (Yr.ys (ys_assign (Ev.t rfl))) rfl ?_; clear S a w; intro a w S)
    refine st_nil ?_
    (refine (then_normal (hK3 _ _ ?_)); clear hK3)
    refine wp_ret ?_
    refine (in_ret (then_ret (then_ret (in_ret (then_ret ?_)))))
    refine st_ret S (results1 S Try.results63 (Rv.tmp rfl)) ?_
    rotate_left
    refine wp_skip ?_
    (refine (in_normal (then_normal (hK2 _ _ ?_))); clear hK2)
    refine wp_region_lit ?_
    (refine st_y S (Yr.ys (ys_addI (Ev.t rfl) Ev.c (fun _ => by unfold I64; omega))) rfl ?_; clear S a w; intro a w S)
    (refine st_y S (Yr.ys (ys_move (Ev.t rfl))) rfl ?_; clear S a w; intro a w S)
    refine st_nil ?_
    refine (then_normal ?_)
    rotate_left
    · refine ⟨?_, S.wd.below⟩
      rw [← hno, hd, markOf, if_pos (by simpa using h1)]
    · rw [hd, markOf, if_neg (by simpa using h1)] at hno
      exact ⟨k + 1, ⟨by omega, hno⟩, by omega, S.weak (by repeat (first | exact Fits.nil | refine Fits.skip rfl ?_ | refine Fits.cons rfl ?_)) (by repeat (first | exact List.Sublist.refl _ | exact List.nil_sublist _ | refine .cons_cons _ ?_ | refine .cons _ ?_))⟩
  · refine wp_seq_k fun _ hK2 => ?_
    refine wp_region_lit ?_
    (refine st_y S (Yr.ys (ys_F (by omega) (ys_lss (Ev.t rfl) (Ev.t rfl)))) rfl ?_; clear S a w; intro a w S)
    refine st_nil ?_
    (refine (then_normal (hK2 _ _ ?_)); clear hK2)
    refine wp_seq_k fun _ hK2 => ?_
    refine st_else S (Ev.t rfl) ?_
    refine wp_exit ?_
    (refine (then_exit (then_exit (in_here (then_normal (hK1 _ _ ?_))))); clear hK1)
    refine wp_seq_k fun _ hK1 => ?_
    refine wp_region_lit ?_
    (refine st_y S (Yr.ys (ys_assign Ev.c)) rfl ?_; clear S a w; intro a w S)
    refine st_nil ?_
    (refine (then_normal (hK1 _ _ ?_)); clear hK1)
    refine wp_ret ?_
    refine st_ret S (results1 S Try.results63 (Rv.tmp rfl)) ?_
    refine ⟨?_, S.wd.below⟩
    rw [← hno, List.drop_eq_nil_of_le (by omega)]; rfl

theorem c100 (w0 : World) (v1 : Value) (l : List Dot) (x y z : Int) (h : Sl Dot.enc 3 w0 w0.heap.size v1 l) :
    Calls Try.prog 100 #[v1, .agg #[.int .i64 x, .int .i64 y, .int .i64 z]] w0 fun e w' => e = .returned (.int .i64 (idxFrom ⟨x, y, z⟩ 0 l)) ∧ Bel w0.heap.size w0 w' := by
  obtain ⟨A, cap, rfl, hl, hcap, hA⟩ := h
  refine enter2 Try.func100 rfl Try.ntmps100 rfl fun a S => ?_
  refine wp_seq_k fun _ hK1 => ?_
  refine wp_region_lit ?_
  (refine st_m (op_box S (Ev.t rfl) rfl ?_); clear S a; intro g1 a w S)
  (refine st_y S (Yr.ys (ys_assign Ev.c)) rfl ?_; clear S a w; intro a w S)
  refine st_nil ?_
  (refine (then_normal (hK1 _ _ ?_)); clear hK1)
  refine wp_seq_k fun _ hK1 => ?_
  refine wp_seq_k fun _ hK2 => ?_
  refine wp_region_lit ?_
  (refine st_y S (Yr.ys (ys_move (Ev.t rfl))) rfl ?_; clear S a w; intro a w S)
  (refine st_y S (Yr.ys (ys_lenS Try.underlying30 (Ev.t rfl))) rfl ?_; clear S a w; intro a w S)
  (refine st_y S (Yr.ys (ys_move Ev.c)) rfl ?_; clear S a w; intro a w S)
  refine st_nil ?_
  (refine (then_normal (hK2 _ _ ?_)); clear hK2)
  refine wp_block ?_
  refine st_loopK S (X := Nat) (fun k => [(8, true, .int .i64 (k : Int))]) (fun _ L => L) (fun k => k ≤ l.length ∧ idxFrom ⟨x, y, z⟩ k (l.drop k) = idxFrom ⟨x, y, z⟩ 0 l) (fun k => l.length - k) 0 ⟨Nat.zero_le _, rfl⟩ (by repeat (first | exact Fits.nil | refine Fits.skip rfl ?_ | refine Fits.cons rfl ?_)) (by repeat (first | exact List.Sublist.refl _ | exact List.nil_sublist _ | refine .cons_cons _ ?_ | refine .cons _ ?_)) ?_
  clear S
  intro k a w ⟨hk, hno⟩ S
  by_cases hlt : k < l.length
  · obtain ⟨g, o, m, rfl, hm, hd, hc⟩ := row_at hA hlt
    clear hA
    refine wp_seq_k fun _ hK2 => ?_
    refine wp_region_lit ?_
    (refine st_y S (Yr.ys (ys_T (by omega) (ys_lss (Ev.t rfl) (Ev.t rfl)))) rfl ?_; clear S a w; intro a w S)
    refine st_nil ?_
    (refine (then_normal (hK2 _ _ ?_)); clear hK2)
    refine wp_seq_k fun _ hK2 => ?_
    refine st_then S (Ev.t rfl) ?_
    refine wp_skip ?_
    (refine (then_normal (hK2 _ _ ?_)); clear hK2)
    refine wp_seq_k fun _ hK2 => ?_
    refine wp_block ?_
    refine wp_seq_k fun _ hK3 => ?_
    refine wp_region_lit ?_
    (refine st_y S (Yr.ys (ys_move (Ev.t rfl))) rfl ?_; clear S a w; intro a w S)
    (refine st_y S (Yr.ys (ys_assign (Ev.t rfl))) rfl ?_; clear S a w; intro a w S)
    refine st_nil ?_
    (refine (then_normal (hK3 _ _ ?_)); clear hK3)
    refine wp_seq_k fun _ hK3 => ?_
    (refine st_quiet S (by kernel_rfl) (by kernel_rfl) ?_; clear S w; intro a S)
    (refine q_y S (Yr.ys (ys_ldA ⟨Try.isAgg32, Try.sizeOf32⟩ (Ev.t rfl) (k := 0) rfl rfl)) rfl ?_; clear S a; intro a S)
    (refine q_y S (Yr.ys (ys_move (Ev.t rfl))) rfl ?_; clear S a; intro a S)
    (refine q_y S (Yr.ys (ys_move (Ev.t rfl))) rfl ?_; clear S a; intro a S)
    (refine q_y S (Yr.ys (ys_ixS Try.underlying30 Try.sizeOf32 (Ev.t rfl) (Ev.t rfl) (fun _ => by omega))) rfl ?_; clear S a; intro a S)
    (refine q_y S (Yr.ys (ys_ldOA ⟨Try.isAgg32, Try.sizeOf32⟩ (Ev.t rfl) (vs := [_, _, _]) rfl (fun _ => hc))) rfl ?_; clear S a; intro a S)
    (refine q_y S (Yr.ys (ys_eqA (Ev.t rfl) (Ev.t rfl) eq32)) rfl ?_; clear S a; intro a S)
    (refine q_nil ?_; intro w W; replace S := St.mk S W; clear W)
    (refine (then_normal (hK3 _ _ ?_)); clear hK3)
    refine st_if S (Ev.t rfl) (fun h1 => ?_) (fun h1 => ?_)
    refine wp_seq_k fun _ hK3 => ?_
    refine wp_region_lit ?_
    (refine st_y S (Yr.ys (ys_move (Ev.t rfl))) rfl ?_; clear S a w; intro a w S)
    (refine st_y S (Yr.ys (ys_assign (Ev.t rfl))) rfl ?_; clear S a w; intro a w S)
    refine st_nil ?_
    (refine (then_normal (hK3 _ _ ?_)); clear hK3)
    refine wp_ret ?_
    refine (in_ret (then_ret (then_ret (in_ret (then_ret ?_)))))
    refine st_ret S (results1 S Try.results100 (Rv.tmp rfl)) ?_
    rotate_left
    refine wp_skip ?_
    (refine (in_normal (then_normal (hK2 _ _ ?_))); clear hK2)
    refine wp_region_lit ?_
    (refine st_y S (Yr.ys (ys_addI (Ev.t rfl) Ev.c (fun _ => by unfold I64; omega))) rfl ?_; clear S a w; intro a w S)
    (refine st_y S (Yr.ys (ys_move (Ev.t rfl))) rfl ?_; clear S a w; intro a w S)
    refine st_nil ?_
    refine (then_normal ?_)
    rotate_left
    · refine ⟨?_, S.wd.below⟩
      obtain ⟨rfl, rfl, rfl⟩ := h1
      rw [← hno, hd, idxFrom, if_pos rfl]
    · rw [hd, idxFrom, if_neg (fun e => h1 (by cases e; exact ⟨rfl, rfl, rfl⟩))] at hno
      exact ⟨k + 1, ⟨by omega, hno⟩, by omega, S.weak (by repeat (first | exact Fits.nil | refine Fits.skip rfl ?_ | refine Fits.cons rfl ?_)) (by repeat (first | exact List.Sublist.refl _ | exact List.nil_sublist _ | refine .cons_cons _ ?_ | refine .cons _ ?_))⟩
  · refine wp_seq_k fun _ hK2 => ?_
    refine wp_region_lit ?_
    (refine st_y S (Yr.ys (ys_F (by omega) (ys_lss (Ev.t rfl) (Ev.t rfl)))) rfl ?_; clear S a w; intro a w S)
    refine st_nil ?_
    (refine (then_normal (hK2 _ _ ?_)); clear hK2)
    refine wp_seq_k fun _ hK2 => ?_
    refine st_else S (Ev.t rfl) ?_
    refine wp_exit ?_
    (refine (then_exit (then_exit (in_here (then_normal (hK1 _ _ ?_))))); clear hK1)
    refine wp_seq_k fun _ hK1 => ?_
    refine wp_region_lit ?_
    (refine st_y S (Yr.ys (ys_assign Ev.c)) rfl ?_; clear S a w; intro a w S)
    refine st_nil ?_
    (refine (then_normal (hK1 _ _ ?_)); clear hK1)
    refine wp_ret ?_
    refine st_ret S (results1 S Try.results100 (Rv.tmp rfl)) ?_
    refine ⟨?_, S.wd.below⟩
    rw [← hno, List.drop_eq_nil_of_le (by omega)]; rfl

theorem c62 (w0 : World) (v1 : Value) (l : List Dot) (x y z : Int) (h : Sl Dot.enc 3 w0 w0.heap.size v1 l) :
    Calls Try.prog 62 #[v1, .agg #[.int .i64 x, .int .i64 y, .int .i64 z]] w0 fun e w' => e = .returned (.bool (decide ((⟨x, y, z⟩ : Dot) ∈ l))) ∧ Bel w0.heap.size w0 w' := by
  refine enter2 Try.func62 rfl Try.ntmps62 rfl fun a S => ?_
  refine wp_seq_k fun _ hK1 => ?_
  refine wp_region_lit ?_
  (refine st_m (op_box S (Ev.t rfl) rfl ?_); clear S a; intro g1 a w S)
  (refine st_y S (Yr.ys (ys_assign Ev.c)) rfl ?_; clear S a w; intro a w S)
  refine st_nil ?_
  (refine (then_normal (hK1 _ _ ?_)); clear hK1)
  refine wp_seq_k fun _ hK1 => ?_
  refine wp_region_lit ?_
  (refine st_y S (Yr.ys (ys_move (Ev.t rfl))) rfl ?_; clear S a w; intro a w S)
  (refine st_y S (Yr.ys (ys_ldA ⟨Try.isAgg32, Try.sizeOf32⟩ (Ev.t rfl) (k := 0) rfl rfl)) rfl ?_; clear S a w; intro a w S)
  (refine st_y S (ys_call Try.call100 (EvL.cons (Ev.t rfl) (EvL.cons (Ev.t rfl) EvL.nil)) (fun hp w W => c100 _ _ _ _ _ _ (by exact .old W (by assumption)))) rfl ?_; clear S a w; intro a w S)
  (refine st_y S (Yr.ys (ys_geq (Ev.t rfl) Ev.c)) rfl ?_; clear S a w; intro a w S)
  (refine st_y S (Yr.ys (ys_assign (Ev.t rfl))) rfl ?_; clear S a w; intro a w S)
  refine st_nil ?_
  (refine (then_normal (hK1 _ _ ?_)); clear hK1)
  refine wp_ret ?_
  refine st_ret S (results1 S Try.results62 (Rv.tmp rfl)) ?_
  refine ⟨?_, S.wd.below⟩
  rw [idx_mem]

theorem c20 (w0 : World) (v1 v2 : Value) (C : Ctx) (x y z : Int) (h : RdCtx w0 w0.heap.size v1 v2 C) :
    Calls Try.prog 20 #[.agg #[v1, v2], .agg #[.int .i64 x, .int .i64 y, .int .i64 z]] w0 fun e w' => e = .returned (.bool (C.covers ⟨x, y, z⟩)) ∧ Bel w0.heap.size w0 w' := by
  obtain ⟨⟨A, cap, rfl, hA⟩, ⟨A', cap', rfl, hA'⟩⟩ := h
  have h1 : Sl Dot.enc 3 w0 w0.heap.size (.slice A C.marks.length cap) C.marks := ⟨A, cap, rfl, hA⟩
  have h2 : Sl Dot.enc 3 w0 w0.heap.size (.slice A' C.cloud.length cap') C.cloud := ⟨A', cap', rfl, hA'⟩
  clear hA hA'
  refine enter2 Try.func20 rfl Try.ntmps20 rfl fun a S => ?_
  refine wp_seq_k fun _ hK1 => ?_
  refine wp_region_lit ?_
  (refine st_m (op_box S (Ev.t rfl) rfl ?_); clear S a; intro g1 a w S)
  (refine st_m (op_box S (Ev.t rfl) rfl ?_); clear S a w; intro g2 a w S)
  (refine st_y S (Yr.ys (ys_assign Ev.c)) rfl ?_; clear S a w; intro a w S)
  refine st_nil ?_
  (refine (then_normal (hK1 _ _ ?_)); clear hK1)
  refine wp_seq_k fun _ hK1 => ?_
  (refine st_quiet S (by kernel_rfl) (by kernel_rfl) ?_; clear S w; intro a S)
  (refine q_y S (Yr.ys (ys_fieldN (FieldT.mk Try.underlying32 rfl Try.sizeOf3 rfl) (Ev.t rfl) (i' := 2) rfl)) rfl ?_; clear S a; intro a S)
  (refine q_y S (Yr.ys (ys_ld ⟨Try.isAgg3, Try.sizeOf3⟩ (Ev.t rfl) (k := 0) rfl rfl)) rfl ?_; clear S a; intro a S)
  (refine q_y S (Yr.ys (ys_geq (Ev.t rfl) Ev.c)) rfl ?_; clear S a; intro a S)
  (refine q_y S (Yr.ys (ys_move (Ev.t rfl))) rfl ?_; clear S a; intro a S)
  (refine q_yg S rfl rfl (Yr.ys (ys_fieldN (FieldT.mk Try.underlying32 rfl Try.sizeOf3 rfl) (Ev.t rfl) (i' := 2) rfl)) rfl ?_; clear S a; intro a S)
  (refine q_yg S rfl rfl (Yr.ys (ys_ld ⟨Try.isAgg3, Try.sizeOf3⟩ (Ev.g rfl) (k := 0) rfl rfl)) rfl ?_; clear S a; intro a S)
  (refine q_yg S rfl rfl (Yr.ys (ys_ldA ⟨Try.isAgg36, Try.sizeOf36⟩ (Ev.t rfl) (k := 1) rfl rfl)) rfl ?_; clear S a; intro a S)
  (refine q_yg S rfl rfl (Yr.ys (ys_ldA ⟨Try.isAgg32, Try.sizeOf32⟩ (Ev.t rfl) (k := 0) rfl rfl)) rfl ?_; clear S a; intro a S)
  (refine q_yg S rfl rfl (ys_call Try.call61 (EvL.cons (Ev.g rfl) EvL.nil) (fun hp w W => c61 _ _ _ _)) rfl ?_; clear S a; intro a S)
  (refine q_yg S rfl rfl (ys_call Try.call60 (EvL.cons (Ev.g rfl) (EvL.cons (Ev.g rfl) EvL.nil)) (fun hp w W => c60 _ _ _ _ _ _ (by exact .old W (by assumption)))) rfl ?_; clear S a; intro a S)
  (refine q_yg S rfl rfl (Yr.ys (ys_leq (Ev.g rfl) (Ev.g rfl))) rfl ?_; clear S a; intro a S)
  (refine q_yg S rfl rfl (Yr.ys (ys_move (Ev.g rfl))) rfl ?_; clear S a; intro a S)
  (refine q_yf2 S rfl rfl (Yr.ys (ys_fieldN (FieldT.mk Try.underlying36 rfl Try.sizeOf30 rfl) (Ev.t rfl) (i' := 1) rfl)) rfl ?_; clear S a; intro a S)
  (refine q_yf2 S rfl rfl (Yr.ys (ys_ld ⟨Try.isAgg30, Try.sizeOf30⟩ (Ev.g rfl) (k := 1) rfl rfl)) rfl ?_; clear S a; intro a S)
  (refine q_yf2 S rfl rfl (Yr.ys (ys_ldA ⟨Try.isAgg32, Try.sizeOf32⟩ (Ev.t rfl) (k := 0) rfl rfl)) rfl ?_; clear S a; intro a S)
  (refine q_yf2 S rfl rfl (ys_call Try.call62 (EvL.cons (Ev.g rfl) (EvL.cons (Ev.g rfl) EvL.nil)) (fun hp w W => c62 _ _ _ _ _ _ (by exact .old W (by assumption)))) rfl ?_; clear S a; intro a S)
  (refine q_yg S rfl rfl (Yr.ys (ys_or2 (Ev.g rfl) Ev.c (Ev.g rfl))) rfl ?_; clear S a; intro a S)
  (refine q_y S (Yr.ys (ys_and (Ev.t rfl) (Ev.g rfl) Ev.c)) rfl ?_; clear S a; intro a S)
  (refine q_y S (Yr.ys (ys_assign (Ev.t rfl))) rfl ?_; clear S a; intro a S)
  (refine q_nil ?_; intro w W; replace S := St.mk S W; clear W)
  (refine (then_normal (hK1 _ _ ?_)); clear hK1)
  refine wp_ret ?_
  refine st_ret S (results1 S Try.results20 (Rv.tmp rfl)) ?_
  exact ⟨rfl, S.wd.below⟩

theorem c21 (w0 : World) (v1 v2 : Value) (C : Ctx) (x y z : Int) (h : RdCtx w0 w0.heap.size v1 v2 C) :
    Calls Try.prog 21 #[.agg #[v1, v2], .agg #[.int .i64 x, .int .i64 y, .int .i64 z]] w0 fun e w' => e = .returned (.bool (C.coversR ⟨x, y, z⟩)) ∧ Bel w0.heap.size w0 w' := by
  obtain ⟨⟨A, cap, rfl, hA⟩, ⟨A', cap', rfl, hl, hcap, hA'⟩⟩ := h
  have h1 : Sl Dot.enc 3 w0 w0.heap.size (.slice A C.marks.length cap) C.marks := ⟨A, cap, rfl, hA⟩
  clear hA
  refine enter2 Try.func21 rfl Try.ntmps21 rfl fun a S => ?_
  refine wp_seq_k fun _ hK1 => ?_
  refine wp_region_lit ?_
  (refine st_m (op_box S (Ev.t rfl) rfl ?_); clear S a; intro g1 a w S)
  (refine st_m (op_box S (Ev.t rfl) rfl ?_); clear S a w; intro g2 a w S)
  (refine st_y S (Yr.ys (ys_assign Ev.c)) rfl ?_; clear S a w; intro a w S)
  refine st_nil ?_
  (refine (then_normal (hK1 _ _ ?_)); clear hK1)
  refine wp_seq_k fun _ hK1 => ?_
  refine wp_seq_k fun _ hK2 => ?_
  (refine st_quiet S (by kernel_rfl) (by kernel_rfl) ?_; clear S w; intro a S)
  (refine q_y S (Yr.ys (ys_fieldN (FieldT.mk Try.underlying32 rfl Try.sizeOf3 rfl) (Ev.t rfl) (i' := 2) rfl)) rfl ?_; clear S a; intro a S)
  (refine q_y S (Yr.ys (ys_ld ⟨Try.isAgg3, Try.sizeOf3⟩ (Ev.t rfl) (k := 0) rfl rfl)) rfl ?_; clear S a; intro a S)
  (refine q_y S (Yr.ys (ys_geq (Ev.t rfl) Ev.c)) rfl ?_; clear S a; intro a S)
  (refine q_y S (Yr.ys (ys_move (Ev.t rfl))) rfl ?_; clear S a; intro a S)
  (refine q_yg S rfl rfl (Yr.ys (ys_fieldN (FieldT.mk Try.underlying32 rfl Try.sizeOf3 rfl) (Ev.t rfl) (i' := 2) rfl)) rfl ?_; clear S a; intro a S)
  (refine q_yg S rfl rfl (Yr.ys (ys_ld ⟨Try.isAgg3, Try.sizeOf3⟩ (Ev.g rfl) (k := 0) rfl rfl)) rfl ?_; clear S a; intro a S)
  (refine q_yg S rfl rfl (Yr.ys (ys_fieldN (FieldT.mk Try.underlying36 rfl Try.sizeOf29 rfl) (Ev.t rfl) (i' := 0) rfl)) rfl ?_; clear S a; intro a S)
  (refine q_yg S rfl rfl (Yr.ys (ys_ld ⟨Try.isAgg29, Try.sizeOf29⟩ (Ev.g rfl) (k := 1) rfl rfl)) rfl ?_; clear S a; intro a S)
  (refine q_yg S rfl rfl (Yr.ys (ys_fieldN (FieldT.mk Try.underlying32 rfl Try.sizeOf3 rfl) (Ev.t rfl) (i' := 0) rfl)) rfl ?_; clear S a; intro a S)
  (refine q_yg S rfl rfl (Yr.ys (ys_ld ⟨Try.isAgg3, Try.sizeOf3⟩ (Ev.g rfl) (k := 0) rfl rfl)) rfl ?_; clear S a; intro a S)
  (refine q_yg S rfl rfl (Yr.ys (ys_fieldN (FieldT.mk Try.underlying32 rfl Try.sizeOf3 rfl) (Ev.t rfl) (i' := 1) rfl)) rfl ?_; clear S a; intro a S)
  (refine q_yg S rfl rfl (Yr.ys (ys_ld ⟨Try.isAgg3, Try.sizeOf3⟩ (Ev.g rfl) (k := 0) rfl rfl)) rfl ?_; clear S a; intro a S)
  (refine q_yg S rfl rfl (ys_call Try.call63 (EvL.cons (Ev.g rfl) (EvL.cons (Ev.g rfl) (EvL.cons (Ev.g rfl) EvL.nil))) (fun hp w W => c63 _ _ _ _ _ (by exact .old W (by assumption)))) rfl ?_; clear S a; intro a S)
  (refine q_yg S rfl rfl (Yr.ys (ys_leq (Ev.g rfl) (Ev.g rfl))) rfl ?_; clear S a; intro a S)
  (refine q_y S (Yr.ys (ys_and (Ev.t rfl) (Ev.g rfl) Ev.c)) rfl ?_; clear S a; intro a S)
  (refine q_nil ?_; intro w W; replace S := St.mk S W; clear W)
  (refine (then_normal (hK2 _ _ ?_)); clear hK2)
  refine st_cond S (Ev.t rfl) (fun h2 => ?_) (fun h2 => ?_)
  refine wp_seq_k fun _ hK2 => ?_
  refine wp_region_lit ?_
  (refine st_y S (Yr.ys (ys_assign Ev.c)) rfl ?_; clear S a w; intro a w S)
  refine st_nil ?_
  (refine (then_normal (hK2 _ _ ?_)); clear hK2)
  refine wp_ret ?_
  refine (then_ret ?_)
  refine st_ret S (results1 S Try.results21 (Rv.tmp rfl)) ?_
  rotate_left
  refine wp_skip ?_
  (refine (then_normal (hK1 _ _ ?_)); clear hK1)
  refine wp_seq_k fun _ hK1 => ?_
  refine wp_seq_k fun _ hK2 => ?_
  refine wp_region_lit ?_
  (refine st_y S (Yr.ys (ys_fieldN (FieldT.mk Try.underlying36 rfl Try.sizeOf30 rfl) (Ev.t rfl) (i' := 1) rfl)) rfl ?_; clear S a w; intro a w S)
  (refine st_y S (Yr.ys (ys_ld ⟨Try.isAgg30, Try.sizeOf30⟩ (Ev.t rfl) (k := 1) rfl rfl)) rfl ?_; clear S a w; intro a w S)
  (refine st_y S (Yr.ys (ys_lenS Try.underlying30 (Ev.t rfl))) rfl ?_; clear S a w; intro a w S)
  (refine st_y S (Yr.ys (ys_move Ev.c)) rfl ?_; clear S a w; intro a w S)
  refine st_nil ?_
  (refine (then_normal (hK2 _ _ ?_)); clear hK2)
  refine wp_block ?_
  rotate_left
  · refine ⟨?_, S.wd.below⟩
    rw [Ctx.coversR, h2, Bool.true_or]
  · refine st_loopK S (X := Nat) (fun k => [(25, true, .int .i64 (k : Int))]) (fun _ L => L) (fun k => k ≤ C.cloud.length ∧ (decide ((⟨x, y, z⟩ : Dot) ∈ C.cloud.drop k) = decide ((⟨x, y, z⟩ : Dot) ∈ C.cloud))) (fun k => C.cloud.length - k) 0 ⟨Nat.zero_le _, rfl⟩ (by repeat (first | exact Fits.nil | refine Fits.skip rfl ?_ | refine Fits.cons rfl ?_)) (by repeat (first | exact List.Sublist.refl _ | exact List.nil_sublist _ | refine .cons_cons _ ?_ | refine .cons _ ?_)) ?_
    clear S
    intro k a w ⟨hk, hno⟩ S
    by_cases hlt : k < C.cloud.length
    · obtain ⟨g, o, m, rfl, hm, hd, hc⟩ := row_at hA' hlt
      clear hA'
      refine wp_seq_k fun _ hK2 => ?_
      refine wp_region_lit ?_
      (refine st_y S (Yr.ys (ys_T (by omega) (ys_lss (Ev.t rfl) (Ev.t rfl)))) rfl ?_; clear S a w; intro a w S)
      refine st_nil ?_
      (refine (then_normal (hK2 _ _ ?_)); clear hK2)
      refine wp_seq_k fun _ hK2 => ?_
      refine st_then S (Ev.t rfl) ?_
      refine wp_skip ?_
      (refine (then_normal (hK2 _ _ ?_)); clear hK2)
      refine wp_seq_k fun _ hK2 => ?_
      refine wp_block ?_
      refine wp_seq_k fun _ hK3 => ?_
      refine wp_region_lit ?_
      (refine st_y S (Yr.ys (ys_ixS Try.underlying30 Try.sizeOf32 (Ev.t rfl) (Ev.t rfl) (fun _ => by omega))) rfl ?_; clear S a w; intro a w S)
      (refine st_y S (Yr.ys (ys_ldOA ⟨Try.isAgg32, Try.sizeOf32⟩ (Ev.t rfl) (vs := [_, _, _]) rfl (fun _ => hc))) rfl ?_; clear S a w; intro a w S)
      (refine st_m (op_alloc S Try.zeroValue32 (cs := _) rfl rfl ?_); clear S a w; intro g3 a w S)
      (refine st_m (op_stW S Try.sizeOf32 (Ev.t rfl) (Ev.t rfl) (k := 0) rfl rfl rfl (by simp [Value.oneCell']) ?_); clear S a w; intro a w S)
      refine st_nil ?_
      (refine (then_normal (hK3 _ _ ?_)); clear hK3)
      refine wp_seq_k fun _ hK3 => ?_
      refine wp_region_lit ?_
      (refine st_y S (Yr.ys (ys_ldA ⟨Try.isAgg32, Try.sizeOf32⟩ (Ev.t rfl) (k := 0) rfl rfl)) rfl ?_; clear S a w; intro a w S)
      (refine st_y S (Yr.ys (ys_ldA ⟨Try.isAgg32, Try.sizeOf32⟩ (Ev.t rfl) (k := 1) rfl rfl)) rfl ?_; clear S a w; intro a w S)
      (refine st_y S (Yr.ys (ys_eqA (Ev.t rfl) (Ev.t rfl) eq32)) rfl ?_; clear S a w; intro a w S)
      refine st_nil ?_
      (refine (then_normal (hK3 _ _ ?_)); clear hK3)
      refine st_if S (Ev.t rfl) (fun h3 => ?_) (fun h3 => ?_)
      refine wp_seq_k fun _ hK3 => ?_
      refine wp_region_lit ?_
      (refine st_y S (Yr.ys (ys_assign Ev.c)) rfl ?_; clear S a w; intro a w S)
      refine st_nil ?_
      (refine (then_normal (hK3 _ _ ?_)); clear hK3)
      refine wp_ret ?_
      refine (in_ret (then_ret (then_ret (in_ret (then_ret ?_)))))
      refine st_ret S (results1 S Try.results21 (Rv.tmp rfl)) ?_
      rotate_left
      refine wp_skip ?_
      (refine (in_normal (then_normal (hK2 _ _ ?_))); clear hK2)
      refine wp_region_lit ?_
      (refine st_y S (Yr.ys (ys_addI (Ev.t rfl) Ev.c (fun _ => by unfold I64; omega))) rfl ?_; clear S a w; intro a w S)
      (refine st_y S (Yr.ys (ys_move (Ev.t rfl))) rfl ?_; clear S a w; intro a w S)
      refine st_nil ?_
      refine (then_normal ?_)
      rotate_left
      · refine ⟨?_, S.wd.below⟩
        obtain ⟨rfl, rfl, rfl⟩ := h3
        rw [Ctx.coversR, ← hno, hd]; simp
      · refine ⟨k + 1, ⟨by omega, ?_⟩, by omega, S.weak (by repeat (first | exact Fits.nil | refine Fits.skip rfl ?_ | refine Fits.cons rfl ?_)) (by repeat (first | exact List.Sublist.refl _ | exact List.nil_sublist _ | refine .cons_cons _ ?_ | refine .cons _ ?_))⟩
        rw [← hno, hd, decide_eq_decide]
        simp only [List.mem_cons]
        exact ⟨.inr, fun h => h.resolve_left (fun e => h3 (by cases e; exact ⟨rfl, rfl, rfl⟩))⟩
    · refine wp_seq_k fun _ hK2 => ?_
      refine wp_region_lit ?_
      (refine st_y S (Yr.ys (ys_F (by omega) (ys_lss (Ev.t rfl) (Ev.t rfl)))) rfl ?_; clear S a w; intro a w S)
      refine st_nil ?_
      (refine (then_normal (hK2 _ _ ?_)); clear hK2)
      refine wp_seq_k fun _ hK2 => ?_
      refine st_else S (Ev.t rfl) ?_
      refine wp_exit ?_
      (refine (then_exit (then_exit (in_here (then_normal (hK1 _ _ ?_))))); clear hK1)
      refine wp_seq_k fun _ hK1 => ?_
      refine wp_region_lit ?_
      (refine st_y S (Yr.ys (ys_assign Ev.c)) rfl ?_; clear S a w; intro a w S)
      refine st_nil ?_
      (refine (then_normal (hK1 _ _ ?_)); clear hK1)
      refine wp_ret ?_
      refine st_ret S (results1 S Try.results21 (Rv.tmp rfl)) ?_
      refine ⟨?_, S.wd.below⟩
      rw [Ctx.coversR, h2, ← hno, List.drop_eq_nil_of_le (by omega)]; simp

theorem c22 (w0 : World) (v1 v2 : Value) (C : Ctx) (x y : Int) (h : RdCtx w0 w0.heap.size v1 v2 C) :
    Calls Try.prog 22 #[.agg #[v1, v2], .agg #[.int .i64 x, .int .i64 y]] w0 fun e w' => e = .returned (.int .i64 (C.top x y)) ∧ Bel w0.heap.size w0 w' := by
  obtain ⟨⟨A, cap, rfl, hA⟩, ⟨A', cap', rfl, hl, hcap, hA'⟩⟩ := h
  have h1 : Sl Dot.enc 3 w0 w0.heap.size (.slice A C.marks.length cap) C.marks := ⟨A, cap, rfl, hA⟩
  clear hA
  refine enter2 Try.func22 rfl Try.ntmps22 rfl fun a S => ?_
  refine wp_seq_k fun _ hK1 => ?_
  refine wp_region_lit ?_
  (refine st_m (op_box S (Ev.t rfl) rfl ?_); clear S a; intro g1 a w S)
  (refine st_m (op_box S (Ev.t rfl) rfl ?_); clear S a w; intro g2 a w S)
  (refine st_y S (Yr.ys (ys_assign Ev.c)) rfl ?_; clear S a w; intro a w S)
  refine st_nil ?_
  (refine (then_normal (hK1 _ _ ?_)); clear hK1)
  refine wp_seq_k fun _ hK1 => ?_
  refine wp_region_lit ?_
  (refine st_y S (Yr.ys (ys_ldA ⟨Try.isAgg36, Try.sizeOf36⟩ (Ev.t rfl) (k := 1) rfl rfl)) rfl ?_; clear S a w; intro a w S)
  (refine st_y S (Yr.ys (ys_ldA ⟨Try.isAgg34, Try.sizeOf34⟩ (Ev.t rfl) (k := 0) rfl rfl)) rfl ?_; clear S a w; intro a w S)
  (refine st_y S (ys_call Try.call60 (EvL.cons (Ev.t rfl) (EvL.cons (Ev.t rfl) EvL.nil)) (fun hp w W => c60 _ _ _ _ _ _ (by exact .old W (by assumption)))) rfl ?_; clear S a w; intro a w S)
  (refine st_y S (Yr.ys (ys_assign (Ev.t rfl))) rfl ?_; clear S a w; intro a w S)
  refine st_nil ?_
  (refine (then_normal (hK1 _ _ ?_)); clear hK1)
  refine wp_seq_k fun _ hK1 => ?_
  refine wp_seq_k fun _ hK2 => ?_
  refine wp_region_lit ?_
  (refine st_y S (Yr.ys (ys_fieldN (FieldT.mk Try.underlying36 rfl Try.sizeOf30 rfl) (Ev.t rfl) (i' := 1) rfl)) rfl ?_; clear S a w; intro a w S)
  (refine st_y S (Yr.ys (ys_ld ⟨Try.isAgg30, Try.sizeOf30⟩ (Ev.t rfl) (k := 1) rfl rfl)) rfl ?_; clear S a w; intro a w S)
  (refine st_y S (Yr.ys (ys_lenS Try.underlying30 (Ev.t rfl))) rfl ?_; clear S a w; intro a w S)
  (refine st_y S (Yr.ys (ys_move Ev.c)) rfl ?_; clear S a w; intro a w S)
  refine st_nil ?_
  (refine (then_normal (hK2 _ _ ?_)); clear hK2)
  refine wp_block ?_
  refine st_loopK S (X := Nat × Int) (fun x => [(14, true, .int .i64 (x.1 : Int)), (5, true, .int .i64 x.2)]) (fun _ L => L) (fun q => q.1 ≤ C.cloud.length ∧ topFrom q.2 x y (C.cloud.drop q.1) = C.top x y) (fun q => C.cloud.length - q.1) (0, markOf C.marks x y) ⟨Nat.zero_le _, rfl⟩ (by repeat (first | exact Fits.nil | refine Fits.skip rfl ?_ | refine Fits.cons rfl ?_)) (by repeat (first | exact List.Sublist.refl _ | exact List.nil_sublist _ | refine .cons_cons _ ?_ | refine .cons _ ?_)) ?_
  clear S
  intro ⟨k, t⟩ a w ⟨hk, hno⟩ S
  dsimp only at hk hno S
  by_cases hlt : k < C.cloud.length
  · obtain ⟨g, o, m, rfl, hm, hd, hc⟩ := row_at hA' hlt
    clear hA'
    refine wp_seq_k fun _ hK2 => ?_
    refine wp_region_lit ?_
    (refine st_y S (Yr.ys (ys_T (by omega) (ys_lss (Ev.t rfl) (Ev.t rfl)))) rfl ?_; clear S a w; intro a w S)
    refine st_nil ?_
    (refine (then_normal (hK2 _ _ ?_)); clear hK2)
    refine wp_seq_k fun _ hK2 => ?_
    refine st_then S (Ev.t rfl) ?_
    refine wp_skip ?_
    (refine (then_normal (hK2 _ _ ?_)); clear hK2)
    refine wp_seq_k fun _ hK2 => ?_
    refine wp_block ?_
    refine wp_seq_k fun _ hK3 => ?_
    refine wp_region_lit ?_
    (refine st_y S (Yr.ys (ys_ixS Try.underlying30 Try.sizeOf32 (Ev.t rfl) (Ev.t rfl) (fun _ => by omega))) rfl ?_; clear S a w; intro a w S)
    (refine st_y S (Yr.ys (ys_ldOA ⟨Try.isAgg32, Try.sizeOf32⟩ (Ev.t rfl) (vs := [_, _, _]) rfl (fun _ => hc))) rfl ?_; clear S a w; intro a w S)
    (refine st_m (op_alloc S Try.zeroValue32 (cs := _) rfl rfl ?_); clear S a w; intro g3 a w S)
    (refine st_m (op_stW S Try.sizeOf32 (Ev.t rfl) (Ev.t rfl) (k := 0) rfl rfl rfl (by simp [Value.oneCell']) ?_); clear S a w; intro a w S)
    refine st_nil ?_
    (refine (then_normal (hK3 _ _ ?_)); clear hK3)
    refine wp_seq_k fun _ hK3 => ?_
    (refine st_quiet S (by kernel_rfl) (by kernel_rfl) ?_; clear S w; intro a S)
    (refine q_y S (Yr.ys (ys_ldA ⟨Try.isAgg32, Try.sizeOf32⟩ (Ev.t rfl) (k := 0) rfl rfl)) rfl ?_; clear S a; intro a S)
    (refine q_y S (ys_call Try.call61 (EvL.cons (Ev.t rfl) EvL.nil) (fun hp w W => c61 _ _ _ _)) rfl ?_; clear S a; intro a S)
    (refine q_y S (Yr.ys (ys_ldA ⟨Try.isAgg34, Try.sizeOf34⟩ (Ev.t rfl) (k := 1) rfl rfl)) rfl ?_; clear S a; intro a S)
    (refine q_y S (Yr.ys (ys_eqA (Ev.t rfl) (Ev.t rfl) eq34)) rfl ?_; clear S a; intro a S)
    (refine q_nil ?_; intro w W; replace S := St.mk S W; clear W)
    (refine (then_normal (hK3 _ _ ?_)); clear hK3)
    refine st_if S (Ev.t rfl) (fun h2 => ?_) (fun h2 => ?_)
    refine wp_region_lit ?_
    (refine st_y S (Yr.ys (ys_move (Ev.t rfl))) rfl ?_; clear S a w; intro a w S)
    (refine st_y S (Yr.ys (ys_fieldN (FieldT.mk Try.underlying32 rfl Try.sizeOf3 rfl) (Ev.t rfl) (i' := 2) rfl)) rfl ?_; clear S a w; intro a w S)
    (refine st_y S (Yr.ys (ys_ld ⟨Try.isAgg3, Try.sizeOf3⟩ (Ev.t rfl) (k := 0) rfl rfl)) rfl ?_; clear S a w; intro a w S)
    (refine st_y S (Yr.ys (ys_max (Ev.t rfl) (Ev.t rfl))) rfl ?_; clear S a w; intro a w S)
    (refine st_y S (Yr.ys (ys_assign (Ev.t rfl))) rfl ?_; clear S a w; intro a w S)
    refine st_nil ?_
    (refine (in_normal (then_normal (hK2 _ _ ?_))); clear hK2)
    refine wp_region_lit ?_
    (refine st_y S (Yr.ys (ys_addI (Ev.t rfl) Ev.c (fun _ => by unfold I64; omega))) rfl ?_; clear S a w; intro a w S)
    (refine st_y S (Yr.ys (ys_move (Ev.t rfl))) rfl ?_; clear S a w; intro a w S)
    refine st_nil ?_
    refine (then_normal ?_)
    rotate_left
    refine wp_skip ?_
    (refine (in_normal (then_normal (hK2 _ _ ?_))); clear hK2)
    refine wp_region_lit ?_
    (refine st_y S (Yr.ys (ys_addI (Ev.t rfl) Ev.c (fun _ => by unfold I64; omega))) rfl ?_; clear S a w; intro a w S)
    (refine st_y S (Yr.ys (ys_move (Ev.t rfl))) rfl ?_; clear S a w; intro a w S)
    refine st_nil ?_
    refine (then_normal ?_)
    rotate_left
    · rw [hd, topFrom, if_pos h2] at hno
      exact ⟨(k + 1, max t m.count), ⟨by dsimp only; omega, hno⟩, by dsimp only; omega, S.weak (by repeat (first | exact Fits.nil | refine Fits.skip rfl ?_ | refine Fits.cons rfl ?_)) (by repeat (first | exact List.Sublist.refl _ | exact List.nil_sublist _ | refine .cons_cons _ ?_ | refine .cons _ ?_))⟩
    · rw [hd, topFrom, if_neg h2] at hno
      exact ⟨(k + 1, t), ⟨by dsimp only; omega, hno⟩, by dsimp only; omega, S.weak (by repeat (first | exact Fits.nil | refine Fits.skip rfl ?_ | refine Fits.cons rfl ?_)) (by repeat (first | exact List.Sublist.refl _ | exact List.nil_sublist _ | refine .cons_cons _ ?_ | refine .cons _ ?_))⟩
  · refine wp_seq_k fun _ hK2 => ?_
    refine wp_region_lit ?_
    (refine st_y S (Yr.ys (ys_F (by omega) (ys_lss (Ev.t rfl) (Ev.t rfl)))) rfl ?_; clear S a w; intro a w S)
    refine st_nil ?_
    (refine (then_normal (hK2 _ _ ?_)); clear hK2)
    refine wp_seq_k fun _ hK2 => ?_
    refine st_else S (Ev.t rfl) ?_
    refine wp_exit ?_
    (refine (then_exit (then_exit (in_here (then_normal (hK1 _ _ ?_))))); clear hK1)
    refine wp_seq_k fun _ hK1 => ?_
    refine wp_region_lit ?_
    (refine st_y S (Yr.ys (ys_move (Ev.t rfl))) rfl ?_; clear S a w; intro a w S)
    (refine st_y S (Yr.ys (ys_assign (Ev.t rfl))) rfl ?_; clear S a w; intro a w S)
    refine st_nil ?_
    (refine (then_normal (hK1 _ _ ?_)); clear hK1)
    refine wp_ret ?_
    refine st_ret S (results1 S Try.results22 (Rv.tmp rfl)) ?_
    refine ⟨?_, S.wd.below⟩
    rw [← hno, List.drop_eq_nil_of_le (by omega)]; rfl

theorem c23 (w0 : World) (v1 v2 : Value) (C : Ctx) (x y : Int) (h : RdCtx w0 w0.heap.size v1 v2 C) :
    Calls Try.prog 23 #[.agg #[v1, v2], .agg #[.int .i64 x, .int .i64 y]] w0 fun e w' => e = .returned (.int .i64 (C.top x y)) ∧ Bel w0.heap.size w0 w' := by
  obtain ⟨⟨A, cap, rfl, hA⟩, ⟨A', cap', rfl, hl, hcap, hA'⟩⟩ := h
  have h1 : Sl Dot.enc 3 w0 w0.heap.size (.slice A C.marks.length cap) C.marks := ⟨A, cap, rfl, hA⟩
  clear hA
  refine enter2 Try.func23 rfl Try.ntmps23 rfl fun a S => ?_
  refine wp_seq_k fun _ hK1 => ?_
  refine wp_region_lit ?_
  (refine st_m (op_box S (Ev.t rfl) rfl ?_); clear S a; intro g1 a w S)
  (refine st_m (op_box S (Ev.t rfl) rfl ?_); clear S a w; intro g2 a w S)
  (refine st_y S (Yr.ys (ys_assign Ev.c)) rfl ?_; clear S a w; intro a w S)
  refine st_nil ?_
  (refine (then_normal (hK1 _ _ ?_)); clear hK1)
  refine wp_seq_k fun _ hK1 => ?_
  refine wp_region_lit ?_
  (refine st_y S (Yr.ys (ys_fieldN (FieldT.mk Try.underlying36 rfl Try.sizeOf29 rfl) (Ev.t rfl) (i' := 0) rfl)) rfl ?_; clear S a w; intro a w S)
  (refine st_y S (Yr.ys (ys_ld ⟨Try.isAgg29, Try.sizeOf29⟩ (Ev.t rfl) (k := 1) rfl rfl)) rfl ?_; clear S a w; intro a w S)
  (refine st_y S (Yr.ys (ys_fieldN (FieldT.mk Try.underlying34 rfl Try.sizeOf3 rfl) (Ev.t rfl) (i' := 0) rfl)) rfl ?_; clear S a w; intro a w S)
  (refine st_y S (Yr.ys (ys_ld ⟨Try.isAgg3, Try.sizeOf3⟩ (Ev.t rfl) (k := 0) rfl rfl)) rfl ?_; clear S a w; intro a w S)
  (refine st_y S (Yr.ys (ys_fieldN (FieldT.mk Try.underlying34 rfl Try.sizeOf3 rfl) (Ev.t rfl) (i' := 1) rfl)) rfl ?_; clear S a w; intro a w S)
  (refine st_y S (Yr.ys (ys_ld ⟨Try.isAgg3, Try.sizeOf3⟩ (Ev.t rfl) (k := 0) rfl rfl)) rfl ?_; clear S a w; intro a w S)
  (refine st_y S (ys_call Try.call63 (EvL.cons (Ev.t rfl) (EvL.cons (Ev.t rfl) (EvL.cons (Ev.t rfl) EvL.nil))) (fun hp w W => c63 _ _ _ _ _ (by exact .old W (by assumption)))) rfl ?_; clear S a w; intro a w S)
  (refine st_y S (Yr.ys (ys_assign (Ev.t rfl))) rfl ?_; clear S a w; intro a w S)
  refine st_nil ?_
  (refine (then_normal (hK1 _ _ ?_)); clear hK1)
  refine wp_seq_k fun _ hK1 => ?_
  refine wp_seq_k fun _ hK2 => ?_
  refine wp_region_lit ?_
  (refine st_y S (Yr.ys (ys_fieldN (FieldT.mk Try.underlying36 rfl Try.sizeOf30 rfl) (Ev.t rfl) (i' := 1) rfl)) rfl ?_; clear S a w; intro a w S)
  (refine st_y S (Yr.ys (ys_ld ⟨Try.isAgg30, Try.sizeOf30⟩ (Ev.t rfl) (k := 1) rfl rfl)) rfl ?_; clear S a w; intro a w S)
  (refine st_y S (Yr.ys (ys_lenS Try.underlying30 (Ev.t rfl))) rfl ?_; clear S a w; intro a w S)
  (refine st_y S (Yr.ys (ys_move Ev.c)) rfl ?_; clear S a w; intro a w S)
  refine st_nil ?_
  (refine (then_normal (hK2 _ _ ?_)); clear hK2)
  refine wp_block ?_
  refine st_loopK S (X := Nat × Int) (fun x => [(18, true, .int .i64 (x.1 : Int)), (5, true, .int .i64 x.2)]) (fun _ L => L) (fun q => q.1 ≤ C.cloud.length ∧ topFrom q.2 x y (C.cloud.drop q.1) = C.top x y) (fun q => C.cloud.length - q.1) (0, markOf C.marks x y) ⟨Nat.zero_le _, rfl⟩ (by repeat (first | exact Fits.nil | refine Fits.skip rfl ?_ | refine Fits.cons rfl ?_)) (by repeat (first | exact List.Sublist.refl _ | exact List.nil_sublist _ | refine .cons_cons _ ?_ | refine .cons _ ?_)) ?_
  clear S
  intro ⟨k, t⟩ a w ⟨hk, hno⟩ S
  dsimp only at hk hno S
  by_cases hlt : k < C.cloud.length
  · obtain ⟨g, o, m, rfl, hm, hd, hc⟩ := row_at hA' hlt
    clear hA'
    refine wp_seq_k fun _ hK2 => ?_
    refine wp_region_lit ?_
    (refine st_y S (Yr.ys (ys_T (by omega) (ys_lss (Ev.t rfl) (Ev.t rfl)))) rfl ?_; clear S a w; intro a w S)
    refine st_nil ?_
    (refine (then_normal (hK2 _ _ ?_)); clear hK2)
    refine wp_seq_k fun _ hK2 => ?_
    refine st_then S (Ev.t rfl) ?_
    refine wp_skip ?_
    (refine (then_normal (hK2 _ _ ?_)); clear hK2)
    refine wp_seq_k fun _ hK2 => ?_
    refine wp_block ?_
    refine wp_seq_k fun _ hK3 => ?_
    refine wp_region_lit ?_
    (refine st_y S (Yr.ys (ys_ixS Try.underlying30 Try.sizeOf32 (Ev.t rfl) (Ev.t rfl) (fun _ => by omega))) rfl ?_; clear S a w; intro a w S)
    (refine st_y S (Yr.ys (ys_ldOA ⟨Try.isAgg32, Try.sizeOf32⟩ (Ev.t rfl) (vs := [_, _, _]) rfl (fun _ => hc))) rfl ?_; clear S a w; intro a w S)
    (refine st_m (op_alloc S Try.zeroValue32 (cs := _) rfl rfl ?_); clear S a w; intro g3 a w S)
    (refine st_m (op_stW S Try.sizeOf32 (Ev.t rfl) (Ev.t rfl) (k := 0) rfl rfl rfl (by simp [Value.oneCell']) ?_); clear S a w; intro a w S)
    refine st_nil ?_
    (refine (then_normal (hK3 _ _ ?_)); clear hK3)
    refine wp_seq_k fun _ hK3 => ?_
    refine wp_region_lit ?_
    (refine st_y S (Yr.ys (ys_fieldN (FieldT.mk Try.underlying32 rfl Try.sizeOf3 rfl) (Ev.t rfl) (i' := 0) rfl)) rfl ?_; clear S a w; intro a w S)
    (refine st_y S (Yr.ys (ys_ld ⟨Try.isAgg3, Try.sizeOf3⟩ (Ev.t rfl) (k := 0) rfl rfl)) rfl ?_; clear S a w; intro a w S)
    (refine st_y S (Yr.ys (ys_fieldN (FieldT.mk Try.underlying34 rfl Try.sizeOf3 rfl) (Ev.t rfl) (i' := 0) rfl)) rfl ?_; clear S a w; intro a w S)
    (refine st_y S (Yr.ys (ys_ld ⟨Try.isAgg3, Try.sizeOf3⟩ (Ev.t rfl) (k := 1) rfl rfl)) rfl ?_; clear S a w; intro a w S)
    (refine st_y S (Yr.ys (ys_eql (Ev.t rfl) (Ev.t rfl))) rfl ?_; clear S a w; intro a w S)
    (refine st_y S (Yr.ys (ys_move (Ev.t rfl))) rfl ?_; clear S a w; intro a w S)
    (refine st_yg S rfl rfl (Yr.ys (ys_fieldN (FieldT.mk Try.underlying32 rfl Try.sizeOf3 rfl) (Ev.t rfl) (i' := 1) rfl)) rfl ?_; clear S a w; intro a w S)
    (refine st_yg S rfl rfl (Yr.ys (ys_ld ⟨Try.isAgg3, Try.sizeOf3⟩ (Ev.g rfl) (k := 0) rfl rfl)) rfl ?_; clear S a w; intro a w S)
    (refine st_yg S rfl rfl (Yr.ys (ys_fieldN (FieldT.mk Try.underlying34 rfl Try.sizeOf3 rfl) (Ev.t rfl) (i' := 1) rfl)) rfl ?_; clear S a w; intro a w S)
    (refine st_yg S rfl rfl (Yr.ys (ys_ld ⟨Try.isAgg3, Try.sizeOf3⟩ (Ev.g rfl) (k := 1) rfl rfl)) rfl ?_; clear S a w; intro a w S)
    (refine st_yg S rfl rfl (Yr.ys (ys_eql (Ev.g rfl) (Ev.g rfl))) rfl ?_; clear S a w; intro a w S)
    (refine st_y S (Yr.ys (ys_and (Ev.t rfl) (Ev.g rfl) Ev.c)) rfl ?_; clear S a w; intro a w S)
    refine st_nil ?_
    (refine (then_normal (hK3 _ _ ?_)); clear hK3)
    refine st_cond S (Ev.t rfl) (fun h2 => ?_) (fun h2 => ?_)
    refine wp_region_lit ?_
    (refine st_y S (Yr.ys (ys_move (Ev.t rfl))) rfl ?_; clear S a w; intro a w S)
    (refine st_y S (Yr.ys (ys_fieldN (FieldT.mk Try.underlying32 rfl Try.sizeOf3 rfl) (Ev.t rfl) (i' := 2) rfl)) rfl ?_; clear S a w; intro a w S)
    (refine st_y S (Yr.ys (ys_ld ⟨Try.isAgg3, Try.sizeOf3⟩ (Ev.t rfl) (k := 0) rfl rfl)) rfl ?_; clear S a w; intro a w S)
    (refine st_y S (Yr.ys (ys_max (Ev.t rfl) (Ev.t rfl))) rfl ?_; clear S a w; intro a w S)
    (refine st_y S (Yr.ys (ys_assign (Ev.t rfl))) rfl ?_; clear S a w; intro a w S)
    refine st_nil ?_
    (refine (in_normal (then_normal (hK2 _ _ ?_))); clear hK2)
    refine wp_region_lit ?_
    (refine st_y S (Yr.ys (ys_addI (Ev.t rfl) Ev.c (fun _ => by unfold I64; omega))) rfl ?_; clear S a w; intro a w S)
    (refine st_y S (Yr.ys (ys_move (Ev.t rfl))) rfl ?_; clear S a w; intro a w S)
    refine st_nil ?_
    refine (then_normal ?_)
    rotate_left
    refine wp_skip ?_
    (refine (in_normal (then_normal (hK2 _ _ ?_))); clear hK2)
    refine wp_region_lit ?_
    (refine st_y S (Yr.ys (ys_addI (Ev.t rfl) Ev.c (fun _ => by unfold I64; omega))) rfl ?_; clear S a w; intro a w S)
    (refine st_y S (Yr.ys (ys_move (Ev.t rfl))) rfl ?_; clear S a w; intro a w S)
    refine st_nil ?_
    refine (then_normal ?_)
    rotate_left
    · rw [hd, topFrom, if_pos (by simpa using h2)] at hno
      exact ⟨(k + 1, max t m.count), ⟨by dsimp only; omega, hno⟩, by dsimp only; omega, S.weak (by repeat (first | exact Fits.nil | refine Fits.skip rfl ?_ | refine Fits.cons rfl ?_)) (by repeat (first | exact List.Sublist.refl _ | exact List.nil_sublist _ | refine .cons_cons _ ?_ | refine .cons _ ?_))⟩
    · rw [hd, topFrom, if_neg (by simpa using h2)] at hno
      exact ⟨(k + 1, t), ⟨by dsimp only; omega, hno⟩, by dsimp only; omega, S.weak (by repeat (first | exact Fits.nil | refine Fits.skip rfl ?_ | refine Fits.cons rfl ?_)) (by repeat (first | exact List.Sublist.refl _ | exact List.nil_sublist _ | refine .cons_cons _ ?_ | refine .cons _ ?_))⟩
  · refine wp_seq_k fun _ hK2 => ?_
    refine wp_region_lit ?_
    (refine st_y S (Yr.ys (ys_F (by omega) (ys_lss (Ev.t rfl) (Ev.t rfl)))) rfl ?_; clear S a w; intro a w S)
    refine st_nil ?_
    (refine (then_normal (hK2 _ _ ?_)); clear hK2)
    refine wp_seq_k fun _ hK2 => ?_
    refine st_else S (Ev.t rfl) ?_
    refine wp_exit ?_
    (refine (then_exit (then_exit (in_here (then_normal (hK1 _ _ ?_))))); clear hK1)
    refine wp_seq_k fun _ hK1 => ?_
    refine wp_region_lit ?_
    (refine st_y S (Yr.ys (ys_move (Ev.t rfl))) rfl ?_; clear S a w; intro a w S)
    (refine st_y S (Yr.ys (ys_assign (Ev.t rfl))) rfl ?_; clear S a w; intro a w S)
    refine st_nil ?_
    (refine (then_normal (hK1 _ _ ?_)); clear hK1)
    refine wp_ret ?_
    refine st_ret S (results1 S Try.results23 (Rv.tmp rfl)) ?_
    refine ⟨?_, S.wd.below⟩
    rw [← hno, List.drop_eq_nil_of_le (by omega)]; rfl

theorem c24 (w0 : World) (v1 v2 : Value) (C : Ctx) (h : RdCtx w0 w0.heap.size v1 v2 C) (hm : C.marks.length ≤ 64) (hcl : C.cloud.length ≤ 64) (hb : ∀ m ∈ C.marks, 0 ≤ m.count ∧ m.count ≤ 1099511627776) :
    Calls Try.prog 24 #[.agg #[v1, v2]] w0 fun e w' => e = .returned (.int .i64 (sumC C.cloud.length C.marks)) ∧ Bel w0.heap.size w0 w' := by
  obtain ⟨⟨A, cap, rfl, hl, hcap, hA⟩, ⟨A', cap', rfl, hl', hcap', hA'⟩⟩ := h
  refine enter1 Try.func24 rfl Try.ntmps24 rfl fun a S => ?_
  refine wp_seq_k fun _ hK1 => ?_
  refine wp_region_lit ?_
  (refine st_m (op_box S (Ev.t rfl) rfl ?_); clear S a; intro g1 a w S)
  (refine st_y S (Yr.ys (ys_assign Ev.c)) rfl ?_; clear S a w; intro a w S)
  refine st_nil ?_
  (refine (then_normal (hK1 _ _ ?_)); clear hK1)
  refine wp_seq_k fun _ hK1 => ?_
  refine wp_region_lit ?_
  (refine st_y S (Yr.ys (ys_fieldN (FieldT.mk Try.underlying36 rfl Try.sizeOf30 rfl) (Ev.t rfl) (i' := 1) rfl)) rfl ?_; clear S a w; intro a w S)
  (refine st_y S (Yr.ys (ys_ld ⟨Try.isAgg30, Try.sizeOf30⟩ (Ev.t rfl) (k := 0) rfl rfl)) rfl ?_; clear S a w; intro a w S)
  (refine st_y S (Yr.ys (ys_lenS Try.underlying30 (Ev.t rfl))) rfl ?_; clear S a w; intro a w S)
  (refine st_y S (Yr.ys (ys_min (Ev.t rfl) Ev.c)) rfl ?_; clear S a w; intro a w S)
  (refine st_y S (Yr.ys (ys_assign (Ev.t rfl))) rfl ?_; clear S a w; intro a w S)
  refine st_nil ?_
  (refine (then_normal (hK1 _ _ ?_)); clear hK1)
  refine wp_seq_k fun _ hK1 => ?_
  refine wp_seq_k fun _ hK2 => ?_
  refine wp_region_lit ?_
  (refine st_y S (Yr.ys (ys_fieldN (FieldT.mk Try.underlying36 rfl Try.sizeOf29 rfl) (Ev.t rfl) (i' := 0) rfl)) rfl ?_; clear S a w; intro a w S)
  (refine st_y S (Yr.ys (ys_ld ⟨Try.isAgg29, Try.sizeOf29⟩ (Ev.t rfl) (k := 0) rfl rfl)) rfl ?_; clear S a w; intro a w S)
  (refine st_y S (Yr.ys (ys_lenS Try.underlying29 (Ev.t rfl))) rfl ?_; clear S a w; intro a w S)
  (refine st_y S (Yr.ys (ys_move Ev.c)) rfl ?_; clear S a w; intro a w S)
  refine st_nil ?_
  (refine (then_normal (hK2 _ _ ?_)); clear hK2)
  refine wp_block ?_
  refine st_loopK S (X := Nat × Int) (fun x => [(13, true, .int .i64 (x.1 : Int)), (3, true, .int .i64 x.2)]) (fun _ L => L) (fun q => q.1 ≤ C.marks.length ∧ 0 ≤ q.2 ∧ q.2 ≤ 64 + q.1 * 1099511627776 ∧ sumC q.2 (C.marks.drop q.1) = sumC C.cloud.length C.marks) (fun q => C.marks.length - q.1) (0, min (C.cloud.length : Int) 4611686018427387904) ⟨Nat.zero_le _, by dsimp only; omega, by dsimp only; omega, by dsimp only; rw [show min (C.cloud.length : Int) 4611686018427387904 = C.cloud.length by omega]; rfl⟩ (by repeat (first | exact Fits.nil | refine Fits.skip rfl ?_ | refine Fits.cons rfl ?_)) (by repeat (first | exact List.Sublist.refl _ | exact List.nil_sublist _ | refine .cons_cons _ ?_ | refine .cons _ ?_)) ?_
  clear S
  intro ⟨k, t⟩ a w ⟨hk, ht0, ht1, hno⟩ S
  dsimp only at hk hno S ht0 ht1
  by_cases hlt : k < C.marks.length
  · obtain ⟨g, o, m, rfl, hmm, hd, hc⟩ := row_at hA hlt
    obtain ⟨hb1, hb2⟩ := hb m (List.mem_of_getElem? hmm)
    clear hA
    refine wp_seq_k fun _ hK2 => ?_
    refine wp_region_lit ?_
    (refine st_y S (Yr.ys (ys_T (by omega) (ys_lss (Ev.t rfl) (Ev.t rfl)))) rfl ?_; clear S a w; intro a w S)
    refine st_nil ?_
    (refine (then_normal (hK2 _ _ ?_)); clear hK2)
    refine wp_seq_k fun _ hK2 => ?_
    refine st_then S (Ev.t rfl) ?_
    refine wp_skip ?_
    (refine (then_normal (hK2 _ _ ?_)); clear hK2)
    refine wp_seq_k fun _ hK2 => ?_
    refine wp_block ?_
    refine wp_seq_k fun _ hK3 => ?_
    refine wp_region_lit ?_
    (refine st_y S (Yr.ys (ys_ixS Try.underlying29 Try.sizeOf43 (Ev.t rfl) (Ev.t rfl) (fun _ => by omega))) rfl ?_; clear S a w; intro a w S)
    (refine st_y S (Yr.ys (ys_ldOA ⟨Try.isAgg43, Try.sizeOf43⟩ (Ev.t rfl) (vs := [_, _, _]) rfl (fun _ => hc))) rfl ?_; clear S a w; intro a w S)
    (refine st_m (op_alloc S Try.zeroValue43 (cs := _) rfl rfl ?_); clear S a w; intro g2 a w S)
    (refine st_m (op_stW S Try.sizeOf43 (Ev.t rfl) (Ev.t rfl) (k := 0) rfl rfl rfl (by simp [Value.oneCell']) ?_); clear S a w; intro a w S)
    refine st_nil ?_
    (refine (then_normal (hK3 _ _ ?_)); clear hK3)
    refine wp_region_lit ?_
    (refine st_y S (Yr.ys (ys_move (Ev.t rfl))) rfl ?_; clear S a w; intro a w S)
    (refine st_y S (Yr.ys (ys_fieldN (FieldT.mk Try.underlying43 rfl Try.sizeOf3 rfl) (Ev.t rfl) (i' := 2) rfl)) rfl ?_; clear S a w; intro a w S)
    (refine st_y S (Yr.ys (ys_ld ⟨Try.isAgg3, Try.sizeOf3⟩ (Ev.t rfl) (k := 0) rfl rfl)) rfl ?_; clear S a w; intro a w S)
    (refine st_y S (Yr.ys (ys_max (Ev.t rfl) Ev.c)) rfl ?_; clear S a w; intro a w S)
    (refine st_y S (Yr.ys (ys_move (Ev.t rfl))) rfl ?_; clear S a w; intro a w S)
    (refine st_y S (Yr.ys (ys_subI Ev.c (Ev.t rfl) (fun _ => by unfold I64; omega))) rfl ?_; clear S a w; intro a w S)
    (refine st_y S (Yr.ys (ys_min (Ev.t rfl) (Ev.t rfl))) rfl ?_; clear S a w; intro a w S)
    (refine st_y S (Yr.ys (ys_addI (Ev.t rfl) (Ev.t rfl) (fun _ => by unfold I64; omega))) rfl ?_; clear S a w; intro a w S)
    (refine st_y S (Yr.ys (ys_assign (Ev.t rfl))) rfl ?_; clear S a w; intro a w S)
    refine st_nil ?_
    (refine (in_normal (then_normal (hK2 _ _ ?_))); clear hK2)
    refine wp_region_lit ?_
    (refine st_y S (Yr.ys (ys_addI (Ev.t rfl) Ev.c (fun _ => by unfold I64; omega))) rfl ?_; clear S a w; intro a w S)
    (refine st_y S (Yr.ys (ys_move (Ev.t rfl))) rfl ?_; clear S a w; intro a w S)
    refine st_nil ?_
    refine (then_normal ?_)
    rw [hd, sumC] at hno
    have e : t + min (max m.count 0) (4611686018427387904 - t) = t + m.count := by omega
    exact ⟨(k + 1, t + min (max m.count 0) (4611686018427387904 - t)), ⟨by dsimp only; omega, by dsimp only; omega, by dsimp only; omega, by dsimp only; rw [e]; exact hno⟩, by dsimp only; omega, S.weak (by repeat (first | exact Fits.nil | refine Fits.skip rfl ?_ | refine Fits.cons rfl ?_)) (by repeat (first | exact List.Sublist.refl _ | exact List.nil_sublist _ | refine .cons_cons _ ?_ | refine .cons _ ?_))⟩
  · refine wp_seq_k fun _ hK2 => ?_
    refine wp_region_lit ?_
    (refine st_y S (Yr.ys (ys_F (by omega) (ys_lss (Ev.t rfl) (Ev.t rfl)))) rfl ?_; clear S a w; intro a w S)
    refine st_nil ?_
    (refine (then_normal (hK2 _ _ ?_)); clear hK2)
    refine wp_seq_k fun _ hK2 => ?_
    refine st_else S (Ev.t rfl) ?_
    refine wp_exit ?_
    (refine (then_exit (then_exit (in_here (then_normal (hK1 _ _ ?_))))); clear hK1)
    refine wp_seq_k fun _ hK1 => ?_
    refine wp_region_lit ?_
    (refine st_y S (Yr.ys (ys_move (Ev.t rfl))) rfl ?_; clear S a w; intro a w S)
    (refine st_y S (Yr.ys (ys_assign (Ev.t rfl))) rfl ?_; clear S a w; intro a w S)
    refine st_nil ?_
    (refine (then_normal (hK1 _ _ ?_)); clear hK1)
    refine wp_ret ?_
    refine st_ret S (results1 S Try.results24 (Rv.tmp rfl)) ?_
    refine ⟨?_, S.wd.below⟩
    rw [← hno, List.drop_eq_nil_of_le (by omega)]; rfl

theorem c25 (w0 : World) (v1 v2 : Value) (C : Ctx) (h : RdCtx w0 w0.heap.size v1 v2 C) (hm : C.marks.length ≤ 64) (hcl : C.cloud.length ≤ 64) (hb : ∀ m ∈ C.marks, 0 ≤ m.count ∧ m.count ≤ 1099511627776) :
    Calls Try.prog 25 #[.agg #[v1, v2]] w0 fun e w' => e = .returned (.int .i64 (sumC C.cloud.length C.marks)) ∧ Bel w0.heap.size w0 w' := by
  obtain ⟨⟨A, cap, rfl, hl, hcap, hA⟩, ⟨A', cap', rfl, hl', hcap', hA'⟩⟩ := h
  refine enter1 Try.func25 rfl Try.ntmps25 rfl fun a S => ?_
  refine wp_seq_k fun _ hK1 => ?_
  refine wp_region_lit ?_
  (refine st_m (op_box S (Ev.t rfl) rfl ?_); clear S a; intro g1 a w S)
  (refine st_y S (Yr.ys (ys_assign Ev.c)) rfl ?_; clear S a w; intro a w S)
  refine st_nil ?_
  (refine (then_normal (hK1 _ _ ?_)); clear hK1)
  refine wp_seq_k fun _ hK1 => ?_
  refine wp_region_lit ?_
  (refine st_y S (Yr.ys (ys_fieldN (FieldT.mk Try.underlying36 rfl Try.sizeOf30 rfl) (Ev.t rfl) (i' := 1) rfl)) rfl ?_; clear S a w; intro a w S)
  (refine st_y S (Yr.ys (ys_ld ⟨Try.isAgg30, Try.sizeOf30⟩ (Ev.t rfl) (k := 0) rfl rfl)) rfl ?_; clear S a w; intro a w S)
  (refine st_y S (Yr.ys (ys_lenS Try.underlying30 (Ev.t rfl))) rfl ?_; clear S a w; intro a w S)
  (refine st_y S (Yr.ys (ys_assign (Ev.t rfl))) rfl ?_; clear S a w; intro a w S)
  refine st_nil ?_
  (refine (then_normal (hK1 _ _ ?_)); clear hK1)
  refine wp_seq_k fun _ hK1 => ?_
  refine wp_seq_k fun _ hK2 => ?_
  refine wp_region_lit ?_
  (refine st_y S (Yr.ys (ys_fieldN (FieldT.mk Try.underlying36 rfl Try.sizeOf29 rfl) (Ev.t rfl) (i' := 0) rfl)) rfl ?_; clear S a w; intro a w S)
  (refine st_y S (Yr.ys (ys_ld ⟨Try.isAgg29, Try.sizeOf29⟩ (Ev.t rfl) (k := 0) rfl rfl)) rfl ?_; clear S a w; intro a w S)
  (refine st_y S (Yr.ys (ys_lenS Try.underlying29 (Ev.t rfl))) rfl ?_; clear S a w; intro a w S)
  (refine st_y S (Yr.ys (ys_move Ev.c)) rfl ?_; clear S a w; intro a w S)
  refine st_nil ?_
  (refine (then_normal (hK2 _ _ ?_)); clear hK2)
  refine wp_block ?_
  refine st_loopK S (X := Nat × Int) (fun x => [(12, true, .int .i64 (x.1 : Int)), (3, true, .int .i64 x.2)]) (fun _ L => L) (fun q => q.1 ≤ C.marks.length ∧ 0 ≤ q.2 ∧ q.2 ≤ 64 + q.1 * 1099511627776 ∧ sumC q.2 (C.marks.drop q.1) = sumC C.cloud.length C.marks) (fun q => C.marks.length - q.1) (0, (C.cloud.length : Int)) ⟨Nat.zero_le _, by dsimp only; omega, by dsimp only; omega, rfl⟩ (by repeat (first | exact Fits.nil | refine Fits.skip rfl ?_ | refine Fits.cons rfl ?_)) (by repeat (first | exact List.Sublist.refl _ | exact List.nil_sublist _ | refine .cons_cons _ ?_ | refine .cons _ ?_)) ?_
  clear S
  intro ⟨k, t⟩ a w ⟨hk, ht0, ht1, hno⟩ S
  dsimp only at hk hno S ht0 ht1
  by_cases hlt : k < C.marks.length
  · obtain ⟨g, o, m, rfl, hmm, hd, hc⟩ := row_at hA hlt
    obtain ⟨hb1, hb2⟩ := hb m (List.mem_of_getElem? hmm)
    clear hA
    refine wp_seq_k fun _ hK2 => ?_
    refine wp_region_lit ?_
    (refine st_y S (Yr.ys (ys_T (by omega) (ys_lss (Ev.t rfl) (Ev.t rfl)))) rfl ?_; clear S a w; intro a w S)
    refine st_nil ?_
    (refine (then_normal (hK2 _ _ ?_)); clear hK2)
    refine wp_seq_k fun _ hK2 => ?_
    refine st_then S (Ev.t rfl) ?_
    refine wp_skip ?_
    (refine (then_normal (hK2 _ _ ?_)); clear hK2)
    refine wp_seq_k fun _ hK2 => ?_
    refine wp_block ?_
    refine wp_seq_k fun _ hK3 => ?_
    refine wp_region_lit ?_
    (refine st_y S (Yr.ys (ys_ixS Try.underlying29 Try.sizeOf43 (Ev.t rfl) (Ev.t rfl) (fun _ => by omega))) rfl ?_; clear S a w; intro a w S)
    (refine st_y S (Yr.ys (ys_ldOA ⟨Try.isAgg43, Try.sizeOf43⟩ (Ev.t rfl) (vs := [_, _, _]) rfl (fun _ => hc))) rfl ?_; clear S a w; intro a w S)
    (refine st_m (op_alloc S Try.zeroValue43 (cs := _) rfl rfl ?_); clear S a w; intro g2 a w S)
    (refine st_m (op_stW S Try.sizeOf43 (Ev.t rfl) (Ev.t rfl) (k := 0) rfl rfl rfl (by simp [Value.oneCell']) ?_); clear S a w; intro a w S)
    refine st_nil ?_
    (refine (then_normal (hK3 _ _ ?_)); clear hK3)
    refine wp_region_lit ?_
    (refine st_y S (Yr.ys (ys_move (Ev.t rfl))) rfl ?_; clear S a w; intro a w S)
    (refine st_y S (Yr.ys (ys_fieldN (FieldT.mk Try.underlying43 rfl Try.sizeOf3 rfl) (Ev.t rfl) (i' := 2) rfl)) rfl ?_; clear S a w; intro a w S)
    (refine st_y S (Yr.ys (ys_ld ⟨Try.isAgg3, Try.sizeOf3⟩ (Ev.t rfl) (k := 0) rfl rfl)) rfl ?_; clear S a w; intro a w S)
    (refine st_y S (Yr.ys (ys_addI (Ev.t rfl) (Ev.t rfl) (fun _ => by unfold I64; omega))) rfl ?_; clear S a w; intro a w S)
    (refine st_y S (Yr.ys (ys_assign (Ev.t rfl))) rfl ?_; clear S a w; intro a w S)
    refine st_nil ?_
    (refine (in_normal (then_normal (hK2 _ _ ?_))); clear hK2)
    refine wp_region_lit ?_
    (refine st_y S (Yr.ys (ys_addI (Ev.t rfl) Ev.c (fun _ => by unfold I64; omega))) rfl ?_; clear S a w; intro a w S)
    (refine st_y S (Yr.ys (ys_move (Ev.t rfl))) rfl ?_; clear S a w; intro a w S)
    refine st_nil ?_
    refine (then_normal ?_)
    rw [hd, sumC] at hno
    exact ⟨(k + 1, t + m.count), ⟨by dsimp only; omega, by dsimp only; omega, by dsimp only; omega, hno⟩, by dsimp only; omega, S.weak (by repeat (first | exact Fits.nil | refine Fits.skip rfl ?_ | refine Fits.cons rfl ?_)) (by repeat (first | exact List.Sublist.refl _ | exact List.nil_sublist _ | refine .cons_cons _ ?_ | refine .cons _ ?_))⟩
  · refine wp_seq_k fun _ hK2 => ?_
    refine wp_region_lit ?_
    (refine st_y S (Yr.ys (ys_F (by omega) (ys_lss (Ev.t rfl) (Ev.t rfl)))) rfl ?_; clear S a w; intro a w S)
    refine st_nil ?_
    (refine (then_normal (hK2 _ _ ?_)); clear hK2)
    refine wp_seq_k fun _ hK2 => ?_
    refine st_else S (Ev.t rfl) ?_
    refine wp_exit ?_
    (refine (then_exit (then_exit (in_here (then_normal (hK1 _ _ ?_))))); clear hK1)
    refine wp_seq_k fun _ hK1 => ?_
    refine wp_region_lit ?_
    (refine st_y S (Yr.ys (ys_move (Ev.t rfl))) rfl ?_; clear S a w; intro a w S)
    (refine st_y S (Yr.ys (ys_assign (Ev.t rfl))) rfl ?_; clear S a w; intro a w S)
    refine st_nil ?_
    (refine (then_normal (hK1 _ _ ?_)); clear hK1)
    refine wp_ret ?_
    refine st_ret S (results1 S Try.results25 (Rv.tmp rfl)) ?_
    refine ⟨?_, S.wd.below⟩
    rw [← hno, List.drop_eq_nil_of_le (by omega)]; rfl

end Go.Proofs.Ytjfeeiljinbmjaa
