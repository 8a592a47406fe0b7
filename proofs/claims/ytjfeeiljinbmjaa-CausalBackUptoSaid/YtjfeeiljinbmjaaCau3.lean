/- Layer 3, third part: two contexts the same; the context of marks and dots, as the document has it. -/
import Derived.Test.YtjfeeiljinbmjaaCau2
import Derived.Test.YtjfeeiljinbmjaaOwn
set_option linter.unusedVariables false
set_option linter.unusedSimpArgs false
set_option maxRecDepth 100000
namespace Go.Proofs.Ytjfeeiljinbmjaa
open Go.Fw Go.Proofs Go.RowKit

theorem c64 (w0 : World) (v v' : Value) (l l' : List Dot) (h : Sl Dot.enc 3 w0 w0.heap.size v l) (h' : Sl Dot.enc 3 w0 w0.heap.size v' l') :
    Calls Try.prog 64 #[v, v'] w0 fun e w' => e = .returned (.bool (decide (l = l'))) ∧ Bel w0.heap.size w0 w' := by
  obtain ⟨A, cap, rfl, hl, hcap, hA⟩ := h
  obtain ⟨A', cap', rfl, hl', hcap', hA'⟩ := h'
  refine enter2 Try.func64 rfl Try.ntmps64 rfl fun a S => ?_
  refine wp_seq_k fun _ hK1 => ?_
  refine wp_region_lit ?_
  (refine st_y S (Yr.ys (ys_assign Ev.c)) rfl ?_; clear S a; intro a w S)
  refine st_nil ?_
  (refine (then_normal (hK1 _ _ ?_)); clear hK1)
  refine wp_seq_k fun _ hK1 => ?_
  refine wp_seq_k fun _ hK2 => ?_
  refine wp_region_lit ?_
  (refine st_y S (Yr.ys (ys_move (Ev.t rfl))) rfl ?_; clear S a w; intro a w S)
  (refine st_y S (Yr.ys (ys_lenS Try.underlying29 (Ev.t rfl))) rfl ?_; clear S a w; intro a w S)
  (refine st_y S (Yr.ys (ys_move (Ev.t rfl))) rfl ?_; clear S a w; intro a w S)
  (refine st_y S (Yr.ys (ys_lenS Try.underlying29 (Ev.t rfl))) rfl ?_; clear S a w; intro a w S)
  (refine st_y S (Yr.ys (ys_neq (Ev.t rfl) (Ev.t rfl))) rfl ?_; clear S a w; intro a w S)
  refine st_nil ?_
  (refine (then_normal (hK2 _ _ ?_)); clear hK2)
  refine st_if S (Ev.t rfl) (fun h1 => ?_) (fun h1 => ?_)
  refine wp_seq_k fun _ hK2 => ?_
  refine wp_region_lit ?_
  (refine st_y S (Yr.ys (ys_assign Ev.c)) rfl ?_; clear S a w; intro a w S)
  refine st_nil ?_
  (refine (then_normal (hK2 _ _ ?_)); clear hK2)
  refine wp_ret ?_
  refine (then_ret ?_)
  refine st_ret S (results1 S Try.results64 (Rv.tmp rfl)) ?_
  rotate_left
  refine wp_skip ?_
  (refine (then_normal (hK1 _ _ ?_)); clear hK1)
  refine wp_seq_k fun _ hK1 => ?_
  refine wp_seq_k fun _ hK2 => ?_
  refine wp_region_lit ?_
  (refine st_y S (Yr.ys (ys_move (Ev.t rfl))) rfl ?_; clear S a w; intro a w S)
  (refine st_y S (Yr.ys (ys_lenS Try.underlying29 (Ev.t rfl))) rfl ?_; clear S a w; intro a w S)
  (refine st_y S (Yr.ys (ys_move Ev.c)) rfl ?_; clear S a w; intro a w S)
  refine st_nil ?_
  (refine (then_normal (hK2 _ _ ?_)); clear hK2)
  refine wp_block ?_
  rotate_left
  · refine ⟨?_, S.wd.below⟩
    rw [decide_eq_false (fun e => h1 (by rw [e]))]
  · refine st_loopK S (X := Nat) (fun k => [(13, true, .int .i64 (k : Int))]) (fun _ L => L) (fun k => k ≤ l.length ∧ l.take k = l'.take k) (fun k => l.length - k) 0 ⟨Nat.zero_le _, rfl⟩ (by repeat (first | exact Fits.nil | refine Fits.skip rfl ?_ | refine Fits.cons rfl ?_)) (by repeat (first | exact List.Sublist.refl _ | exact List.nil_sublist _ | refine .cons_cons _ ?_ | refine .cons _ ?_)) ?_
    clear S
    intro k a w ⟨hk, hno⟩ S
    by_cases hlt : k < l.length
    · obtain ⟨g, o, m, rfl, hmm, hd, hc⟩ := row_at hA hlt
      obtain ⟨g', o', m', rfl, hmm', hd', hc'⟩ := row_at hA' (show k < l'.length by omega)
      clear hA hA'
      refine wp_seq_k fun _ hK2 => ?_
      refine wp_region_lit ?_
      (refine st_y S (Yr.ys (ys_T (by omega) (ys_lss (Ev.t rfl) (Ev.t rfl)))) rfl ?_; clear S a w; intro a w S)
      refine st_nil ?_
      (refine (then_normal (hK2 _ _ ?_)); clear hK2)
      refine wp_seq_k fun _ hK2 => ?_
      refine st_then S (Ev.t rfl) ?_
      refine wp_skip ?_
      (refine (then_normal (hK2 _ _ ?_)); clear hK2)
      refine wp_seq_k fun _ hK2 => ?_
      refine wp_block ?_
      refine wp_seq_k fun _ hK3 => ?_
      refine wp_region_lit ?_
      (refine st_y S (Yr.ys (ys_move (Ev.t rfl))) rfl ?_; clear S a w; intro a w S)
      (refine st_y S (Yr.ys (ys_assign (Ev.t rfl))) rfl ?_; clear S a w; intro a w S)
      refine st_nil ?_
      (refine (then_normal (hK3 _ _ ?_)); clear hK3)
      refine wp_seq_k fun _ hK3 => ?_
      (refine st_quiet S (by kernel_rfl) (by kernel_rfl) ?_; clear S w; intro a S)
      (refine q_y S (Yr.ys (ys_move (Ev.t rfl))) rfl ?_; clear S a; intro a S)
      (refine q_y S (Yr.ys (ys_move (Ev.t rfl))) rfl ?_; clear S a; intro a S)
      (refine q_y S (Yr.ys (ys_ixS Try.underlying29 Try.sizeOf43 (Ev.t rfl) (Ev.t rfl) (fun _ => by omega))) rfl ?_; clear S a; intro a S)
      (refine q_y S (Yr.ys (ys_ldOA ⟨Try.isAgg43, Try.sizeOf43⟩ (Ev.t rfl) (vs := [_, _, _]) rfl (fun _ => hc))) rfl ?_; clear S a; intro a S)
      (refine q_y S (Yr.ys (ys_move (Ev.t rfl))) rfl ?_; clear S a; intro a S)
      (refine q_y S (Yr.ys (ys_move (Ev.t rfl))) rfl ?_; clear S a; intro a S)
      (refine q_y S (Yr.ys (ys_ixS Try.underlying29 Try.sizeOf43 (Ev.t rfl) (Ev.t rfl) (fun _ => by omega))) rfl ?_; clear S a; intro a S)
      (refine q_y S (Yr.ys (ys_ldOA ⟨Try.isAgg43, Try.sizeOf43⟩ (Ev.t rfl) (vs := [_, _, _]) rfl (fun _ => hc'))) rfl ?_; clear S a; intro a S)
      (refine q_y S (Yr.ys (ys_neA (Ev.t rfl) (Ev.t rfl) eq43)) rfl ?_; clear S a; intro a S)
      (refine q_nil ?_; intro w W; replace S := St.mk S W; clear W)
      (refine (then_normal (hK3 _ _ ?_)); clear hK3)
      refine st_cond S (Ev.t rfl) (fun h2 => ?_) (fun h2 => ?_)
      refine wp_seq_k fun _ hK3 => ?_
      refine wp_region_lit ?_
      (refine st_y S (Yr.ys (ys_assign Ev.c)) rfl ?_; clear S a w; intro a w S)
      refine st_nil ?_
      (refine (then_normal (hK3 _ _ ?_)); clear hK3)
      refine wp_ret ?_
      refine (in_ret (then_ret (then_ret (in_ret (then_ret ?_)))))
      refine st_ret S (results1 S Try.results64 (Rv.tmp rfl)) ?_
      rotate_left
      refine wp_skip ?_
      (refine (in_normal (then_normal (hK2 _ _ ?_))); clear hK2)
      refine wp_region_lit ?_
      (refine st_y S (Yr.ys (ys_addI (Ev.t rfl) Ev.c (fun _ => by unfold I64; omega))) rfl ?_; clear S a w; intro a w S)
      (refine st_y S (Yr.ys (ys_move (Ev.t rfl))) rfl ?_; clear S a w; intro a w S)
      refine st_nil ?_
      refine (then_normal ?_)
      rotate_left
      · refine ⟨?_, S.wd.below⟩
        rw [ne_at hmm hmm' (by rw [Dot.eq_iff]; simp at h2; omega)]
      · exact ⟨k + 1, ⟨by omega, take_step hno hmm hmm' (by rw [Dot.eq_iff]; simp at h2; omega)⟩, by omega, S.weak (by repeat (first | exact Fits.nil | refine Fits.skip rfl ?_ | refine Fits.cons rfl ?_)) (by repeat (first | exact List.Sublist.refl _ | exact List.nil_sublist _ | refine .cons_cons _ ?_ | refine .cons _ ?_))⟩
    · refine wp_seq_k fun _ hK2 => ?_
      refine wp_region_lit ?_
      (refine st_y S (Yr.ys (ys_F (by omega) (ys_lss (Ev.t rfl) (Ev.t rfl)))) rfl ?_; clear S a w; intro a w S)
      refine st_nil ?_
      (refine (then_normal (hK2 _ _ ?_)); clear hK2)
      refine wp_seq_k fun _ hK2 => ?_
      refine st_else S (Ev.t rfl) ?_
      refine wp_exit ?_
      (refine (then_exit (then_exit (in_here (then_normal (hK1 _ _ ?_))))); clear hK1)
      refine wp_seq_k fun _ hK1 => ?_
      refine wp_region_lit ?_
      (refine st_y S (Yr.ys (ys_assign Ev.c)) rfl ?_; clear S a w; intro a w S)
      refine st_nil ?_
      (refine (then_normal (hK1 _ _ ?_)); clear hK1)
      refine wp_ret ?_
      refine st_ret S (results1 S Try.results64 (Rv.tmp rfl)) ?_
      refine ⟨?_, S.wd.below⟩
      rw [decide_eq_true]
      rw [List.take_of_length_le (by omega), List.take_of_length_le (by omega)] at hno
      exact hno
theorem c65 (w0 : World) (v v' : Value) (l l' : List Dot) (h : Sl Dot.enc 3 w0 w0.heap.size v l) (h' : Sl Dot.enc 3 w0 w0.heap.size v' l') :
    Calls Try.prog 65 #[v, v'] w0 fun e w' => e = .returned (.bool (decide (l = l'))) ∧ Bel w0.heap.size w0 w' := by
  obtain ⟨A, cap, rfl, hl, hcap, hA⟩ := h
  obtain ⟨A', cap', rfl, hl', hcap', hA'⟩ := h'
  refine enter2 Try.func65 rfl Try.ntmps65 rfl fun a S => ?_
  refine wp_seq_k fun _ hK1 => ?_
  refine wp_region_lit ?_
  (refine st_y S (Yr.ys (ys_assign Ev.c)) rfl ?_; clear S a; intro a w S)
  refine st_nil ?_
  (refine (then_normal (hK1 _ _ ?_)); clear hK1)
  refine wp_seq_k fun _ hK1 => ?_
  refine wp_seq_k fun _ hK2 => ?_
  refine wp_region_lit ?_
  (refine st_y S (Yr.ys (ys_move (Ev.t rfl))) rfl ?_; clear S a w; intro a w S)
  (refine st_y S (Yr.ys (ys_lenS Try.underlying30 (Ev.t rfl))) rfl ?_; clear S a w; intro a w S)
  (refine st_y S (Yr.ys (ys_move (Ev.t rfl))) rfl ?_; clear S a w; intro a w S)
  (refine st_y S (Yr.ys (ys_lenS Try.underlying30 (Ev.t rfl))) rfl ?_; clear S a w; intro a w S)
  (refine st_y S (Yr.ys (ys_neq (Ev.t rfl) (Ev.t rfl))) rfl ?_; clear S a w; intro a w S)
  refine st_nil ?_
  (refine (then_normal (hK2 _ _ ?_)); clear hK2)
  refine st_if S (Ev.t rfl) (fun h1 => ?_) (fun h1 => ?_)
  refine wp_seq_k fun _ hK2 => ?_
  refine wp_region_lit ?_
  (refine st_y S (Yr.ys (ys_assign Ev.c)) rfl ?_; clear S a w; intro a w S)
  refine st_nil ?_
  (refine (then_normal (hK2 _ _ ?_)); clear hK2)
  refine wp_ret ?_
  refine (then_ret ?_)
  refine st_ret S (results1 S Try.results65 (Rv.tmp rfl)) ?_
  rotate_left
  refine wp_skip ?_
  (refine (then_normal (hK1 _ _ ?_)); clear hK1)
  refine wp_seq_k fun _ hK1 => ?_
  refine wp_seq_k fun _ hK2 => ?_
  refine wp_region_lit ?_
  (refine st_y S (Yr.ys (ys_move (Ev.t rfl))) rfl ?_; clear S a w; intro a w S)
  (refine st_y S (Yr.ys (ys_lenS Try.underlying30 (Ev.t rfl))) rfl ?_; clear S a w; intro a w S)
  (refine st_y S (Yr.ys (ys_move Ev.c)) rfl ?_; clear S a w; intro a w S)
  refine st_nil ?_
  (refine (then_normal (hK2 _ _ ?_)); clear hK2)
  refine wp_block ?_
  rotate_left
  · refine ⟨?_, S.wd.below⟩
    rw [decide_eq_false (fun e => h1 (by rw [e]))]
  · refine st_loopK S (X := Nat) (fun k => [(13, true, .int .i64 (k : Int))]) (fun _ L => L) (fun k => k ≤ l.length ∧ l.take k = l'.take k) (fun k => l.length - k) 0 ⟨Nat.zero_le _, rfl⟩ (by repeat (first | exact Fits.nil | refine Fits.skip rfl ?_ | refine Fits.cons rfl ?_)) (by repeat (first | exact List.Sublist.refl _ | exact List.nil_sublist _ | refine .cons_cons _ ?_ | refine .cons _ ?_)) ?_
    clear S
    intro k a w ⟨hk, hno⟩ S
    by_cases hlt : k < l.length
    · obtain ⟨g, o, m, rfl, hmm, hd, hc⟩ := row_at hA hlt
      obtain ⟨g', o', m', rfl, hmm', hd', hc'⟩ := row_at hA' (show k < l'.length by omega)
      clear hA hA'
      refine wp_seq_k fun _ hK2 => ?_
      refine wp_region_lit ?_
      (refine st_y S (Yr.ys (ys_T (by omega) (ys_lss (Ev.t rfl) (Ev.t rfl)))) rfl ?_; clear S a w; intro a w S)
      refine st_nil ?_
      (refine (then_normal (hK2 _ _ ?_)); clear hK2)
      refine wp_seq_k fun _ hK2 => ?_
      refine st_then S (Ev.t rfl) ?_
      refine wp_skip ?_
      (refine (then_normal (hK2 _ _ ?_)); clear hK2)
      refine wp_seq_k fun _ hK2 => ?_
      refine wp_block ?_
      refine wp_seq_k fun _ hK3 => ?_
      refine wp_region_lit ?_
      (refine st_y S (Yr.ys (ys_move (Ev.t rfl))) rfl ?_; clear S a w; intro a w S)
      (refine st_y S (Yr.ys (ys_assign (Ev.t rfl))) rfl ?_; clear S a w; intro a w S)
      refine st_nil ?_
      (refine (then_normal (hK3 _ _ ?_)); clear hK3)
      refine wp_seq_k fun _ hK3 => ?_
      (refine st_quiet S (by kernel_rfl) (by kernel_rfl) ?_; clear S w; intro a S)
      (refine q_y S (Yr.ys (ys_move (Ev.t rfl))) rfl ?_; clear S a; intro a S)
      (refine q_y S (Yr.ys (ys_move (Ev.t rfl))) rfl ?_; clear S a; intro a S)
      (refine q_y S (Yr.ys (ys_ixS Try.underlying30 Try.sizeOf32 (Ev.t rfl) (Ev.t rfl) (fun _ => by omega))) rfl ?_; clear S a; intro a S)
      (refine q_y S (Yr.ys (ys_ldOA ⟨Try.isAgg32, Try.sizeOf32⟩ (Ev.t rfl) (vs := [_, _, _]) rfl (fun _ => hc))) rfl ?_; clear S a; intro a S)
      (refine q_y S (Yr.ys (ys_move (Ev.t rfl))) rfl ?_; clear S a; intro a S)
      (refine q_y S (Yr.ys (ys_move (Ev.t rfl))) rfl ?_; clear S a; intro a S)
      (refine q_y S (Yr.ys (ys_ixS Try.underlying30 Try.sizeOf32 (Ev.t rfl) (Ev.t rfl) (fun _ => by omega))) rfl ?_; clear S a; intro a S)
      (refine q_y S (Yr.ys (ys_ldOA ⟨Try.isAgg32, Try.sizeOf32⟩ (Ev.t rfl) (vs := [_, _, _]) rfl (fun _ => hc'))) rfl ?_; clear S a; intro a S)
      (refine q_y S (Yr.ys (ys_neA (Ev.t rfl) (Ev.t rfl) eq32)) rfl ?_; clear S a; intro a S)
      (refine q_nil ?_; intro w W; replace S := St.mk S W; clear W)
      (refine (then_normal (hK3 _ _ ?_)); clear hK3)
      refine st_cond S (Ev.t rfl) (fun h2 => ?_) (fun h2 => ?_)
      refine wp_seq_k fun _ hK3 => ?_
      refine wp_region_lit ?_
      (refine st_y S (Yr.ys (ys_assign Ev.c)) rfl ?_; clear S a w; intro a w S)
      refine st_nil ?_
      (refine (then_normal (hK3 _ _ ?_)); clear hK3)
      refine wp_ret ?_
      refine (in_ret (then_ret (then_ret (in_ret (then_ret ?_)))))
      refine st_ret S (results1 S Try.results65 (Rv.tmp rfl)) ?_
      rotate_left
      refine wp_skip ?_
      (refine (in_normal (then_normal (hK2 _ _ ?_))); clear hK2)
      refine wp_region_lit ?_
      (refine st_y S (Yr.ys (ys_addI (Ev.t rfl) Ev.c (fun _ => by unfold I64; omega))) rfl ?_; clear S a w; intro a w S)
      (refine st_y S (Yr.ys (ys_move (Ev.t rfl))) rfl ?_; clear S a w; intro a w S)
      refine st_nil ?_
      refine (then_normal ?_)
      rotate_left
      · refine ⟨?_, S.wd.below⟩
        rw [ne_at hmm hmm' (by rw [Dot.eq_iff]; simp at h2; omega)]
      · exact ⟨k + 1, ⟨by omega, take_step hno hmm hmm' (by rw [Dot.eq_iff]; simp at h2; omega)⟩, by omega, S.weak (by repeat (first | exact Fits.nil | refine Fits.skip rfl ?_ | refine Fits.cons rfl ?_)) (by repeat (first | exact List.Sublist.refl _ | exact List.nil_sublist _ | refine .cons_cons _ ?_ | refine .cons _ ?_))⟩
    · refine wp_seq_k fun _ hK2 => ?_
      refine wp_region_lit ?_
      (refine st_y S (Yr.ys (ys_F (by omega) (ys_lss (Ev.t rfl) (Ev.t rfl)))) rfl ?_; clear S a w; intro a w S)
      refine st_nil ?_
      (refine (then_normal (hK2 _ _ ?_)); clear hK2)
      refine wp_seq_k fun _ hK2 => ?_
      refine st_else S (Ev.t rfl) ?_
      refine wp_exit ?_
      (refine (then_exit (then_exit (in_here (then_normal (hK1 _ _ ?_))))); clear hK1)
      refine wp_seq_k fun _ hK1 => ?_
      refine wp_region_lit ?_
      (refine st_y S (Yr.ys (ys_assign Ev.c)) rfl ?_; clear S a w; intro a w S)
      refine st_nil ?_
      (refine (then_normal (hK1 _ _ ?_)); clear hK1)
      refine wp_ret ?_
      refine st_ret S (results1 S Try.results65 (Rv.tmp rfl)) ?_
      refine ⟨?_, S.wd.below⟩
      rw [decide_eq_true]
      rw [List.take_of_length_le (by omega), List.take_of_length_le (by omega)] at hno
      exact hno

theorem c26 (w0 : World) (v1 v2 v3 v4 : Value) (C D : Ctx) (h : RdCtx w0 w0.heap.size v1 v2 C) (h' : RdCtx w0 w0.heap.size v3 v4 D) :
    Calls Try.prog 26 #[.agg #[v1, v2], .agg #[v3, v4]] w0 fun e w' => e = .returned (.bool (decide (C = D))) ∧ Bel w0.heap.size w0 w' := by
  obtain ⟨h1, h2⟩ := h
  obtain ⟨h3, h4⟩ := h'
  refine enter2 Try.func26 rfl Try.ntmps26 rfl fun a S => ?_
  refine wp_seq_k fun _ hK1 => ?_
  refine wp_region_lit ?_
  (refine st_m (op_box S (Ev.t rfl) rfl ?_); clear S a; intro g1 a w S)
  (refine st_m (op_box S (Ev.t rfl) rfl ?_); clear S a w; intro g2 a w S)
  (refine st_y S (Yr.ys (ys_assign Ev.c)) rfl ?_; clear S a w; intro a w S)
  refine st_nil ?_
  (refine (then_normal (hK1 _ _ ?_)); clear hK1)
  refine wp_seq_k fun _ hK1 => ?_
  refine wp_region_lit ?_
  (refine st_y S (Yr.ys (ys_fieldN (FieldT.mk Try.underlying36 rfl Try.sizeOf29 rfl) (Ev.t rfl) (i' := 0) rfl)) rfl ?_; clear S a w; intro a w S)
  (refine st_y S (Yr.ys (ys_ld ⟨Try.isAgg29, Try.sizeOf29⟩ (Ev.t rfl) (k := 1) rfl rfl)) rfl ?_; clear S a w; intro a w S)
  (refine st_y S (Yr.ys (ys_fieldN (FieldT.mk Try.underlying36 rfl Try.sizeOf29 rfl) (Ev.t rfl) (i' := 0) rfl)) rfl ?_; clear S a w; intro a w S)
  (refine st_y S (Yr.ys (ys_ld ⟨Try.isAgg29, Try.sizeOf29⟩ (Ev.t rfl) (k := 0) rfl rfl)) rfl ?_; clear S a w; intro a w S)
  (refine st_y S (ys_call Try.call64 (EvL.cons (Ev.t rfl) (EvL.cons (Ev.t rfl) EvL.nil)) (fun hp w W => c64 _ _ _ _ _ (by exact .old W (by assumption)) (by exact .old W (by assumption)))) rfl ?_; clear S a w; intro a w S)
  (refine st_y S (Yr.ys (ys_move (Ev.t rfl))) rfl ?_; clear S a w; intro a w S)
  (refine st_yg S rfl rfl (Yr.ys (ys_fieldN (FieldT.mk Try.underlying36 rfl Try.sizeOf30 rfl) (Ev.t rfl) (i' := 1) rfl)) rfl ?_; clear S a w; intro a w S)
  (refine st_yg S rfl rfl (Yr.ys (ys_ld ⟨Try.isAgg30, Try.sizeOf30⟩ (Ev.g rfl) (k := 1) rfl rfl)) rfl ?_; clear S a w; intro a w S)
  (refine st_yg S rfl rfl (Yr.ys (ys_fieldN (FieldT.mk Try.underlying36 rfl Try.sizeOf30 rfl) (Ev.t rfl) (i' := 1) rfl)) rfl ?_; clear S a w; intro a w S)
  (refine st_yg S rfl rfl (Yr.ys (ys_ld ⟨Try.isAgg30, Try.sizeOf30⟩ (Ev.g rfl) (k := 0) rfl rfl)) rfl ?_; clear S a w; intro a w S)
  (refine st_yg S rfl rfl (ys_call Try.call65 (EvL.cons (Ev.g rfl) (EvL.cons (Ev.g rfl) EvL.nil)) (fun hp w W => c65 _ _ _ _ _ (by exact .old W (by assumption)) (by exact .old W (by assumption)))) rfl ?_; clear S a w; intro a w S)
  (refine st_y S (Yr.ys (ys_and (Ev.t rfl) (Ev.g rfl) Ev.c)) rfl ?_; clear S a w; intro a w S)
  (refine st_y S (Yr.ys (ys_assign (Ev.t rfl))) rfl ?_; clear S a w; intro a w S)
  refine st_nil ?_
  (refine (then_normal (hK1 _ _ ?_)); clear hK1)
  refine wp_ret ?_
  refine st_ret S (results1 S Try.results26 (Rv.tmp rfl)) ?_
  refine ⟨?_, S.wd.below⟩
  have e : (decide (C.marks = D.marks) && decide (C.cloud = D.cloud)) = decide (C = D) := by
    rw [Bool.eq_iff_iff]
    cases C; cases D
    simp
  rw [e]

theorem c95 (w0 : World) (x y z : Int) :
    Calls Try.prog 95 #[.agg #[.int .i64 x, .int .i64 y, .int .i64 z]] w0 fun e w' => e = .returned (.bool (mayD ⟨x, y, z⟩)) ∧ Bel w0.heap.size w0 w' := by
  refine enter1 Try.func95 rfl Try.ntmps95 rfl fun a S => ?_
  refine wp_seq_k fun _ hK1 => ?_
  refine wp_region_lit ?_
  (refine st_m (op_box S (Ev.t rfl) rfl ?_); clear S a; intro g1 a w S)
  (refine st_y S (Yr.ys (ys_assign Ev.c)) rfl ?_; clear S a w; intro a w S)
  refine st_nil ?_
  (refine (then_normal (hK1 _ _ ?_)); clear hK1)
  refine wp_seq_k fun _ hK1 => ?_
  refine wp_region_lit ?_
  (refine st_y S (Yr.ys (ys_fieldN (FieldT.mk Try.underlying32 rfl Try.sizeOf3 rfl) (Ev.t rfl) (i' := 0) rfl)) rfl ?_; clear S a w; intro a w S)
  (refine st_y S (Yr.ys (ys_ld ⟨Try.isAgg3, Try.sizeOf3⟩ (Ev.t rfl) (k := 0) rfl rfl)) rfl ?_; clear S a w; intro a w S)
  (refine st_y S (Yr.ys (ys_geq (Ev.t rfl) Ev.c)) rfl ?_; clear S a w; intro a w S)
  (refine st_y S (Yr.ys (ys_move (Ev.t rfl))) rfl ?_; clear S a w; intro a w S)
  (refine st_yg S rfl rfl (Yr.ys (ys_fieldN (FieldT.mk Try.underlying32 rfl Try.sizeOf3 rfl) (Ev.t rfl) (i' := 0) rfl)) rfl ?_; clear S a w; intro a w S)
  (refine st_yg S rfl rfl (Yr.ys (ys_ld ⟨Try.isAgg3, Try.sizeOf3⟩ (Ev.g rfl) (k := 0) rfl rfl)) rfl ?_; clear S a w; intro a w S)
  (refine st_yg S rfl rfl (Yr.ys (ys_lss (Ev.g rfl) Ev.c)) rfl ?_; clear S a w; intro a w S)
  (refine st_y S (Yr.ys (ys_and (Ev.t rfl) (Ev.g rfl) Ev.c)) rfl ?_; clear S a w; intro a w S)
  (refine st_y S (Yr.ys (ys_move (Ev.t rfl))) rfl ?_; clear S a w; intro a w S)
  (refine st_yg S rfl rfl (Yr.ys (ys_fieldN (FieldT.mk Try.underlying32 rfl Try.sizeOf3 rfl) (Ev.t rfl) (i' := 1) rfl)) rfl ?_; clear S a w; intro a w S)
  (refine st_yg S rfl rfl (Yr.ys (ys_ld ⟨Try.isAgg3, Try.sizeOf3⟩ (Ev.g rfl) (k := 0) rfl rfl)) rfl ?_; clear S a w; intro a w S)
  (refine st_yg S rfl rfl (Yr.ys (ys_geq (Ev.g rfl) Ev.c)) rfl ?_; clear S a w; intro a w S)
  (refine st_y S (Yr.ys (ys_and (Ev.t rfl) (Ev.g rfl) Ev.c)) rfl ?_; clear S a w; intro a w S)
  (refine st_y S (Yr.ys (ys_move (Ev.t rfl))) rfl ?_; clear S a w; intro a w S)
  (refine st_yg S rfl rfl (Yr.ys (ys_fieldN (FieldT.mk Try.underlying32 rfl Try.sizeOf3 rfl) (Ev.t rfl) (i' := 1) rfl)) rfl ?_; clear S a w; intro a w S)
  (refine st_yg S rfl rfl (Yr.ys (ys_ld ⟨Try.isAgg3, Try.sizeOf3⟩ (Ev.g rfl) (k := 0) rfl rfl)) rfl ?_; clear S a w; intro a w S)
  (refine st_yg S rfl rfl (Yr.ys (ys_leq (Ev.g rfl) Ev.c)) rfl ?_; clear S a w; intro a w S)
  (refine st_y S (Yr.ys (ys_and (Ev.t rfl) (Ev.g rfl) Ev.c)) rfl ?_; clear S a w; intro a w S)
  (refine st_y S (Yr.ys (ys_move (Ev.t rfl))) rfl ?_; clear S a w; intro a w S)
  (refine st_yg S rfl rfl (Yr.ys (ys_fieldN (FieldT.mk Try.underlying32 rfl Try.sizeOf3 rfl) (Ev.t rfl) (i' := 2) rfl)) rfl ?_; clear S a w; intro a w S)
  (refine st_yg S rfl rfl (Yr.ys (ys_ld ⟨Try.isAgg3, Try.sizeOf3⟩ (Ev.g rfl) (k := 0) rfl rfl)) rfl ?_; clear S a w; intro a w S)
  (refine st_yg S rfl rfl (Yr.ys (ys_geq (Ev.g rfl) Ev.c)) rfl ?_; clear S a w; intro a w S)
  (refine st_y S (Yr.ys (ys_and (Ev.t rfl) (Ev.g rfl) Ev.c)) rfl ?_; clear S a w; intro a w S)
  (refine st_y S (Yr.ys (ys_move (Ev.t rfl))) rfl ?_; clear S a w; intro a w S)
  (refine st_yg S rfl rfl (Yr.ys (ys_fieldN (FieldT.mk Try.underlying32 rfl Try.sizeOf3 rfl) (Ev.t rfl) (i' := 2) rfl)) rfl ?_; clear S a w; intro a w S)
  (refine st_yg S rfl rfl (Yr.ys (ys_ld ⟨Try.isAgg3, Try.sizeOf3⟩ (Ev.g rfl) (k := 0) rfl rfl)) rfl ?_; clear S a w; intro a w S)
  (refine st_yg S rfl rfl (Yr.ys (ys_leq (Ev.g rfl) Ev.c)) rfl ?_; clear S a w; intro a w S)
  (refine st_y S (Yr.ys (ys_and (Ev.t rfl) (Ev.g rfl) Ev.c)) rfl ?_; clear S a w; intro a w S)
  (refine st_y S (Yr.ys (ys_assign (Ev.t rfl))) rfl ?_; clear S a w; intro a w S)
  refine st_nil ?_
  (refine (then_normal (hK1 _ _ ?_)); clear hK1)
  refine wp_ret ?_
  refine st_ret S (results1 S Try.results95 (Rv.tmp rfl)) ?_
  refine ⟨?_, S.wd.below⟩
  simp [mayD, Bool.and_assoc]
theorem c94 (w0 : World) (x y z : Int) :
    Calls Try.prog 94 #[.agg #[.int .i64 x, .int .i64 y, .int .i64 z]] w0 fun e w' => e = .returned (.bool (mayD ⟨x, y, z⟩)) ∧ Bel w0.heap.size w0 w' := by
  refine enter1 Try.func94 rfl Try.ntmps94 rfl fun a S => ?_
  refine wp_seq_k fun _ hK1 => ?_
  refine wp_region_lit ?_
  (refine st_m (op_box S (Ev.t rfl) rfl ?_); clear S a; intro g1 a w S)
  (refine st_y S (Yr.ys (ys_assign Ev.c)) rfl ?_; clear S a w; intro a w S)
  refine st_nil ?_
  (refine (then_normal (hK1 _ _ ?_)); clear hK1)
  refine wp_seq_k fun _ hK1 => ?_
  refine wp_region_lit ?_
  (refine st_y S (Yr.ys (ys_ldA ⟨Try.isAgg43, Try.sizeOf43⟩ (Ev.t rfl) (k := 0) rfl rfl)) rfl ?_; clear S a w; intro a w S)
  (refine st_y S (ys_call Try.call95 (EvL.cons (Ev.t rfl) EvL.nil) (fun hp w W => c95 _ _ _ _)) rfl ?_; clear S a w; intro a w S)
  (refine st_y S (Yr.ys (ys_assign (Ev.t rfl))) rfl ?_; clear S a w; intro a w S)
  refine st_nil ?_
  (refine (then_normal (hK1 _ _ ?_)); clear hK1)
  refine wp_ret ?_
  refine st_ret S (results1 S Try.results94 (Rv.tmp rfl)) ?_
  exact ⟨rfl, S.wd.below⟩
theorem c96 (w0 : World) (x y z x' y' z' : Int) :
    Calls Try.prog 96 #[.agg #[.int .i64 x, .int .i64 y, .int .i64 z], .agg #[.int .i64 x', .int .i64 y', .int .i64 z']] w0 fun e w' => e = .returned (.bool (belowD ⟨x, y, z⟩ ⟨x', y', z'⟩)) ∧ Bel w0.heap.size w0 w' := by
  refine enter2 Try.func96 rfl Try.ntmps96 rfl fun a S => ?_
  refine wp_seq_k fun _ hK1 => ?_
  refine wp_region_lit ?_
  (refine st_m (op_box S (Ev.t rfl) rfl ?_); clear S a; intro g1 a w S)
  (refine st_m (op_box S (Ev.t rfl) rfl ?_); clear S a w; intro g2 a w S)
  (refine st_y S (Yr.ys (ys_assign Ev.c)) rfl ?_; clear S a w; intro a w S)
  refine st_nil ?_
  (refine (then_normal (hK1 _ _ ?_)); clear hK1)
  refine wp_seq_k fun _ hK1 => ?_
  refine wp_seq_k fun _ hK2 => ?_
  refine wp_region_lit ?_
  (refine st_y S (Yr.ys (ys_fieldN (FieldT.mk Try.underlying32 rfl Try.sizeOf3 rfl) (Ev.t rfl) (i' := 0) rfl)) rfl ?_; clear S a w; intro a w S)
  (refine st_y S (Yr.ys (ys_ld ⟨Try.isAgg3, Try.sizeOf3⟩ (Ev.t rfl) (k := 1) rfl rfl)) rfl ?_; clear S a w; intro a w S)
  (refine st_y S (Yr.ys (ys_fieldN (FieldT.mk Try.underlying32 rfl Try.sizeOf3 rfl) (Ev.t rfl) (i' := 0) rfl)) rfl ?_; clear S a w; intro a w S)
  (refine st_y S (Yr.ys (ys_ld ⟨Try.isAgg3, Try.sizeOf3⟩ (Ev.t rfl) (k := 0) rfl rfl)) rfl ?_; clear S a w; intro a w S)
  (refine st_y S (Yr.ys (ys_neq (Ev.t rfl) (Ev.t rfl))) rfl ?_; clear S a w; intro a w S)
  refine st_nil ?_
  (refine (then_normal (hK2 _ _ ?_)); clear hK2)
  refine st_if S (Ev.t rfl) (fun h1 => ?_) (fun h1 => ?_)
  refine wp_seq_k fun _ hK2 => ?_
  refine wp_region_lit ?_
  (refine st_y S (Yr.ys (ys_fieldN (FieldT.mk Try.underlying32 rfl Try.sizeOf3 rfl) (Ev.t rfl) (i' := 0) rfl)) rfl ?_; clear S a w; intro a w S)
  (refine st_y S (Yr.ys (ys_ld ⟨Try.isAgg3, Try.sizeOf3⟩ (Ev.t rfl) (k := 1) rfl rfl)) rfl ?_; clear S a w; intro a w S)
  (refine st_y S (Yr.ys (ys_fieldN (FieldT.mk Try.underlying32 rfl Try.sizeOf3 rfl) (Ev.t rfl) (i' := 0) rfl)) rfl ?_; clear S a w; intro a w S)
  (refine st_y S (Yr.ys (ys_ld ⟨Try.isAgg3, Try.sizeOf3⟩ (Ev.t rfl) (k := 0) rfl rfl)) rfl ?_; clear S a w; intro a w S)
  (refine st_y S (Yr.ys (ys_lss (Ev.t rfl) (Ev.t rfl))) rfl ?_; clear S a w; intro a w S)
  (refine st_y S (Yr.ys (ys_assign (Ev.t rfl))) rfl ?_; clear S a w; intro a w S)
  refine st_nil ?_
  (refine (then_normal (hK2 _ _ ?_)); clear hK2)
  refine wp_ret ?_
  refine (then_ret ?_)
  refine st_ret S (results1 S Try.results96 (Rv.tmp rfl)) ?_
  rotate_left
  refine wp_skip ?_
  (refine (then_normal (hK1 _ _ ?_)); clear hK1)
  refine wp_seq_k fun _ hK1 => ?_
  refine wp_seq_k fun _ hK2 => ?_
  refine wp_region_lit ?_
  (refine st_y S (Yr.ys (ys_fieldN (FieldT.mk Try.underlying32 rfl Try.sizeOf3 rfl) (Ev.t rfl) (i' := 1) rfl)) rfl ?_; clear S a w; intro a w S)
  (refine st_y S (Yr.ys (ys_ld ⟨Try.isAgg3, Try.sizeOf3⟩ (Ev.t rfl) (k := 1) rfl rfl)) rfl ?_; clear S a w; intro a w S)
  (refine st_y S (Yr.ys (ys_fieldN (FieldT.mk Try.underlying32 rfl Try.sizeOf3 rfl) (Ev.t rfl) (i' := 1) rfl)) rfl ?_; clear S a w; intro a w S)
  (refine st_y S (Yr.ys (ys_ld ⟨Try.isAgg3, Try.sizeOf3⟩ (Ev.t rfl) (k := 0) rfl rfl)) rfl ?_; clear S a w; intro a w S)
  (refine st_y S (Yr.ys (ys_neq (Ev.t rfl) (Ev.t rfl))) rfl ?_; clear S a w; intro a w S)
  refine st_nil ?_
  (refine (then_normal (hK2 _ _ ?_)); clear hK2)
  refine st_if S (Ev.t rfl) (fun h2 => ?_) (fun h2 => ?_)
  refine wp_seq_k fun _ hK2 => ?_
  refine wp_region_lit ?_
  (refine st_y S (Yr.ys (ys_fieldN (FieldT.mk Try.underlying32 rfl Try.sizeOf3 rfl) (Ev.t rfl) (i' := 1) rfl)) rfl ?_; clear S a w; intro a w S)
  (refine st_y S (Yr.ys (ys_ld ⟨Try.isAgg3, Try.sizeOf3⟩ (Ev.t rfl) (k := 1) rfl rfl)) rfl ?_; clear S a w; intro a w S)
  (refine st_y S (Yr.ys (ys_fieldN (FieldT.mk Try.underlying32 rfl Try.sizeOf3 rfl) (Ev.t rfl) (i' := 1) rfl)) rfl ?_; clear S a w; intro a w S)
  (refine st_y S (Yr.ys (ys_ld ⟨Try.isAgg3, Try.sizeOf3⟩ (Ev.t rfl) (k := 0) rfl rfl)) rfl ?_; clear S a w; intro a w S)
  (refine st_y S (Yr.ys (ys_lss (Ev.t rfl) (Ev.t rfl))) rfl ?_; clear S a w; intro a w S)
  (refine st_y S (Yr.ys (ys_assign (Ev.t rfl))) rfl ?_; clear S a w; intro a w S)
  refine st_nil ?_
  (refine (then_normal (hK2 _ _ ?_)); clear hK2)
  refine wp_ret ?_
  refine (then_ret ?_)
  refine st_ret S (results1 S Try.results96 (Rv.tmp rfl)) ?_
  rotate_left
  refine wp_skip ?_
  (refine (then_normal (hK1 _ _ ?_)); clear hK1)
  refine wp_seq_k fun _ hK1 => ?_
  refine wp_region_lit ?_
  (refine st_y S (Yr.ys (ys_fieldN (FieldT.mk Try.underlying32 rfl Try.sizeOf3 rfl) (Ev.t rfl) (i' := 2) rfl)) rfl ?_; clear S a w; intro a w S)
  (refine st_y S (Yr.ys (ys_ld ⟨Try.isAgg3, Try.sizeOf3⟩ (Ev.t rfl) (k := 1) rfl rfl)) rfl ?_; clear S a w; intro a w S)
  (refine st_y S (Yr.ys (ys_fieldN (FieldT.mk Try.underlying32 rfl Try.sizeOf3 rfl) (Ev.t rfl) (i' := 2) rfl)) rfl ?_; clear S a w; intro a w S)
  (refine st_y S (Yr.ys (ys_ld ⟨Try.isAgg3, Try.sizeOf3⟩ (Ev.t rfl) (k := 0) rfl rfl)) rfl ?_; clear S a w; intro a w S)
  (refine st_y S (Yr.ys (ys_lss (Ev.t rfl) (Ev.t rfl))) rfl ?_; clear S a w; intro a w S)
  (refine st_y S (Yr.ys (ys_assign (Ev.t rfl))) rfl ?_; clear S a w; intro a w S)
  refine st_nil ?_
  (refine (then_normal (hK1 _ _ ?_)); clear hK1)
  refine wp_ret ?_
  refine st_ret S (results1 S Try.results96 (Rv.tmp rfl)) ?_
  rotate_left
  all_goals refine ⟨?_, S.wd.below⟩
  all_goals simp_all [belowD]

theorem c97 (w0 : World) (v1 : Value) (l : List Dot) (x y z : Int) (h : Sl Dot.enc 3 w0 w0.heap.size v1 l) (hn : l.length ≤ 4194304) :
    Rets Try.prog 97 #[v1, .agg #[.int .i64 x, .int .i64 y, .int .i64 z]] w0 fun v L => ∃ A c, v = .slice A (setL ⟨x, y, z⟩ false l).length c ∧ L = [rowOf 43 3 Dot.enc A c (setL ⟨x, y, z⟩ false l)] := by
  obtain ⟨A, cap, rfl, hl, hcap, hA⟩ := h
  unfold Go.Fw.Rets
  refine enter2 Try.func97 rfl Try.ntmps97 rfl fun a S => ?_
  refine wp_seq_k fun _ hK1 => ?_
  refine wp_region_lit ?_
  (refine st_m (op_box S (Ev.t rfl) rfl ?_); clear S a; intro g1 a w S)
  (refine st_y S (Yr.ys (ys_assign Ev.c)) rfl ?_; clear S a w; intro a w S)
  refine st_nil ?_
  (refine (then_normal (hK1 _ _ ?_)); clear hK1)
  refine wp_seq_k fun _ hK1 => ?_
  refine wp_region_lit ?_
  (refine st_y S (Yr.ys (ys_assign Ev.c)) rfl ?_; clear S a w; intro a w S)
  refine st_nil ?_
  (refine (then_normal (hK1 _ _ ?_)); clear hK1)
  refine wp_seq_k fun _ hK1 => ?_
  refine wp_region_lit ?_
  (refine st_y S (Yr.ys (ys_assign Ev.c)) rfl ?_; clear S a w; intro a w S)
  refine st_nil ?_
  (refine (then_normal (hK1 _ _ ?_)); clear hK1)
  refine wp_seq_k fun _ hK1 => ?_
  refine wp_seq_k fun _ hK2 => ?_
  refine wp_region_lit ?_
  (refine st_y S (Yr.ys (ys_move (Ev.t rfl))) rfl ?_; clear S a w; intro a w S)
  (refine st_y S (Yr.ys (ys_lenS Try.underlying29 (Ev.t rfl))) rfl ?_; clear S a w; intro a w S)
  (refine st_y S (Yr.ys (ys_move Ev.c)) rfl ?_; clear S a w; intro a w S)
  refine st_nil ?_
  (refine (then_normal (hK2 _ _ ?_)); clear hK2)
  refine wp_block ?_
  refine st_loopK (S.nil_ 43 3 Dot.enc none) (X := Nat × Bool × Option Addr × Nat × List Dot) (fun q => [(11, true, .int .i64 (q.1 : Int)), (5, true, .slice q.2.2.1 q.2.2.2.2.length q.2.2.2.1), (6, true, .bool q.2.1)])
    (fun q _ => [rowOf 43 3 Dot.enc q.2.2.1 q.2.2.2.1 q.2.2.2.2, .blk g1 (.cells #[.int .i64 x, .int .i64 y, .int .i64 z] 43)])
    (fun q => q.1 ≤ l.length ∧ q.2.2.2.2.length ≤ 2 * q.1 ∧ q.2.2.2.2 ++ setL ⟨x, y, z⟩ q.2.1 (l.drop q.1) = setL ⟨x, y, z⟩ false l) (fun q => l.length - q.1) (0, false, none, 0, []) ⟨Nat.zero_le _, Nat.zero_le _, rfl⟩ (by repeat (first | exact Fits.nil | refine Fits.skip rfl ?_ | refine Fits.cons rfl ?_)) (by repeat (first | exact List.Sublist.refl _ | exact List.nil_sublist _ | refine .cons_cons _ ?_ | refine .cons _ ?_)) ?_
  clear S
  intro ⟨k, put, B, cB, out⟩ a w ⟨hk, hout, hno⟩ S
  dsimp only at hk hout hno S
  by_cases hlt : k < l.length
  · obtain ⟨g, o, m, rfl, hmm, hd, hc⟩ := row_at hA hlt
    clear hA
    refine wp_seq_k fun _ hK2 => ?_
    refine wp_region_lit ?_
    (refine st_y S (Yr.ys (ys_T (by omega) (ys_lss (Ev.t rfl) (Ev.t rfl)))) rfl ?_; clear S a w; intro a w S)
    refine st_nil ?_
    (refine (then_normal (hK2 _ _ ?_)); clear hK2)
    refine wp_seq_k fun _ hK2 => ?_
    refine st_then S (Ev.t rfl) ?_
    refine wp_skip ?_
    (refine (then_normal (hK2 _ _ ?_)); clear hK2)
    refine wp_seq_k fun _ hK2 => ?_
    refine wp_block ?_
    refine wp_seq_k fun _ hK3 => ?_
    refine wp_region_lit ?_
    (refine st_y S (Yr.ys (ys_ixS Try.underlying29 Try.sizeOf43 (Ev.t rfl) (Ev.t rfl) (fun _ => by omega))) rfl ?_; clear S a w; intro a w S)
    (refine st_y S (Yr.ys (ys_ldOA ⟨Try.isAgg43, Try.sizeOf43⟩ (Ev.t rfl) (vs := [_, _, _]) rfl (fun _ => hc))) rfl ?_; clear S a w; intro a w S)
    (refine st_m (op_alloc S Try.zeroValue43 (cs := _) rfl rfl ?_); clear S a w; intro g2 a w S)
    (refine st_m (op_stW S Try.sizeOf43 (Ev.t rfl) (Ev.t rfl) (k := 0) rfl rfl rfl (by simp [Value.oneCell']) ?_); clear S a w; intro a w S)
    refine st_nil ?_
    (refine (then_normal (hK3 _ _ ?_)); clear hK3)
    refine wp_seq_k fun _ hK3 => ?_
    refine wp_seq_k fun _ hK4 => ?_
    refine wp_region_lit ?_
    (refine st_y S (Yr.ys (ys_fieldN (FieldT.mk Try.underlying43 rfl Try.sizeOf3 rfl) (Ev.t rfl) (i' := 0) rfl)) rfl ?_; clear S a w; intro a w S)
    (refine st_y S (Yr.ys (ys_ld ⟨Try.isAgg3, Try.sizeOf3⟩ (Ev.t rfl) (k := 0) rfl rfl)) rfl ?_; clear S a w; intro a w S)
    (refine st_y S (Yr.ys (ys_fieldN (FieldT.mk Try.underlying43 rfl Try.sizeOf3 rfl) (Ev.t rfl) (i' := 0) rfl)) rfl ?_; clear S a w; intro a w S)
    (refine st_y S (Yr.ys (ys_ld ⟨Try.isAgg3, Try.sizeOf3⟩ (Ev.t rfl) (k := 2) rfl rfl)) rfl ?_; clear S a w; intro a w S)
    (refine st_y S (Yr.ys (ys_eql (Ev.t rfl) (Ev.t rfl))) rfl ?_; clear S a w; intro a w S)
    (refine st_y S (Yr.ys (ys_move (Ev.t rfl))) rfl ?_; clear S a w; intro a w S)
    (refine st_yg S rfl rfl (Yr.ys (ys_fieldN (FieldT.mk Try.underlying43 rfl Try.sizeOf3 rfl) (Ev.t rfl) (i' := 1) rfl)) rfl ?_; clear S a w; intro a w S)
    (refine st_yg S rfl rfl (Yr.ys (ys_ld ⟨Try.isAgg3, Try.sizeOf3⟩ (Ev.g rfl) (k := 0) rfl rfl)) rfl ?_; clear S a w; intro a w S)
    (refine st_yg S rfl rfl (Yr.ys (ys_fieldN (FieldT.mk Try.underlying43 rfl Try.sizeOf3 rfl) (Ev.t rfl) (i' := 1) rfl)) rfl ?_; clear S a w; intro a w S)
    (refine st_yg S rfl rfl (Yr.ys (ys_ld ⟨Try.isAgg3, Try.sizeOf3⟩ (Ev.g rfl) (k := 2) rfl rfl)) rfl ?_; clear S a w; intro a w S)
    (refine st_yg S rfl rfl (Yr.ys (ys_eql (Ev.g rfl) (Ev.g rfl))) rfl ?_; clear S a w; intro a w S)
    (refine st_y S (Yr.ys (ys_and (Ev.t rfl) (Ev.g rfl) Ev.c)) rfl ?_; clear S a w; intro a w S)
    refine st_nil ?_
    (refine (then_normal (hK4 _ _ ?_)); clear hK4)
    refine st_cond S (Ev.t rfl) (fun h1 => ?_) (fun h1 => ?_)
    refine wp_seq_k fun _ hK4 => ?_
    refine wp_region_lit ?_
    (refine st_y S (Yr.ys (ys_move (Ev.t rfl))) rfl ?_; clear S a w; intro a w S)
    (refine st_y S (Yr.ys (ys_fieldN (FieldT.mk Try.underlying43 rfl Try.sizeOf3 rfl) (Ev.t rfl) (i' := 0) rfl)) rfl ?_; clear S a w; intro a w S)
    (refine st_y S (Yr.ys (ys_ld ⟨Try.isAgg3, Try.sizeOf3⟩ (Ev.t rfl) (k := 0) rfl rfl)) rfl ?_; clear S a w; intro a w S)
    (refine st_y S (Yr.ys (ys_fieldN (FieldT.mk Try.underlying43 rfl Try.sizeOf3 rfl) (Ev.t rfl) (i' := 1) rfl)) rfl ?_; clear S a w; intro a w S)
    (refine st_y S (Yr.ys (ys_ld ⟨Try.isAgg3, Try.sizeOf3⟩ (Ev.t rfl) (k := 0) rfl rfl)) rfl ?_; clear S a w; intro a w S)
    (refine st_y S (Yr.ys (ys_fieldN (FieldT.mk Try.underlying43 rfl Try.sizeOf3 rfl) (Ev.t rfl) (i' := 2) rfl)) rfl ?_; clear S a w; intro a w S)
    (refine st_y S (Yr.ys (ys_ld ⟨Try.isAgg3, Try.sizeOf3⟩ (Ev.t rfl) (k := 0) rfl rfl)) rfl ?_; clear S a w; intro a w S)
    (refine st_y S (Yr.ys (ys_fieldN (FieldT.mk Try.underlying43 rfl Try.sizeOf3 rfl) (Ev.t rfl) (i' := 2) rfl)) rfl ?_; clear S a w; intro a w S)
    (refine st_y S (Yr.ys (ys_ld ⟨Try.isAgg3, Try.sizeOf3⟩ (Ev.t rfl) (k := 2) rfl rfl)) rfl ?_; clear S a w; intro a w S)
    (refine st_y S (Yr.ys (ys_max (Ev.t rfl) (Ev.t rfl))) rfl ?_; clear S a w; intro a w S)
    (refine st_y S (Yr.ys (ys_bld (ps := [(0, Go.Operand.tmp 29), (1, Go.Operand.tmp 31), (2, Go.Operand.tmp 36)]) (us := [_, _, _]) bld43 (EvL.cons (Ev.t rfl) (EvL.cons (Ev.t rfl) (EvL.cons (Ev.t rfl) EvL.nil))) rfl)) rfl ?_; clear S a w; intro a w S)
    (refine st_m (op_bslice1 S Try.underlying29 inf43 rfl rfl rfl (Ev.t rfl) rfl rfl rfl ?_); clear S a w; intro g3 a w S)
    (refine st_m (op_push S Try.underlying29 inf43 rfl (k := 2) (j := 0) rfl (Ev.t rfl) (Ev.t rfl) rfl Go.Fw.Dot.mkEnc rfl rfl (by first | omega | (simp only [List.length_append, List.length_cons, List.length_nil]; omega)) rfl rfl rfl ?_); clear S a w; intro A1 cap1 a w S)
    (refine st_y S (Yr.ys (ys_assign (Ev.t rfl))) rfl ?_; clear S a w; intro a w S)
    refine st_nil ?_
    (refine (then_normal (hK4 _ _ ?_)); clear hK4)
    refine wp_seq_k fun _ hK4 => ?_
    refine wp_region_lit ?_
    (refine st_y S (Yr.ys (ys_assign Ev.c)) rfl ?_; clear S a w; intro a w S)
    refine st_nil ?_
    (refine (then_normal (hK4 _ _ ?_)); clear hK4)
    refine wp_exit ?_
    (refine (then_exit (in_here (then_normal (hK2 _ _ ?_)))); clear hK2)
    refine wp_region_lit ?_
    (refine st_y S (Yr.ys (ys_addI (Ev.t rfl) Ev.c (fun _ => by unfold I64; omega))) rfl ?_; clear S a w; intro a w S)
    (refine st_y S (Yr.ys (ys_move (Ev.t rfl))) rfl ?_; clear S a w; intro a w S)
    refine st_nil ?_
    refine (then_normal ?_)
    rotate_left
    refine wp_skip ?_
    (refine (then_normal (hK3 _ _ ?_)); clear hK3)
    refine wp_seq_k fun _ hK3 => ?_
    refine wp_seq_k fun _ hK4 => ?_
    refine wp_region_lit ?_
    (refine st_y S (Yr.ys (ys_move (Ev.t rfl))) rfl ?_; clear S a w; intro a w S)
    (refine st_y S (Yr.ys (ys_not (Ev.t rfl))) rfl ?_; clear S a w; intro a w S)
    (refine st_y S (Yr.ys (ys_move (Ev.t rfl))) rfl ?_; clear S a w; intro a w S)
    (refine st_yg S rfl rfl (Yr.ys (ys_fieldN (FieldT.mk Try.underlying43 rfl Try.sizeOf3 rfl) (Ev.t rfl) (i' := 0) rfl)) rfl ?_; clear S a w; intro a w S)
    (refine st_yg S rfl rfl (Yr.ys (ys_ld ⟨Try.isAgg3, Try.sizeOf3⟩ (Ev.g rfl) (k := 2) rfl rfl)) rfl ?_; clear S a w; intro a w S)
    (refine st_yg S rfl rfl (Yr.ys (ys_fieldN (FieldT.mk Try.underlying43 rfl Try.sizeOf3 rfl) (Ev.t rfl) (i' := 1) rfl)) rfl ?_; clear S a w; intro a w S)
    (refine st_yg S rfl rfl (Yr.ys (ys_ld ⟨Try.isAgg3, Try.sizeOf3⟩ (Ev.g rfl) (k := 2) rfl rfl)) rfl ?_; clear S a w; intro a w S)
    (refine st_yg S rfl rfl (Yr.ys (ys_bld (ps := [(0, Go.Operand.tmp 44), (1, Go.Operand.tmp 46)]) (us := [_, _, _]) bld32 (EvL.cons (Ev.g rfl) (EvL.cons (Ev.g rfl) EvL.nil)) rfl)) rfl ?_; clear S a w; intro a w S)
    (refine st_yg S rfl rfl (Yr.ys (ys_fieldN (FieldT.mk Try.underlying43 rfl Try.sizeOf3 rfl) (Ev.t rfl) (i' := 0) rfl)) rfl ?_; clear S a w; intro a w S)
    (refine st_yg S rfl rfl (Yr.ys (ys_ld ⟨Try.isAgg3, Try.sizeOf3⟩ (Ev.g rfl) (k := 0) rfl rfl)) rfl ?_; clear S a w; intro a w S)
    (refine st_yg S rfl rfl (Yr.ys (ys_fieldN (FieldT.mk Try.underlying43 rfl Try.sizeOf3 rfl) (Ev.t rfl) (i' := 1) rfl)) rfl ?_; clear S a w; intro a w S)
    (refine st_yg S rfl rfl (Yr.ys (ys_ld ⟨Try.isAgg3, Try.sizeOf3⟩ (Ev.g rfl) (k := 0) rfl rfl)) rfl ?_; clear S a w; intro a w S)
    (refine st_yg S rfl rfl (Yr.ys (ys_bld (ps := [(0, Go.Operand.tmp 49), (1, Go.Operand.tmp 51)]) (us := [_, _, _]) bld32 (EvL.cons (Ev.g rfl) (EvL.cons (Ev.g rfl) EvL.nil)) rfl)) rfl ?_; clear S a w; intro a w S)
    (refine st_yg S rfl rfl (ys_call Try.call96 (EvL.cons (Ev.g rfl) (EvL.cons (Ev.g rfl) EvL.nil)) (fun hp w W => c96 _ _ _ _ _ _ _)) rfl ?_; clear S a w; intro a w S)
    (refine st_y S (Yr.ys (ys_and (Ev.t rfl) (Ev.g rfl) Ev.c)) rfl ?_; clear S a w; intro a w S)
    refine st_nil ?_
    (refine (then_normal (hK4 _ _ ?_)); clear hK4)
    refine st_cond S (Ev.t rfl) (fun h2 => ?_) (fun h2 => ?_)
    refine wp_seq_k fun _ hK4 => ?_
    refine wp_region_lit ?_
    (refine st_y S (Yr.ys (ys_move (Ev.t rfl))) rfl ?_; clear S a w; intro a w S)
    (refine st_y S (Yr.ys (ys_ldA ⟨Try.isAgg43, Try.sizeOf43⟩ (Ev.t rfl) (k := 2) rfl rfl)) rfl ?_; clear S a w; intro a w S)
    (refine st_m (op_bslice1 S Try.underlying29 inf43 rfl rfl rfl (Ev.t rfl) rfl rfl rfl ?_); clear S a w; intro g3 a w S)
    (refine st_m (op_push S Try.underlying29 inf43 rfl (k := 2) (j := 0) rfl (Ev.t rfl) (Ev.t rfl) rfl Go.Fw.Dot.mkEnc rfl rfl (by first | omega | (simp only [List.length_append, List.length_cons, List.length_nil]; omega)) rfl rfl rfl ?_); clear S a w; intro A1 cap1 a w S)
    (refine st_y S (Yr.ys (ys_assign (Ev.t rfl))) rfl ?_; clear S a w; intro a w S)
    refine st_nil ?_
    (refine (then_normal (hK4 _ _ ?_)); clear hK4)
    refine wp_region_lit ?_
    (refine st_y S (Yr.ys (ys_assign Ev.c)) rfl ?_; clear S a w; intro a w S)
    refine st_nil ?_
    (refine (then_normal (hK3 _ _ ?_)); clear hK3)
    refine wp_region_lit ?_
    (refine st_y S (Yr.ys (ys_move (Ev.t rfl))) rfl ?_; clear S a w; intro a w S)
    (refine st_y S (Yr.ys (ys_ldA ⟨Try.isAgg43, Try.sizeOf43⟩ (Ev.t rfl) (k := 1) rfl rfl)) rfl ?_; clear S a w; intro a w S)
    (refine st_m (op_bslice1 S Try.underlying29 inf43 rfl rfl rfl (Ev.t rfl) rfl rfl rfl ?_); clear S a w; intro g4 a w S)
    (refine st_m (op_push S Try.underlying29 inf43 rfl (k := 3) (j := 0) rfl (Ev.t rfl) (Ev.t rfl) rfl rfl rfl rfl (by first | omega | (simp only [List.length_append, List.length_cons, List.length_nil]; omega)) rfl rfl rfl ?_); clear S a w; intro A2 cap2 a w S)
    (refine st_y S (Yr.ys (ys_assign (Ev.t rfl))) rfl ?_; clear S a w; intro a w S)
    refine st_nil ?_
    (refine (in_normal (then_normal (hK2 _ _ ?_))); clear hK2)
    refine wp_region_lit ?_
    (refine st_y S (Yr.ys (ys_addI (Ev.t rfl) Ev.c (fun _ => by unfold I64; omega))) rfl ?_; clear S a w; intro a w S)
    (refine st_y S (Yr.ys (ys_move (Ev.t rfl))) rfl ?_; clear S a w; intro a w S)
    refine st_nil ?_
    refine (then_normal ?_)
    rotate_left
    refine wp_skip ?_
    (refine (then_normal (hK3 _ _ ?_)); clear hK3)
    refine wp_region_lit ?_
    (refine st_y S (Yr.ys (ys_move (Ev.t rfl))) rfl ?_; clear S a w; intro a w S)
    (refine st_y S (Yr.ys (ys_ldA ⟨Try.isAgg43, Try.sizeOf43⟩ (Ev.t rfl) (k := 0) rfl rfl)) rfl ?_; clear S a w; intro a w S)
    (refine st_m (op_bslice1 S Try.underlying29 inf43 rfl rfl rfl (Ev.t rfl) rfl rfl rfl ?_); clear S a w; intro g3 a w S)
    (refine st_m (op_push S Try.underlying29 inf43 rfl (k := 2) (j := 0) rfl (Ev.t rfl) (Ev.t rfl) rfl rfl rfl rfl (by first | omega | (simp only [List.length_append, List.length_cons, List.length_nil]; omega)) rfl rfl rfl ?_); clear S a w; intro A1 cap1 a w S)
    (refine st_y S (Yr.ys (ys_assign (Ev.t rfl))) rfl ?_; clear S a w; intro a w S)
    refine st_nil ?_
    (refine (in_normal (then_normal (hK2 _ _ ?_))); clear hK2)
    refine wp_region_lit ?_
    (refine st_y S (Yr.ys (ys_addI (Ev.t rfl) Ev.c (fun _ => by unfold I64; omega))) rfl ?_; clear S a w; intro a w S)
    (refine st_y S (Yr.ys (ys_move (Ev.t rfl))) rfl ?_; clear S a w; intro a w S)
    refine st_nil ?_
    refine (then_normal ?_)
    rotate_left
    · rw [hd, setL, if_pos (by simpa using h1)] at hno
      exact ⟨(k + 1, true, A1, cap1, out ++ [⟨m.node, m.life, max m.count z⟩]), ⟨by dsimp only; omega, by simp; omega, by rw [← hno, List.append_assoc]; rfl⟩, by dsimp only; omega, S.weak (by repeat (first | exact Fits.nil | refine Fits.skip rfl ?_ | refine Fits.cons rfl ?_)) (by repeat (first | exact List.Sublist.refl _ | exact List.nil_sublist _ | refine .cons_cons _ ?_ | refine .cons _ ?_))⟩
    · rw [hd, setL, if_neg (by simpa using h1), if_pos h2] at hno
      exact ⟨(k + 1, true, A2, cap2, out ++ [⟨x, y, z⟩] ++ [m]), ⟨by dsimp only; omega, by simp; omega, by rw [← hno, List.append_assoc, List.append_assoc]; rfl⟩, by dsimp only; omega, S.weak (by repeat (first | exact Fits.nil | refine Fits.skip rfl ?_ | refine Fits.cons rfl ?_)) (by repeat (first | exact List.Sublist.refl _ | exact List.nil_sublist _ | refine .cons_cons _ ?_ | refine .cons _ ?_))⟩
    · rw [hd, setL, if_neg (by simpa using h1), if_neg (by rw [h2]; simp)] at hno
      exact ⟨(k + 1, put, A1, cap1, out ++ [m]), ⟨by dsimp only; omega, by simp; omega, by rw [← hno, List.append_assoc]; rfl⟩, by dsimp only; omega, S.weak (by repeat (first | exact Fits.nil | refine Fits.skip rfl ?_ | refine Fits.cons rfl ?_)) (by repeat (first | exact List.Sublist.refl _ | exact List.nil_sublist _ | refine .cons_cons _ ?_ | refine .cons _ ?_))⟩
  · have hend : k = l.length := by omega
    subst hend
    rw [List.drop_length, setL] at hno
    cases put
    · rw [if_neg (by simp)] at hno
      refine wp_seq_k fun _ hK2 => ?_
      refine wp_region_lit ?_
      (refine st_y S (Yr.ys (ys_F (by omega) (ys_lss (Ev.t rfl) (Ev.t rfl)))) rfl ?_; clear S a w; intro a w S)
      refine st_nil ?_
      (refine (then_normal (hK2 _ _ ?_)); clear hK2)
      refine wp_seq_k fun _ hK2 => ?_
      refine st_else S (Ev.t rfl) ?_
      refine wp_exit ?_
      (refine (then_exit (then_exit (in_here (then_normal (hK1 _ _ ?_))))); clear hK1)
      refine wp_seq_k fun _ hK1 => ?_
      refine wp_seq_k fun _ hK3 => ?_
      refine wp_region_lit ?_
      (refine st_y S (Yr.ys (ys_move (Ev.t rfl))) rfl ?_; clear S a w; intro a w S)
      (refine st_y S (Yr.ys (ys_not (Ev.t rfl))) rfl ?_; clear S a w; intro a w S)
      refine st_nil ?_
      (refine (then_normal (hK3 _ _ ?_)); clear hK3)
      refine st_then S (Ev.t rfl) ?_
      refine wp_region_lit ?_
      (refine st_y S (Yr.ys (ys_move (Ev.t rfl))) rfl ?_; clear S a w; intro a w S)
      (refine st_y S (Yr.ys (ys_ldA ⟨Try.isAgg43, Try.sizeOf43⟩ (Ev.t rfl) (k := 1) rfl rfl)) rfl ?_; clear S a w; intro a w S)
      (refine st_m (op_bslice1 S Try.underlying29 inf43 rfl rfl rfl (Ev.t rfl) rfl rfl rfl ?_); clear S a w; intro g2 a w S)
      (refine st_m (op_push S Try.underlying29 inf43 rfl (k := 1) (j := 0) rfl (Ev.t rfl) (Ev.t rfl) rfl Go.Fw.Dot.mkEnc rfl rfl (by first | omega | (simp only [List.length_append, List.length_cons, List.length_nil]; omega)) rfl rfl rfl ?_); clear S a w; intro A1 cap1 a w S)
      (refine st_y S (Yr.ys (ys_assign (Ev.t rfl))) rfl ?_; clear S a w; intro a w S)
      refine st_nil ?_
      (refine (then_normal (hK1 _ _ ?_)); clear hK1)
      refine wp_seq_k fun _ hK1 => ?_
      refine wp_region_lit ?_
      (refine st_y S (Yr.ys (ys_move (Ev.t rfl))) rfl ?_; clear S a w; intro a w S)
      (refine st_y S (Yr.ys (ys_assign (Ev.t rfl))) rfl ?_; clear S a w; intro a w S)
      refine st_nil ?_
      (refine (then_normal (hK1 _ _ ?_)); clear hK1)
      refine wp_ret ?_
      refine st_ret S (results1 S Try.results97 (Rv.tmp rfl)) ?_
      rw [hno] at S ⊢
      exact ⟨_, _, rfl, S.wd.sub (by repeat (first | exact List.Sublist.refl _ | exact List.nil_sublist _ | refine .cons_cons _ ?_ | refine .cons _ ?_)), A1, cap1, rfl, rfl⟩
    · rw [if_pos rfl, List.append_nil] at hno
      subst hno
      refine wp_seq_k fun _ hK2 => ?_
      refine wp_region_lit ?_
      (refine st_y S (Yr.ys (ys_F (by omega) (ys_lss (Ev.t rfl) (Ev.t rfl)))) rfl ?_; clear S a w; intro a w S)
      refine st_nil ?_
      (refine (then_normal (hK2 _ _ ?_)); clear hK2)
      refine wp_seq_k fun _ hK2 => ?_
      refine st_else S (Ev.t rfl) ?_
      refine wp_exit ?_
      (refine (then_exit (then_exit (in_here (then_normal (hK1 _ _ ?_))))); clear hK1)
      refine wp_seq_k fun _ hK1 => ?_
      refine wp_seq_k fun _ hK3 => ?_
      refine wp_region_lit ?_
      (refine st_y S (Yr.ys (ys_move (Ev.t rfl))) rfl ?_; clear S a w; intro a w S)
      (refine st_y S (Yr.ys (ys_not (Ev.t rfl))) rfl ?_; clear S a w; intro a w S)
      refine st_nil ?_
      (refine (then_normal (hK3 _ _ ?_)); clear hK3)
      refine st_else S (Ev.t rfl) ?_
      refine wp_skip ?_
      (refine (then_normal (hK1 _ _ ?_)); clear hK1)
      refine wp_seq_k fun _ hK1 => ?_
      refine wp_region_lit ?_
      (refine st_y S (Yr.ys (ys_move (Ev.t rfl))) rfl ?_; clear S a w; intro a w S)
      (refine st_y S (Yr.ys (ys_assign (Ev.t rfl))) rfl ?_; clear S a w; intro a w S)
      refine st_nil ?_
      (refine (then_normal (hK1 _ _ ?_)); clear hK1)
      refine wp_ret ?_
      refine st_ret S (results1 S Try.results97 (Rv.tmp rfl)) ?_
      exact ⟨_, _, rfl, S.wd.sub (by repeat (first | exact List.Sublist.refl _ | exact List.nil_sublist _ | refine .cons_cons _ ?_ | refine .cons _ ?_)), B, cB, rfl, rfl⟩
theorem c98 (w0 : World) (v1 : Value) (l : List Dot) (x y z : Int) (h : Sl Dot.enc 3 w0 w0.heap.size v1 l) (hn : l.length ≤ 4194304) :
    Rets Try.prog 98 #[v1, .agg #[.int .i64 x, .int .i64 y, .int .i64 z]] w0 fun v L => ∃ A c, v = .slice A (insL ⟨x, y, z⟩ false l).length c ∧ L = [rowOf 32 3 Dot.enc A c (insL ⟨x, y, z⟩ false l)] := by
  obtain ⟨A, cap, rfl, hl, hcap, hA⟩ := h
  unfold Go.Fw.Rets
  refine enter2 Try.func98 rfl Try.ntmps98 rfl fun a S => ?_
  refine wp_seq_k fun _ hK1 => ?_
  refine wp_region_lit ?_
  (refine st_m (op_box S (Ev.t rfl) rfl ?_); clear S a; intro g1 a w S)
  (refine st_y S (Yr.ys (ys_assign Ev.c)) rfl ?_; clear S a w; intro a w S)
  refine st_nil ?_
  (refine (then_normal (hK1 _ _ ?_)); clear hK1)
  refine wp_seq_k fun _ hK1 => ?_
  refine wp_region_lit ?_
  (refine st_y S (Yr.ys (ys_assign Ev.c)) rfl ?_; clear S a w; intro a w S)
  refine st_nil ?_
  (refine (then_normal (hK1 _ _ ?_)); clear hK1)
  refine wp_seq_k fun _ hK1 => ?_
  refine wp_region_lit ?_
  (refine st_y S (Yr.ys (ys_assign Ev.c)) rfl ?_; clear S a w; intro a w S)
  refine st_nil ?_
  (refine (then_normal (hK1 _ _ ?_)); clear hK1)
  refine wp_seq_k fun _ hK1 => ?_
  refine wp_seq_k fun _ hK2 => ?_
  refine wp_region_lit ?_
  (refine st_y S (Yr.ys (ys_move (Ev.t rfl))) rfl ?_; clear S a w; intro a w S)
  (refine st_y S (Yr.ys (ys_lenS Try.underlying30 (Ev.t rfl))) rfl ?_; clear S a w; intro a w S)
  (refine st_y S (Yr.ys (ys_move Ev.c)) rfl ?_; clear S a w; intro a w S)
  refine st_nil ?_
  (refine (then_normal (hK2 _ _ ?_)); clear hK2)
  refine wp_block ?_
  refine st_loopK (S.nil_ 32 3 Dot.enc none) (X := Nat × Bool × Option Addr × Nat × List Dot) (fun q => [(11, true, .int .i64 (q.1 : Int)), (5, true, .slice q.2.2.1 q.2.2.2.2.length q.2.2.2.1), (6, true, .bool q.2.1)])
    (fun q _ => [rowOf 32 3 Dot.enc q.2.2.1 q.2.2.2.1 q.2.2.2.2, .blk g1 (.cells #[.int .i64 x, .int .i64 y, .int .i64 z] 32)])
    (fun q => q.1 ≤ l.length ∧ q.2.2.2.2.length ≤ 2 * q.1 ∧ q.2.2.2.2 ++ insL ⟨x, y, z⟩ q.2.1 (l.drop q.1) = insL ⟨x, y, z⟩ false l) (fun q => l.length - q.1) (0, false, none, 0, []) ⟨Nat.zero_le _, Nat.zero_le _, rfl⟩ (by repeat (first | exact Fits.nil | refine Fits.skip rfl ?_ | refine Fits.cons rfl ?_)) (by repeat (first | exact List.Sublist.refl _ | exact List.nil_sublist _ | refine .cons_cons _ ?_ | refine .cons _ ?_)) ?_
  clear S
  intro ⟨k, put, B, cB, out⟩ a w ⟨hk, hout, hno⟩ S
  dsimp only at hk hout hno S
  by_cases hlt : k < l.length
  · obtain ⟨g, o, m, rfl, hmm, hd, hc⟩ := row_at hA hlt
    clear hA
    refine wp_seq_k fun _ hK2 => ?_
    refine wp_region_lit ?_
    (refine st_y S (Yr.ys (ys_T (by omega) (ys_lss (Ev.t rfl) (Ev.t rfl)))) rfl ?_; clear S a w; intro a w S)
    refine st_nil ?_
    (refine (then_normal (hK2 _ _ ?_)); clear hK2)
    refine wp_seq_k fun _ hK2 => ?_
    refine st_then S (Ev.t rfl) ?_
    refine wp_skip ?_
    (refine (then_normal (hK2 _ _ ?_)); clear hK2)
    refine wp_seq_k fun _ hK2 => ?_
    refine wp_block ?_
    refine wp_seq_k fun _ hK3 => ?_
    refine wp_region_lit ?_
    (refine st_y S (Yr.ys (ys_ixS Try.underlying30 Try.sizeOf32 (Ev.t rfl) (Ev.t rfl) (fun _ => by omega))) rfl ?_; clear S a w; intro a w S)
    (refine st_y S (Yr.ys (ys_ldOA ⟨Try.isAgg32, Try.sizeOf32⟩ (Ev.t rfl) (vs := [_, _, _]) rfl (fun _ => hc))) rfl ?_; clear S a w; intro a w S)
    (refine st_m (op_alloc S Try.zeroValue32 (cs := _) rfl rfl ?_); clear S a w; intro g2 a w S)
    (refine st_m (op_stW S Try.sizeOf32 (Ev.t rfl) (Ev.t rfl) (k := 0) rfl rfl rfl (by simp [Value.oneCell']) ?_); clear S a w; intro a w S)
    refine st_nil ?_
    (refine (then_normal (hK3 _ _ ?_)); clear hK3)
    refine wp_seq_k fun _ hK3 => ?_
    refine wp_seq_k fun _ hK4 => ?_
    refine wp_region_lit ?_
    (refine st_y S (Yr.ys (ys_ldA ⟨Try.isAgg32, Try.sizeOf32⟩ (Ev.t rfl) (k := 0) rfl rfl)) rfl ?_; clear S a w; intro a w S)
    (refine st_y S (Yr.ys (ys_ldA ⟨Try.isAgg32, Try.sizeOf32⟩ (Ev.t rfl) (k := 2) rfl rfl)) rfl ?_; clear S a w; intro a w S)
    (refine st_y S (Yr.ys (ys_eqA (Ev.t rfl) (Ev.t rfl) eq32)) rfl ?_; clear S a w; intro a w S)
    refine st_nil ?_
    (refine (then_normal (hK4 _ _ ?_)); clear hK4)
    refine st_if S (Ev.t rfl) (fun h1 => ?_) (fun h1 => ?_)
    refine wp_region_lit ?_
    (refine st_y S (Yr.ys (ys_assign Ev.c)) rfl ?_; clear S a w; intro a w S)
    refine st_nil ?_
    (refine (then_normal (hK3 _ _ ?_)); clear hK3)
    refine wp_seq_k fun _ hK3 => ?_
    refine wp_seq_k fun _ hK4 => ?_
    refine wp_region_lit ?_
    (refine st_y S (Yr.ys (ys_move (Ev.t rfl))) rfl ?_; clear S a w; intro a w S)
    (refine st_y S (Yr.ys (ys_not (Ev.t rfl))) rfl ?_; clear S a w; intro a w S)
    (refine st_y S (Yr.ys (ys_move (Ev.t rfl))) rfl ?_; clear S a w; intro a w S)
    (refine st_skip S rfl rfl rfl rfl ?_; clear S a w; intro a w S)
    (refine st_skip S rfl rfl rfl rfl ?_; clear S a w; intro a w S)
    (refine st_skip S rfl rfl rfl rfl ?_; clear S a w; intro a w S)
    (refine st_y S (Yr.ys (ys_pickF (Ev.t rfl) Ev.c)) rfl ?_; clear S a w; intro a w S)
    refine st_nil ?_
    (refine (then_normal (hK4 _ _ ?_)); clear hK4)
    refine st_else S (Ev.t rfl) ?_
    refine wp_skip ?_
    (refine (then_normal (hK3 _ _ ?_)); clear hK3)
    refine wp_region_lit ?_
    (refine st_y S (Yr.ys (ys_move (Ev.t rfl))) rfl ?_; clear S a w; intro a w S)
    (refine st_y S (Yr.ys (ys_ldA ⟨Try.isAgg32, Try.sizeOf32⟩ (Ev.t rfl) (k := 0) rfl rfl)) rfl ?_; clear S a w; intro a w S)
    (refine st_m (op_bslice1 S Try.underlying30 inf32 rfl rfl rfl (Ev.t rfl) rfl rfl rfl ?_); clear S a w; intro g3 a w S)
    (refine st_m (op_push S Try.underlying30 inf32 rfl (k := 2) (j := 0) rfl (Ev.t rfl) (Ev.t rfl) rfl rfl rfl rfl (by first | omega | (simp only [List.length_append, List.length_cons, List.length_nil]; omega)) rfl rfl rfl ?_); clear S a w; intro A1 cap1 a w S)
    (refine st_y S (Yr.ys (ys_assign (Ev.t rfl))) rfl ?_; clear S a w; intro a w S)
    refine st_nil ?_
    (refine (in_normal (then_normal (hK2 _ _ ?_))); clear hK2)
    refine wp_region_lit ?_
    (refine st_y S (Yr.ys (ys_addI (Ev.t rfl) Ev.c (fun _ => by unfold I64; omega))) rfl ?_; clear S a w; intro a w S)
    (refine st_y S (Yr.ys (ys_move (Ev.t rfl))) rfl ?_; clear S a w; intro a w S)
    refine st_nil ?_
    refine (then_normal ?_)
    rotate_left
    refine wp_skip ?_
    (refine (then_normal (hK3 _ _ ?_)); clear hK3)
    refine wp_seq_k fun _ hK3 => ?_
    refine wp_seq_k fun _ hK4 => ?_
    refine wp_region_lit ?_
    (refine st_y S (Yr.ys (ys_move (Ev.t rfl))) rfl ?_; clear S a w; intro a w S)
    (refine st_y S (Yr.ys (ys_not (Ev.t rfl))) rfl ?_; clear S a w; intro a w S)
    (refine st_y S (Yr.ys (ys_move (Ev.t rfl))) rfl ?_; clear S a w; intro a w S)
    (refine st_yg S rfl rfl (Yr.ys (ys_ldA ⟨Try.isAgg32, Try.sizeOf32⟩ (Ev.t rfl) (k := 2) rfl rfl)) rfl ?_; clear S a w; intro a w S)
    (refine st_yg S rfl rfl (Yr.ys (ys_ldA ⟨Try.isAgg32, Try.sizeOf32⟩ (Ev.t rfl) (k := 0) rfl rfl)) rfl ?_; clear S a w; intro a w S)
    (refine st_yg S rfl rfl (ys_call Try.call96 (EvL.cons (Ev.g rfl) (EvL.cons (Ev.g rfl) EvL.nil)) (fun hp w W => c96 _ _ _ _ _ _ _)) rfl ?_; clear S a w; intro a w S)
    (refine st_y S (Yr.ys (ys_and (Ev.t rfl) (Ev.g rfl) Ev.c)) rfl ?_; clear S a w; intro a w S)
    refine st_nil ?_
    (refine (then_normal (hK4 _ _ ?_)); clear hK4)
    refine st_cond S (Ev.t rfl) (fun h2 => ?_) (fun h2 => ?_)
    refine wp_seq_k fun _ hK4 => ?_
    refine wp_region_lit ?_
    (refine st_y S (Yr.ys (ys_move (Ev.t rfl))) rfl ?_; clear S a w; intro a w S)
    (refine st_y S (Yr.ys (ys_ldA ⟨Try.isAgg32, Try.sizeOf32⟩ (Ev.t rfl) (k := 2) rfl rfl)) rfl ?_; clear S a w; intro a w S)
    (refine st_m (op_bslice1 S Try.underlying30 inf32 rfl rfl rfl (Ev.t rfl) rfl rfl rfl ?_); clear S a w; intro g3 a w S)
    (refine st_m (op_push S Try.underlying30 inf32 rfl (k := 2) (j := 0) rfl (Ev.t rfl) (Ev.t rfl) rfl Go.Fw.Dot.mkEnc rfl rfl (by first | omega | (simp only [List.length_append, List.length_cons, List.length_nil]; omega)) rfl rfl rfl ?_); clear S a w; intro A1 cap1 a w S)
    (refine st_y S (Yr.ys (ys_assign (Ev.t rfl))) rfl ?_; clear S a w; intro a w S)
    refine st_nil ?_
    (refine (then_normal (hK4 _ _ ?_)); clear hK4)
    refine wp_region_lit ?_
    (refine st_y S (Yr.ys (ys_assign Ev.c)) rfl ?_; clear S a w; intro a w S)
    refine st_nil ?_
    (refine (then_normal (hK3 _ _ ?_)); clear hK3)
    refine wp_region_lit ?_
    (refine st_y S (Yr.ys (ys_move (Ev.t rfl))) rfl ?_; clear S a w; intro a w S)
    (refine st_y S (Yr.ys (ys_ldA ⟨Try.isAgg32, Try.sizeOf32⟩ (Ev.t rfl) (k := 1) rfl rfl)) rfl ?_; clear S a w; intro a w S)
    (refine st_m (op_bslice1 S Try.underlying30 inf32 rfl rfl rfl (Ev.t rfl) rfl rfl rfl ?_); clear S a w; intro g4 a w S)
    (refine st_m (op_push S Try.underlying30 inf32 rfl (k := 3) (j := 0) rfl (Ev.t rfl) (Ev.t rfl) rfl rfl rfl rfl (by first | omega | (simp only [List.length_append, List.length_cons, List.length_nil]; omega)) rfl rfl rfl ?_); clear S a w; intro A2 cap2 a w S)
    (refine st_y S (Yr.ys (ys_assign (Ev.t rfl))) rfl ?_; clear S a w; intro a w S)
    refine st_nil ?_
    (refine (in_normal (then_normal (hK2 _ _ ?_))); clear hK2)
    refine wp_region_lit ?_
    (refine st_y S (Yr.ys (ys_addI (Ev.t rfl) Ev.c (fun _ => by unfold I64; omega))) rfl ?_; clear S a w; intro a w S)
    (refine st_y S (Yr.ys (ys_move (Ev.t rfl))) rfl ?_; clear S a w; intro a w S)
    refine st_nil ?_
    refine (then_normal ?_)
    rotate_left
    refine wp_skip ?_
    (refine (then_normal (hK3 _ _ ?_)); clear hK3)
    refine wp_region_lit ?_
    (refine st_y S (Yr.ys (ys_move (Ev.t rfl))) rfl ?_; clear S a w; intro a w S)
    (refine st_y S (Yr.ys (ys_ldA ⟨Try.isAgg32, Try.sizeOf32⟩ (Ev.t rfl) (k := 0) rfl rfl)) rfl ?_; clear S a w; intro a w S)
    (refine st_m (op_bslice1 S Try.underlying30 inf32 rfl rfl rfl (Ev.t rfl) rfl rfl rfl ?_); clear S a w; intro g3 a w S)
    (refine st_m (op_push S Try.underlying30 inf32 rfl (k := 2) (j := 0) rfl (Ev.t rfl) (Ev.t rfl) rfl rfl rfl rfl (by first | omega | (simp only [List.length_append, List.length_cons, List.length_nil]; omega)) rfl rfl rfl ?_); clear S a w; intro A1 cap1 a w S)
    (refine st_y S (Yr.ys (ys_assign (Ev.t rfl))) rfl ?_; clear S a w; intro a w S)
    refine st_nil ?_
    (refine (in_normal (then_normal (hK2 _ _ ?_))); clear hK2)
    refine wp_region_lit ?_
    (refine st_y S (Yr.ys (ys_addI (Ev.t rfl) Ev.c (fun _ => by unfold I64; omega))) rfl ?_; clear S a w; intro a w S)
    (refine st_y S (Yr.ys (ys_move (Ev.t rfl))) rfl ?_; clear S a w; intro a w S)
    refine st_nil ?_
    refine (then_normal ?_)
    rotate_left
    · rw [hd, insL, if_pos ((Dot.eq_iff _ _).2 h1)] at hno
      exact ⟨(k + 1, true, A1, cap1, out ++ [m]), ⟨by dsimp only; omega, by simp; omega, by rw [← hno, List.append_assoc]; rfl⟩, by dsimp only; omega, S.weak (by repeat (first | exact Fits.nil | refine Fits.skip rfl ?_ | refine Fits.cons rfl ?_)) (by repeat (first | exact List.Sublist.refl _ | exact List.nil_sublist _ | refine .cons_cons _ ?_ | refine .cons _ ?_))⟩
    · rw [hd, insL, if_neg (fun e => h1 ((Dot.eq_iff _ _).1 e)), if_pos h2] at hno
      exact ⟨(k + 1, true, A2, cap2, out ++ [⟨x, y, z⟩] ++ [m]), ⟨by dsimp only; omega, by simp; omega, by rw [← hno, List.append_assoc, List.append_assoc]; rfl⟩, by dsimp only; omega, S.weak (by repeat (first | exact Fits.nil | refine Fits.skip rfl ?_ | refine Fits.cons rfl ?_)) (by repeat (first | exact List.Sublist.refl _ | exact List.nil_sublist _ | refine .cons_cons _ ?_ | refine .cons _ ?_))⟩
    · rw [hd, insL, if_neg (fun e => h1 ((Dot.eq_iff _ _).1 e)), if_neg (by rw [h2]; simp)] at hno
      exact ⟨(k + 1, put, A1, cap1, out ++ [m]), ⟨by dsimp only; omega, by simp; omega, by rw [← hno, List.append_assoc]; rfl⟩, by dsimp only; omega, S.weak (by repeat (first | exact Fits.nil | refine Fits.skip rfl ?_ | refine Fits.cons rfl ?_)) (by repeat (first | exact List.Sublist.refl _ | exact List.nil_sublist _ | refine .cons_cons _ ?_ | refine .cons _ ?_))⟩
  · have hend : k = l.length := by omega
    subst hend
    rw [List.drop_length, insL] at hno
    cases put
    · rw [if_neg (by simp)] at hno
      refine wp_seq_k fun _ hK2 => ?_
      refine wp_region_lit ?_
      (refine st_y S (Yr.ys (ys_F (by omega) (ys_lss (Ev.t rfl) (Ev.t rfl)))) rfl ?_; clear S a w; intro a w S)
      refine st_nil ?_
      (refine (then_normal (hK2 _ _ ?_)); clear hK2)
      refine wp_seq_k fun _ hK2 => ?_
      refine st_else S (Ev.t rfl) ?_
      refine wp_exit ?_
      (refine (then_exit (then_exit (in_here (then_normal (hK1 _ _ ?_))))); clear hK1)
      refine wp_seq_k fun _ hK1 => ?_
      refine wp_seq_k fun _ hK3 => ?_
      refine wp_region_lit ?_
      (refine st_y S (Yr.ys (ys_move (Ev.t rfl))) rfl ?_; clear S a w; intro a w S)
      (refine st_y S (Yr.ys (ys_not (Ev.t rfl))) rfl ?_; clear S a w; intro a w S)
      refine st_nil ?_
      (refine (then_normal (hK3 _ _ ?_)); clear hK3)
      refine st_then S (Ev.t rfl) ?_
      refine wp_region_lit ?_
      (refine st_y S (Yr.ys (ys_move (Ev.t rfl))) rfl ?_; clear S a w; intro a w S)
      (refine st_y S (Yr.ys (ys_ldA ⟨Try.isAgg32, Try.sizeOf32⟩ (Ev.t rfl) (k := 1) rfl rfl)) rfl ?_; clear S a w; intro a w S)
      (refine st_m (op_bslice1 S Try.underlying30 inf32 rfl rfl rfl (Ev.t rfl) rfl rfl rfl ?_); clear S a w; intro g2 a w S)
      (refine st_m (op_push S Try.underlying30 inf32 rfl (k := 1) (j := 0) rfl (Ev.t rfl) (Ev.t rfl) rfl Go.Fw.Dot.mkEnc rfl rfl (by first | omega | (simp only [List.length_append, List.length_cons, List.length_nil]; omega)) rfl rfl rfl ?_); clear S a w; intro A1 cap1 a w S)
      (refine st_y S (Yr.ys (ys_assign (Ev.t rfl))) rfl ?_; clear S a w; intro a w S)
      refine st_nil ?_
      (refine (then_normal (hK1 _ _ ?_)); clear hK1)
      refine wp_seq_k fun _ hK1 => ?_
      refine wp_region_lit ?_
      (refine st_y S (Yr.ys (ys_move (Ev.t rfl))) rfl ?_; clear S a w; intro a w S)
      (refine st_y S (Yr.ys (ys_assign (Ev.t rfl))) rfl ?_; clear S a w; intro a w S)
      refine st_nil ?_
      (refine (then_normal (hK1 _ _ ?_)); clear hK1)
      refine wp_ret ?_
      refine st_ret S (results1 S Try.results98 (Rv.tmp rfl)) ?_
      rw [hno] at S ⊢
      exact ⟨_, _, rfl, S.wd.sub (by repeat (first | exact List.Sublist.refl _ | exact List.nil_sublist _ | refine .cons_cons _ ?_ | refine .cons _ ?_)), A1, cap1, rfl, rfl⟩
    · rw [if_pos rfl, List.append_nil] at hno
      subst hno
      refine wp_seq_k fun _ hK2 => ?_
      refine wp_region_lit ?_
      (refine st_y S (Yr.ys (ys_F (by omega) (ys_lss (Ev.t rfl) (Ev.t rfl)))) rfl ?_; clear S a w; intro a w S)
      refine st_nil ?_
      (refine (then_normal (hK2 _ _ ?_)); clear hK2)
      refine wp_seq_k fun _ hK2 => ?_
      refine st_else S (Ev.t rfl) ?_
      refine wp_exit ?_
      (refine (then_exit (then_exit (in_here (then_normal (hK1 _ _ ?_))))); clear hK1)
      refine wp_seq_k fun _ hK1 => ?_
      refine wp_seq_k fun _ hK3 => ?_
      refine wp_region_lit ?_
      (refine st_y S (Yr.ys (ys_move (Ev.t rfl))) rfl ?_; clear S a w; intro a w S)
      (refine st_y S (Yr.ys (ys_not (Ev.t rfl))) rfl ?_; clear S a w; intro a w S)
      refine st_nil ?_
      (refine (then_normal (hK3 _ _ ?_)); clear hK3)
      refine st_else S (Ev.t rfl) ?_
      refine wp_skip ?_
      (refine (then_normal (hK1 _ _ ?_)); clear hK1)
      refine wp_seq_k fun _ hK1 => ?_
      refine wp_region_lit ?_
      (refine st_y S (Yr.ys (ys_move (Ev.t rfl))) rfl ?_; clear S a w; intro a w S)
      (refine st_y S (Yr.ys (ys_assign (Ev.t rfl))) rfl ?_; clear S a w; intro a w S)
      refine st_nil ?_
      (refine (then_normal (hK1 _ _ ?_)); clear hK1)
      refine wp_ret ?_
      refine st_ret S (results1 S Try.results98 (Rv.tmp rfl)) ?_
      exact ⟨_, _, rfl, S.wd.sub (by repeat (first | exact List.Sublist.refl _ | exact List.nil_sublist _ | refine .cons_cons _ ?_ | refine .cons _ ?_)), B, cB, rfl, rfl⟩
end Go.Proofs.Ytjfeeiljinbmjaa
