/- Contracts and laws that the statement CausalCodes leans on, part 5. -/
import Derived.Test.YtjfeeiljinbmjaaCausalCodesK4
set_option linter.unusedVariables false
set_option linter.unusedSimpArgs false
set_option maxRecDepth 100000
set_option maxHeartbeats 4000000
namespace Go.Proofs.Ytjfeeiljinbmjaa
open Go.Fw Go.Proofs Go.RowKit
theorem c126 (w0 : World) (v1 : Value) (l : List UInt8) (h : Sl encB 1 w0 w0.heap.size v1 l) (hl : l.length ≤ 16777216) :
    Calls Try.prog 126 #[v1] w0 fun r w' => r = .returned (.tuple #[.int .i64 (numR 0 0 l).1, .int .i64 ((numR 0 0 l).2.1 : Nat), .int .i64 (numR 0 0 l).2.2]) ∧ Bel w0.heap.size w0 w' := by
  obtain ⟨A, cap, rfl, _, _, hA⟩ := id h
  refine enter1 Try.func126 rfl Try.ntmps126 rfl fun a S => ?_
  refine wp_seq_k fun _ hK1 => ?_
  refine wp_region_lit ?_
  (refine st_y S (Yr.ys (ys_assign Ev.c)) rfl ?_; clear S a; intro a w S)
  (refine st_y S (Yr.ys (ys_assign Ev.c)) rfl ?_; clear S a w; intro a w S)
  (refine st_y S (Yr.ys (ys_assign Ev.c)) rfl ?_; clear S a w; intro a w S)
  refine st_nil ?_
  (refine (then_normal (hK1 _ _ ?_)); clear hK1)
  refine wp_seq_k fun _ hK1 => ?_
  refine wp_region_lit ?_
  (refine st_y S (Yr.ys (ys_assign Ev.c)) rfl ?_; clear S a w; intro a w S)
  (refine st_y S (Yr.ys (ys_assign Ev.c)) rfl ?_; clear S a w; intro a w S)
  refine st_nil ?_
  (refine (then_normal (hK1 _ _ ?_)); clear hK1)
  refine wp_seq_k fun _ hK1 => ?_
  refine wp_seq_k fun _ hK2 => ?_
  refine wp_region_lit ?_
  (refine st_y S (Yr.ys (ys_move (Ev.t rfl))) rfl ?_; clear S a w; intro a w S)
  (refine st_y S (Yr.ys (ys_lenS Try.underlying22 (Ev.t rfl))) rfl ?_; clear S a w; intro a w S)
  (refine st_y S (Yr.ys (ys_move Ev.c)) rfl ?_; clear S a w; intro a w S)
  refine st_nil ?_
  (refine (then_normal (hK2 _ _ ?_)); clear hK2)
  refine wp_block ?_
  refine st_loopM S [2, 3, 4, 5, 6, 11] (X := Nat × Int) (fun q => [(11, true, .int .i64 (q.1 : Int)), (6, true, .int .i64 (128 ^ q.1)), (5, true, .int .i64 q.2)]) (fun _ => [])
    (fun q => q.1 ≤ 8 ∧ q.1 ≤ l.length ∧ 0 ≤ q.2 ∧ q.2 < 128 ^ q.1 ∧ numR q.1 q.2 (l.drop q.1) = numR 0 0 l) (fun q => l.length - q.1) (0, 0) ⟨by simp, by simp, by simp, by simp, rfl⟩ (by repeat (first | exact Fits.nil | refine Fits.skip rfl ?_ | refine Fits.cons rfl ?_)) (by repeat (first | exact Picks.nil | (refine Picks.rest ?_; (repeat (first | exact List.Sublist.refl _ | refine List.Sublist.cons_cons _ ?_ | refine List.Sublist.cons _ ?_)); done) | refine Picks.take 0 rfl ?_ | refine Picks.take 1 rfl ?_ | refine Picks.take 2 rfl ?_ | refine Picks.take 3 rfl ?_ | refine Picks.take 4 rfl ?_ | refine Picks.take 5 rfl ?_ | refine Picks.take 6 rfl ?_ | refine Picks.take 7 rfl ?_ | refine Picks.take 8 rfl ?_ | refine Picks.take 9 rfl ?_ | refine Picks.take 10 rfl ?_ | refine Picks.take 11 rfl ?_)) ?_
  clear S
  intro ⟨i, m⟩ a w ⟨hi, hik, hm0, hm1, hno⟩ S
  dsimp only at hi hik hm0 hm1 hno S
  by_cases hlt : i < l.length
  · obtain ⟨gq, oq, x, rfl, hx, hdq, hc⟩ := row_at hA hlt
    have hx8 : x.toNat < 256 := x.toNat_lt
    have hst := numR_step (i := i) (n := m) hx
    rw [hno] at hst
    obtain ⟨p1, p2, p3⟩ := pow_num hi
    obtain ⟨hs, hs0, hs1⟩ := sh_num (i := i) (y := (x.toNat : Int) % 128) hi (by omega) (by omega)
    have h6 : (x.toNat : Int) % 128 * 128 ^ i ≤ 127 * 128 ^ i := Int.mul_le_mul_of_nonneg_right (by omega) (by omega)
    by_cases h128 : x.toNat < 128
    · rw [if_neg (by omega), if_pos h128] at hst
      by_cases h0 : 0 < i ∧ x.toNat = 0
      · rw [if_pos h0] at hst
        obtain ⟨h0a, h0b⟩ := h0
        refine wp_seq_k fun _ hK2 => ?_
        refine wp_region_lit ?_
        (refine st_y S (Yr.ys (ys_T (by omega) (ys_lss (Ev.t rfl) (Ev.t rfl)))) rfl ?_; clear S a w; intro a w S)
        refine st_nil ?_
        (refine (then_normal (hK2 _ _ ?_)); clear hK2)
        refine wp_seq_k fun _ hK2 => ?_
        refine st_then S (Ev.t rfl) ?_
        refine wp_skip ?_
        (refine (then_normal (hK2 _ _ ?_)); clear hK2)
        refine wp_seq_k fun _ hK2 => ?_
        refine wp_block ?_
        refine wp_seq_k fun _ hK3 => ?_
        refine wp_region_lit ?_
        (refine st_y S (Yr.ys (ys_move (Ev.t rfl))) rfl ?_; clear S a w; intro a w S)
        (refine st_y S (Yr.ys (ys_ixS Try.underlying22 Try.sizeOf5 (Ev.t rfl) (Ev.t rfl) (fun _ => by omega))) rfl ?_; clear S a w; intro a w S)
        (refine st_y S (Yr.ys (ys_ldO ⟨Try.isAgg5, Try.sizeOf5⟩ (Ev.t rfl) (fun _ => hc 0 _ rfl))) rfl ?_; clear S a w; intro a w S)
        (refine st_y S (Yr.ys (ys_assign (Ev.t rfl))) rfl ?_; clear S a w; intro a w S)
        (refine st_y S (Yr.ys (ys_assign (Ev.t rfl))) rfl ?_; clear S a w; intro a w S)
        refine st_nil ?_
        (refine (then_normal (hK3 _ _ ?_)); clear hK3)
        refine wp_seq_k fun _ hK3 => ?_
        refine wp_seq_k fun _ hK4 => ?_
        refine wp_region_lit ?_
        (refine st_y S (Yr.ys (ys_move (Ev.t rfl))) rfl ?_; clear S a w; intro a w S)
        (refine st_y S (Yr.ys (ys_eql (Ev.t rfl) Ev.c)) rfl ?_; clear S a w; intro a w S)
        (refine st_y S (Yr.ys (ys_move (Ev.t rfl))) rfl ?_; clear S a w; intro a w S)
        (refine st_yg S rfl rfl (Yr.ys (ys_move (Ev.t rfl))) rfl ?_; clear S a w; intro a w S)
        (refine st_yg S rfl rfl (Yr.ys (ys_F (by omega) (ys_geq (Ev.g rfl) Ev.c))) rfl ?_; clear S a w; intro a w S)
        (refine st_y S (Yr.ys (ys_andF (Ev.t rfl) (Ev.g rfl) Ev.c)) rfl ?_; clear S a w; intro a w S)
        refine st_nil ?_
        (refine (then_normal (hK4 _ _ ?_)); clear hK4)
        refine st_else S (Ev.t rfl) ?_
        refine wp_skip ?_
        (refine (then_normal (hK3 _ _ ?_)); clear hK3)
        refine wp_seq_k fun _ hK3 => ?_
        refine wp_region_lit ?_
        (refine st_y S (Yr.ys (ys_move (Ev.t rfl))) rfl ?_; clear S a w; intro a w S)
        (refine st_y S (Yr.ys (ys_move (Ev.t rfl))) rfl ?_; clear S a w; intro a w S)
        (refine st_y S (Yr.ys (ys_remE (Ev.t rfl) Ev.c (fun _ => by omega))) rfl ?_; clear S a w; intro a w S)
        (refine st_y S (Yr.ys (ys_cvI Try.underlying5 Try.underlying3 (Ev.t rfl) (fun _ => by unfold I64; omega))) rfl ?_; clear S a w; intro a w S)
        (refine st_y S (Yr.ys (ys_move (Ev.t rfl))) rfl ?_; clear S a w; intro a w S)
        (refine st_y S (Yr.ys (ys_mulI (Ev.t rfl) (Ev.t rfl) (fun _ => by unfold I64; omega))) rfl ?_; clear S a w; intro a w S)
        (refine st_y S (Yr.ys (ys_addI (Ev.t rfl) (Ev.t rfl) (fun _ => by unfold I64; omega))) rfl ?_; clear S a w; intro a w S)
        (refine st_y S (Yr.ys (ys_assign (Ev.t rfl))) rfl ?_; clear S a w; intro a w S)
        refine st_nil ?_
        (refine (then_normal (hK3 _ _ ?_)); clear hK3)
        refine wp_seq_k fun _ hK3 => ?_
        refine wp_seq_k fun _ hK4 => ?_
        refine wp_region_lit ?_
        (refine st_y S (Yr.ys (ys_move (Ev.t rfl))) rfl ?_; clear S a w; intro a w S)
        (refine st_y S (Yr.ys (ys_T (by omega) (ys_lss (Ev.t rfl) Ev.c))) rfl ?_; clear S a w; intro a w S)
        refine st_nil ?_
        (refine (then_normal (hK4 _ _ ?_)); clear hK4)
        refine st_then S (Ev.t rfl) ?_
        refine wp_seq_k fun _ hK4 => ?_
        refine wp_seq_k fun _ hK5 => ?_
        refine wp_region_lit ?_
        (refine st_y S (Yr.ys (ys_move (Ev.t rfl))) rfl ?_; clear S a w; intro a w S)
        (refine st_y S (Yr.ys (ys_T (by omega) (ys_eql (Ev.t rfl) Ev.c))) rfl ?_; clear S a w; intro a w S)
        (refine st_y S (Yr.ys (ys_move (Ev.t rfl))) rfl ?_; clear S a w; intro a w S)
        (refine st_yt S rfl rfl (Yr.ys (ys_move (Ev.t rfl))) rfl ?_; clear S a w; intro a w S)
        (refine st_yt S rfl rfl (Yr.ys (ys_T (by omega) (ys_gtr (Ev.t rfl) Ev.c))) rfl ?_; clear S a w; intro a w S)
        (refine st_y S (Yr.ys (ys_pickT (Ev.t rfl) (Ev.t rfl))) rfl ?_; clear S a w; intro a w S)
        refine st_nil ?_
        (refine (then_normal (hK5 _ _ ?_)); clear hK5)
        refine st_then S (Ev.t rfl) ?_
        refine wp_seq_k fun _ hK5 => ?_
        refine wp_region_lit ?_
        (refine st_y S (Yr.ys (ys_assign Ev.c)) rfl ?_; clear S a w; intro a w S)
        (refine st_y S (Yr.ys (ys_assign Ev.c)) rfl ?_; clear S a w; intro a w S)
        (refine st_y S (Yr.ys (ys_assign Ev.c)) rfl ?_; clear S a w; intro a w S)
        refine st_nil ?_
        (refine (then_normal (hK5 _ _ ?_)); clear hK5)
        refine wp_ret ?_
        refine (then_ret (then_ret (in_ret (then_ret (then_ret (in_ret (then_ret ?_)))))))
        refine st_ret S (results3 S Try.results126 (Rv.tmp rfl) (Rv.tmp rfl) (Rv.tmp rfl)) ?_
        rw [hst]
        exact ⟨rfl, S.wd.below⟩
      · rw [if_neg h0] at hst
        have rw_f : (decide ((x.toNat : Int) = 0) && decide (0 < (i : Int))) = false := by rw [Bool.eq_false_iff]; intro h; simp at h; omega
        refine wp_seq_k fun _ hK2 => ?_
        refine wp_region_lit ?_
        (refine st_y S (Yr.ys (ys_T (by omega) (ys_lss (Ev.t rfl) (Ev.t rfl)))) rfl ?_; clear S a w; intro a w S)
        refine st_nil ?_
        (refine (then_normal (hK2 _ _ ?_)); clear hK2)
        refine wp_seq_k fun _ hK2 => ?_
        refine st_then S (Ev.t rfl) ?_
        refine wp_skip ?_
        (refine (then_normal (hK2 _ _ ?_)); clear hK2)
        refine wp_seq_k fun _ hK2 => ?_
        refine wp_block ?_
        refine wp_seq_k fun _ hK3 => ?_
        refine wp_region_lit ?_
        (refine st_y S (Yr.ys (ys_move (Ev.t rfl))) rfl ?_; clear S a w; intro a w S)
        (refine st_y S (Yr.ys (ys_ixS Try.underlying22 Try.sizeOf5 (Ev.t rfl) (Ev.t rfl) (fun _ => by omega))) rfl ?_; clear S a w; intro a w S)
        (refine st_y S (Yr.ys (ys_ldO ⟨Try.isAgg5, Try.sizeOf5⟩ (Ev.t rfl) (fun _ => hc 0 _ rfl))) rfl ?_; clear S a w; intro a w S)
        (refine st_y S (Yr.ys (ys_assign (Ev.t rfl))) rfl ?_; clear S a w; intro a w S)
        (refine st_y S (Yr.ys (ys_assign (Ev.t rfl))) rfl ?_; clear S a w; intro a w S)
        refine st_nil ?_
        (refine (then_normal (hK3 _ _ ?_)); clear hK3)
        refine wp_seq_k fun _ hK3 => ?_
        refine wp_seq_k fun _ hK4 => ?_
        refine wp_region_lit ?_
        (refine st_y S (Yr.ys (ys_move (Ev.t rfl))) rfl ?_; clear S a w; intro a w S)
        (refine st_y S (Yr.ys (ys_eql (Ev.t rfl) Ev.c)) rfl ?_; clear S a w; intro a w S)
        (refine st_y S (Yr.ys (ys_move (Ev.t rfl))) rfl ?_; clear S a w; intro a w S)
        (refine st_yg S rfl rfl (Yr.ys (ys_move (Ev.t rfl))) rfl ?_; clear S a w; intro a w S)
        (refine st_yg S rfl rfl (Yr.ys (ys_F (by omega) (ys_geq (Ev.g rfl) Ev.c))) rfl ?_; clear S a w; intro a w S)
        (refine st_y S (Yr.ys (ys_andF (Ev.t rfl) (Ev.g rfl) Ev.c)) rfl ?_; clear S a w; intro a w S)
        refine st_nil ?_
        (refine (then_normal (hK4 _ _ ?_)); clear hK4)
        refine st_else S (Ev.t rfl) ?_
        refine wp_skip ?_
        (refine (then_normal (hK3 _ _ ?_)); clear hK3)
        refine wp_seq_k fun _ hK3 => ?_
        refine wp_region_lit ?_
        (refine st_y S (Yr.ys (ys_move (Ev.t rfl))) rfl ?_; clear S a w; intro a w S)
        (refine st_y S (Yr.ys (ys_move (Ev.t rfl))) rfl ?_; clear S a w; intro a w S)
        (refine st_y S (Yr.ys (ys_remE (Ev.t rfl) Ev.c (fun _ => by omega))) rfl ?_; clear S a w; intro a w S)
        (refine st_y S (Yr.ys (ys_cvI Try.underlying5 Try.underlying3 (Ev.t rfl) (fun _ => by unfold I64; omega))) rfl ?_; clear S a w; intro a w S)
        (refine st_y S (Yr.ys (ys_move (Ev.t rfl))) rfl ?_; clear S a w; intro a w S)
        (refine st_y S (Yr.ys (ys_mulI (Ev.t rfl) (Ev.t rfl) (fun _ => by unfold I64; omega))) rfl ?_; clear S a w; intro a w S)
        (refine st_y S (Yr.ys (ys_addI (Ev.t rfl) (Ev.t rfl) (fun _ => by unfold I64; omega))) rfl ?_; clear S a w; intro a w S)
        (refine st_y S (Yr.ys (ys_assign (Ev.t rfl))) rfl ?_; clear S a w; intro a w S)
        refine st_nil ?_
        (refine (then_normal (hK3 _ _ ?_)); clear hK3)
        refine wp_seq_k fun _ hK3 => ?_
        refine wp_seq_k fun _ hK4 => ?_
        refine wp_region_lit ?_
        (refine st_y S (Yr.ys (ys_move (Ev.t rfl))) rfl ?_; clear S a w; intro a w S)
        (refine st_y S (Yr.ys (ys_T (by omega) (ys_lss (Ev.t rfl) Ev.c))) rfl ?_; clear S a w; intro a w S)
        refine st_nil ?_
        (refine (then_normal (hK4 _ _ ?_)); clear hK4)
        refine st_then S (Ev.t rfl) ?_
        refine wp_seq_k fun _ hK4 => ?_
        refine wp_seq_k fun _ hK5 => ?_
        refine wp_region_lit ?_
        (refine st_y S (Yr.ys (ys_move (Ev.t rfl))) rfl ?_; clear S a w; intro a w S)
        (refine st_y S (Yr.ys (ys_eql (Ev.t rfl) Ev.c)) rfl ?_; clear S a w; intro a w S)
        (refine st_y S (Yr.ys (ys_move (Ev.t rfl))) rfl ?_; clear S a w; intro a w S)
        (refine st_yg S rfl rfl (Yr.ys (ys_move (Ev.t rfl))) rfl ?_; clear S a w; intro a w S)
        (refine st_yg S rfl rfl (Yr.ys (ys_gtr (Ev.g rfl) Ev.c)) rfl ?_; clear S a w; intro a w S)
        (refine st_y S (Yr.ys (ys_and (Ev.t rfl) (Ev.g rfl) Ev.c)) rfl ?_; clear S a w; intro a w S)
        rw [rw_f] at S
        refine st_nil ?_
        (refine (then_normal (hK5 _ _ ?_)); clear hK5)
        refine st_else S (Ev.t rfl) ?_
        refine wp_skip ?_
        (refine (then_normal (hK4 _ _ ?_)); clear hK4)
        refine wp_seq_k fun _ hK4 => ?_
        refine wp_region_lit ?_
        (refine st_y S (Yr.ys (ys_move (Ev.t rfl))) rfl ?_; clear S a w; intro a w S)
        (refine st_y S (Yr.ys (ys_move (Ev.t rfl))) rfl ?_; clear S a w; intro a w S)
        (refine st_y S (Yr.ys (ys_addI (Ev.t rfl) Ev.c (fun _ => by unfold I64; omega))) rfl ?_; clear S a w; intro a w S)
        (refine st_y S (Yr.ys (ys_assign (Ev.t rfl))) rfl ?_; clear S a w; intro a w S)
        (refine st_y S (Yr.ys (ys_assign (Ev.t rfl))) rfl ?_; clear S a w; intro a w S)
        (refine st_y S (Yr.ys (ys_assign Ev.c)) rfl ?_; clear S a w; intro a w S)
        refine st_nil ?_
        (refine (then_normal (hK4 _ _ ?_)); clear hK4)
        refine wp_ret ?_
        refine (then_ret (in_ret (then_ret (then_ret (in_ret (then_ret ?_))))))
        refine st_ret S (results3 S Try.results126 (Rv.tmp rfl) (Rv.tmp rfl) (Rv.tmp rfl)) ?_
        rw [hst]
        exact ⟨rfl, S.wd.below⟩
    · by_cases h8 : i = 8
      · rw [if_pos (by omega)] at hst
        refine wp_seq_k fun _ hK2 => ?_
        refine wp_region_lit ?_
        (refine st_y S (Yr.ys (ys_T (by omega) (ys_lss (Ev.t rfl) (Ev.t rfl)))) rfl ?_; clear S a w; intro a w S)
        refine st_nil ?_
        (refine (then_normal (hK2 _ _ ?_)); clear hK2)
        refine wp_seq_k fun _ hK2 => ?_
        refine st_then S (Ev.t rfl) ?_
        refine wp_skip ?_
        (refine (then_normal (hK2 _ _ ?_)); clear hK2)
        refine wp_seq_k fun _ hK2 => ?_
        refine wp_block ?_
        refine wp_seq_k fun _ hK3 => ?_
        refine wp_region_lit ?_
        (refine st_y S (Yr.ys (ys_move (Ev.t rfl))) rfl ?_; clear S a w; intro a w S)
        (refine st_y S (Yr.ys (ys_ixS Try.underlying22 Try.sizeOf5 (Ev.t rfl) (Ev.t rfl) (fun _ => by omega))) rfl ?_; clear S a w; intro a w S)
        (refine st_y S (Yr.ys (ys_ldO ⟨Try.isAgg5, Try.sizeOf5⟩ (Ev.t rfl) (fun _ => hc 0 _ rfl))) rfl ?_; clear S a w; intro a w S)
        (refine st_y S (Yr.ys (ys_assign (Ev.t rfl))) rfl ?_; clear S a w; intro a w S)
        (refine st_y S (Yr.ys (ys_assign (Ev.t rfl))) rfl ?_; clear S a w; intro a w S)
        refine st_nil ?_
        (refine (then_normal (hK3 _ _ ?_)); clear hK3)
        refine wp_seq_k fun _ hK3 => ?_
        refine wp_seq_k fun _ hK4 => ?_
        refine wp_region_lit ?_
        (refine st_y S (Yr.ys (ys_move (Ev.t rfl))) rfl ?_; clear S a w; intro a w S)
        (refine st_y S (Yr.ys (ys_T (by omega) (ys_eql (Ev.t rfl) Ev.c))) rfl ?_; clear S a w; intro a w S)
        (refine st_y S (Yr.ys (ys_move (Ev.t rfl))) rfl ?_; clear S a w; intro a w S)
        (refine st_yt S rfl rfl (Yr.ys (ys_move (Ev.t rfl))) rfl ?_; clear S a w; intro a w S)
        (refine st_yt S rfl rfl (Yr.ys (ys_T (by omega) (ys_geq (Ev.t rfl) Ev.c))) rfl ?_; clear S a w; intro a w S)
        (refine st_y S (Yr.ys (ys_pickT (Ev.t rfl) (Ev.t rfl))) rfl ?_; clear S a w; intro a w S)
        refine st_nil ?_
        (refine (then_normal (hK4 _ _ ?_)); clear hK4)
        refine st_then S (Ev.t rfl) ?_
        refine wp_seq_k fun _ hK4 => ?_
        refine wp_region_lit ?_
        (refine st_y S (Yr.ys (ys_assign Ev.c)) rfl ?_; clear S a w; intro a w S)
        (refine st_y S (Yr.ys (ys_assign Ev.c)) rfl ?_; clear S a w; intro a w S)
        (refine st_y S (Yr.ys (ys_assign Ev.c)) rfl ?_; clear S a w; intro a w S)
        refine st_nil ?_
        (refine (then_normal (hK4 _ _ ?_)); clear hK4)
        refine wp_ret ?_
        refine (then_ret (in_ret (then_ret (then_ret (in_ret (then_ret ?_))))))
        refine st_ret S (results3 S Try.results126 (Rv.tmp rfl) (Rv.tmp rfl) (Rv.tmp rfl)) ?_
        rw [hst]
        exact ⟨rfl, S.wd.below⟩
      · rw [if_neg (by omega), if_neg h128] at hst
        have h5 : (128 : Int) ^ (i + 1) = 128 ^ i * 128 := by rw [Int.pow_succ]
        have h7 := (pow_num (i := i + 1) (by omega)).2.1
        rw [h5] at h7
        have rw_5 := h5.symm
        refine wp_seq_k fun _ hK2 => ?_
        refine wp_region_lit ?_
        (refine st_y S (Yr.ys (ys_T (by omega) (ys_lss (Ev.t rfl) (Ev.t rfl)))) rfl ?_; clear S a w; intro a w S)
        refine st_nil ?_
        (refine (then_normal (hK2 _ _ ?_)); clear hK2)
        refine wp_seq_k fun _ hK2 => ?_
        refine st_then S (Ev.t rfl) ?_
        refine wp_skip ?_
        (refine (then_normal (hK2 _ _ ?_)); clear hK2)
        refine wp_seq_k fun _ hK2 => ?_
        refine wp_block ?_
        refine wp_seq_k fun _ hK3 => ?_
        refine wp_region_lit ?_
        (refine st_y S (Yr.ys (ys_move (Ev.t rfl))) rfl ?_; clear S a w; intro a w S)
        (refine st_y S (Yr.ys (ys_ixS Try.underlying22 Try.sizeOf5 (Ev.t rfl) (Ev.t rfl) (fun _ => by omega))) rfl ?_; clear S a w; intro a w S)
        (refine st_y S (Yr.ys (ys_ldO ⟨Try.isAgg5, Try.sizeOf5⟩ (Ev.t rfl) (fun _ => hc 0 _ rfl))) rfl ?_; clear S a w; intro a w S)
        (refine st_y S (Yr.ys (ys_assign (Ev.t rfl))) rfl ?_; clear S a w; intro a w S)
        (refine st_y S (Yr.ys (ys_assign (Ev.t rfl))) rfl ?_; clear S a w; intro a w S)
        refine st_nil ?_
        (refine (then_normal (hK3 _ _ ?_)); clear hK3)
        refine wp_seq_k fun _ hK3 => ?_
        refine wp_seq_k fun _ hK4 => ?_
        refine wp_region_lit ?_
        (refine st_y S (Yr.ys (ys_move (Ev.t rfl))) rfl ?_; clear S a w; intro a w S)
        (refine st_y S (Yr.ys (ys_F (by omega) (ys_eql (Ev.t rfl) Ev.c))) rfl ?_; clear S a w; intro a w S)
        (refine st_y S (Yr.ys (ys_move (Ev.t rfl))) rfl ?_; clear S a w; intro a w S)
        (refine st_skip S rfl rfl rfl rfl ?_; clear S a w; intro a w S)
        (refine st_skip S rfl rfl rfl rfl ?_; clear S a w; intro a w S)
        (refine st_y S (Yr.ys (ys_pickF (Ev.t rfl) Ev.c)) rfl ?_; clear S a w; intro a w S)
        refine st_nil ?_
        (refine (then_normal (hK4 _ _ ?_)); clear hK4)
        refine st_else S (Ev.t rfl) ?_
        refine wp_skip ?_
        (refine (then_normal (hK3 _ _ ?_)); clear hK3)
        refine wp_seq_k fun _ hK3 => ?_
        refine wp_region_lit ?_
        (refine st_y S (Yr.ys (ys_move (Ev.t rfl))) rfl ?_; clear S a w; intro a w S)
        (refine st_y S (Yr.ys (ys_move (Ev.t rfl))) rfl ?_; clear S a w; intro a w S)
        (refine st_y S (Yr.ys (ys_remE (Ev.t rfl) Ev.c (fun _ => by omega))) rfl ?_; clear S a w; intro a w S)
        (refine st_y S (Yr.ys (ys_cvI Try.underlying5 Try.underlying3 (Ev.t rfl) (fun _ => by unfold I64; omega))) rfl ?_; clear S a w; intro a w S)
        (refine st_y S (Yr.ys (ys_move (Ev.t rfl))) rfl ?_; clear S a w; intro a w S)
        (refine st_y S (Yr.ys (ys_mulI (Ev.t rfl) (Ev.t rfl) (fun _ => by unfold I64; omega))) rfl ?_; clear S a w; intro a w S)
        (refine st_y S (Yr.ys (ys_addI (Ev.t rfl) (Ev.t rfl) (fun _ => by unfold I64; omega))) rfl ?_; clear S a w; intro a w S)
        (refine st_y S (Yr.ys (ys_assign (Ev.t rfl))) rfl ?_; clear S a w; intro a w S)
        refine st_nil ?_
        (refine (then_normal (hK3 _ _ ?_)); clear hK3)
        refine wp_seq_k fun _ hK3 => ?_
        refine wp_seq_k fun _ hK4 => ?_
        refine wp_region_lit ?_
        (refine st_y S (Yr.ys (ys_move (Ev.t rfl))) rfl ?_; clear S a w; intro a w S)
        (refine st_y S (Yr.ys (ys_F (by omega) (ys_lss (Ev.t rfl) Ev.c))) rfl ?_; clear S a w; intro a w S)
        refine st_nil ?_
        (refine (then_normal (hK4 _ _ ?_)); clear hK4)
        refine st_else S (Ev.t rfl) ?_
        refine wp_skip ?_
        (refine (then_normal (hK3 _ _ ?_)); clear hK3)
        refine wp_region_lit ?_
        (refine st_y S (Yr.ys (ys_move (Ev.t rfl))) rfl ?_; clear S a w; intro a w S)
        (refine st_y S (Yr.ys (ys_mulI (Ev.t rfl) Ev.c (fun _ => by unfold I64; omega))) rfl ?_; clear S a w; intro a w S)
        rw [rw_5] at S
        (refine st_y S (Yr.ys (ys_assign (Ev.t rfl))) rfl ?_; clear S a w; intro a w S)
        refine st_nil ?_
        (refine (in_normal (then_normal (hK2 _ _ ?_))); clear hK2)
        refine wp_region_lit ?_
        (refine st_y S (Yr.ys (ys_addI (Ev.t rfl) Ev.c (fun _ => by unfold I64; omega))) rfl ?_; clear S a w; intro a w S)
        (refine st_y S (Yr.ys (ys_move (Ev.t rfl))) rfl ?_; clear S a w; intro a w S)
        refine st_nil ?_
        refine (then_normal ?_)
        exact ⟨(i + 1, m + (x.toNat : Int) % 128 * 128 ^ i), ⟨by dsimp only; omega, by dsimp only; omega, by dsimp only; omega, by dsimp only; omega, by dsimp only; rw [hst]⟩, by dsimp only; omega, S.weak (by repeat (first | exact Fits.nil | refine Fits.skip rfl ?_ | refine Fits.cons rfl ?_)) (by repeat (first | exact List.Sublist.refl _ | exact List.nil_sublist _ | refine .cons_cons _ ?_ | refine .cons _ ?_))⟩
  · have hend : i = l.length := by omega
    subst hend
    rw [List.drop_of_length_le (Nat.le_refl _), numR_nil] at hno
    refine wp_seq_k fun _ hK2 => ?_
    refine wp_region_lit ?_
    (refine st_y S (Yr.ys (ys_F (by omega) (ys_lss (Ev.t rfl) (Ev.t rfl)))) rfl ?_; clear S a w; intro a w S)
    refine st_nil ?_
    (refine (then_normal (hK2 _ _ ?_)); clear hK2)
    refine wp_seq_k fun _ hK2 => ?_
    refine st_else S (Ev.t rfl) ?_
    refine wp_exit ?_
    (refine (then_exit (then_exit (in_here (then_normal (hK1 _ _ ?_))))); clear hK1)
    refine wp_seq_k fun _ hK1 => ?_
    refine wp_region_lit ?_
    (refine st_y S (Yr.ys (ys_assign Ev.c)) rfl ?_; clear S a w; intro a w S)
    (refine st_y S (Yr.ys (ys_assign Ev.c)) rfl ?_; clear S a w; intro a w S)
    (refine st_y S (Yr.ys (ys_assign Ev.c)) rfl ?_; clear S a w; intro a w S)
    refine st_nil ?_
    (refine (then_normal (hK1 _ _ ?_)); clear hK1)
    refine wp_ret ?_
    refine st_ret S (results3 S Try.results126 (Rv.tmp rfl) (Rv.tmp rfl) (Rv.tmp rfl)) ?_
    rw [← hno]
    exact ⟨rfl, S.wd.below⟩
abbrev rds (g : Nat) (A : Option Addr) (cap : Nat) (b : List UInt8) (k : Nat) (L : List Chunk) : List Chunk := .blk g (.cells #[.slice A b.length cap, .int .i64 (k : Int)] 79) :: L
theorem c117 {w0 w : World} {L : List Chunk} {g cap k : Nat} {A : Option Addr} {b : List UInt8} (W : Wd w0 (rds g A cap b k L) w) (hs : Sl encB 1 w0 w0.heap.size (.slice A b.length cap) b) (hk : k ≤ b.length) (hb : b.length ≤ 16777216) :
    RetsO Try.prog 117 #[.pointer (some ⟨g, 0, none⟩)] w0 w (fun v L' => v = .tuple #[.int .i64 (numAt b k).1, .int .i64 (numAt b k).2.2] ∧ L' = rds g A cap b (numAt b k).2.1 L) := by
  have hcap := hs.le
  have hs' := hs.drop_ k hk
  have rw_d : b.length - k = (b.drop k).length := by simp
  have hdl : (b.drop k).length ≤ 16777216 := by simp; omega
  have hnl := numAt_le hk
  have rw_p : (k : Int) + (((numR 0 0 (b.drop k)).2.1 : Nat) : Int) = ((numAt b k).2.1 : Int) := by unfold numAt; simp
  unfold Go.Fw.RetsO
  refine enterW1 W Try.func117 rfl Try.ntmps117 rfl fun a S => ?_
  refine wp_seq_k fun _ hK1 => ?_
  refine wp_region_lit ?_
  (refine st_y S (Yr.ys (ys_assign Ev.c)) rfl ?_; clear S a; intro a w S)
  (refine st_y S (Yr.ys (ys_assign Ev.c)) rfl ?_; clear S a w; intro a w S)
  refine st_nil ?_
  (refine (then_normal (hK1 _ _ ?_)); clear hK1)
  refine wp_seq_k fun _ hK1 => ?_
  (refine st_quiet S (by kernel_rfl) (by kernel_rfl) ?_; clear S w; intro a S)
  (refine q_y S (Yr.ys (ys_move (Ev.t rfl))) rfl ?_; clear S a; intro a S)
  (refine q_y S (Yr.ys (ys_nilc (Ev.t rfl))) rfl ?_; clear S a; intro a S)
  (refine q_y S (Yr.ys (ys_fieldN (FieldT.mk Try.underlying79 rfl Try.sizeOf22 rfl) (Ev.t rfl) (i' := 0) rfl)) rfl ?_; clear S a; intro a S)
  (refine q_y S (Yr.ys (ys_ld ⟨Try.isAgg22, Try.sizeOf22⟩ (Ev.t rfl) (k := 0) rfl rfl)) rfl ?_; clear S a; intro a S)
  (refine q_y S (Yr.ys (ys_move (Ev.t rfl))) rfl ?_; clear S a; intro a S)
  (refine q_y S (Yr.ys (ys_nilc (Ev.t rfl))) rfl ?_; clear S a; intro a S)
  (refine q_y S (Yr.ys (ys_fieldN (FieldT.mk Try.underlying79 rfl Try.sizeOf3 rfl) (Ev.t rfl) (i' := 1) rfl)) rfl ?_; clear S a; intro a S)
  (refine q_y S (Yr.ys (ys_ld ⟨Try.isAgg3, Try.sizeOf3⟩ (Ev.t rfl) (k := 0) rfl rfl)) rfl ?_; clear S a; intro a S)
  (refine q_y S (Yr.ys (ys_slLo Try.underlying22 Try.sizeOf5 (Ev.t rfl) (Ev.t rfl) (fun _ => by first | omega | (simp; done) | (simp; omega)))) rfl ?_; clear S a; intro a S)
  rw [rw_d] at S
  (refine q_y S (ys_call Try.call126 (EvL.cons (Ev.t rfl) EvL.nil) (fun hp w W => c126 _ _ _ (by exact .old W (by assumption)) (by assumption))) rfl ?_; clear S a; intro a S)
  (refine q_y S (Yr.ys (ys_move (Ev.t rfl))) rfl ?_; clear S a; intro a S)
  (refine q_y S (Yr.ys (ys_ext (Ev.t rfl) rfl)) rfl ?_; clear S a; intro a S)
  (refine q_y S (Yr.ys (ys_ext (Ev.t rfl) rfl)) rfl ?_; clear S a; intro a S)
  (refine q_y S (Yr.ys (ys_ext (Ev.t rfl) rfl)) rfl ?_; clear S a; intro a S)
  (refine q_y S (Yr.ys (ys_assign (Ev.t rfl))) rfl ?_; clear S a; intro a S)
  (refine q_y S (Yr.ys (ys_assign (Ev.t rfl))) rfl ?_; clear S a; intro a S)
  (refine q_y S (Yr.ys (ys_assign (Ev.t rfl))) rfl ?_; clear S a; intro a S)
  (refine q_nil ?_; intro w W; replace S := St.mk S W; clear W)
  (refine (then_normal (hK1 _ _ ?_)); clear hK1)
  refine wp_seq_k fun _ hK1 => ?_
  refine wp_region_lit ?_
  (refine st_y S (Yr.ys (ys_move (Ev.t rfl))) rfl ?_; clear S a w; intro a w S)
  (refine st_y S (Yr.ys (ys_nilc (Ev.t rfl))) rfl ?_; clear S a w; intro a w S)
  (refine st_y S (Yr.ys (ys_fieldN (FieldT.mk Try.underlying79 rfl Try.sizeOf3 rfl) (Ev.t rfl) (i' := 1) rfl)) rfl ?_; clear S a w; intro a w S)
  (refine st_y S (Yr.ys (ys_ld ⟨Try.isAgg3, Try.sizeOf3⟩ (Ev.t rfl) (k := 0) rfl rfl)) rfl ?_; clear S a w; intro a w S)
  (refine st_y S (Yr.ys (ys_move (Ev.t rfl))) rfl ?_; clear S a w; intro a w S)
  (refine st_y S (Yr.ys (ys_addI (Ev.t rfl) (Ev.t rfl) (fun _ => by unfold I64; omega))) rfl ?_; clear S a w; intro a w S)
  rw [rw_p] at S
  (refine st_y S (Yr.ys (ys_nilc (Ev.t rfl))) rfl ?_; clear S a w; intro a w S)
  (refine st_y S (Yr.ys (ys_fieldN (FieldT.mk Try.underlying79 rfl Try.sizeOf3 rfl) (Ev.t rfl) (i' := 1) rfl)) rfl ?_; clear S a w; intro a w S)
  (refine st_m (op_st S Try.sizeOf3 (Ev.t rfl) (Ev.t rfl) (k := 0) rfl rfl (by simp) ?_); clear S a w; intro a w S)
  refine st_nil ?_
  (refine (then_normal (hK1 _ _ ?_)); clear hK1)
  refine wp_seq_k fun _ hK1 => ?_
  refine wp_region_lit ?_
  (refine st_y S (Yr.ys (ys_move (Ev.t rfl))) rfl ?_; clear S a w; intro a w S)
  (refine st_y S (Yr.ys (ys_move (Ev.t rfl))) rfl ?_; clear S a w; intro a w S)
  (refine st_y S (Yr.ys (ys_assign (Ev.t rfl))) rfl ?_; clear S a w; intro a w S)
  (refine st_y S (Yr.ys (ys_assign (Ev.t rfl))) rfl ?_; clear S a w; intro a w S)
  refine st_nil ?_
  (refine (then_normal (hK1 _ _ ?_)); clear hK1)
  refine wp_ret ?_
  refine st_ret S (results2 S Try.results117 (Rv.tmp rfl) (Rv.tmp rfl)) ?_
  exact ⟨_, _, rfl, S.wd, rfl, rfl⟩
theorem c43 {w0 w : World} {L : List Chunk} {g cap k : Nat} {A : Option Addr} {b : List UInt8} (W : Wd w0 (rds g A cap b k L) w) (hs : Sl encB 1 w0 w0.heap.size (.slice A b.length cap) b) (hk : k ≤ b.length) (hb : b.length ≤ 16777216) :
    RetsO Try.prog 43 #[.pointer (some ⟨g, 0, none⟩)] w0 w (fun v L' => v = .tuple #[.int .i64 (byteR b k).1, .int .i64 (byteR b k).2.2] ∧ L' = rds g A cap b (k + (byteR b k).2.1) L) := by
  by_cases hlt : k < b.length
  · obtain ⟨A', cap', e0, h2, h3, hA⟩ := id hs
    simp only [Value.slice.injEq, true_and] at e0
    obtain ⟨rfl, rfl⟩ := e0
    obtain ⟨gq, oq, x, rfl, hx, hdq, hc⟩ := row_at hA hlt
    have hx8 : x.toNat < 256 := x.toNat_lt
    have rw_k : (k : Int) + 1 = ((k + 1 : Nat) : Int) := by omega
    unfold Go.Fw.RetsO
    refine enterW1 W Try.func43 rfl Try.ntmps43 rfl fun a S => ?_
    refine wp_seq_k fun _ hK1 => ?_
    refine wp_region_lit ?_
    (refine st_y S (Yr.ys (ys_assign Ev.c)) rfl ?_; clear S a; intro a w S)
    (refine st_y S (Yr.ys (ys_assign Ev.c)) rfl ?_; clear S a w; intro a w S)
    refine st_nil ?_
    (refine (then_normal (hK1 _ _ ?_)); clear hK1)
    refine wp_seq_k fun _ hK1 => ?_
    refine wp_seq_k fun _ hK2 => ?_
    (refine st_quiet S (by kernel_rfl) (by kernel_rfl) ?_; clear S w; intro a S)
    (refine q_y S (Yr.ys (ys_move (Ev.t rfl))) rfl ?_; clear S a; intro a S)
    (refine q_y S (Yr.ys (ys_nilc (Ev.t rfl))) rfl ?_; clear S a; intro a S)
    (refine q_y S (Yr.ys (ys_fieldN (FieldT.mk Try.underlying79 rfl Try.sizeOf3 rfl) (Ev.t rfl) (i' := 1) rfl)) rfl ?_; clear S a; intro a S)
    (refine q_y S (Yr.ys (ys_ld ⟨Try.isAgg3, Try.sizeOf3⟩ (Ev.t rfl) (k := 0) rfl rfl)) rfl ?_; clear S a; intro a S)
    (refine q_y S (Yr.ys (ys_move (Ev.t rfl))) rfl ?_; clear S a; intro a S)
    (refine q_y S (Yr.ys (ys_nilc (Ev.t rfl))) rfl ?_; clear S a; intro a S)
    (refine q_y S (Yr.ys (ys_fieldN (FieldT.mk Try.underlying79 rfl Try.sizeOf22 rfl) (Ev.t rfl) (i' := 0) rfl)) rfl ?_; clear S a; intro a S)
    (refine q_y S (Yr.ys (ys_ld ⟨Try.isAgg22, Try.sizeOf22⟩ (Ev.t rfl) (k := 0) rfl rfl)) rfl ?_; clear S a; intro a S)
    (refine q_y S (Yr.ys (ys_lenS Try.underlying22 (Ev.t rfl))) rfl ?_; clear S a; intro a S)
    (refine q_y S (Yr.ys (ys_F (by omega) (ys_eql (Ev.t rfl) (Ev.t rfl)))) rfl ?_; clear S a; intro a S)
    (refine q_nil ?_; intro w W; replace S := St.mk S W; clear W)
    (refine (then_normal (hK2 _ _ ?_)); clear hK2)
    refine st_else S (Ev.t rfl) ?_
    refine wp_skip ?_
    (refine (then_normal (hK1 _ _ ?_)); clear hK1)
    refine wp_seq_k fun _ hK1 => ?_
    refine wp_region_lit ?_
    (refine st_y S (Yr.ys (ys_move (Ev.t rfl))) rfl ?_; clear S a w; intro a w S)
    (refine st_y S (Yr.ys (ys_nilc (Ev.t rfl))) rfl ?_; clear S a w; intro a w S)
    (refine st_y S (Yr.ys (ys_fieldN (FieldT.mk Try.underlying79 rfl Try.sizeOf3 rfl) (Ev.t rfl) (i' := 1) rfl)) rfl ?_; clear S a w; intro a w S)
    (refine st_y S (Yr.ys (ys_ld ⟨Try.isAgg3, Try.sizeOf3⟩ (Ev.t rfl) (k := 0) rfl rfl)) rfl ?_; clear S a w; intro a w S)
    (refine st_y S (Yr.ys (ys_addI (Ev.t rfl) Ev.c (fun _ => by unfold I64; omega))) rfl ?_; clear S a w; intro a w S)
    rw [rw_k] at S
    (refine st_y S (Yr.ys (ys_nilc (Ev.t rfl))) rfl ?_; clear S a w; intro a w S)
    (refine st_y S (Yr.ys (ys_fieldN (FieldT.mk Try.underlying79 rfl Try.sizeOf3 rfl) (Ev.t rfl) (i' := 1) rfl)) rfl ?_; clear S a w; intro a w S)
    (refine st_m (op_st S Try.sizeOf3 (Ev.t rfl) (Ev.t rfl) (k := 0) rfl rfl (by simp) ?_); clear S a w; intro a w S)
    refine st_nil ?_
    (refine (then_normal (hK1 _ _ ?_)); clear hK1)
    refine wp_seq_k fun _ hK1 => ?_
    (refine st_quiet S (by kernel_rfl) (by kernel_rfl) ?_; clear S w; intro a S)
    (refine q_y S (Yr.ys (ys_move (Ev.t rfl))) rfl ?_; clear S a; intro a S)
    (refine q_y S (Yr.ys (ys_nilc (Ev.t rfl))) rfl ?_; clear S a; intro a S)
    (refine q_y S (Yr.ys (ys_fieldN (FieldT.mk Try.underlying79 rfl Try.sizeOf22 rfl) (Ev.t rfl) (i' := 0) rfl)) rfl ?_; clear S a; intro a S)
    (refine q_y S (Yr.ys (ys_ld ⟨Try.isAgg22, Try.sizeOf22⟩ (Ev.t rfl) (k := 0) rfl rfl)) rfl ?_; clear S a; intro a S)
    (refine q_y S (Yr.ys (ys_move (Ev.t rfl))) rfl ?_; clear S a; intro a S)
    (refine q_y S (Yr.ys (ys_nilc (Ev.t rfl))) rfl ?_; clear S a; intro a S)
    (refine q_y S (Yr.ys (ys_fieldN (FieldT.mk Try.underlying79 rfl Try.sizeOf3 rfl) (Ev.t rfl) (i' := 1) rfl)) rfl ?_; clear S a; intro a S)
    (refine q_y S (Yr.ys (ys_ld ⟨Try.isAgg3, Try.sizeOf3⟩ (Ev.t rfl) (k := 0) rfl rfl)) rfl ?_; clear S a; intro a S)
    (refine q_y S (Yr.ys (ys_pred (Ev.t rfl) Ev.c (by omega))) rfl ?_; clear S a; intro a S)
    (refine q_y S (Yr.ys (ys_ixS Try.underlying22 Try.sizeOf5 (Ev.t rfl) (Ev.t rfl) (fun _ => by omega))) rfl ?_; clear S a; intro a S)
    (refine q_y S (Yr.ys (ys_ldO ⟨Try.isAgg5, Try.sizeOf5⟩ (Ev.t rfl) (fun _ => hc 0 _ rfl))) rfl ?_; clear S a; intro a S)
    (refine q_y S (Yr.ys (ys_cvI Try.underlying5 Try.underlying3 (Ev.t rfl) (fun _ => by unfold I64; omega))) rfl ?_; clear S a; intro a S)
    (refine q_y S (Yr.ys (ys_assign (Ev.t rfl))) rfl ?_; clear S a; intro a S)
    (refine q_y S (Yr.ys (ys_assign Ev.c)) rfl ?_; clear S a; intro a S)
    (refine q_nil ?_; intro w W; replace S := St.mk S W; clear W)
    (refine (then_normal (hK1 _ _ ?_)); clear hK1)
    refine wp_ret ?_
    refine st_ret S (results2 S Try.results43 (Rv.tmp rfl) (Rv.tmp rfl)) ?_
    rw [byteR_some hx]
    exact ⟨_, _, rfl, S.wd, rfl, rfl⟩
  · unfold Go.Fw.RetsO
    refine enterW1 W Try.func43 rfl Try.ntmps43 rfl fun a S => ?_
    refine wp_seq_k fun _ hK1 => ?_
    refine wp_region_lit ?_
    (refine st_y S (Yr.ys (ys_assign Ev.c)) rfl ?_; clear S a; intro a w S)
    (refine st_y S (Yr.ys (ys_assign Ev.c)) rfl ?_; clear S a w; intro a w S)
    refine st_nil ?_
    (refine (then_normal (hK1 _ _ ?_)); clear hK1)
    refine wp_seq_k fun _ hK1 => ?_
    refine wp_seq_k fun _ hK2 => ?_
    (refine st_quiet S (by kernel_rfl) (by kernel_rfl) ?_; clear S w; intro a S)
    (refine q_y S (Yr.ys (ys_move (Ev.t rfl))) rfl ?_; clear S a; intro a S)
    (refine q_y S (Yr.ys (ys_nilc (Ev.t rfl))) rfl ?_; clear S a; intro a S)
    (refine q_y S (Yr.ys (ys_fieldN (FieldT.mk Try.underlying79 rfl Try.sizeOf3 rfl) (Ev.t rfl) (i' := 1) rfl)) rfl ?_; clear S a; intro a S)
    (refine q_y S (Yr.ys (ys_ld ⟨Try.isAgg3, Try.sizeOf3⟩ (Ev.t rfl) (k := 0) rfl rfl)) rfl ?_; clear S a; intro a S)
    (refine q_y S (Yr.ys (ys_move (Ev.t rfl))) rfl ?_; clear S a; intro a S)
    (refine q_y S (Yr.ys (ys_nilc (Ev.t rfl))) rfl ?_; clear S a; intro a S)
    (refine q_y S (Yr.ys (ys_fieldN (FieldT.mk Try.underlying79 rfl Try.sizeOf22 rfl) (Ev.t rfl) (i' := 0) rfl)) rfl ?_; clear S a; intro a S)
    (refine q_y S (Yr.ys (ys_ld ⟨Try.isAgg22, Try.sizeOf22⟩ (Ev.t rfl) (k := 0) rfl rfl)) rfl ?_; clear S a; intro a S)
    (refine q_y S (Yr.ys (ys_lenS Try.underlying22 (Ev.t rfl))) rfl ?_; clear S a; intro a S)
    (refine q_y S (Yr.ys (ys_T (by omega) (ys_eql (Ev.t rfl) (Ev.t rfl)))) rfl ?_; clear S a; intro a S)
    (refine q_nil ?_; intro w W; replace S := St.mk S W; clear W)
    (refine (then_normal (hK2 _ _ ?_)); clear hK2)
    refine st_then S (Ev.t rfl) ?_
    refine wp_seq_k fun _ hK2 => ?_
    refine wp_region_lit ?_
    (refine st_y S (Yr.ys (ys_assign Ev.c)) rfl ?_; clear S a w; intro a w S)
    (refine st_y S (Yr.ys (ys_assign Ev.c)) rfl ?_; clear S a w; intro a w S)
    refine st_nil ?_
    (refine (then_normal (hK2 _ _ ?_)); clear hK2)
    refine wp_ret ?_
    refine (then_ret ?_)
    refine st_ret S (results2 S Try.results43 (Rv.tmp rfl) (Rv.tmp rfl)) ?_
    rw [byteR_none (by omega)]
    exact ⟨_, _, rfl, S.wd, rfl, rfl⟩
theorem c107 {w0 w : World} {L : List Chunk} {g cap k : Nat} {A : Option Addr} {b : List UInt8} (W : Wd w0 (rds g A cap b k L) w) (hs : Sl encB 1 w0 w0.heap.size (.slice A b.length cap) b) (hk : k ≤ b.length) (hb : b.length ≤ 16777216) :
    RetsO Try.prog 107 #[.pointer (some ⟨g, 0, none⟩)] w0 w (fun v L' => ∃ B c, v = .tuple #[.slice B (listAt b k).1.length c, .int .i64 (listAt b k).2.2] ∧ L' = rds g A cap b (listAt b k).2.1 (rowOf 32 3 Dot.enc B c (listAt b k).1 :: L)) := by
  have hv := numAt_val b k
  have hp := numAt_le hk
  by_cases he : (numAt b k).2.2 = 0
  · by_cases h64 : 64 < (numAt b k).1
    · unfold Go.Fw.RetsO
      refine enterW1 W Try.func107 rfl Try.ntmps107 rfl fun a S => ?_
      refine wp_seq_k fun _ hK1 => ?_
      refine wp_region_lit ?_
      (refine st_y S (Yr.ys (ys_assign Ev.c)) rfl ?_; clear S a; intro a w S)
      (refine st_y S (Yr.ys (ys_assign Ev.c)) rfl ?_; clear S a w; intro a w S)
      refine st_nil ?_
      (refine (then_normal (hK1 _ _ ?_)); clear hK1)
      refine wp_seq_k fun _ hK1 => ?_
      refine wp_region_lit ?_
      (refine st_y S (Yr.ys (ys_move (Ev.t rfl))) rfl ?_; clear S a w; intro a w S)
      (refine st_m (op_callO S Try.call117 (EvL.cons (Ev.t rfl) EvL.nil) (c117 S.wd (by first | assumption | omega | exact Sl.nil_ | exact .old S.wd (by assumption) | exact Sl.of_own S.wd (k := 0) rfl (fun _ => rfl) | (simp at *; omega)) (by first | assumption | omega | exact Sl.nil_ | exact .old S.wd (by assumption) | exact Sl.of_own S.wd (k := 0) rfl (fun _ => rfl) | (simp at *; omega)) (by first | assumption | omega | exact Sl.nil_ | exact .old S.wd (by assumption) | exact Sl.of_own S.wd (k := 0) rfl (fun _ => rfl) | (simp at *; omega))) rfl ?_) <;> clear S a w)
      rintro _ _ ⟨rfl, rfl⟩ a w S
      (refine st_y S (Yr.ys (ys_move (Ev.t rfl))) rfl ?_; clear S a w; intro a w S)
      (refine st_y S (Yr.ys (ys_ext (Ev.t rfl) rfl)) rfl ?_; clear S a w; intro a w S)
      (refine st_y S (Yr.ys (ys_ext (Ev.t rfl) rfl)) rfl ?_; clear S a w; intro a w S)
      (refine st_y S (Yr.ys (ys_assign (Ev.t rfl))) rfl ?_; clear S a w; intro a w S)
      (refine st_y S (Yr.ys (ys_assign (Ev.t rfl))) rfl ?_; clear S a w; intro a w S)
      refine st_nil ?_
      (refine (then_normal (hK1 _ _ ?_)); clear hK1)
      refine wp_seq_k fun _ hK1 => ?_
      refine wp_seq_k fun _ hK2 => ?_
      refine wp_region_lit ?_
      (refine st_y S (Yr.ys (ys_move (Ev.t rfl))) rfl ?_; clear S a w; intro a w S)
      (refine st_y S (Yr.ys (ys_F (by omega) (ys_neq (Ev.t rfl) Ev.c))) rfl ?_; clear S a w; intro a w S)
      refine st_nil ?_
      (refine (then_normal (hK2 _ _ ?_)); clear hK2)
      refine st_else S (Ev.t rfl) ?_
      refine wp_skip ?_
      (refine (then_normal (hK1 _ _ ?_)); clear hK1)
      refine wp_seq_k fun _ hK1 => ?_
      refine wp_seq_k fun _ hK2 => ?_
      refine wp_region_lit ?_
      (refine st_y S (Yr.ys (ys_move (Ev.t rfl))) rfl ?_; clear S a w; intro a w S)
      (refine st_y S (Yr.ys (ys_T (by omega) (ys_gtr (Ev.t rfl) Ev.c))) rfl ?_; clear S a w; intro a w S)
      refine st_nil ?_
      (refine (then_normal (hK2 _ _ ?_)); clear hK2)
      refine st_then S (Ev.t rfl) ?_
      refine wp_seq_k fun _ hK2 => ?_
      refine wp_region_lit ?_
      (refine st_y S (Yr.ys (ys_assign Ev.c)) rfl ?_; clear S a w; intro a w S)
      (refine st_y S (Yr.ys (ys_assign Ev.c)) rfl ?_; clear S a w; intro a w S)
      refine st_nil ?_
      (refine (then_normal (hK2 _ _ ?_)); clear hK2)
      refine wp_ret ?_
      refine (then_ret ?_)
      refine st_ret S (results2 S Try.results107 (Rv.tmp rfl) (Rv.tmp rfl)) ?_
      rw [show listAt b k = ([], (numAt b k).2.1, 4) by unfold listAt; rw [bindR_ok he, if_pos h64]]
      exact ⟨_, _, rfl, (S.nil_ 32 3 Dot.enc none).wd.picks (by repeat (first | exact Picks.nil | (refine Picks.rest ?_; (repeat (first | exact List.Sublist.refl _ | refine List.Sublist.cons_cons _ ?_ | refine List.Sublist.cons _ ?_)); done) | refine Picks.take 0 rfl ?_ | refine Picks.take 1 rfl ?_ | refine Picks.take 2 rfl ?_ | refine Picks.take 3 rfl ?_ | refine Picks.take 4 rfl ?_ | refine Picks.take 5 rfl ?_ | refine Picks.take 6 rfl ?_ | refine Picks.take 7 rfl ?_ | refine Picks.take 8 rfl ?_ | refine Picks.take 9 rfl ?_ | refine Picks.take 10 rfl ?_ | refine Picks.take 11 rfl ?_)), none, 0, rfl, rfl⟩
    · obtain ⟨n, hn⟩ : ∃ n : Nat, (numAt b k).1 = (n : Int) := ⟨(numAt b k).1.toNat, by omega⟩
      have hla : listAt b k = dotsAt b n [] (numAt b k).2.1 := by unfold listAt; rw [bindR_ok he, if_neg h64, hn]; rfl
      have hn64 : n ≤ 64 := by omega
      have rw_n := hn
      unfold Go.Fw.RetsO
      refine enterW1 W Try.func107 rfl Try.ntmps107 rfl fun a S => ?_
      refine wp_seq_k fun _ hK1 => ?_
      refine wp_region_lit ?_
      (refine st_y S (Yr.ys (ys_assign Ev.c)) rfl ?_; clear S a; intro a w S)
      (refine st_y S (Yr.ys (ys_assign Ev.c)) rfl ?_; clear S a w; intro a w S)
      refine st_nil ?_
      (refine (then_normal (hK1 _ _ ?_)); clear hK1)
      refine wp_seq_k fun _ hK1 => ?_
      refine wp_region_lit ?_
      (refine st_y S (Yr.ys (ys_move (Ev.t rfl))) rfl ?_; clear S a w; intro a w S)
      (refine st_m (op_callO S Try.call117 (EvL.cons (Ev.t rfl) EvL.nil) (c117 S.wd (by first | assumption | omega | exact Sl.nil_ | exact .old S.wd (by assumption) | exact Sl.of_own S.wd (k := 0) rfl (fun _ => rfl) | (simp at *; omega)) (by first | assumption | omega | exact Sl.nil_ | exact .old S.wd (by assumption) | exact Sl.of_own S.wd (k := 0) rfl (fun _ => rfl) | (simp at *; omega)) (by first | assumption | omega | exact Sl.nil_ | exact .old S.wd (by assumption) | exact Sl.of_own S.wd (k := 0) rfl (fun _ => rfl) | (simp at *; omega))) rfl ?_) <;> clear S a w)
      rintro _ _ ⟨rfl, rfl⟩ a w S
      rw [rw_n] at S
      (refine st_y S (Yr.ys (ys_move (Ev.t rfl))) rfl ?_; clear S a w; intro a w S)
      (refine st_y S (Yr.ys (ys_ext (Ev.t rfl) rfl)) rfl ?_; clear S a w; intro a w S)
      (refine st_y S (Yr.ys (ys_ext (Ev.t rfl) rfl)) rfl ?_; clear S a w; intro a w S)
      (refine st_y S (Yr.ys (ys_assign (Ev.t rfl))) rfl ?_; clear S a w; intro a w S)
      (refine st_y S (Yr.ys (ys_assign (Ev.t rfl))) rfl ?_; clear S a w; intro a w S)
      refine st_nil ?_
      (refine (then_normal (hK1 _ _ ?_)); clear hK1)
      refine wp_seq_k fun _ hK1 => ?_
      refine wp_seq_k fun _ hK2 => ?_
      refine wp_region_lit ?_
      (refine st_y S (Yr.ys (ys_move (Ev.t rfl))) rfl ?_; clear S a w; intro a w S)
      (refine st_y S (Yr.ys (ys_F (by omega) (ys_neq (Ev.t rfl) Ev.c))) rfl ?_; clear S a w; intro a w S)
      refine st_nil ?_
      (refine (then_normal (hK2 _ _ ?_)); clear hK2)
      refine st_else S (Ev.t rfl) ?_
      refine wp_skip ?_
      (refine (then_normal (hK1 _ _ ?_)); clear hK1)
      refine wp_seq_k fun _ hK1 => ?_
      refine wp_seq_k fun _ hK2 => ?_
      refine wp_region_lit ?_
      (refine st_y S (Yr.ys (ys_move (Ev.t rfl))) rfl ?_; clear S a w; intro a w S)
      (refine st_y S (Yr.ys (ys_F (by omega) (ys_gtr (Ev.t rfl) Ev.c))) rfl ?_; clear S a w; intro a w S)
      refine st_nil ?_
      (refine (then_normal (hK2 _ _ ?_)); clear hK2)
      refine st_else S (Ev.t rfl) ?_
      refine wp_skip ?_
      (refine (then_normal (hK1 _ _ ?_)); clear hK1)
      refine wp_seq_k fun _ hK1 => ?_
      refine wp_region_lit ?_
      (refine st_y S (Yr.ys (ys_assign Ev.c)) rfl ?_; clear S a w; intro a w S)
      refine st_nil ?_
      (refine (then_normal (hK1 _ _ ?_)); clear hK1)
      refine wp_seq_k fun _ hK1 => ?_
      refine wp_seq_k fun _ hK2 => ?_
      refine wp_region_lit ?_
      (refine st_y S (Yr.ys (ys_move (Ev.t rfl))) rfl ?_; clear S a w; intro a w S)
      (refine st_y S (Yr.ys (ys_move Ev.c)) rfl ?_; clear S a w; intro a w S)
      refine st_nil ?_
      (refine (then_normal (hK2 _ _ ?_)); clear hK2)
      refine wp_block ?_
      refine st_loopM (S.nil_ 32 3 Dot.enc none) [2, 3] (X := Nat × Nat × List Dot × Option Addr × Nat) (fun q => [(22, true, .int .i64 (q.1 : Int)), (6, true, .slice q.2.2.2.1 q.2.2.1.length q.2.2.2.2)]) (fun q => rowOf 32 3 Dot.enc q.2.2.2.1 q.2.2.2.2 q.2.2.1 :: rds g A cap b q.2.1 L)
        (fun q => q.1 ≤ n ∧ q.2.1 ≤ b.length ∧ q.2.2.1.length = q.1 ∧ dotsAt b (n - q.1) q.2.2.1 q.2.1 = dotsAt b n [] (numAt b k).2.1) (fun q => n - q.1) (0, (numAt b k).2.1, [], none, 0) ⟨Nat.zero_le _, hp.2, rfl, rfl⟩ (by repeat (first | exact Fits.nil | refine Fits.skip rfl ?_ | refine Fits.cons rfl ?_)) (by repeat (first | exact Picks.nil | (refine Picks.rest ?_; (repeat (first | exact List.Sublist.refl _ | refine List.Sublist.cons_cons _ ?_ | refine List.Sublist.cons _ ?_)); done) | refine Picks.take 0 rfl ?_ | refine Picks.take 1 rfl ?_ | refine Picks.take 2 rfl ?_ | refine Picks.take 3 rfl ?_ | refine Picks.take 4 rfl ?_ | refine Picks.take 5 rfl ?_ | refine Picks.take 6 rfl ?_ | refine Picks.take 7 rfl ?_ | refine Picks.take 8 rfl ?_ | refine Picks.take 9 rfl ?_ | refine Picks.take 10 rfl ?_ | refine Picks.take 11 rfl ?_)) ?_
      clear S
      intro ⟨i, k', acc, D, cD⟩ a w ⟨hi, hk', hlen, hno⟩ S
      dsimp only at hi hk' hlen hno S
      by_cases hlt : i < n
      · rw [show n - i = (n - (i + 1)) + 1 by omega, dotsAt] at hno
        refine wp_seq_k fun _ hK2 => ?_
        refine wp_region_lit ?_
        (refine st_y S (Yr.ys (ys_T (by omega) (ys_lss (Ev.t rfl) (Ev.t rfl)))) rfl ?_; clear S a w; intro a w S)
        refine st_nil ?_
        (refine (then_normal (hK2 _ _ ?_)); clear hK2)
        refine wp_seq_k fun _ hK2 => ?_
        refine st_then S (Ev.t rfl) ?_
        refine wp_skip ?_
        (refine (then_normal (hK2 _ _ ?_)); clear hK2)
        refine wp_seq_k fun _ hK2 => ?_
        refine wp_block ?_
        refine wp_seq_k fun _ hK3 => ?_
        refine wp_region_lit ?_
        (refine st_m (op_alloc S Try.zeroValue167 (cs := _) rfl rfl ?_); clear S a w; intro g1 a w S)
        refine st_nil ?_
        (refine (then_normal (hK3 _ _ ?_)); clear hK3)
        refine wp_seq_k fun _ hK3 => ?_
        refine wp_seq_k fun _ hK4 => ?_
        refine wp_region_lit ?_
        (refine st_y S (Yr.ys (ys_move Ev.c)) rfl ?_; clear S a w; intro a w S)
        refine st_nil ?_
        (refine (then_normal (hK4 _ _ ?_)); clear hK4)
        refine wp_block ?_
        have hp1 := numAt_le hk'
        by_cases e1 : (numAt b k').2.2 = 0
        · refine st_rounds 4 (st_round ?_)
          refine wp_seq_k fun _ hK4 => ?_
          refine wp_region_lit ?_
          (refine st_y S (Yr.ys (ys_T (by omega) (ys_lss (Ev.t rfl) Ev.c))) rfl ?_; clear S a w; intro a w S)
          refine st_nil ?_
          (refine (then_normal (hK4 _ _ ?_)); clear hK4)
          refine wp_seq_k fun _ hK4 => ?_
          refine st_then S (Ev.t rfl) ?_
          refine wp_skip ?_
          (refine (then_normal (hK4 _ _ ?_)); clear hK4)
          refine wp_seq_k fun _ hK4 => ?_
          refine wp_block ?_
          refine wp_seq_k fun _ hK5 => ?_
          refine wp_region_lit ?_
          (refine st_y S (Yr.ys (ys_move (Ev.t rfl))) rfl ?_; clear S a w; intro a w S)
          (refine st_y S (Yr.ys (ys_assign (Ev.t rfl))) rfl ?_; clear S a w; intro a w S)
          refine st_nil ?_
          (refine (then_normal (hK5 _ _ ?_)); clear hK5)
          refine wp_seq_k fun _ hK5 => ?_
          refine wp_region_lit ?_
          (refine st_y S (Yr.ys (ys_move (Ev.t rfl))) rfl ?_; clear S a w; intro a w S)
          (replace S := S.pull 2 rfl; try simp only [List.set_cons_zero, List.set_cons_succ, List.eraseIdx_cons_succ, List.eraseIdx_cons_zero] at S; refine st_m (op_callO S Try.call117 (EvL.cons (Ev.t rfl) EvL.nil) (c117 S.wd (by first | assumption | omega | exact Sl.nil_ | exact .old S.wd (by assumption) | exact Sl.of_own S.wd (k := 0) rfl (fun _ => rfl) | exact Sl.of_own S.wd (k := 1) rfl (fun _ => rfl) | exact Sl.of_own S.wd (k := 2) rfl (fun _ => rfl) | (simp at *; omega)) (by first | assumption | omega | exact Sl.nil_ | exact .old S.wd (by assumption) | exact Sl.of_own S.wd (k := 0) rfl (fun _ => rfl) | exact Sl.of_own S.wd (k := 1) rfl (fun _ => rfl) | exact Sl.of_own S.wd (k := 2) rfl (fun _ => rfl) | (simp at *; omega)) (by first | assumption | omega | exact Sl.nil_ | exact .old S.wd (by assumption) | exact Sl.of_own S.wd (k := 0) rfl (fun _ => rfl) | exact Sl.of_own S.wd (k := 1) rfl (fun _ => rfl) | exact Sl.of_own S.wd (k := 2) rfl (fun _ => rfl) | (simp at *; omega))) rfl ?_) <;> clear S a w)
          rintro _ _ ⟨rfl, rfl⟩ a w S
          (refine st_y S (Yr.ys (ys_move (Ev.t rfl))) rfl ?_; clear S a w; intro a w S)
          (refine st_y S (Yr.ys (ys_ext (Ev.t rfl) rfl)) rfl ?_; clear S a w; intro a w S)
          (refine st_y S (Yr.ys (ys_ext (Ev.t rfl) rfl)) rfl ?_; clear S a w; intro a w S)
          (refine st_y S (Yr.ys (ys_assign (Ev.t rfl))) rfl ?_; clear S a w; intro a w S)
          (refine st_y S (Yr.ys (ys_assign (Ev.t rfl))) rfl ?_; clear S a w; intro a w S)
          refine st_nil ?_
          (refine (then_normal (hK5 _ _ ?_)); clear hK5)
          refine wp_seq_k fun _ hK5 => ?_
          refine wp_seq_k fun _ hK6 => ?_
          refine wp_region_lit ?_
          (refine st_y S (Yr.ys (ys_move (Ev.t rfl))) rfl ?_; clear S a w; intro a w S)
          (refine st_y S (Yr.ys (ys_F (by omega) (ys_neq (Ev.t rfl) Ev.c))) rfl ?_; clear S a w; intro a w S)
          refine st_nil ?_
          (refine (then_normal (hK6 _ _ ?_)); clear hK6)
          refine st_else S (Ev.t rfl) ?_
          refine wp_skip ?_
          (refine (then_normal (hK5 _ _ ?_)); clear hK5)
          refine wp_region_lit ?_
          (refine st_y S (Yr.ys (ys_move (Ev.t rfl))) rfl ?_; clear S a w; intro a w S)
          (refine st_y S (Yr.ys (ys_move (Ev.t rfl))) rfl ?_; clear S a w; intro a w S)
          (refine st_y S (Yr.ys (ys_ixA (j := 0) Try.underlying167 Try.sizeOf3 (Ev.t rfl) (Ev.t rfl) (fun _ => by decide))) rfl ?_; clear S a w; intro a w S)
          (refine st_m (op_st S Try.sizeOf3 (Ev.t rfl) (Ev.t rfl) (k := 1) rfl rfl (by simp) ?_); clear S a w; intro a w S)
          refine st_nil ?_
          (refine (in_normal (then_normal (hK4 _ _ ?_))); clear hK4)
          refine wp_region_lit ?_
          (refine st_y S (Yr.ys (ys_addI (Ev.t rfl) Ev.c (fun _ => by unfold I64; omega))) rfl ?_; clear S a w; intro a w S)
          (refine st_y S (Yr.ys (ys_move (Ev.t rfl))) rfl ?_; clear S a w; intro a w S)
          refine st_nil ?_
          refine (then_normal ?_)
          refine st_round ?_
          have hp2 := numAt_le hp1.2
          by_cases e2 : (numAt b (numAt b k').2.1).2.2 = 0
          · refine wp_seq_k fun _ hK4 => ?_
            refine wp_region_lit ?_
            (refine st_y S (Yr.ys (ys_T (by omega) (ys_lss (Ev.t rfl) Ev.c))) rfl ?_; clear S a w; intro a w S)
            refine st_nil ?_
            (refine (then_normal (hK4 _ _ ?_)); clear hK4)
            refine wp_seq_k fun _ hK4 => ?_
            refine st_then S (Ev.t rfl) ?_
            refine wp_skip ?_
            (refine (then_normal (hK4 _ _ ?_)); clear hK4)
            refine wp_seq_k fun _ hK4 => ?_
            refine wp_block ?_
            refine wp_seq_k fun _ hK5 => ?_
            refine wp_region_lit ?_
            (refine st_y S (Yr.ys (ys_move (Ev.t rfl))) rfl ?_; clear S a w; intro a w S)
            (refine st_y S (Yr.ys (ys_assign (Ev.t rfl))) rfl ?_; clear S a w; intro a w S)
            refine st_nil ?_
            (refine (then_normal (hK5 _ _ ?_)); clear hK5)
            refine wp_seq_k fun _ hK5 => ?_
            refine wp_region_lit ?_
            (refine st_y S (Yr.ys (ys_move (Ev.t rfl))) rfl ?_; clear S a w; intro a w S)
            (refine st_m (op_callO S Try.call117 (EvL.cons (Ev.t rfl) EvL.nil) (c117 S.wd (by first | assumption | omega | exact Sl.nil_ | exact .old S.wd (by assumption) | exact Sl.of_own S.wd (k := 0) rfl (fun _ => rfl) | exact Sl.of_own S.wd (k := 1) rfl (fun _ => rfl) | exact Sl.of_own S.wd (k := 2) rfl (fun _ => rfl) | (simp at *; omega)) (by first | assumption | omega | exact Sl.nil_ | exact .old S.wd (by assumption) | exact Sl.of_own S.wd (k := 0) rfl (fun _ => rfl) | exact Sl.of_own S.wd (k := 1) rfl (fun _ => rfl) | exact Sl.of_own S.wd (k := 2) rfl (fun _ => rfl) | (simp at *; omega)) (by first | assumption | omega | exact Sl.nil_ | exact .old S.wd (by assumption) | exact Sl.of_own S.wd (k := 0) rfl (fun _ => rfl) | exact Sl.of_own S.wd (k := 1) rfl (fun _ => rfl) | exact Sl.of_own S.wd (k := 2) rfl (fun _ => rfl) | (simp at *; omega))) rfl ?_) <;> clear S a w)
            rintro _ _ ⟨rfl, rfl⟩ a w S
            (refine st_y S (Yr.ys (ys_move (Ev.t rfl))) rfl ?_; clear S a w; intro a w S)
            (refine st_y S (Yr.ys (ys_ext (Ev.t rfl) rfl)) rfl ?_; clear S a w; intro a w S)
            (refine st_y S (Yr.ys (ys_ext (Ev.t rfl) rfl)) rfl ?_; clear S a w; intro a w S)
            (refine st_y S (Yr.ys (ys_assign (Ev.t rfl))) rfl ?_; clear S a w; intro a w S)
            (refine st_y S (Yr.ys (ys_assign (Ev.t rfl))) rfl ?_; clear S a w; intro a w S)
            refine st_nil ?_
            (refine (then_normal (hK5 _ _ ?_)); clear hK5)
            refine wp_seq_k fun _ hK5 => ?_
            refine wp_seq_k fun _ hK6 => ?_
            refine wp_region_lit ?_
            (refine st_y S (Yr.ys (ys_move (Ev.t rfl))) rfl ?_; clear S a w; intro a w S)
            (refine st_y S (Yr.ys (ys_F (by omega) (ys_neq (Ev.t rfl) Ev.c))) rfl ?_; clear S a w; intro a w S)
            refine st_nil ?_
            (refine (then_normal (hK6 _ _ ?_)); clear hK6)
            refine st_else S (Ev.t rfl) ?_
            refine wp_skip ?_
            (refine (then_normal (hK5 _ _ ?_)); clear hK5)
            refine wp_region_lit ?_
            (refine st_y S (Yr.ys (ys_move (Ev.t rfl))) rfl ?_; clear S a w; intro a w S)
            (refine st_y S (Yr.ys (ys_move (Ev.t rfl))) rfl ?_; clear S a w; intro a w S)
            (refine st_y S (Yr.ys (ys_ixAI Try.underlying167 Try.sizeOf3 (Ev.t rfl) (Ev.t rfl) (fun _ => by omega))) rfl ?_; clear S a w; intro a w S)
            (refine st_m (op_st S Try.sizeOf3 (Ev.t rfl) (Ev.t rfl) (k := 1) rfl rfl (by simp) ?_); clear S a w; intro a w S)
            refine st_nil ?_
            (refine (in_normal (then_normal (hK4 _ _ ?_))); clear hK4)
            refine wp_region_lit ?_
            (refine st_y S (Yr.ys (ys_addI (Ev.t rfl) Ev.c (fun _ => by unfold I64; omega))) rfl ?_; clear S a w; intro a w S)
            (refine st_y S (Yr.ys (ys_move (Ev.t rfl))) rfl ?_; clear S a w; intro a w S)
            refine st_nil ?_
            refine (then_normal ?_)
            refine st_round ?_
            have hp3 := numAt_le hp2.2
            by_cases e3 : (numAt b (numAt b (numAt b k').2.1).2.1).2.2 = 0
            · refine wp_seq_k fun _ hK4 => ?_
              refine wp_region_lit ?_
              (refine st_y S (Yr.ys (ys_T (by omega) (ys_lss (Ev.t rfl) Ev.c))) rfl ?_; clear S a w; intro a w S)
              refine st_nil ?_
              (refine (then_normal (hK4 _ _ ?_)); clear hK4)
              refine wp_seq_k fun _ hK4 => ?_
              refine st_then S (Ev.t rfl) ?_
              refine wp_skip ?_
              (refine (then_normal (hK4 _ _ ?_)); clear hK4)
              refine wp_seq_k fun _ hK4 => ?_
              refine wp_block ?_
              refine wp_seq_k fun _ hK5 => ?_
              refine wp_region_lit ?_
              (refine st_y S (Yr.ys (ys_move (Ev.t rfl))) rfl ?_; clear S a w; intro a w S)
              (refine st_y S (Yr.ys (ys_assign (Ev.t rfl))) rfl ?_; clear S a w; intro a w S)
              refine st_nil ?_
              (refine (then_normal (hK5 _ _ ?_)); clear hK5)
              refine wp_seq_k fun _ hK5 => ?_
              refine wp_region_lit ?_
              (refine st_y S (Yr.ys (ys_move (Ev.t rfl))) rfl ?_; clear S a w; intro a w S)
              (refine st_m (op_callO S Try.call117 (EvL.cons (Ev.t rfl) EvL.nil) (c117 S.wd (by first | assumption | omega | exact Sl.nil_ | exact .old S.wd (by assumption) | exact Sl.of_own S.wd (k := 0) rfl (fun _ => rfl) | exact Sl.of_own S.wd (k := 1) rfl (fun _ => rfl) | exact Sl.of_own S.wd (k := 2) rfl (fun _ => rfl) | (simp at *; omega)) (by first | assumption | omega | exact Sl.nil_ | exact .old S.wd (by assumption) | exact Sl.of_own S.wd (k := 0) rfl (fun _ => rfl) | exact Sl.of_own S.wd (k := 1) rfl (fun _ => rfl) | exact Sl.of_own S.wd (k := 2) rfl (fun _ => rfl) | (simp at *; omega)) (by first | assumption | omega | exact Sl.nil_ | exact .old S.wd (by assumption) | exact Sl.of_own S.wd (k := 0) rfl (fun _ => rfl) | exact Sl.of_own S.wd (k := 1) rfl (fun _ => rfl) | exact Sl.of_own S.wd (k := 2) rfl (fun _ => rfl) | (simp at *; omega))) rfl ?_) <;> clear S a w)
              rintro _ _ ⟨rfl, rfl⟩ a w S
              (refine st_y S (Yr.ys (ys_move (Ev.t rfl))) rfl ?_; clear S a w; intro a w S)
              (refine st_y S (Yr.ys (ys_ext (Ev.t rfl) rfl)) rfl ?_; clear S a w; intro a w S)
              (refine st_y S (Yr.ys (ys_ext (Ev.t rfl) rfl)) rfl ?_; clear S a w; intro a w S)
              (refine st_y S (Yr.ys (ys_assign (Ev.t rfl))) rfl ?_; clear S a w; intro a w S)
              (refine st_y S (Yr.ys (ys_assign (Ev.t rfl))) rfl ?_; clear S a w; intro a w S)
              refine st_nil ?_
              (refine (then_normal (hK5 _ _ ?_)); clear hK5)
              refine wp_seq_k fun _ hK5 => ?_
              refine wp_seq_k fun _ hK6 => ?_
              refine wp_region_lit ?_
              (refine st_y S (Yr.ys (ys_move (Ev.t rfl))) rfl ?_; clear S a w; intro a w S)
              (refine st_y S (Yr.ys (ys_F (by omega) (ys_neq (Ev.t rfl) Ev.c))) rfl ?_; clear S a w; intro a w S)
              refine st_nil ?_
              (refine (then_normal (hK6 _ _ ?_)); clear hK6)
              refine st_else S (Ev.t rfl) ?_
              refine wp_skip ?_
              (refine (then_normal (hK5 _ _ ?_)); clear hK5)
              refine wp_region_lit ?_
              (refine st_y S (Yr.ys (ys_move (Ev.t rfl))) rfl ?_; clear S a w; intro a w S)
              (refine st_y S (Yr.ys (ys_move (Ev.t rfl))) rfl ?_; clear S a w; intro a w S)
              (refine st_y S (Yr.ys (ys_ixAI Try.underlying167 Try.sizeOf3 (Ev.t rfl) (Ev.t rfl) (fun _ => by omega))) rfl ?_; clear S a w; intro a w S)
              (refine st_m (op_st S Try.sizeOf3 (Ev.t rfl) (Ev.t rfl) (k := 1) rfl rfl (by simp) ?_); clear S a w; intro a w S)
              refine st_nil ?_
              (refine (in_normal (then_normal (hK4 _ _ ?_))); clear hK4)
              refine wp_region_lit ?_
              (refine st_y S (Yr.ys (ys_addI (Ev.t rfl) Ev.c (fun _ => by unfold I64; omega))) rfl ?_; clear S a w; intro a w S)
              (refine st_y S (Yr.ys (ys_move (Ev.t rfl))) rfl ?_; clear S a w; intro a w S)
              refine st_nil ?_
              refine (then_normal ?_)
              refine st_round ?_
              have hd : dotAt b k' = (⟨(numAt b k').1, (numAt b (numAt b k').2.1).1, (numAt b (numAt b (numAt b k').2.1).2.1).1⟩, (numAt b (numAt b (numAt b k').2.1).2.1).2.1, 0) := by unfold dotAt; rw [bindR_ok e1, bindR_ok e2, bindR_ok e3]
              rw [hd, bindR_ok rfl] at hno
              refine wp_seq_k fun _ hK4 => ?_
              refine wp_region_lit ?_
              (refine st_y S (Yr.ys (ys_F (by omega) (ys_lss (Ev.t rfl) Ev.c))) rfl ?_; clear S a w; intro a w S)
              refine st_nil ?_
              (refine (then_normal (hK4 _ _ ?_)); clear hK4)
              refine wp_seq_k fun _ hK4 => ?_
              refine st_else S (Ev.t rfl) ?_
              refine wp_exit ?_
              (refine (then_exit (then_exit (in_here (then_normal (hK3 _ _ ?_))))); clear hK3)
              refine wp_region_lit ?_
              (refine st_y S (Yr.ys (ys_move (Ev.t rfl))) rfl ?_; clear S a w; intro a w S)
              (refine st_y S (Yr.ys (ys_ixA (j := 0) Try.underlying167 Try.sizeOf3 (Ev.t rfl) Ev.c (fun _ => by decide))) rfl ?_; clear S a w; intro a w S)
              (refine st_y S (Yr.ys (ys_ld ⟨Try.isAgg3, Try.sizeOf3⟩ (Ev.t rfl) (k := 1) rfl rfl)) rfl ?_; clear S a w; intro a w S)
              (refine st_y S (Yr.ys (ys_ixA (j := 1) Try.underlying167 Try.sizeOf3 (Ev.t rfl) Ev.c (fun _ => by decide))) rfl ?_; clear S a w; intro a w S)
              (refine st_y S (Yr.ys (ys_ld ⟨Try.isAgg3, Try.sizeOf3⟩ (Ev.t rfl) (k := 1) rfl rfl)) rfl ?_; clear S a w; intro a w S)
              (refine st_y S (Yr.ys (ys_ixA (j := 2) Try.underlying167 Try.sizeOf3 (Ev.t rfl) Ev.c (fun _ => by decide))) rfl ?_; clear S a w; intro a w S)
              (refine st_y S (Yr.ys (ys_ld ⟨Try.isAgg3, Try.sizeOf3⟩ (Ev.t rfl) (k := 1) rfl rfl)) rfl ?_; clear S a w; intro a w S)
              (refine st_y S (Yr.ys (ys_bld (ps := [(0, Go.Operand.tmp 41), (1, Go.Operand.tmp 43), (2, Go.Operand.tmp 45)]) (us := [_, _, _]) bld32 (EvL.cons (Ev.t rfl) (EvL.cons (Ev.t rfl) (EvL.cons (Ev.t rfl) EvL.nil))) rfl)) rfl ?_; clear S a w; intro a w S)
              (refine st_m (op_bslice1 S Try.underlying30 inf32 rfl rfl rfl (Ev.t rfl) rfl rfl rfl ?_); clear S a w; intro g2 a w S)
              (refine st_m (op_push S Try.underlying30 inf32 rfl (k := 3) (j := 0) rfl (Ev.t rfl) (Ev.t rfl) rfl Go.Fw.Dot.mkEnc rfl rfl (by first | omega | (simp only [List.length_append, List.length_cons, List.length_nil]; omega)) rfl rfl rfl ?_); clear S a w; intro A1 cap1 a w S)
              (refine st_y S (Yr.ys (ys_assign (Ev.t rfl))) rfl ?_; clear S a w; intro a w S)
              refine st_nil ?_
              (refine (in_normal (then_normal (hK2 _ _ ?_))); clear hK2)
              refine wp_region_lit ?_
              (refine st_y S (Yr.ys (ys_addI (Ev.t rfl) Ev.c (fun _ => by unfold I64; omega))) rfl ?_; clear S a w; intro a w S)
              (refine st_y S (Yr.ys (ys_move (Ev.t rfl))) rfl ?_; clear S a w; intro a w S)
              refine st_nil ?_
              refine (then_normal ?_)
              exact ⟨(i + 1, (numAt b (numAt b (numAt b k').2.1).2.1).2.1, acc ++ [⟨(numAt b k').1, (numAt b (numAt b k').2.1).1, (numAt b (numAt b (numAt b k').2.1).2.1).1⟩], A1, cap1), ⟨by dsimp only; omega, hp3.2, by simp [hlen], hno⟩, by dsimp only; omega, S.picks (by repeat (first | exact Fits.nil | refine Fits.skip rfl ?_ | refine Fits.cons rfl ?_)) (by repeat (first | exact Picks.nil | (refine Picks.rest ?_; (repeat (first | exact List.Sublist.refl _ | refine List.Sublist.cons_cons _ ?_ | refine List.Sublist.cons _ ?_)); done) | refine Picks.take 0 rfl ?_ | refine Picks.take 1 rfl ?_ | refine Picks.take 2 rfl ?_ | refine Picks.take 3 rfl ?_ | refine Picks.take 4 rfl ?_ | refine Picks.take 5 rfl ?_ | refine Picks.take 6 rfl ?_ | refine Picks.take 7 rfl ?_ | refine Picks.take 8 rfl ?_ | refine Picks.take 9 rfl ?_ | refine Picks.take 10 rfl ?_ | refine Picks.take 11 rfl ?_))⟩
            · have hd : dotAt b k' = (⟨0, 0, 0⟩, (numAt b (numAt b (numAt b k').2.1).2.1).2.1, (numAt b (numAt b (numAt b k').2.1).2.1).2.2) := by unfold dotAt; rw [bindR_ok e1, bindR_ok e2, bindR_bad e3]
              rw [hd, bindR_bad' e3] at hno
              refine wp_seq_k fun _ hK4 => ?_
              refine wp_region_lit ?_
              (refine st_y S (Yr.ys (ys_T (by omega) (ys_lss (Ev.t rfl) Ev.c))) rfl ?_; clear S a w; intro a w S)
              refine st_nil ?_
              (refine (then_normal (hK4 _ _ ?_)); clear hK4)
              refine wp_seq_k fun _ hK4 => ?_
              refine st_then S (Ev.t rfl) ?_
              refine wp_skip ?_
              (refine (then_normal (hK4 _ _ ?_)); clear hK4)
              refine wp_seq_k fun _ hK4 => ?_
              refine wp_block ?_
              refine wp_seq_k fun _ hK5 => ?_
              refine wp_region_lit ?_
              (refine st_y S (Yr.ys (ys_move (Ev.t rfl))) rfl ?_; clear S a w; intro a w S)
              (refine st_y S (Yr.ys (ys_assign (Ev.t rfl))) rfl ?_; clear S a w; intro a w S)
              refine st_nil ?_
              (refine (then_normal (hK5 _ _ ?_)); clear hK5)
              refine wp_seq_k fun _ hK5 => ?_
              refine wp_region_lit ?_
              (refine st_y S (Yr.ys (ys_move (Ev.t rfl))) rfl ?_; clear S a w; intro a w S)
              (refine st_m (op_callO S Try.call117 (EvL.cons (Ev.t rfl) EvL.nil) (c117 S.wd (by first | assumption | omega | exact Sl.nil_ | exact .old S.wd (by assumption) | exact Sl.of_own S.wd (k := 0) rfl (fun _ => rfl) | exact Sl.of_own S.wd (k := 1) rfl (fun _ => rfl) | exact Sl.of_own S.wd (k := 2) rfl (fun _ => rfl) | (simp at *; omega)) (by first | assumption | omega | exact Sl.nil_ | exact .old S.wd (by assumption) | exact Sl.of_own S.wd (k := 0) rfl (fun _ => rfl) | exact Sl.of_own S.wd (k := 1) rfl (fun _ => rfl) | exact Sl.of_own S.wd (k := 2) rfl (fun _ => rfl) | (simp at *; omega)) (by first | assumption | omega | exact Sl.nil_ | exact .old S.wd (by assumption) | exact Sl.of_own S.wd (k := 0) rfl (fun _ => rfl) | exact Sl.of_own S.wd (k := 1) rfl (fun _ => rfl) | exact Sl.of_own S.wd (k := 2) rfl (fun _ => rfl) | (simp at *; omega))) rfl ?_) <;> clear S a w)
              rintro _ _ ⟨rfl, rfl⟩ a w S
              (refine st_y S (Yr.ys (ys_move (Ev.t rfl))) rfl ?_; clear S a w; intro a w S)
              (refine st_y S (Yr.ys (ys_ext (Ev.t rfl) rfl)) rfl ?_; clear S a w; intro a w S)
              (refine st_y S (Yr.ys (ys_ext (Ev.t rfl) rfl)) rfl ?_; clear S a w; intro a w S)
              (refine st_y S (Yr.ys (ys_assign (Ev.t rfl))) rfl ?_; clear S a w; intro a w S)
              (refine st_y S (Yr.ys (ys_assign (Ev.t rfl))) rfl ?_; clear S a w; intro a w S)
              refine st_nil ?_
              (refine (then_normal (hK5 _ _ ?_)); clear hK5)
              refine wp_seq_k fun _ hK5 => ?_
              refine wp_seq_k fun _ hK6 => ?_
              refine wp_region_lit ?_
              (refine st_y S (Yr.ys (ys_move (Ev.t rfl))) rfl ?_; clear S a w; intro a w S)
              (refine st_y S (Yr.ys (ys_T (by omega) (ys_neq (Ev.t rfl) Ev.c))) rfl ?_; clear S a w; intro a w S)
              refine st_nil ?_
              (refine (then_normal (hK6 _ _ ?_)); clear hK6)
              refine st_then S (Ev.t rfl) ?_
              refine wp_seq_k fun _ hK6 => ?_
              refine wp_region_lit ?_
              (refine st_y S (Yr.ys (ys_move (Ev.t rfl))) rfl ?_; clear S a w; intro a w S)
              (refine st_y S (Yr.ys (ys_assign Ev.c)) rfl ?_; clear S a w; intro a w S)
              (refine st_y S (Yr.ys (ys_assign (Ev.t rfl))) rfl ?_; clear S a w; intro a w S)
              refine st_nil ?_
              (refine (then_normal (hK6 _ _ ?_)); clear hK6)
              refine wp_ret ?_
              refine (then_ret (in_ret (then_ret (then_ret (in_ret (then_ret (in_ret (then_ret (then_ret (in_ret (then_ret ?_)))))))))))
              refine st_ret S (results2 S Try.results107 (Rv.tmp rfl) (Rv.tmp rfl)) ?_
              rw [hla, ← hno]
              exact ⟨_, _, rfl, (S.nil_ 32 3 Dot.enc none).wd.picks (by repeat (first | exact Picks.nil | (refine Picks.rest ?_; (repeat (first | exact List.Sublist.refl _ | refine List.Sublist.cons_cons _ ?_ | refine List.Sublist.cons _ ?_)); done) | refine Picks.take 0 rfl ?_ | refine Picks.take 1 rfl ?_ | refine Picks.take 2 rfl ?_ | refine Picks.take 3 rfl ?_ | refine Picks.take 4 rfl ?_ | refine Picks.take 5 rfl ?_ | refine Picks.take 6 rfl ?_ | refine Picks.take 7 rfl ?_ | refine Picks.take 8 rfl ?_ | refine Picks.take 9 rfl ?_ | refine Picks.take 10 rfl ?_ | refine Picks.take 11 rfl ?_)), none, 0, rfl, rfl⟩
          · have hd : dotAt b k' = (⟨0, 0, 0⟩, (numAt b (numAt b k').2.1).2.1, (numAt b (numAt b k').2.1).2.2) := by unfold dotAt; rw [bindR_ok e1, bindR_bad e2]
            rw [hd, bindR_bad' e2] at hno
            refine wp_seq_k fun _ hK4 => ?_
            refine wp_region_lit ?_
            (refine st_y S (Yr.ys (ys_T (by omega) (ys_lss (Ev.t rfl) Ev.c))) rfl ?_; clear S a w; intro a w S)
            refine st_nil ?_
            (refine (then_normal (hK4 _ _ ?_)); clear hK4)
            refine wp_seq_k fun _ hK4 => ?_
            refine st_then S (Ev.t rfl) ?_
            refine wp_skip ?_
            (refine (then_normal (hK4 _ _ ?_)); clear hK4)
            refine wp_seq_k fun _ hK4 => ?_
            refine wp_block ?_
            refine wp_seq_k fun _ hK5 => ?_
            refine wp_region_lit ?_
            (refine st_y S (Yr.ys (ys_move (Ev.t rfl))) rfl ?_; clear S a w; intro a w S)
            (refine st_y S (Yr.ys (ys_assign (Ev.t rfl))) rfl ?_; clear S a w; intro a w S)
            refine st_nil ?_
            (refine (then_normal (hK5 _ _ ?_)); clear hK5)
            refine wp_seq_k fun _ hK5 => ?_
            refine wp_region_lit ?_
            (refine st_y S (Yr.ys (ys_move (Ev.t rfl))) rfl ?_; clear S a w; intro a w S)
            (refine st_m (op_callO S Try.call117 (EvL.cons (Ev.t rfl) EvL.nil) (c117 S.wd (by first | assumption | omega | exact Sl.nil_ | exact .old S.wd (by assumption) | exact Sl.of_own S.wd (k := 0) rfl (fun _ => rfl) | exact Sl.of_own S.wd (k := 1) rfl (fun _ => rfl) | exact Sl.of_own S.wd (k := 2) rfl (fun _ => rfl) | (simp at *; omega)) (by first | assumption | omega | exact Sl.nil_ | exact .old S.wd (by assumption) | exact Sl.of_own S.wd (k := 0) rfl (fun _ => rfl) | exact Sl.of_own S.wd (k := 1) rfl (fun _ => rfl) | exact Sl.of_own S.wd (k := 2) rfl (fun _ => rfl) | (simp at *; omega)) (by first | assumption | omega | exact Sl.nil_ | exact .old S.wd (by assumption) | exact Sl.of_own S.wd (k := 0) rfl (fun _ => rfl) | exact Sl.of_own S.wd (k := 1) rfl (fun _ => rfl) | exact Sl.of_own S.wd (k := 2) rfl (fun _ => rfl) | (simp at *; omega))) rfl ?_) <;> clear S a w)
            rintro _ _ ⟨rfl, rfl⟩ a w S
            (refine st_y S (Yr.ys (ys_move (Ev.t rfl))) rfl ?_; clear S a w; intro a w S)
            (refine st_y S (Yr.ys (ys_ext (Ev.t rfl) rfl)) rfl ?_; clear S a w; intro a w S)
            (refine st_y S (Yr.ys (ys_ext (Ev.t rfl) rfl)) rfl ?_; clear S a w; intro a w S)
            (refine st_y S (Yr.ys (ys_assign (Ev.t rfl))) rfl ?_; clear S a w; intro a w S)
            (refine st_y S (Yr.ys (ys_assign (Ev.t rfl))) rfl ?_; clear S a w; intro a w S)
            refine st_nil ?_
            (refine (then_normal (hK5 _ _ ?_)); clear hK5)
            refine wp_seq_k fun _ hK5 => ?_
            refine wp_seq_k fun _ hK6 => ?_
            refine wp_region_lit ?_
            (refine st_y S (Yr.ys (ys_move (Ev.t rfl))) rfl ?_; clear S a w; intro a w S)
            (refine st_y S (Yr.ys (ys_T (by omega) (ys_neq (Ev.t rfl) Ev.c))) rfl ?_; clear S a w; intro a w S)
            refine st_nil ?_
            (refine (then_normal (hK6 _ _ ?_)); clear hK6)
            refine st_then S (Ev.t rfl) ?_
            refine wp_seq_k fun _ hK6 => ?_
            refine wp_region_lit ?_
            (refine st_y S (Yr.ys (ys_move (Ev.t rfl))) rfl ?_; clear S a w; intro a w S)
            (refine st_y S (Yr.ys (ys_assign Ev.c)) rfl ?_; clear S a w; intro a w S)
            (refine st_y S (Yr.ys (ys_assign (Ev.t rfl))) rfl ?_; clear S a w; intro a w S)
            refine st_nil ?_
            (refine (then_normal (hK6 _ _ ?_)); clear hK6)
            refine wp_ret ?_
            refine (then_ret (in_ret (then_ret (then_ret (in_ret (then_ret (in_ret (then_ret (then_ret (in_ret (then_ret ?_)))))))))))
            refine st_ret S (results2 S Try.results107 (Rv.tmp rfl) (Rv.tmp rfl)) ?_
            rw [hla, ← hno]
            exact ⟨_, _, rfl, (S.nil_ 32 3 Dot.enc none).wd.picks (by repeat (first | exact Picks.nil | (refine Picks.rest ?_; (repeat (first | exact List.Sublist.refl _ | refine List.Sublist.cons_cons _ ?_ | refine List.Sublist.cons _ ?_)); done) | refine Picks.take 0 rfl ?_ | refine Picks.take 1 rfl ?_ | refine Picks.take 2 rfl ?_ | refine Picks.take 3 rfl ?_ | refine Picks.take 4 rfl ?_ | refine Picks.take 5 rfl ?_ | refine Picks.take 6 rfl ?_ | refine Picks.take 7 rfl ?_ | refine Picks.take 8 rfl ?_ | refine Picks.take 9 rfl ?_ | refine Picks.take 10 rfl ?_ | refine Picks.take 11 rfl ?_)), none, 0, rfl, rfl⟩
        · refine st_rounds 4 (st_round ?_)
          have hd : dotAt b k' = (⟨0, 0, 0⟩, (numAt b k').2.1, (numAt b k').2.2) := by unfold dotAt; rw [bindR_bad e1]
          rw [hd, bindR_bad' e1] at hno
          refine wp_seq_k fun _ hK4 => ?_
          refine wp_region_lit ?_
          (refine st_y S (Yr.ys (ys_T (by omega) (ys_lss (Ev.t rfl) Ev.c))) rfl ?_; clear S a w; intro a w S)
          refine st_nil ?_
          (refine (then_normal (hK4 _ _ ?_)); clear hK4)
          refine wp_seq_k fun _ hK4 => ?_
          refine st_then S (Ev.t rfl) ?_
          refine wp_skip ?_
          (refine (then_normal (hK4 _ _ ?_)); clear hK4)
          refine wp_seq_k fun _ hK4 => ?_
          refine wp_block ?_
          refine wp_seq_k fun _ hK5 => ?_
          refine wp_region_lit ?_
          (refine st_y S (Yr.ys (ys_move (Ev.t rfl))) rfl ?_; clear S a w; intro a w S)
          (refine st_y S (Yr.ys (ys_assign (Ev.t rfl))) rfl ?_; clear S a w; intro a w S)
          refine st_nil ?_
          (refine (then_normal (hK5 _ _ ?_)); clear hK5)
          refine wp_seq_k fun _ hK5 => ?_
          refine wp_region_lit ?_
          (refine st_y S (Yr.ys (ys_move (Ev.t rfl))) rfl ?_; clear S a w; intro a w S)
          (replace S := S.pull 2 rfl; try simp only [List.set_cons_zero, List.set_cons_succ, List.eraseIdx_cons_succ, List.eraseIdx_cons_zero] at S; refine st_m (op_callO S Try.call117 (EvL.cons (Ev.t rfl) EvL.nil) (c117 S.wd (by first | assumption | omega | exact Sl.nil_ | exact .old S.wd (by assumption) | exact Sl.of_own S.wd (k := 0) rfl (fun _ => rfl) | exact Sl.of_own S.wd (k := 1) rfl (fun _ => rfl) | exact Sl.of_own S.wd (k := 2) rfl (fun _ => rfl) | (simp at *; omega)) (by first | assumption | omega | exact Sl.nil_ | exact .old S.wd (by assumption) | exact Sl.of_own S.wd (k := 0) rfl (fun _ => rfl) | exact Sl.of_own S.wd (k := 1) rfl (fun _ => rfl) | exact Sl.of_own S.wd (k := 2) rfl (fun _ => rfl) | (simp at *; omega)) (by first | assumption | omega | exact Sl.nil_ | exact .old S.wd (by assumption) | exact Sl.of_own S.wd (k := 0) rfl (fun _ => rfl) | exact Sl.of_own S.wd (k := 1) rfl (fun _ => rfl) | exact Sl.of_own S.wd (k := 2) rfl (fun _ => rfl) | (simp at *; omega))) rfl ?_) <;> clear S a w)
          rintro _ _ ⟨rfl, rfl⟩ a w S
          (refine st_y S (Yr.ys (ys_move (Ev.t rfl))) rfl ?_; clear S a w; intro a w S)
          (refine st_y S (Yr.ys (ys_ext (Ev.t rfl) rfl)) rfl ?_; clear S a w; intro a w S)
          (refine st_y S (Yr.ys (ys_ext (Ev.t rfl) rfl)) rfl ?_; clear S a w; intro a w S)
          (refine st_y S (Yr.ys (ys_assign (Ev.t rfl))) rfl ?_; clear S a w; intro a w S)
          (refine st_y S (Yr.ys (ys_assign (Ev.t rfl))) rfl ?_; clear S a w; intro a w S)
          refine st_nil ?_
          (refine (then_normal (hK5 _ _ ?_)); clear hK5)
          refine wp_seq_k fun _ hK5 => ?_
          refine wp_seq_k fun _ hK6 => ?_
          refine wp_region_lit ?_
          (refine st_y S (Yr.ys (ys_move (Ev.t rfl))) rfl ?_; clear S a w; intro a w S)
          (refine st_y S (Yr.ys (ys_T (by omega) (ys_neq (Ev.t rfl) Ev.c))) rfl ?_; clear S a w; intro a w S)
          refine st_nil ?_
          (refine (then_normal (hK6 _ _ ?_)); clear hK6)
          refine st_then S (Ev.t rfl) ?_
          refine wp_seq_k fun _ hK6 => ?_
          refine wp_region_lit ?_
          (refine st_y S (Yr.ys (ys_move (Ev.t rfl))) rfl ?_; clear S a w; intro a w S)
          (refine st_y S (Yr.ys (ys_assign Ev.c)) rfl ?_; clear S a w; intro a w S)
          (refine st_y S (Yr.ys (ys_assign (Ev.t rfl))) rfl ?_; clear S a w; intro a w S)
          refine st_nil ?_
          (refine (then_normal (hK6 _ _ ?_)); clear hK6)
          refine wp_ret ?_
          refine (then_ret (in_ret (then_ret (then_ret (in_ret (then_ret (in_ret (then_ret (then_ret (in_ret (then_ret ?_)))))))))))
          refine st_ret S (results2 S Try.results107 (Rv.tmp rfl) (Rv.tmp rfl)) ?_
          rw [hla, ← hno]
          exact ⟨_, _, rfl, (S.nil_ 32 3 Dot.enc none).wd.picks (by repeat (first | exact Picks.nil | (refine Picks.rest ?_; (repeat (first | exact List.Sublist.refl _ | refine List.Sublist.cons_cons _ ?_ | refine List.Sublist.cons _ ?_)); done) | refine Picks.take 0 rfl ?_ | refine Picks.take 1 rfl ?_ | refine Picks.take 2 rfl ?_ | refine Picks.take 3 rfl ?_ | refine Picks.take 4 rfl ?_ | refine Picks.take 5 rfl ?_ | refine Picks.take 6 rfl ?_ | refine Picks.take 7 rfl ?_ | refine Picks.take 8 rfl ?_ | refine Picks.take 9 rfl ?_ | refine Picks.take 10 rfl ?_ | refine Picks.take 11 rfl ?_)), none, 0, rfl, rfl⟩
      · rw [show n - i = 0 by omega, dotsAt] at hno
        refine wp_seq_k fun _ hK2 => ?_
        refine wp_region_lit ?_
        (refine st_y S (Yr.ys (ys_F (by omega) (ys_lss (Ev.t rfl) (Ev.t rfl)))) rfl ?_; clear S a w; intro a w S)
        refine st_nil ?_
        (refine (then_normal (hK2 _ _ ?_)); clear hK2)
        refine wp_seq_k fun _ hK2 => ?_
        refine st_else S (Ev.t rfl) ?_
        refine wp_exit ?_
        (refine (then_exit (then_exit (in_here (then_normal (hK1 _ _ ?_))))); clear hK1)
        refine wp_seq_k fun _ hK1 => ?_
        refine wp_region_lit ?_
        (refine st_y S (Yr.ys (ys_move (Ev.t rfl))) rfl ?_; clear S a w; intro a w S)
        (refine st_y S (Yr.ys (ys_assign (Ev.t rfl))) rfl ?_; clear S a w; intro a w S)
        (refine st_y S (Yr.ys (ys_assign Ev.c)) rfl ?_; clear S a w; intro a w S)
        refine st_nil ?_
        (refine (then_normal (hK1 _ _ ?_)); clear hK1)
        refine wp_ret ?_
        refine st_ret S (results2 S Try.results107 (Rv.tmp rfl) (Rv.tmp rfl)) ?_
        rw [hla, ← hno]
        exact ⟨_, _, rfl, S.wd.picks (by repeat (first | exact Picks.nil | (refine Picks.rest ?_; (repeat (first | exact List.Sublist.refl _ | refine List.Sublist.cons_cons _ ?_ | refine List.Sublist.cons _ ?_)); done) | refine Picks.take 0 rfl ?_ | refine Picks.take 1 rfl ?_ | refine Picks.take 2 rfl ?_ | refine Picks.take 3 rfl ?_ | refine Picks.take 4 rfl ?_ | refine Picks.take 5 rfl ?_ | refine Picks.take 6 rfl ?_ | refine Picks.take 7 rfl ?_ | refine Picks.take 8 rfl ?_ | refine Picks.take 9 rfl ?_ | refine Picks.take 10 rfl ?_ | refine Picks.take 11 rfl ?_)), D, cD, rfl, rfl⟩
  · unfold Go.Fw.RetsO
    refine enterW1 W Try.func107 rfl Try.ntmps107 rfl fun a S => ?_
    refine wp_seq_k fun _ hK1 => ?_
    refine wp_region_lit ?_
    (refine st_y S (Yr.ys (ys_assign Ev.c)) rfl ?_; clear S a; intro a w S)
    (refine st_y S (Yr.ys (ys_assign Ev.c)) rfl ?_; clear S a w; intro a w S)
    refine st_nil ?_
    (refine (then_normal (hK1 _ _ ?_)); clear hK1)
    refine wp_seq_k fun _ hK1 => ?_
    refine wp_region_lit ?_
    (refine st_y S (Yr.ys (ys_move (Ev.t rfl))) rfl ?_; clear S a w; intro a w S)
    (refine st_m (op_callO S Try.call117 (EvL.cons (Ev.t rfl) EvL.nil) (c117 S.wd (by first | assumption | omega | exact Sl.nil_ | exact .old S.wd (by assumption) | exact Sl.of_own S.wd (k := 0) rfl (fun _ => rfl) | (simp at *; omega)) (by first | assumption | omega | exact Sl.nil_ | exact .old S.wd (by assumption) | exact Sl.of_own S.wd (k := 0) rfl (fun _ => rfl) | (simp at *; omega)) (by first | assumption | omega | exact Sl.nil_ | exact .old S.wd (by assumption) | exact Sl.of_own S.wd (k := 0) rfl (fun _ => rfl) | (simp at *; omega))) rfl ?_) <;> clear S a w)
    rintro _ _ ⟨rfl, rfl⟩ a w S
    (refine st_y S (Yr.ys (ys_move (Ev.t rfl))) rfl ?_; clear S a w; intro a w S)
    (refine st_y S (Yr.ys (ys_ext (Ev.t rfl) rfl)) rfl ?_; clear S a w; intro a w S)
    (refine st_y S (Yr.ys (ys_ext (Ev.t rfl) rfl)) rfl ?_; clear S a w; intro a w S)
    (refine st_y S (Yr.ys (ys_assign (Ev.t rfl))) rfl ?_; clear S a w; intro a w S)
    (refine st_y S (Yr.ys (ys_assign (Ev.t rfl))) rfl ?_; clear S a w; intro a w S)
    refine st_nil ?_
    (refine (then_normal (hK1 _ _ ?_)); clear hK1)
    refine wp_seq_k fun _ hK1 => ?_
    refine wp_seq_k fun _ hK2 => ?_
    refine wp_region_lit ?_
    (refine st_y S (Yr.ys (ys_move (Ev.t rfl))) rfl ?_; clear S a w; intro a w S)
    (refine st_y S (Yr.ys (ys_T (by omega) (ys_neq (Ev.t rfl) Ev.c))) rfl ?_; clear S a w; intro a w S)
    refine st_nil ?_
    (refine (then_normal (hK2 _ _ ?_)); clear hK2)
    refine st_then S (Ev.t rfl) ?_
    refine wp_seq_k fun _ hK2 => ?_
    refine wp_region_lit ?_
    (refine st_y S (Yr.ys (ys_move (Ev.t rfl))) rfl ?_; clear S a w; intro a w S)
    (refine st_y S (Yr.ys (ys_assign Ev.c)) rfl ?_; clear S a w; intro a w S)
    (refine st_y S (Yr.ys (ys_assign (Ev.t rfl))) rfl ?_; clear S a w; intro a w S)
    refine st_nil ?_
    (refine (then_normal (hK2 _ _ ?_)); clear hK2)
    refine wp_ret ?_
    refine (then_ret ?_)
    refine st_ret S (results2 S Try.results107 (Rv.tmp rfl) (Rv.tmp rfl)) ?_
    rw [show listAt b k = ([], (numAt b k).2.1, (numAt b k).2.2) by unfold listAt; rw [bindR_bad he]]
    exact ⟨_, _, rfl, (S.nil_ 32 3 Dot.enc none).wd.picks (by repeat (first | exact Picks.nil | (refine Picks.rest ?_; (repeat (first | exact List.Sublist.refl _ | refine List.Sublist.cons_cons _ ?_ | refine List.Sublist.cons _ ?_)); done) | refine Picks.take 0 rfl ?_ | refine Picks.take 1 rfl ?_ | refine Picks.take 2 rfl ?_ | refine Picks.take 3 rfl ?_ | refine Picks.take 4 rfl ?_ | refine Picks.take 5 rfl ?_ | refine Picks.take 6 rfl ?_ | refine Picks.take 7 rfl ?_ | refine Picks.take 8 rfl ?_ | refine Picks.take 9 rfl ?_ | refine Picks.take 10 rfl ?_ | refine Picks.take 11 rfl ?_)), none, 0, rfl, rfl⟩
theorem c85 {w0 w : World} {L : List Chunk} {g cap k : Nat} {A : Option Addr} {b : List UInt8} (W : Wd w0 (rds g A cap b k L) w) (hs : Sl encB 1 w0 w0.heap.size (.slice A b.length cap) b) (hk : k ≤ b.length) (hb : b.length ≤ 16777216) :
    RetsO Try.prog 85 #[.pointer (some ⟨g, 0, none⟩)] w0 w (fun v L' => ∃ B c B' c', v = .tuple #[.agg #[.slice B (ctxAt b k).1.marks.length c, .slice B' (ctxAt b k).1.cloud.length c'], .int .i64 (ctxAt b k).2.2] ∧ L' = rds g A cap b (ctxAt b k).2.1 (rowOf 43 3 Dot.enc B c (ctxAt b k).1.marks :: rowOf 32 3 Dot.enc B' c' (ctxAt b k).1.cloud :: L)) := by
  have hp1 := listAt_le hk
  have hl1 := listAt_len b k
  by_cases e1 : (listAt b k).2.2 = 0
  · have hp2 := listAt_le hp1.2
    have hl2 := listAt_len b (listAt b k).2.1
    by_cases e2 : (listAt b (listAt b k).2.1).2.2 = 0
    · generalize hl : (listAt b k).1 = l at hl1
      generalize hm : (listAt b (listAt b k).2.1).1 = m at hl2
      have hc : ctxAt b k = if canL ⟨l, m⟩ then (⟨l, m⟩, (listAt b (listAt b k).2.1).2.1, 0) else (⟨[], []⟩, (listAt b (listAt b k).2.1).2.1, 30) := by unfold ctxAt; rw [bindR_ok e1, bindR_ok e2, hl, hm]
      have rw_l := hl
      have rw_m := hm
      unfold Go.Fw.RetsO
      refine enterW1 W Try.func85 rfl Try.ntmps85 rfl fun a S => ?_
      refine wp_seq_k fun _ hK1 => ?_
      refine wp_region_lit ?_
      (refine st_m (op_alloc S Try.zeroValue36 (cs := _) rfl rfl ?_); clear S a; intro g1 a w S)
      (refine st_y S (Yr.ys (ys_assign Ev.c)) rfl ?_; clear S a w; intro a w S)
      refine st_nil ?_
      (refine (then_normal (hK1 _ _ ?_)); clear hK1)
      refine wp_seq_k fun _ hK1 => ?_
      refine wp_region_lit ?_
      (refine st_y S (Yr.ys (ys_move (Ev.t rfl))) rfl ?_; clear S a w; intro a w S)
      (replace S := S.pull 1 rfl; try simp only [List.set_cons_zero, List.set_cons_succ, List.eraseIdx_cons_succ, List.eraseIdx_cons_zero] at S; refine st_m (op_callO S Try.call107 (EvL.cons (Ev.t rfl) EvL.nil) (c107 S.wd (by first | assumption | omega | exact Sl.nil_ | exact .old S.wd (by assumption) | exact Sl.of_own S.wd (k := 0) rfl (fun _ => rfl) | exact Sl.of_own S.wd (k := 1) rfl (fun _ => rfl) | (simp at *; omega)) (by first | assumption | omega | exact Sl.nil_ | exact .old S.wd (by assumption) | exact Sl.of_own S.wd (k := 0) rfl (fun _ => rfl) | exact Sl.of_own S.wd (k := 1) rfl (fun _ => rfl) | (simp at *; omega)) (by first | assumption | omega | exact Sl.nil_ | exact .old S.wd (by assumption) | exact Sl.of_own S.wd (k := 0) rfl (fun _ => rfl) | exact Sl.of_own S.wd (k := 1) rfl (fun _ => rfl) | (simp at *; omega))) rfl ?_) <;> clear S a w)
      rintro _ _ ⟨B1, c1, rfl, rfl⟩ a w S
      rw [rw_l] at S
      (refine st_y S (Yr.ys (ys_move (Ev.t rfl))) rfl ?_; clear S a w; intro a w S)
      (refine st_y S (Yr.ys (ys_ext (Ev.t rfl) rfl)) rfl ?_; clear S a w; intro a w S)
      (refine st_y S (Yr.ys (ys_ext (Ev.t rfl) rfl)) rfl ?_; clear S a w; intro a w S)
      (refine st_y S (Yr.ys (ys_assign (Ev.t rfl))) rfl ?_; clear S a w; intro a w S)
      (refine st_y S (Yr.ys (ys_assign (Ev.t rfl))) rfl ?_; clear S a w; intro a w S)
      refine st_nil ?_
      (refine (then_normal (hK1 _ _ ?_)); clear hK1)
      refine wp_seq_k fun _ hK1 => ?_
      refine wp_seq_k fun _ hK2 => ?_
      refine wp_region_lit ?_
      (refine st_y S (Yr.ys (ys_move (Ev.t rfl))) rfl ?_; clear S a w; intro a w S)
      (refine st_y S (Yr.ys (ys_F (by omega) (ys_neq (Ev.t rfl) Ev.c))) rfl ?_; clear S a w; intro a w S)
      refine st_nil ?_
      (refine (then_normal (hK2 _ _ ?_)); clear hK2)
      refine st_else S (Ev.t rfl) ?_
      refine wp_skip ?_
      (refine (then_normal (hK1 _ _ ?_)); clear hK1)
      refine wp_seq_k fun _ hK1 => ?_
      refine wp_region_lit ?_
      (refine st_y S (Yr.ys (ys_move (Ev.t rfl))) rfl ?_; clear S a w; intro a w S)
      (refine st_m (op_callO S Try.call107 (EvL.cons (Ev.t rfl) EvL.nil) (c107 S.wd (by first | assumption | omega | exact Sl.nil_ | exact .old S.wd (by assumption) | exact Sl.of_own S.wd (k := 0) rfl (fun _ => rfl) | exact Sl.of_own S.wd (k := 1) rfl (fun _ => rfl) | exact Sl.of_own S.wd (k := 2) rfl (fun _ => rfl) | (simp at *; omega)) (by first | assumption | omega | exact Sl.nil_ | exact .old S.wd (by assumption) | exact Sl.of_own S.wd (k := 0) rfl (fun _ => rfl) | exact Sl.of_own S.wd (k := 1) rfl (fun _ => rfl) | exact Sl.of_own S.wd (k := 2) rfl (fun _ => rfl) | (simp at *; omega)) (by first | assumption | omega | exact Sl.nil_ | exact .old S.wd (by assumption) | exact Sl.of_own S.wd (k := 0) rfl (fun _ => rfl) | exact Sl.of_own S.wd (k := 1) rfl (fun _ => rfl) | exact Sl.of_own S.wd (k := 2) rfl (fun _ => rfl) | (simp at *; omega))) rfl ?_) <;> clear S a w)
      rintro _ _ ⟨B2, c2, rfl, rfl⟩ a w S
      rw [rw_m] at S
      (refine st_y S (Yr.ys (ys_move (Ev.t rfl))) rfl ?_; clear S a w; intro a w S)
      (refine st_y S (Yr.ys (ys_ext (Ev.t rfl) rfl)) rfl ?_; clear S a w; intro a w S)
      (refine st_y S (Yr.ys (ys_ext (Ev.t rfl) rfl)) rfl ?_; clear S a w; intro a w S)
      (refine st_y S (Yr.ys (ys_assign (Ev.t rfl))) rfl ?_; clear S a w; intro a w S)
      (refine st_y S (Yr.ys (ys_assign (Ev.t rfl))) rfl ?_; clear S a w; intro a w S)
      refine st_nil ?_
      (refine (then_normal (hK1 _ _ ?_)); clear hK1)
      refine wp_seq_k fun _ hK1 => ?_
      refine wp_seq_k fun _ hK2 => ?_
      refine wp_region_lit ?_
      (refine st_y S (Yr.ys (ys_move (Ev.t rfl))) rfl ?_; clear S a w; intro a w S)
      (refine st_y S (Yr.ys (ys_F (by omega) (ys_neq (Ev.t rfl) Ev.c))) rfl ?_; clear S a w; intro a w S)
      refine st_nil ?_
      (refine (then_normal (hK2 _ _ ?_)); clear hK2)
      refine st_else S (Ev.t rfl) ?_
      refine wp_skip ?_
      (refine (then_normal (hK1 _ _ ?_)); clear hK1)
      refine wp_seq_k fun _ hK1 => ?_
      refine wp_region_lit ?_
      (refine st_y S (Yr.ys (ys_move (Ev.t rfl))) rfl ?_; clear S a w; intro a w S)
      (refine st_y S (Yr.ys (ys_bld (ps := [(1, Go.Operand.tmp 28)]) (us := [_, _]) bld36 (EvL.cons (Ev.t rfl) EvL.nil) rfl)) rfl ?_; clear S a w; intro a w S)
      (refine st_m (op_alloc S Try.zeroValue36 (cs := _) rfl rfl ?_); clear S a w; intro g2 a w S)
      (refine st_m (op_stW S Try.sizeOf36 (Ev.t rfl) (Ev.t rfl) (k := 0) rfl rfl rfl (by simp [Value.oneCell']) ?_); clear S a w; intro a w S)
      refine st_nil ?_
      (refine (then_normal (hK1 _ _ ?_)); clear hK1)
      refine wp_seq_k fun _ hK1 => ?_
      refine wp_seq_k fun _ hK2 => ?_
      refine wp_region_lit ?_
      (refine st_y S (Yr.ys (ys_move (Ev.t rfl))) rfl ?_; clear S a w; intro a w S)
      (refine st_y S (Yr.ys (ys_lenS Try.underlying30 (Ev.t rfl))) rfl ?_; clear S a w; intro a w S)
      (refine st_y S (Yr.ys (ys_move Ev.c)) rfl ?_; clear S a w; intro a w S)
      refine st_nil ?_
      (refine (then_normal (hK2 _ _ ?_)); clear hK2)
      refine wp_block ?_
      refine st_loopM (S.nil_ 43 3 Dot.enc none) [32] (X := Nat × Option Addr × Nat) (fun q => [(32, true, .int .i64 (q.1 : Int))])
        (fun q => rowOf 43 3 Dot.enc q.2.1 q.2.2 (l.take q.1) :: .blk g2 (.cells #[.slice q.2.1 (l.take q.1).length q.2.2, .slice B2 m.length c2] 36) :: rowOf 32 3 Dot.enc B1 c1 l :: rowOf 32 3 Dot.enc B2 c2 m :: .blk g1 (.cells #[.slice none 0 0, .slice none 0 0] 36) :: rds g A cap b (listAt b (listAt b k).2.1).2.1 L)
        (fun q => q.1 ≤ l.length) (fun q => l.length - q.1) (0, none, 0) (Nat.zero_le _) (by repeat (first | exact Fits.nil | refine Fits.skip rfl ?_ | refine Fits.cons rfl ?_)) (by repeat (first | exact Picks.nil | (refine Picks.rest ?_; (repeat (first | exact List.Sublist.refl _ | refine List.Sublist.cons_cons _ ?_ | refine List.Sublist.cons _ ?_)); done) | refine Picks.take 0 rfl ?_ | refine Picks.take 1 rfl ?_ | refine Picks.take 2 rfl ?_ | refine Picks.take 3 rfl ?_ | refine Picks.take 4 rfl ?_ | refine Picks.take 5 rfl ?_ | refine Picks.take 6 rfl ?_ | refine Picks.take 7 rfl ?_ | refine Picks.take 8 rfl ?_ | refine Picks.take 9 rfl ?_ | refine Picks.take 10 rfl ?_ | refine Picks.take 11 rfl ?_)) ?_
      clear S
      intro ⟨i, D, cD⟩ a w hi S
      dsimp only at hi S
      by_cases hlt : i < l.length
      · obtain ⟨ga, rfl⟩ := S.wd.row_at (k := 2) rfl (by have := (S.wd.room (k := 2) rfl).1; omega)
        obtain ⟨x, hx⟩ : ∃ x, l[i]? = some x := ⟨l[i], by simp⟩
        have hlk : (l.take i).length ≤ 64 := by rw [List.length_take]; omega
        have et : l.take (i + 1) = l.take i ++ [x] := by rw [List.take_add_one, hx]; rfl
        refine wp_seq_k fun _ hK2 => ?_
        refine wp_region_lit ?_
        (refine st_y S (Yr.ys (ys_T (by omega) (ys_lss (Ev.t rfl) (Ev.t rfl)))) rfl ?_; clear S a w; intro a w S)
        refine st_nil ?_
        (refine (then_normal (hK2 _ _ ?_)); clear hK2)
        refine wp_seq_k fun _ hK2 => ?_
        refine st_then S (Ev.t rfl) ?_
        refine wp_skip ?_
        (refine (then_normal (hK2 _ _ ?_)); clear hK2)
        refine wp_seq_k fun _ hK2 => ?_
        refine wp_block ?_
        refine wp_seq_k fun _ hK3 => ?_
        refine wp_region_lit ?_
        (refine st_y S (Yr.ys (ys_ixS Try.underlying30 Try.sizeOf32 (Ev.t rfl) (Ev.t rfl) (fun _ => by omega))) rfl ?_; clear S a w; intro a w S)
        (refine st_y S (Yr.ys (ys_ldWA ⟨Try.isAgg32, Try.sizeOf32⟩ (Ev.t rfl) (k := 2) rfl hx (fun _ => rfl))) rfl ?_; clear S a w; intro a w S)
        (refine st_m (op_alloc S Try.zeroValue32 (cs := _) rfl rfl ?_); clear S a w; intro g3 a w S)
        (refine st_m (op_stW S Try.sizeOf32 (Ev.t rfl) (Ev.t rfl) (k := 0) rfl rfl rfl (by simp [Value.oneCell']) ?_); clear S a w; intro a w S)
        refine st_nil ?_
        (refine (then_normal (hK3 _ _ ?_)); clear hK3)
        refine wp_region_lit ?_
        (refine st_y S (Yr.ys (ys_fieldN (FieldT.mk Try.underlying36 rfl Try.sizeOf29 rfl) (Ev.t rfl) (i' := 0) rfl)) rfl ?_; clear S a w; intro a w S)
        (refine st_y S (Yr.ys (ys_ld ⟨Try.isAgg29, Try.sizeOf29⟩ (Ev.t rfl) (k := 2) rfl rfl)) rfl ?_; clear S a w; intro a w S)
        (refine st_y S (Yr.ys (ys_ldA ⟨Try.isAgg32, Try.sizeOf32⟩ (Ev.t rfl) (k := 0) rfl rfl)) rfl ?_; clear S a w; intro a w S)
        (refine st_m (op_bslice1 S Try.underlying29 inf43 rfl rfl rfl (Ev.t rfl) rfl rfl rfl ?_); clear S a w; intro g4 a w S)
        (refine st_m (op_push S Try.underlying29 inf43 rfl (k := 2) (j := 0) rfl (Ev.t rfl) (Ev.t rfl) rfl rfl rfl rfl (by first | omega | (simp only [List.length_append, List.length_cons, List.length_nil]; omega)) rfl rfl rfl ?_); clear S a w; intro A1 cap1 a w S)
        (refine st_y S (Yr.ys (ys_fieldN (FieldT.mk Try.underlying36 rfl Try.sizeOf29 rfl) (Ev.t rfl) (i' := 0) rfl)) rfl ?_; clear S a w; intro a w S)
        (refine st_m (op_st S Try.sizeOf29 (Ev.t rfl) (Ev.t rfl) (k := 3) rfl rfl (by simp) ?_); clear S a w; intro a w S)
        refine st_nil ?_
        (refine (in_normal (then_normal (hK2 _ _ ?_))); clear hK2)
        refine wp_region_lit ?_
        (refine st_y S (Yr.ys (ys_addI (Ev.t rfl) Ev.c (fun _ => by unfold I64; omega))) rfl ?_; clear S a w; intro a w S)
        (refine st_y S (Yr.ys (ys_move (Ev.t rfl))) rfl ?_; clear S a w; intro a w S)
        refine st_nil ?_
        refine (then_normal ?_)
        rw [← et] at S
        exact ⟨(i + 1, A1, cap1), by dsimp only; omega, by dsimp only; omega, S.picks (by repeat (first | exact Fits.nil | refine Fits.skip rfl ?_ | refine Fits.cons rfl ?_)) (by repeat (first | exact Picks.nil | (refine Picks.rest ?_; (repeat (first | exact List.Sublist.refl _ | refine List.Sublist.cons_cons _ ?_ | refine List.Sublist.cons _ ?_)); done) | refine Picks.take 0 rfl ?_ | refine Picks.take 1 rfl ?_ | refine Picks.take 2 rfl ?_ | refine Picks.take 3 rfl ?_ | refine Picks.take 4 rfl ?_ | refine Picks.take 5 rfl ?_ | refine Picks.take 6 rfl ?_ | refine Picks.take 7 rfl ?_ | refine Picks.take 8 rfl ?_ | refine Picks.take 9 rfl ?_ | refine Picks.take 10 rfl ?_ | refine Picks.take 11 rfl ?_))⟩
      · have hend : i = l.length := by omega
        subst hend
        rw [List.take_length] at S
        cases hcn : canL ⟨l, m⟩ with
        | true =>
          have rw_c := hcn
          rw [hcn, if_pos rfl] at hc
          refine wp_seq_k fun _ hK2 => ?_
          refine wp_region_lit ?_
          (refine st_y S (Yr.ys (ys_F (by omega) (ys_lss (Ev.t rfl) (Ev.t rfl)))) rfl ?_; clear S a w; intro a w S)
          refine st_nil ?_
          (refine (then_normal (hK2 _ _ ?_)); clear hK2)
          refine wp_seq_k fun _ hK2 => ?_
          refine st_else S (Ev.t rfl) ?_
          refine wp_exit ?_
          (refine (then_exit (then_exit (in_here (then_normal (hK1 _ _ ?_))))); clear hK1)
          refine wp_seq_k fun _ hK1 => ?_
          refine wp_seq_k fun _ hK3 => ?_
          refine wp_region_lit ?_
          (refine st_y S (Yr.ys (ys_ldA ⟨Try.isAgg36, Try.sizeOf36⟩ (Ev.t rfl) (k := 1) rfl rfl)) rfl ?_; clear S a w; intro a w S)
          (refine st_y S (ys_call Try.call55 (EvL.cons (Ev.t rfl) EvL.nil) (fun hp w W => c55 _ _ _ _ (by exact RdCtx.mk' (by exact Sl.of_own W (k := 0) rfl (fun _ => rfl)) (by exact Sl.of_own W (k := 3) rfl (fun _ => rfl))))) rfl ?_; clear S a w; intro a w S)
          rw [rw_c] at S
          (refine st_y S (Yr.ys (ys_not (Ev.t rfl))) rfl ?_; clear S a w; intro a w S)
          refine st_nil ?_
          (refine (then_normal (hK3 _ _ ?_)); clear hK3)
          refine st_else S (Ev.t rfl) ?_
          refine wp_skip ?_
          (refine (then_normal (hK1 _ _ ?_)); clear hK1)
          refine wp_seq_k fun _ hK1 => ?_
          refine wp_region_lit ?_
          (refine st_y S (Yr.ys (ys_ldA ⟨Try.isAgg36, Try.sizeOf36⟩ (Ev.t rfl) (k := 1) rfl rfl)) rfl ?_; clear S a w; intro a w S)
          (refine st_m (op_stW S Try.sizeOf36 (Ev.t rfl) (Ev.t rfl) (k := 4) rfl rfl rfl (by simp [Value.oneCell']) ?_); clear S a w; intro a w S)
          (refine st_y S (Yr.ys (ys_assign Ev.c)) rfl ?_; clear S a w; intro a w S)
          refine st_nil ?_
          (refine (then_normal (hK1 _ _ ?_)); clear hK1)
          refine wp_ret ?_
          refine st_ret S (results2 S Try.results85 (Rv.cell (k := 4) ⟨Try.isAgg36, Try.sizeOf36⟩ rfl rfl rfl) (Rv.tmp rfl)) ?_
          rw [hc]
          exact ⟨_, _, rfl, S.wd.picks (by repeat (first | exact Picks.nil | (refine Picks.rest ?_; (repeat (first | exact List.Sublist.refl _ | refine List.Sublist.cons_cons _ ?_ | refine List.Sublist.cons _ ?_)); done) | refine Picks.take 0 rfl ?_ | refine Picks.take 1 rfl ?_ | refine Picks.take 2 rfl ?_ | refine Picks.take 3 rfl ?_ | refine Picks.take 4 rfl ?_ | refine Picks.take 5 rfl ?_ | refine Picks.take 6 rfl ?_ | refine Picks.take 7 rfl ?_ | refine Picks.take 8 rfl ?_ | refine Picks.take 9 rfl ?_ | refine Picks.take 10 rfl ?_ | refine Picks.take 11 rfl ?_)), D, cD, B2, c2, rfl, rfl⟩
        | false =>
          have rw_c := hcn
          rw [hcn] at hc
          simp only [Bool.false_eq_true, if_false] at hc
          refine wp_seq_k fun _ hK2 => ?_
          refine wp_region_lit ?_
          (refine st_y S (Yr.ys (ys_F (by omega) (ys_lss (Ev.t rfl) (Ev.t rfl)))) rfl ?_; clear S a w; intro a w S)
          refine st_nil ?_
          (refine (then_normal (hK2 _ _ ?_)); clear hK2)
          refine wp_seq_k fun _ hK2 => ?_
          refine st_else S (Ev.t rfl) ?_
          refine wp_exit ?_
          (refine (then_exit (then_exit (in_here (then_normal (hK1 _ _ ?_))))); clear hK1)
          refine wp_seq_k fun _ hK1 => ?_
          refine wp_seq_k fun _ hK3 => ?_
          refine wp_region_lit ?_
          (refine st_y S (Yr.ys (ys_ldA ⟨Try.isAgg36, Try.sizeOf36⟩ (Ev.t rfl) (k := 1) rfl rfl)) rfl ?_; clear S a w; intro a w S)
          (refine st_y S (ys_call Try.call55 (EvL.cons (Ev.t rfl) EvL.nil) (fun hp w W => c55 _ _ _ _ (by exact RdCtx.mk' (by exact Sl.of_own W (k := 0) rfl (fun _ => rfl)) (by exact Sl.of_own W (k := 3) rfl (fun _ => rfl))))) rfl ?_; clear S a w; intro a w S)
          rw [rw_c] at S
          (refine st_y S (Yr.ys (ys_not (Ev.t rfl))) rfl ?_; clear S a w; intro a w S)
          refine st_nil ?_
          (refine (then_normal (hK3 _ _ ?_)); clear hK3)
          refine st_then S (Ev.t rfl) ?_
          refine wp_seq_k fun _ hK3 => ?_
          refine wp_region_lit ?_
          (refine st_y S (Yr.ys (ys_bld (ps := []) (us := [_, _]) bld36 EvL.nil rfl)) rfl ?_; clear S a w; intro a w S)
          (refine st_m (op_stW S Try.sizeOf36 (Ev.t rfl) (Ev.t rfl) (k := 4) rfl rfl rfl (by simp [Value.oneCell']) ?_); clear S a w; intro a w S)
          (refine st_y S (Yr.ys (ys_assign Ev.c)) rfl ?_; clear S a w; intro a w S)
          refine st_nil ?_
          (refine (then_normal (hK3 _ _ ?_)); clear hK3)
          refine wp_ret ?_
          refine (then_ret ?_)
          refine st_ret S (results2 S Try.results85 (Rv.cell (k := 4) ⟨Try.isAgg36, Try.sizeOf36⟩ rfl rfl rfl) (Rv.tmp rfl)) ?_
          rw [hc]
          exact ⟨_, _, rfl, ((S.nil_ 32 3 Dot.enc none).nil_ 43 3 Dot.enc none).wd.picks (by repeat (first | exact Picks.nil | (refine Picks.rest ?_; (repeat (first | exact List.Sublist.refl _ | refine List.Sublist.cons_cons _ ?_ | refine List.Sublist.cons _ ?_)); done) | refine Picks.take 0 rfl ?_ | refine Picks.take 1 rfl ?_ | refine Picks.take 2 rfl ?_ | refine Picks.take 3 rfl ?_ | refine Picks.take 4 rfl ?_ | refine Picks.take 5 rfl ?_ | refine Picks.take 6 rfl ?_ | refine Picks.take 7 rfl ?_ | refine Picks.take 8 rfl ?_ | refine Picks.take 9 rfl ?_ | refine Picks.take 10 rfl ?_ | refine Picks.take 11 rfl ?_)), none, 0, none, 0, rfl, rfl⟩
    · have hc : ctxAt b k = (⟨[], []⟩, (listAt b (listAt b k).2.1).2.1, (listAt b (listAt b k).2.1).2.2) := by unfold ctxAt; rw [bindR_ok e1, bindR_bad e2]
      unfold Go.Fw.RetsO
      refine enterW1 W Try.func85 rfl Try.ntmps85 rfl fun a S => ?_
      refine wp_seq_k fun _ hK1 => ?_
      refine wp_region_lit ?_
      (refine st_m (op_alloc S Try.zeroValue36 (cs := _) rfl rfl ?_); clear S a; intro g1 a w S)
      (refine st_y S (Yr.ys (ys_assign Ev.c)) rfl ?_; clear S a w; intro a w S)
      refine st_nil ?_
      (refine (then_normal (hK1 _ _ ?_)); clear hK1)
      refine wp_seq_k fun _ hK1 => ?_
      refine wp_region_lit ?_
      (refine st_y S (Yr.ys (ys_move (Ev.t rfl))) rfl ?_; clear S a w; intro a w S)
      (replace S := S.pull 1 rfl; try simp only [List.set_cons_zero, List.set_cons_succ, List.eraseIdx_cons_succ, List.eraseIdx_cons_zero] at S; refine st_m (op_callO S Try.call107 (EvL.cons (Ev.t rfl) EvL.nil) (c107 S.wd (by first | assumption | omega | exact Sl.nil_ | exact .old S.wd (by assumption) | exact Sl.of_own S.wd (k := 0) rfl (fun _ => rfl) | exact Sl.of_own S.wd (k := 1) rfl (fun _ => rfl) | (simp at *; omega)) (by first | assumption | omega | exact Sl.nil_ | exact .old S.wd (by assumption) | exact Sl.of_own S.wd (k := 0) rfl (fun _ => rfl) | exact Sl.of_own S.wd (k := 1) rfl (fun _ => rfl) | (simp at *; omega)) (by first | assumption | omega | exact Sl.nil_ | exact .old S.wd (by assumption) | exact Sl.of_own S.wd (k := 0) rfl (fun _ => rfl) | exact Sl.of_own S.wd (k := 1) rfl (fun _ => rfl) | (simp at *; omega))) rfl ?_) <;> clear S a w)
      rintro _ _ ⟨B1, c1, rfl, rfl⟩ a w S
      (refine st_y S (Yr.ys (ys_move (Ev.t rfl))) rfl ?_; clear S a w; intro a w S)
      (refine st_y S (Yr.ys (ys_ext (Ev.t rfl) rfl)) rfl ?_; clear S a w; intro a w S)
      (refine st_y S (Yr.ys (ys_ext (Ev.t rfl) rfl)) rfl ?_; clear S a w; intro a w S)
      (refine st_y S (Yr.ys (ys_assign (Ev.t rfl))) rfl ?_; clear S a w; intro a w S)
      (refine st_y S (Yr.ys (ys_assign (Ev.t rfl))) rfl ?_; clear S a w; intro a w S)
      refine st_nil ?_
      (refine (then_normal (hK1 _ _ ?_)); clear hK1)
      refine wp_seq_k fun _ hK1 => ?_
      refine wp_seq_k fun _ hK2 => ?_
      refine wp_region_lit ?_
      (refine st_y S (Yr.ys (ys_move (Ev.t rfl))) rfl ?_; clear S a w; intro a w S)
      (refine st_y S (Yr.ys (ys_F (by omega) (ys_neq (Ev.t rfl) Ev.c))) rfl ?_; clear S a w; intro a w S)
      refine st_nil ?_
      (refine (then_normal (hK2 _ _ ?_)); clear hK2)
      refine st_else S (Ev.t rfl) ?_
      refine wp_skip ?_
      (refine (then_normal (hK1 _ _ ?_)); clear hK1)
      refine wp_seq_k fun _ hK1 => ?_
      refine wp_region_lit ?_
      (refine st_y S (Yr.ys (ys_move (Ev.t rfl))) rfl ?_; clear S a w; intro a w S)
      (refine st_m (op_callO S Try.call107 (EvL.cons (Ev.t rfl) EvL.nil) (c107 S.wd (by first | assumption | omega | exact Sl.nil_ | exact .old S.wd (by assumption) | exact Sl.of_own S.wd (k := 0) rfl (fun _ => rfl) | exact Sl.of_own S.wd (k := 1) rfl (fun _ => rfl) | exact Sl.of_own S.wd (k := 2) rfl (fun _ => rfl) | (simp at *; omega)) (by first | assumption | omega | exact Sl.nil_ | exact .old S.wd (by assumption) | exact Sl.of_own S.wd (k := 0) rfl (fun _ => rfl) | exact Sl.of_own S.wd (k := 1) rfl (fun _ => rfl) | exact Sl.of_own S.wd (k := 2) rfl (fun _ => rfl) | (simp at *; omega)) (by first | assumption | omega | exact Sl.nil_ | exact .old S.wd (by assumption) | exact Sl.of_own S.wd (k := 0) rfl (fun _ => rfl) | exact Sl.of_own S.wd (k := 1) rfl (fun _ => rfl) | exact Sl.of_own S.wd (k := 2) rfl (fun _ => rfl) | (simp at *; omega))) rfl ?_) <;> clear S a w)
      rintro _ _ ⟨B2, c2, rfl, rfl⟩ a w S
      (refine st_y S (Yr.ys (ys_move (Ev.t rfl))) rfl ?_; clear S a w; intro a w S)
      (refine st_y S (Yr.ys (ys_ext (Ev.t rfl) rfl)) rfl ?_; clear S a w; intro a w S)
      (refine st_y S (Yr.ys (ys_ext (Ev.t rfl) rfl)) rfl ?_; clear S a w; intro a w S)
      (refine st_y S (Yr.ys (ys_assign (Ev.t rfl))) rfl ?_; clear S a w; intro a w S)
      (refine st_y S (Yr.ys (ys_assign (Ev.t rfl))) rfl ?_; clear S a w; intro a w S)
      refine st_nil ?_
      (refine (then_normal (hK1 _ _ ?_)); clear hK1)
      refine wp_seq_k fun _ hK1 => ?_
      refine wp_seq_k fun _ hK2 => ?_
      refine wp_region_lit ?_
      (refine st_y S (Yr.ys (ys_move (Ev.t rfl))) rfl ?_; clear S a w; intro a w S)
      (refine st_y S (Yr.ys (ys_T (by omega) (ys_neq (Ev.t rfl) Ev.c))) rfl ?_; clear S a w; intro a w S)
      refine st_nil ?_
      (refine (then_normal (hK2 _ _ ?_)); clear hK2)
      refine st_then S (Ev.t rfl) ?_
      refine wp_seq_k fun _ hK2 => ?_
      refine wp_region_lit ?_
      (refine st_y S (Yr.ys (ys_bld (ps := []) (us := [_, _]) bld36 EvL.nil rfl)) rfl ?_; clear S a w; intro a w S)
      (refine st_y S (Yr.ys (ys_move (Ev.t rfl))) rfl ?_; clear S a w; intro a w S)
      (refine st_m (op_stW S Try.sizeOf36 (Ev.t rfl) (Ev.t rfl) (k := 3) rfl rfl rfl (by simp [Value.oneCell']) ?_); clear S a w; intro a w S)
      (refine st_y S (Yr.ys (ys_assign (Ev.t rfl))) rfl ?_; clear S a w; intro a w S)
      refine st_nil ?_
      (refine (then_normal (hK2 _ _ ?_)); clear hK2)
      refine wp_ret ?_
      refine (then_ret ?_)
      refine st_ret S (results2 S Try.results85 (Rv.cell (k := 3) ⟨Try.isAgg36, Try.sizeOf36⟩ rfl rfl rfl) (Rv.tmp rfl)) ?_
      rw [hc]
      exact ⟨_, _, rfl, ((S.nil_ 32 3 Dot.enc none).nil_ 43 3 Dot.enc none).wd.picks (by repeat (first | exact Picks.nil | (refine Picks.rest ?_; (repeat (first | exact List.Sublist.refl _ | refine List.Sublist.cons_cons _ ?_ | refine List.Sublist.cons _ ?_)); done) | refine Picks.take 0 rfl ?_ | refine Picks.take 1 rfl ?_ | refine Picks.take 2 rfl ?_ | refine Picks.take 3 rfl ?_ | refine Picks.take 4 rfl ?_ | refine Picks.take 5 rfl ?_ | refine Picks.take 6 rfl ?_ | refine Picks.take 7 rfl ?_ | refine Picks.take 8 rfl ?_ | refine Picks.take 9 rfl ?_ | refine Picks.take 10 rfl ?_ | refine Picks.take 11 rfl ?_)), none, 0, none, 0, rfl, rfl⟩
  · have hc : ctxAt b k = (⟨[], []⟩, (listAt b k).2.1, (listAt b k).2.2) := by unfold ctxAt; rw [bindR_bad e1]
    unfold Go.Fw.RetsO
    refine enterW1 W Try.func85 rfl Try.ntmps85 rfl fun a S => ?_
    refine wp_seq_k fun _ hK1 => ?_
    refine wp_region_lit ?_
    (refine st_m (op_alloc S Try.zeroValue36 (cs := _) rfl rfl ?_); clear S a; intro g1 a w S)
    (refine st_y S (Yr.ys (ys_assign Ev.c)) rfl ?_; clear S a w; intro a w S)
    refine st_nil ?_
    (refine (then_normal (hK1 _ _ ?_)); clear hK1)
    refine wp_seq_k fun _ hK1 => ?_
    refine wp_region_lit ?_
    (refine st_y S (Yr.ys (ys_move (Ev.t rfl))) rfl ?_; clear S a w; intro a w S)
    (replace S := S.pull 1 rfl; try simp only [List.set_cons_zero, List.set_cons_succ, List.eraseIdx_cons_succ, List.eraseIdx_cons_zero] at S; refine st_m (op_callO S Try.call107 (EvL.cons (Ev.t rfl) EvL.nil) (c107 S.wd (by first | assumption | omega | exact Sl.nil_ | exact .old S.wd (by assumption) | exact Sl.of_own S.wd (k := 0) rfl (fun _ => rfl) | exact Sl.of_own S.wd (k := 1) rfl (fun _ => rfl) | (simp at *; omega)) (by first | assumption | omega | exact Sl.nil_ | exact .old S.wd (by assumption) | exact Sl.of_own S.wd (k := 0) rfl (fun _ => rfl) | exact Sl.of_own S.wd (k := 1) rfl (fun _ => rfl) | (simp at *; omega)) (by first | assumption | omega | exact Sl.nil_ | exact .old S.wd (by assumption) | exact Sl.of_own S.wd (k := 0) rfl (fun _ => rfl) | exact Sl.of_own S.wd (k := 1) rfl (fun _ => rfl) | (simp at *; omega))) rfl ?_) <;> clear S a w)
    rintro _ _ ⟨B1, c1, rfl, rfl⟩ a w S
    (refine st_y S (Yr.ys (ys_move (Ev.t rfl))) rfl ?_; clear S a w; intro a w S)
    (refine st_y S (Yr.ys (ys_ext (Ev.t rfl) rfl)) rfl ?_; clear S a w; intro a w S)
    (refine st_y S (Yr.ys (ys_ext (Ev.t rfl) rfl)) rfl ?_; clear S a w; intro a w S)
    (refine st_y S (Yr.ys (ys_assign (Ev.t rfl))) rfl ?_; clear S a w; intro a w S)
    (refine st_y S (Yr.ys (ys_assign (Ev.t rfl))) rfl ?_; clear S a w; intro a w S)
    refine st_nil ?_
    (refine (then_normal (hK1 _ _ ?_)); clear hK1)
    refine wp_seq_k fun _ hK1 => ?_
    refine wp_seq_k fun _ hK2 => ?_
    refine wp_region_lit ?_
    (refine st_y S (Yr.ys (ys_move (Ev.t rfl))) rfl ?_; clear S a w; intro a w S)
    (refine st_y S (Yr.ys (ys_T (by omega) (ys_neq (Ev.t rfl) Ev.c))) rfl ?_; clear S a w; intro a w S)
    refine st_nil ?_
    (refine (then_normal (hK2 _ _ ?_)); clear hK2)
    refine st_then S (Ev.t rfl) ?_
    refine wp_seq_k fun _ hK2 => ?_
    refine wp_region_lit ?_
    (refine st_y S (Yr.ys (ys_bld (ps := []) (us := [_, _]) bld36 EvL.nil rfl)) rfl ?_; clear S a w; intro a w S)
    (refine st_y S (Yr.ys (ys_move (Ev.t rfl))) rfl ?_; clear S a w; intro a w S)
    (refine st_m (op_stW S Try.sizeOf36 (Ev.t rfl) (Ev.t rfl) (k := 2) rfl rfl rfl (by simp [Value.oneCell']) ?_); clear S a w; intro a w S)
    (refine st_y S (Yr.ys (ys_assign (Ev.t rfl))) rfl ?_; clear S a w; intro a w S)
    refine st_nil ?_
    (refine (then_normal (hK2 _ _ ?_)); clear hK2)
    refine wp_ret ?_
    refine (then_ret ?_)
    refine st_ret S (results2 S Try.results85 (Rv.cell (k := 2) ⟨Try.isAgg36, Try.sizeOf36⟩ rfl rfl rfl) (Rv.tmp rfl)) ?_
    rw [hc]
    exact ⟨_, _, rfl, ((S.nil_ 32 3 Dot.enc none).nil_ 43 3 Dot.enc none).wd.picks (by repeat (first | exact Picks.nil | (refine Picks.rest ?_; (repeat (first | exact List.Sublist.refl _ | refine List.Sublist.cons_cons _ ?_ | refine List.Sublist.cons _ ?_)); done) | refine Picks.take 0 rfl ?_ | refine Picks.take 1 rfl ?_ | refine Picks.take 2 rfl ?_ | refine Picks.take 3 rfl ?_ | refine Picks.take 4 rfl ?_ | refine Picks.take 5 rfl ?_ | refine Picks.take 6 rfl ?_ | refine Picks.take 7 rfl ?_ | refine Picks.take 8 rfl ?_ | refine Picks.take 9 rfl ?_ | refine Picks.take 10 rfl ?_ | refine Picks.take 11 rfl ?_)), none, 0, none, 0, rfl, rfl⟩
theorem c44 {w0 w : World} {L : List Chunk} {g cap k : Nat} {A : Option Addr} {b : List UInt8} (W : Wd w0 (rds g A cap b k L) w) (hs : Sl encB 1 w0 w0.heap.size (.slice A b.length cap) b) (hk : k ≤ b.length) (hb : b.length ≤ 16777216) :
    RetsO Try.prog 44 #[.pointer (some ⟨g, 0, none⟩)] w0 w (fun v L' => ∃ B c B' c', v = .tuple #[.agg #[.slice B (decAt b k).1.marks.length c, .slice B' (decAt b k).1.cloud.length c'], .int .i64 (decAt b k).2.2] ∧ L' = rds g A cap b (decAt b k).2.1 (rowOf 43 3 Dot.enc B c (decAt b k).1.marks :: rowOf 32 3 Dot.enc B' c' (decAt b k).1.cloud :: L)) := by
  by_cases e : (ctxAt b k).2.2 = 0
  · have hc : decAt b k = ctxAt b k := by unfold decAt; rw [if_pos e]
    unfold Go.Fw.RetsO
    refine enterW1 W Try.func44 rfl Try.ntmps44 rfl fun a S => ?_
    refine wp_seq_k fun _ hK1 => ?_
    refine wp_region_lit ?_
    (refine st_m (op_alloc S Try.zeroValue36 (cs := _) rfl rfl ?_); clear S a; intro g1 a w S)
    (refine st_y S (Yr.ys (ys_assign Ev.c)) rfl ?_; clear S a w; intro a w S)
    refine st_nil ?_
    (refine (then_normal (hK1 _ _ ?_)); clear hK1)
    refine wp_seq_k fun _ hK1 => ?_
    refine wp_region_lit ?_
    (refine st_y S (Yr.ys (ys_move (Ev.t rfl))) rfl ?_; clear S a w; intro a w S)
    (refine st_y S (Yr.ys (ys_nilc (Ev.t rfl))) rfl ?_; clear S a w; intro a w S)
    (refine st_y S (Yr.ys (ys_fieldN (FieldT.mk Try.underlying79 rfl Try.sizeOf3 rfl) (Ev.t rfl) (i' := 1) rfl)) rfl ?_; clear S a w; intro a w S)
    (refine st_y S (Yr.ys (ys_ld ⟨Try.isAgg3, Try.sizeOf3⟩ (Ev.t rfl) (k := 1) rfl rfl)) rfl ?_; clear S a w; intro a w S)
    (refine st_y S (Yr.ys (ys_assign (Ev.t rfl))) rfl ?_; clear S a w; intro a w S)
    refine st_nil ?_
    (refine (then_normal (hK1 _ _ ?_)); clear hK1)
    refine wp_seq_k fun _ hK1 => ?_
    refine wp_region_lit ?_
    (refine st_y S (Yr.ys (ys_move (Ev.t rfl))) rfl ?_; clear S a w; intro a w S)
    (replace S := S.pull 1 rfl; try simp only [List.set_cons_zero, List.set_cons_succ, List.eraseIdx_cons_succ, List.eraseIdx_cons_zero] at S; refine st_m (op_callO S Try.call85 (EvL.cons (Ev.t rfl) EvL.nil) (c85 S.wd (by first | assumption | omega | exact Sl.nil_ | exact .old S.wd (by assumption) | exact Sl.of_own S.wd (k := 0) rfl (fun _ => rfl) | exact Sl.of_own S.wd (k := 1) rfl (fun _ => rfl) | (simp at *; omega)) (by first | assumption | omega | exact Sl.nil_ | exact .old S.wd (by assumption) | exact Sl.of_own S.wd (k := 0) rfl (fun _ => rfl) | exact Sl.of_own S.wd (k := 1) rfl (fun _ => rfl) | (simp at *; omega)) (by first | assumption | omega | exact Sl.nil_ | exact .old S.wd (by assumption) | exact Sl.of_own S.wd (k := 0) rfl (fun _ => rfl) | exact Sl.of_own S.wd (k := 1) rfl (fun _ => rfl) | (simp at *; omega))) rfl ?_) <;> clear S a w)
    rintro _ _ ⟨B1, c1, B'1, c'1, rfl, rfl⟩ a w S
    (refine st_y S (Yr.ys (ys_move (Ev.t rfl))) rfl ?_; clear S a w; intro a w S)
    (refine st_y S (Yr.ys (ys_ext (Ev.t rfl) rfl)) rfl ?_; clear S a w; intro a w S)
    (refine st_y S (Yr.ys (ys_ext (Ev.t rfl) rfl)) rfl ?_; clear S a w; intro a w S)
    (refine st_m (op_alloc S Try.zeroValue36 (cs := _) rfl rfl ?_); clear S a w; intro g2 a w S)
    (refine st_m (op_stW S Try.sizeOf36 (Ev.t rfl) (Ev.t rfl) (k := 0) rfl rfl rfl (by simp [Value.oneCell']) ?_); clear S a w; intro a w S)
    (refine st_y S (Yr.ys (ys_assign (Ev.t rfl))) rfl ?_; clear S a w; intro a w S)
    refine st_nil ?_
    (refine (then_normal (hK1 _ _ ?_)); clear hK1)
    refine wp_seq_k fun _ hK1 => ?_
    refine wp_seq_k fun _ hK2 => ?_
    refine wp_region_lit ?_
    (refine st_y S (Yr.ys (ys_move (Ev.t rfl))) rfl ?_; clear S a w; intro a w S)
    (refine st_y S (Yr.ys (ys_F (by omega) (ys_neq (Ev.t rfl) Ev.c))) rfl ?_; clear S a w; intro a w S)
    refine st_nil ?_
    (refine (then_normal (hK2 _ _ ?_)); clear hK2)
    refine st_else S (Ev.t rfl) ?_
    refine wp_skip ?_
    (refine (then_normal (hK1 _ _ ?_)); clear hK1)
    refine wp_seq_k fun _ hK1 => ?_
    refine wp_region_lit ?_
    (refine st_y S (Yr.ys (ys_ldA ⟨Try.isAgg36, Try.sizeOf36⟩ (Ev.t rfl) (k := 0) rfl rfl)) rfl ?_; clear S a w; intro a w S)
    (refine st_m (op_stW S Try.sizeOf36 (Ev.t rfl) (Ev.t rfl) (k := 4) rfl rfl rfl (by simp [Value.oneCell']) ?_); clear S a w; intro a w S)
    (refine st_y S (Yr.ys (ys_assign Ev.c)) rfl ?_; clear S a w; intro a w S)
    refine st_nil ?_
    (refine (then_normal (hK1 _ _ ?_)); clear hK1)
    refine wp_ret ?_
    refine st_ret S (results2 S Try.results44 (Rv.cell (k := 4) ⟨Try.isAgg36, Try.sizeOf36⟩ rfl rfl rfl) (Rv.tmp rfl)) ?_
    rw [hc, e]
    exact ⟨_, _, rfl, S.wd.picks (by repeat (first | exact Picks.nil | (refine Picks.rest ?_; (repeat (first | exact List.Sublist.refl _ | refine List.Sublist.cons_cons _ ?_ | refine List.Sublist.cons _ ?_)); done) | refine Picks.take 0 rfl ?_ | refine Picks.take 1 rfl ?_ | refine Picks.take 2 rfl ?_ | refine Picks.take 3 rfl ?_ | refine Picks.take 4 rfl ?_ | refine Picks.take 5 rfl ?_ | refine Picks.take 6 rfl ?_ | refine Picks.take 7 rfl ?_ | refine Picks.take 8 rfl ?_ | refine Picks.take 9 rfl ?_ | refine Picks.take 10 rfl ?_ | refine Picks.take 11 rfl ?_)), _, _, _, _, rfl, rfl⟩
  · have hc : decAt b k = (⟨[], []⟩, k, (ctxAt b k).2.2) := by unfold decAt; rw [if_neg e]
    unfold Go.Fw.RetsO
    refine enterW1 W Try.func44 rfl Try.ntmps44 rfl fun a S => ?_
    refine wp_seq_k fun _ hK1 => ?_
    refine wp_region_lit ?_
    (refine st_m (op_alloc S Try.zeroValue36 (cs := _) rfl rfl ?_); clear S a; intro g1 a w S)
    (refine st_y S (Yr.ys (ys_assign Ev.c)) rfl ?_; clear S a w; intro a w S)
    refine st_nil ?_
    (refine (then_normal (hK1 _ _ ?_)); clear hK1)
    refine wp_seq_k fun _ hK1 => ?_
    refine wp_region_lit ?_
    (refine st_y S (Yr.ys (ys_move (Ev.t rfl))) rfl ?_; clear S a w; intro a w S)
    (refine st_y S (Yr.ys (ys_nilc (Ev.t rfl))) rfl ?_; clear S a w; intro a w S)
    (refine st_y S (Yr.ys (ys_fieldN (FieldT.mk Try.underlying79 rfl Try.sizeOf3 rfl) (Ev.t rfl) (i' := 1) rfl)) rfl ?_; clear S a w; intro a w S)
    (refine st_y S (Yr.ys (ys_ld ⟨Try.isAgg3, Try.sizeOf3⟩ (Ev.t rfl) (k := 1) rfl rfl)) rfl ?_; clear S a w; intro a w S)
    (refine st_y S (Yr.ys (ys_assign (Ev.t rfl))) rfl ?_; clear S a w; intro a w S)
    refine st_nil ?_
    (refine (then_normal (hK1 _ _ ?_)); clear hK1)
    refine wp_seq_k fun _ hK1 => ?_
    refine wp_region_lit ?_
    (refine st_y S (Yr.ys (ys_move (Ev.t rfl))) rfl ?_; clear S a w; intro a w S)
    (replace S := S.pull 1 rfl; try simp only [List.set_cons_zero, List.set_cons_succ, List.eraseIdx_cons_succ, List.eraseIdx_cons_zero] at S; refine st_m (op_callO S Try.call85 (EvL.cons (Ev.t rfl) EvL.nil) (c85 S.wd (by first | assumption | omega | exact Sl.nil_ | exact .old S.wd (by assumption) | exact Sl.of_own S.wd (k := 0) rfl (fun _ => rfl) | exact Sl.of_own S.wd (k := 1) rfl (fun _ => rfl) | (simp at *; omega)) (by first | assumption | omega | exact Sl.nil_ | exact .old S.wd (by assumption) | exact Sl.of_own S.wd (k := 0) rfl (fun _ => rfl) | exact Sl.of_own S.wd (k := 1) rfl (fun _ => rfl) | (simp at *; omega)) (by first | assumption | omega | exact Sl.nil_ | exact .old S.wd (by assumption) | exact Sl.of_own S.wd (k := 0) rfl (fun _ => rfl) | exact Sl.of_own S.wd (k := 1) rfl (fun _ => rfl) | (simp at *; omega))) rfl ?_) <;> clear S a w)
    rintro _ _ ⟨B1, c1, B'1, c'1, rfl, rfl⟩ a w S
    (refine st_y S (Yr.ys (ys_move (Ev.t rfl))) rfl ?_; clear S a w; intro a w S)
    (refine st_y S (Yr.ys (ys_ext (Ev.t rfl) rfl)) rfl ?_; clear S a w; intro a w S)
    (refine st_y S (Yr.ys (ys_ext (Ev.t rfl) rfl)) rfl ?_; clear S a w; intro a w S)
    (refine st_m (op_alloc S Try.zeroValue36 (cs := _) rfl rfl ?_); clear S a w; intro g2 a w S)
    (refine st_m (op_stW S Try.sizeOf36 (Ev.t rfl) (Ev.t rfl) (k := 0) rfl rfl rfl (by simp [Value.oneCell']) ?_); clear S a w; intro a w S)
    (refine st_y S (Yr.ys (ys_assign (Ev.t rfl))) rfl ?_; clear S a w; intro a w S)
    refine st_nil ?_
    (refine (then_normal (hK1 _ _ ?_)); clear hK1)
    refine wp_seq_k fun _ hK1 => ?_
    refine wp_seq_k fun _ hK2 => ?_
    refine wp_region_lit ?_
    (refine st_y S (Yr.ys (ys_move (Ev.t rfl))) rfl ?_; clear S a w; intro a w S)
    (refine st_y S (Yr.ys (ys_T (by omega) (ys_neq (Ev.t rfl) Ev.c))) rfl ?_; clear S a w; intro a w S)
    refine st_nil ?_
    (refine (then_normal (hK2 _ _ ?_)); clear hK2)
    refine st_then S (Ev.t rfl) ?_
    refine wp_seq_k fun _ hK2 => ?_
    refine wp_region_lit ?_
    (refine st_y S (Yr.ys (ys_move (Ev.t rfl))) rfl ?_; clear S a w; intro a w S)
    (refine st_y S (Yr.ys (ys_move (Ev.t rfl))) rfl ?_; clear S a w; intro a w S)
    (refine st_y S (Yr.ys (ys_nilc (Ev.t rfl))) rfl ?_; clear S a w; intro a w S)
    (refine st_y S (Yr.ys (ys_fieldN (FieldT.mk Try.underlying79 rfl Try.sizeOf3 rfl) (Ev.t rfl) (i' := 1) rfl)) rfl ?_; clear S a w; intro a w S)
    (refine st_m (op_st S Try.sizeOf3 (Ev.t rfl) (Ev.t rfl) (k := 1) rfl rfl (by simp) ?_); clear S a w; intro a w S)
    refine st_nil ?_
    (refine (then_normal (hK2 _ _ ?_)); clear hK2)
    refine wp_seq_k fun _ hK2 => ?_
    refine wp_region_lit ?_
    (refine st_y S (Yr.ys (ys_bld (ps := []) (us := [_, _]) bld36 EvL.nil rfl)) rfl ?_; clear S a w; intro a w S)
    (refine st_y S (Yr.ys (ys_move (Ev.t rfl))) rfl ?_; clear S a w; intro a w S)
    (refine st_m (op_stW S Try.sizeOf36 (Ev.t rfl) (Ev.t rfl) (k := 4) rfl rfl rfl (by simp [Value.oneCell']) ?_); clear S a w; intro a w S)
    (refine st_y S (Yr.ys (ys_assign (Ev.t rfl))) rfl ?_; clear S a w; intro a w S)
    refine st_nil ?_
    (refine (then_normal (hK2 _ _ ?_)); clear hK2)
    refine wp_ret ?_
    refine (then_ret ?_)
    refine st_ret S (results2 S Try.results44 (Rv.cell (k := 4) ⟨Try.isAgg36, Try.sizeOf36⟩ rfl rfl rfl) (Rv.tmp rfl)) ?_
    rw [hc]
    exact ⟨_, _, rfl, ((S.nil_ 32 3 Dot.enc none).nil_ 43 3 Dot.enc none).wd.picks (by repeat (first | exact Picks.nil | (refine Picks.rest ?_; (repeat (first | exact List.Sublist.refl _ | refine List.Sublist.cons_cons _ ?_ | refine List.Sublist.cons _ ?_)); done) | refine Picks.take 0 rfl ?_ | refine Picks.take 1 rfl ?_ | refine Picks.take 2 rfl ?_ | refine Picks.take 3 rfl ?_ | refine Picks.take 4 rfl ?_ | refine Picks.take 5 rfl ?_ | refine Picks.take 6 rfl ?_ | refine Picks.take 7 rfl ?_ | refine Picks.take 8 rfl ?_ | refine Picks.take 9 rfl ?_ | refine Picks.take 10 rfl ?_ | refine Picks.take 11 rfl ?_)), none, 0, none, 0, rfl, rfl⟩
end Go.Proofs.Ytjfeeiljinbmjaa
set_option linter.unusedVariables false
set_option linter.unusedSimpArgs false
set_option maxRecDepth 100000
namespace Go.Proofs.Ytjfeeiljinbmjaa
open Go.Fw Go.Proofs Go.RowKit
theorem c79 (w0 : World) (v1 : Value) (l : List Dot) (h : Sl Dot.enc 3 w0 w0.heap.size v1 l) (hn : l.length ≤ 4194304) :
    Rets Try.prog 79 #[v1] w0 fun v L => ∃ A c, v = .slice A l.length c ∧ L = [rowOf 32 3 Dot.enc A c l] := by
  have h0 := h
  obtain ⟨A, cap, rfl, hl, hcap, hA⟩ := h
  unfold Go.Fw.Rets
  refine enter1 Try.func79 rfl Try.ntmps79 rfl fun a S => ?_
  refine wp_seq_k fun _ hK1 => ?_
  refine wp_region_lit ?_
  (refine st_y S (Yr.ys (ys_assign Ev.c)) rfl ?_; clear S a; intro a w S)
  refine st_nil ?_
  (refine (then_normal (hK1 _ _ ?_)); clear hK1)
  refine wp_seq_k fun _ hK1 => ?_
  refine wp_seq_k fun _ hK2 => ?_
  refine wp_region_lit ?_
  (refine st_y S (Yr.ys (ys_move (Ev.t rfl))) rfl ?_; clear S a w; intro a w S)
  (refine st_y S (Yr.ys (ys_sNil Try.underlying30 (Ev.t rfl) Ev.c)) rfl ?_; clear S a w; intro a w S)
  refine st_nil ?_
  (refine (then_normal (hK2 _ _ ?_)); clear hK2)
  refine st_cond S (Ev.t rfl) (fun h1 => ?_) (fun h1 => ?_)
  refine wp_seq_k fun _ hK2 => ?_
  refine wp_region_lit ?_
  (refine st_y S (Yr.ys (ys_assign Ev.c)) rfl ?_; clear S a w; intro a w S)
  refine st_nil ?_
  (refine (then_normal (hK2 _ _ ?_)); clear hK2)
  refine wp_ret ?_
  refine (then_ret ?_)
  refine st_ret S (results1 S Try.results79 (Rv.tmp rfl)) ?_
  rotate_left
  refine wp_skip ?_
  (refine (then_normal (hK1 _ _ ?_)); clear hK1)
  refine wp_seq_k fun _ hK1 => ?_
  refine wp_region_lit ?_
  (refine st_m (op_bslice0 S Try.underlying30 Try.sizeOf32 rfl ?_); clear S a w; intro g1 a w S)
  (refine st_y S (Yr.ys (ys_move (Ev.t rfl))) rfl ?_; clear S a w; intro a w S)
  rotate_left
  · have hnil : l = [] := by
      refine List.eq_nil_of_length_eq_zero (Decidable.byContradiction fun hne => ?_)
      obtain ⟨g, o, rfl, _⟩ := hA (by omega)
      cases h1
    subst hnil
    exact ⟨_, _, rfl, (S.nil_ 32 3 Dot.enc none).wd.sub (by repeat (first | exact List.Sublist.refl _ | exact List.nil_sublist _ | refine .cons_cons _ ?_ | refine .cons _ ?_)), none, 0, rfl, rfl⟩
  · refine st_m (op_append (S.nil_ 32 3 Dot.enc (some ⟨g1, 0, none⟩)) Try.underlying30 Try.underlying30 (.inr ⟨_, rfl⟩) inf32 rfl (Ev.t rfl) (Ev.t rfl) (k := 0) rfl (Src.sl (Sl.old S.wd h0) (by decide) (fun _ => rfl) (fun x u hu => by simp [Dot.enc] at hu; rcases hu with rfl | rfl | rfl <;> rfl)) (by simp; omega) rfl rfl rfl ?_)
    clear S
    intro A1 cap1 a w _ S
    (refine st_y S (Yr.ys (ys_assign (Ev.t rfl))) rfl ?_; clear S a w; intro a w S)
    refine st_nil ?_
    (refine (then_normal (hK1 _ _ ?_)); clear hK1)
    refine wp_ret ?_
    refine st_ret S (results1 S Try.results79 (Rv.tmp rfl)) ?_
    simp only [List.length_nil, Nat.zero_add] at S ⊢
    exact ⟨_, _, rfl, S.wd.sub (by repeat (first | exact List.Sublist.refl _ | exact List.nil_sublist _ | refine .cons_cons _ ?_ | refine .cons _ ?_)), A1, cap1, rfl, rfl⟩
end Go.Proofs.Ytjfeeiljinbmjaa
set_option linter.unusedVariables false
set_option linter.unusedSimpArgs false
set_option maxRecDepth 100000
namespace Go.Proofs.Ytjfeeiljinbmjaa
open Go.Fw Go.Proofs Go.RowKit
instance (a b : Dot) : Decidable (ltM a b) := inferInstanceAs (Decidable (_ ∨ _))
end Go.Proofs.Ytjfeeiljinbmjaa
set_option linter.unusedVariables false
set_option linter.unusedSimpArgs false
set_option maxRecDepth 100000
namespace Go.Proofs.Ytjfeeiljinbmjaa
open Go.Fw Go.Proofs Go.RowKit Go.Sort
abbrev MDot := {d : Dot // mayD d = true}
instance : Inhabited MDot := ⟨⟨⟨0, 1, 1⟩, rfl⟩⟩
abbrev MDot.enc (d : MDot) : List Value := Dot.enc d.1
end Go.Proofs.Ytjfeeiljinbmjaa
set_option linter.unusedVariables false
set_option linter.unusedSimpArgs false
set_option maxRecDepth 100000
namespace Go.Fw
theorem Dot.enc_len (x : Dot) : (Dot.enc x).length = 3 := rfl
theorem Dot.enc_one (x : Dot) : ∀ u ∈ Dot.enc x, u.oneCell' = true := fun u hu => by simp [Dot.enc] at hu; rcases hu with rfl | rfl | rfl <;> rfl
end Go.Fw
namespace Go.Proofs.Ytjfeeiljinbmjaa
open Go.Fw Go.Proofs Go.RowKit
theorem c78 (w0 : World) (v1 : Value) (l : List Dot) (h : Sl Dot.enc 3 w0 w0.heap.size v1 l) (hn : l.length ≤ 4194304) :
    Rets Try.prog 78 #[v1] w0 fun v L => ∃ A c, v = .slice A l.length c ∧ L = [rowOf 43 3 Dot.enc A c l] := by
  have h0 := h
  obtain ⟨A, cap, rfl, hl, hcap, hA⟩ := h
  unfold Go.Fw.Rets
  refine enter1 Try.func78 rfl Try.ntmps78 rfl fun a S => ?_
  refine wp_seq_k fun _ hK1 => ?_
  refine wp_region_lit ?_
  (refine st_y S (Yr.ys (ys_assign Ev.c)) rfl ?_; clear S a; intro a w S)
  refine st_nil ?_
  (refine (then_normal (hK1 _ _ ?_)); clear hK1)
  refine wp_seq_k fun _ hK1 => ?_
  refine wp_seq_k fun _ hK2 => ?_
  refine wp_region_lit ?_
  (refine st_y S (Yr.ys (ys_move (Ev.t rfl))) rfl ?_; clear S a w; intro a w S)
  (refine st_y S (Yr.ys (ys_sNil Try.underlying29 (Ev.t rfl) Ev.c)) rfl ?_; clear S a w; intro a w S)
  refine st_nil ?_
  (refine (then_normal (hK2 _ _ ?_)); clear hK2)
  refine st_cond S (Ev.t rfl) (fun h1 => ?_) (fun h1 => ?_)
  refine wp_seq_k fun _ hK2 => ?_
  refine wp_region_lit ?_
  (refine st_y S (Yr.ys (ys_assign Ev.c)) rfl ?_; clear S a w; intro a w S)
  refine st_nil ?_
  (refine (then_normal (hK2 _ _ ?_)); clear hK2)
  refine wp_ret ?_
  refine (then_ret ?_)
  refine st_ret S (results1 S Try.results78 (Rv.tmp rfl)) ?_
  rotate_left
  refine wp_skip ?_
  (refine (then_normal (hK1 _ _ ?_)); clear hK1)
  refine wp_seq_k fun _ hK1 => ?_
  refine wp_region_lit ?_
  (refine st_m (op_bslice0 S Try.underlying29 Try.sizeOf43 rfl ?_); clear S a w; intro g1 a w S)
  (refine st_y S (Yr.ys (ys_move (Ev.t rfl))) rfl ?_; clear S a w; intro a w S)
  (refine st_m (op_extend _ (S.nil_ 43 _ Go.Fw.Dot.enc _) Try.underlying29 Try.underlying29 (.inr ⟨_, rfl⟩) inf43 rfl (k := 0) rfl (Ev.t rfl) (Ev.t rfl) (Src.sl (Sl.old S.wd h0) (by decide) Go.Fw.Dot.enc_len Go.Fw.Dot.enc_one) (by first | omega | (simp only [List.length_append, List.length_cons, List.length_nil]; omega) | (simp; omega)) rfl rfl rfl ?_); clear S a w; intro A1 cap1 a w S)
  simp only [List.nil_append] at S
  (refine st_y S (Yr.ys (ys_assign (Ev.t rfl))) rfl ?_; clear S a w; intro a w S)
  refine st_nil ?_
  (refine (then_normal (hK1 _ _ ?_)); clear hK1)
  refine wp_ret ?_
  refine st_ret S (results1 S Try.results78 (Rv.tmp rfl)) ?_
  rotate_left
  · have hnil : l = [] := by
      refine List.eq_nil_of_length_eq_zero (Decidable.byContradiction fun hne => ?_)
      obtain ⟨g, o, rfl, _⟩ := hA (by omega)
      cases h1
    subst hnil
    exact ⟨_, _, rfl, (S.nil_ 43 3 Dot.enc none).wd.sub (by repeat (first | exact List.Sublist.refl _ | exact List.nil_sublist _ | refine .cons_cons _ ?_ | refine .cons _ ?_)), none, 0, rfl, rfl⟩
  · try simp only [List.nil_append] at S ⊢
    exact ⟨_, _, rfl, S.wd.sub (by repeat (first | exact List.Sublist.refl _ | exact List.nil_sublist _ | refine .cons_cons _ ?_ | refine .cons _ ?_)), _, _, rfl, rfl⟩
end Go.Proofs.Ytjfeeiljinbmjaa
set_option linter.unusedVariables false
set_option linter.unusedSimpArgs false
set_option maxRecDepth 100000
set_option maxHeartbeats 4000000
namespace Go.Proofs.Ytjfeeiljinbmjaa
open Go.Fw Go.Proofs Go.RowKit
theorem c45 (w0 : World) (v1 v2 v3 v4 : Value) (x y : Int) (C D : Ctx) (h : RdCtx w0 w0.heap.size v1 v2 C) (h' : RdCtx w0 w0.heap.size v3 v4 D) :
    Calls Try.prog 45 #[.agg #[v1, v2], .int .i64 x, .agg #[v3, v4], .int .i64 y] w0 fun e w' => e = .returned (.bool (decide (x = y ∧ C = D))) ∧ Bel w0.heap.size w0 w' := by
  by_cases hx : x = y
  · refine enter4 Try.func45 rfl Try.ntmps45 rfl fun a S => ?_
    refine wp_seq_k fun _ hK1 => ?_
    refine wp_region_lit ?_
    (refine st_m (op_box S (Ev.t rfl) rfl ?_); clear S a; intro g1 a w S)
    (refine st_m (op_box S (Ev.t rfl) rfl ?_); clear S a w; intro g2 a w S)
    (refine st_y S (Yr.ys (ys_assign Ev.c)) rfl ?_; clear S a w; intro a w S)
    refine st_nil ?_
    (refine (then_normal (hK1 _ _ ?_)); clear hK1)
    refine wp_seq_k fun _ hK1 => ?_
    refine wp_region_lit ?_
    (refine st_y S (Yr.ys (ys_move (Ev.t rfl))) rfl ?_; clear S a w; intro a w S)
    (refine st_y S (Yr.ys (ys_move (Ev.t rfl))) rfl ?_; clear S a w; intro a w S)
    (refine st_y S (Yr.ys (ys_T (by omega) (ys_eql (Ev.t rfl) (Ev.t rfl)))) rfl ?_; clear S a w; intro a w S)
    (refine st_y S (Yr.ys (ys_move (Ev.t rfl))) rfl ?_; clear S a w; intro a w S)
    (refine st_yt S rfl rfl (Yr.ys (ys_ldA ⟨Try.isAgg36, Try.sizeOf36⟩ (Ev.t rfl) (k := 1) rfl rfl)) rfl ?_; clear S a w; intro a w S)
    (refine st_yt S rfl rfl (Yr.ys (ys_ldA ⟨Try.isAgg36, Try.sizeOf36⟩ (Ev.t rfl) (k := 0) rfl rfl)) rfl ?_; clear S a w; intro a w S)
    (refine st_yt S rfl rfl (ys_call Try.call26 (EvL.cons (Ev.t rfl) (EvL.cons (Ev.t rfl) EvL.nil)) (fun hp w W => c26 _ _ _ _ _ _ _ (by exact .old W (by assumption)) (by exact .old W (by assumption)))) rfl ?_; clear S a w; intro a w S)
    (refine st_y S (Yr.ys (ys_pickT (Ev.t rfl) (Ev.t rfl))) rfl ?_; clear S a w; intro a w S)
    (refine st_y S (Yr.ys (ys_assign (Ev.t rfl))) rfl ?_; clear S a w; intro a w S)
    refine st_nil ?_
    (refine (then_normal (hK1 _ _ ?_)); clear hK1)
    refine wp_ret ?_
    refine st_ret S (results1 S Try.results45 (Rv.tmp rfl)) ?_
    exact ⟨by simp [hx], S.wd.below⟩
  · refine enter4 Try.func45 rfl Try.ntmps45 rfl fun a S => ?_
    refine wp_seq_k fun _ hK1 => ?_
    refine wp_region_lit ?_
    (refine st_m (op_box S (Ev.t rfl) rfl ?_); clear S a; intro g1 a w S)
    (refine st_m (op_box S (Ev.t rfl) rfl ?_); clear S a w; intro g2 a w S)
    (refine st_y S (Yr.ys (ys_assign Ev.c)) rfl ?_; clear S a w; intro a w S)
    refine st_nil ?_
    (refine (then_normal (hK1 _ _ ?_)); clear hK1)
    refine wp_seq_k fun _ hK1 => ?_
    refine wp_region_lit ?_
    (refine st_y S (Yr.ys (ys_move (Ev.t rfl))) rfl ?_; clear S a w; intro a w S)
    (refine st_y S (Yr.ys (ys_move (Ev.t rfl))) rfl ?_; clear S a w; intro a w S)
    (refine st_y S (Yr.ys (ys_F (by omega) (ys_eql (Ev.t rfl) (Ev.t rfl)))) rfl ?_; clear S a w; intro a w S)
    (refine st_y S (Yr.ys (ys_move (Ev.t rfl))) rfl ?_; clear S a w; intro a w S)
    (refine st_skip S rfl rfl rfl rfl ?_; clear S a w; intro a w S)
    (refine st_skip S rfl rfl rfl rfl ?_; clear S a w; intro a w S)
    (refine st_skip S rfl rfl rfl rfl ?_; clear S a w; intro a w S)
    (refine st_y S (Yr.ys (ys_pickF (Ev.t rfl) Ev.c)) rfl ?_; clear S a w; intro a w S)
    (refine st_y S (Yr.ys (ys_assign (Ev.t rfl))) rfl ?_; clear S a w; intro a w S)
    refine st_nil ?_
    (refine (then_normal (hK1 _ _ ?_)); clear hK1)
    refine wp_ret ?_
    refine st_ret S (results1 S Try.results45 (Rv.tmp rfl)) ?_
    exact ⟨by simp [hx], S.wd.below⟩
theorem c40 (w0 : World) (v1 v2 : Value) (C : Ctx) (h : RdCtx w0 w0.heap.size v1 v2 C) (hn : C.marks.length ≤ 1048576) (hn' : C.cloud.length ≤ 1048576) :
    Rets Try.prog 40 #[.agg #[v1, v2]] w0 fun v L => ∃ A1 c1 A2 c2, v = .agg #[.slice A1 C.marks.length c1, .slice A2 C.cloud.length c2] ∧
      L = [rowOf 43 3 Dot.enc A1 c1 C.marks, rowOf 32 3 Dot.enc A2 c2 C.cloud] := by
  obtain ⟨h1, h2⟩ := id h
  obtain ⟨B1, q1, rfl, _⟩ := id h1
  obtain ⟨B2, q2, rfl, _⟩ := id h2
  unfold Go.Fw.Rets
  refine enter1 Try.func40 rfl Try.ntmps40 rfl fun a S => ?_
  refine wp_seq_k fun _ hK1 => ?_
  refine wp_region_lit ?_
  (refine st_m (op_box S (Ev.t rfl) rfl ?_); clear S a; intro g1 a w S)
  (refine st_m (op_alloc S Try.zeroValue36 (cs := _) rfl rfl ?_); clear S a w; intro g2 a w S)
  refine st_nil ?_
  (refine (then_normal (hK1 _ _ ?_)); clear hK1)
  refine wp_seq_k fun _ hK1 => ?_
  (refine h_beginE S (by kernel_rfl) 0 ?_; clear S a w; intro a w S)
  (refine h_y (i := 0) S (by repeat (first | exact List.Sublist.refl _ | exact List.nil_sublist _ | refine .cons_cons _ ?_ | refine .cons _ ?_)) rfl (by kernel_rfl) (by kernel_rfl) (by kernel_rfl) (fun _ _ _ _ h => h) (ys_fieldN (FieldT.mk Try.underlying36 rfl Try.sizeOf29 rfl) (Ev.t rfl) (i' := 0) rfl) rfl ?_; clear S a w; intro a w S)
  (refine h_y (i := 1) S (by repeat (first | exact List.Sublist.refl _ | exact List.nil_sublist _ | refine .cons_cons _ ?_ | refine .cons _ ?_)) rfl (by kernel_rfl) (by kernel_rfl) (by kernel_rfl) (fun _ _ _ _ h => h) (ys_ld ⟨Try.isAgg29, Try.sizeOf29⟩ (Ev.t rfl) (k := 0) rfl rfl) rfl ?_; clear S a w; intro a w S)
  (refine h_y (i := 3) S (by repeat (first | exact List.Sublist.refl _ | exact List.nil_sublist _ | refine .cons_cons _ ?_ | refine .cons _ ?_)) rfl (by kernel_rfl) (by kernel_rfl) (by kernel_rfl) (fun _ _ _ _ h => h) (ys_fieldN (FieldT.mk Try.underlying36 rfl Try.sizeOf30 rfl) (Ev.t rfl) (i' := 1) rfl) rfl ?_; clear S a w; intro a w S)
  (refine h_y (i := 4) S (by repeat (first | exact List.Sublist.refl _ | exact List.nil_sublist _ | refine .cons_cons _ ?_ | refine .cons _ ?_)) rfl (by kernel_rfl) (by kernel_rfl) (by kernel_rfl) (fun _ _ _ _ h => h) (ys_ld ⟨Try.isAgg30, Try.sizeOf30⟩ (Ev.t rfl) (k := 0) rfl rfl) rfl ?_; clear S a w; intro a w S)
  (refine h_m (i := 2) rfl (by kernel_rfl) (op_calls S Try.call78 (EvL.cons (Ev.t rfl) EvL.nil) (c78 _ _ _ (by exact .old S.wd (by assumption)) (by omega)) rfl ?_); clear S a w; rintro _ _ ⟨A1, c1, rfl, rfl⟩ a w S; refine h_on S _ (List.Sublist.refl _) (by repeat (first | exact List.Sublist.refl _ | exact List.nil_sublist _ | refine .cons_cons _ ?_ | refine .cons _ ?_)) ?_)
  (refine h_m (i := 5) rfl (by kernel_rfl) (op_calls S Try.call79 (EvL.cons (Ev.t rfl) EvL.nil) (c79 _ _ _ (by exact .old S.wd (by assumption)) (by omega)) rfl ?_); clear S a w; rintro _ _ ⟨A2, c2, rfl, rfl⟩ a w S; refine h_on S _ (List.Sublist.refl _) (by repeat (first | exact List.Sublist.refl _ | exact List.nil_sublist _ | refine .cons_cons _ ?_ | refine .cons _ ?_)) ?_)
  (refine h_y (i := 6) S (by repeat (first | exact List.Sublist.refl _ | exact List.nil_sublist _ | refine .cons_cons _ ?_ | refine .cons _ ?_)) rfl (by kernel_rfl) (by kernel_rfl) (by kernel_rfl) (fun _ _ _ _ h => h) (ys_bld (ps := [(0, Go.Operand.tmp 5), (1, Go.Operand.tmp 8)]) (us := [_, _]) bld36 (EvL.cons (Ev.t rfl) (EvL.cons (Ev.t rfl) EvL.nil)) rfl) rfl ?_; clear S a w; intro a w S)
  (refine h_m0 (i := 7) rfl (by kernel_rfl) (op_stW S Try.sizeOf36 (Ev.t rfl) (Ev.t rfl) (k := 2) rfl rfl rfl (by simp [Value.oneCell']) ?_); clear S a w; intro a w S; refine h_on S _ (List.Sublist.refl _) (by repeat (first | exact List.Sublist.refl _ | exact List.nil_sublist _ | refine .cons_cons _ ?_ | refine .cons _ ?_)) ?_)
  refine h_done (by kernel_rfl) ?_
  (refine (then_normal (hK1 _ _ ?_)); clear hK1)
  refine wp_ret ?_
  refine st_ret S (results1 S Try.results40 (Rv.cell (k := 2) ⟨Try.isAgg36, Try.sizeOf36⟩ rfl rfl rfl)) ?_
  (replace S := S.pull 1 rfl; try simp only [List.set_cons_zero, List.set_cons_succ, List.eraseIdx_cons_succ, List.eraseIdx_cons_zero] at S)
  exact ⟨_, _, rfl, S.wd.sub (by repeat (first | exact List.Sublist.refl _ | exact List.nil_sublist _ | refine .cons_cons _ ?_ | refine .cons _ ?_)), _, _, _, _, rfl, rfl⟩
end Go.Proofs.Ytjfeeiljinbmjaa
set_option linter.unusedVariables false
set_option linter.unusedSimpArgs false
set_option maxRecDepth 100000
namespace Go.Proofs.Ytjfeeiljinbmjaa
open Go.Fw Go.Proofs Go.RowKit
theorem u8_iff (a b : UInt8) : a = b ↔ (a.toNat : Int) = (b.toNat : Int) := by rw [← UInt8.toNat_inj]; omega
theorem c13 (w0 : World) (v1 : Value) (l : List UInt8) (h : Sl encB 1 w0 w0.heap.size v1 l) (hn : l.length ≤ 4194304) :
    Rets Try.prog 13 #[v1] w0 fun v L => ∃ A c, v = .slice A l.length c ∧ L = [rowOf 5 1 encB A c l] := by
  have h0 := h
  obtain ⟨A, cap, rfl, hl, hcap, hA⟩ := h
  unfold Go.Fw.Rets
  refine enter1 Try.func13 rfl Try.ntmps13 rfl fun a S => ?_
  refine wp_seq_k fun _ hK1 => ?_
  refine wp_region_lit ?_
  (refine st_y S (Yr.ys (ys_assign Ev.c)) rfl ?_; clear S a; intro a w S)
  refine st_nil ?_
  (refine (then_normal (hK1 _ _ ?_)); clear hK1)
  refine wp_seq_k fun _ hK1 => ?_
  refine wp_seq_k fun _ hK2 => ?_
  refine wp_region_lit ?_
  (refine st_y S (Yr.ys (ys_move (Ev.t rfl))) rfl ?_; clear S a w; intro a w S)
  (refine st_y S (Yr.ys (ys_sNil Try.underlying22 (Ev.t rfl) Ev.c)) rfl ?_; clear S a w; intro a w S)
  refine st_nil ?_
  (refine (then_normal (hK2 _ _ ?_)); clear hK2)
  refine st_cond S (Ev.t rfl) (fun h1 => ?_) (fun h1 => ?_)
  refine wp_seq_k fun _ hK2 => ?_
  refine wp_region_lit ?_
  (refine st_y S (Yr.ys (ys_assign Ev.c)) rfl ?_; clear S a w; intro a w S)
  refine st_nil ?_
  (refine (then_normal (hK2 _ _ ?_)); clear hK2)
  refine wp_ret ?_
  refine (then_ret ?_)
  refine st_ret S (results1 S Try.results13 (Rv.tmp rfl)) ?_
  rotate_left
  refine wp_skip ?_
  (refine (then_normal (hK1 _ _ ?_)); clear hK1)
  refine wp_seq_k fun _ hK1 => ?_
  refine wp_region_lit ?_
  (refine st_m (op_bslice0 S Try.underlying22 Try.sizeOf5 rfl ?_); clear S a w; intro g1 a w S)
  (refine st_y S (Yr.ys (ys_move (Ev.t rfl))) rfl ?_; clear S a w; intro a w S)
  (refine st_m (op_extend _ (S.nil_ 5 _ Go.Fw.encB _) Try.underlying22 Try.underlying22 (.inr ⟨_, rfl⟩) inf5 rfl (k := 0) rfl (Ev.t rfl) (Ev.t rfl) (Src.sl (Sl.old S.wd h0) (by decide) Go.Fw.encB_len Go.Fw.encB_one) (by first | omega | (simp only [List.length_append, List.length_cons, List.length_nil]; omega) | (simp; omega)) rfl rfl rfl ?_); clear S a w; intro A1 cap1 a w S)
  simp only [List.nil_append] at S
  (refine st_y S (Yr.ys (ys_assign (Ev.t rfl))) rfl ?_; clear S a w; intro a w S)
  refine st_nil ?_
  (refine (then_normal (hK1 _ _ ?_)); clear hK1)
  refine wp_ret ?_
  refine st_ret S (results1 S Try.results13 (Rv.tmp rfl)) ?_
  rotate_left
  · have hnil : l = [] := by
      refine List.eq_nil_of_length_eq_zero (Decidable.byContradiction fun hne => ?_)
      obtain ⟨g, o, rfl, _⟩ := hA (by omega)
      cases h1
    subst hnil
    exact ⟨_, _, rfl, (S.nil_ 5 1 encB none).wd.sub (by repeat (first | exact List.Sublist.refl _ | exact List.nil_sublist _ | refine .cons_cons _ ?_ | refine .cons _ ?_)), none, 0, rfl, rfl⟩
  · try simp only [List.nil_append] at S ⊢
    exact ⟨_, _, rfl, S.wd.sub (by repeat (first | exact List.Sublist.refl _ | exact List.nil_sublist _ | refine .cons_cons _ ?_ | refine .cons _ ?_)), _, _, rfl, rfl⟩
theorem c39 (w0 : World) (v v' : Value) (l l' : List UInt8) (h : Sl encB 1 w0 w0.heap.size v l) (h' : Sl encB 1 w0 w0.heap.size v' l') :
    Calls Try.prog 39 #[v, v'] w0 fun e w' => e = .returned (.bool (decide (l = l'))) ∧ Bel w0.heap.size w0 w' := by
  obtain ⟨A, cap, rfl, hl, hcap, hA⟩ := h
  obtain ⟨A', cap', rfl, hl', hcap', hA'⟩ := h'
  refine enter2 Try.func39 rfl Try.ntmps39 rfl fun a S => ?_
  refine wp_seq_k fun _ hK1 => ?_
  refine wp_region_lit ?_
  (refine st_y S (Yr.ys (ys_assign Ev.c)) rfl ?_; clear S a; intro a w S)
  refine st_nil ?_
  (refine (then_normal (hK1 _ _ ?_)); clear hK1)
  refine wp_seq_k fun _ hK1 => ?_
  refine wp_seq_k fun _ hK2 => ?_
  refine wp_region_lit ?_
  (refine st_y S (Yr.ys (ys_move (Ev.t rfl))) rfl ?_; clear S a w; intro a w S)
  (refine st_y S (Yr.ys (ys_lenS Try.underlying22 (Ev.t rfl))) rfl ?_; clear S a w; intro a w S)
  (refine st_y S (Yr.ys (ys_move (Ev.t rfl))) rfl ?_; clear S a w; intro a w S)
  (refine st_y S (Yr.ys (ys_lenS Try.underlying22 (Ev.t rfl))) rfl ?_; clear S a w; intro a w S)
  (refine st_y S (Yr.ys (ys_neq (Ev.t rfl) (Ev.t rfl))) rfl ?_; clear S a w; intro a w S)
  refine st_nil ?_
  (refine (then_normal (hK2 _ _ ?_)); clear hK2)
  refine st_if S (Ev.t rfl) (fun h1 => ?_) (fun h1 => ?_)
  refine wp_seq_k fun _ hK2 => ?_
  refine wp_region_lit ?_
  (refine st_y S (Yr.ys (ys_assign Ev.c)) rfl ?_; clear S a w; intro a w S)
  refine st_nil ?_
  (refine (then_normal (hK2 _ _ ?_)); clear hK2)
  refine wp_ret ?_
  refine (then_ret ?_)
  refine st_ret S (results1 S Try.results39 (Rv.tmp rfl)) ?_
  rotate_left
  refine wp_skip ?_
  (refine (then_normal (hK1 _ _ ?_)); clear hK1)
  refine wp_seq_k fun _ hK1 => ?_
  refine wp_seq_k fun _ hK2 => ?_
  refine wp_region_lit ?_
  (refine st_y S (Yr.ys (ys_move (Ev.t rfl))) rfl ?_; clear S a w; intro a w S)
  (refine st_y S (Yr.ys (ys_lenS Try.underlying22 (Ev.t rfl))) rfl ?_; clear S a w; intro a w S)
  (refine st_y S (Yr.ys (ys_move Ev.c)) rfl ?_; clear S a w; intro a w S)
  refine st_nil ?_
  (refine (then_normal (hK2 _ _ ?_)); clear hK2)
  refine wp_block ?_
  rotate_left
  · refine ⟨?_, S.wd.below⟩
    rw [decide_eq_false (fun e => h1 (by rw [e]))]
  · refine st_loopK S (X := Nat) (fun k => [(13, true, .int .i64 (k : Int))]) (fun _ L => L) (fun k => k ≤ l.length ∧ l.take k = l'.take k) (fun k => l.length - k) 0 ⟨Nat.zero_le _, rfl⟩ (by repeat (first | exact Fits.nil | refine Fits.skip rfl ?_ | refine Fits.cons rfl ?_)) (by repeat (first | exact List.Sublist.refl _ | exact List.nil_sublist _ | refine .cons_cons _ ?_ | refine .cons _ ?_)) ?_
    clear S
    intro k a w ⟨hk, hno⟩ S
    by_cases hlt : k < l.length
    · obtain ⟨g, o, m, rfl, hmm, hd, hc⟩ := row_at hA hlt
      obtain ⟨g', o', m', rfl, hmm', hd', hc'⟩ := row_at hA' (show k < l'.length by omega)
      clear hA hA'
      refine wp_seq_k fun _ hK2 => ?_
      refine wp_region_lit ?_
      (refine st_y S (Yr.ys (ys_T (by omega) (ys_lss (Ev.t rfl) (Ev.t rfl)))) rfl ?_; clear S a w; intro a w S)
      refine st_nil ?_
      (refine (then_normal (hK2 _ _ ?_)); clear hK2)
      refine wp_seq_k fun _ hK2 => ?_
      refine st_then S (Ev.t rfl) ?_
      refine wp_skip ?_
      (refine (then_normal (hK2 _ _ ?_)); clear hK2)
      refine wp_seq_k fun _ hK2 => ?_
      refine wp_block ?_
      refine wp_seq_k fun _ hK3 => ?_
      refine wp_region_lit ?_
      (refine st_y S (Yr.ys (ys_move (Ev.t rfl))) rfl ?_; clear S a w; intro a w S)
      (refine st_y S (Yr.ys (ys_assign (Ev.t rfl))) rfl ?_; clear S a w; intro a w S)
      refine st_nil ?_
      (refine (then_normal (hK3 _ _ ?_)); clear hK3)
      refine wp_seq_k fun _ hK3 => ?_
      (refine st_quiet S (by kernel_rfl) (by kernel_rfl) ?_; clear S w; intro a S)
      (refine q_y S (Yr.ys (ys_move (Ev.t rfl))) rfl ?_; clear S a; intro a S)
      (refine q_y S (Yr.ys (ys_move (Ev.t rfl))) rfl ?_; clear S a; intro a S)
      (refine q_y S (Yr.ys (ys_ixS Try.underlying22 Try.sizeOf5 (Ev.t rfl) (Ev.t rfl) (fun _ => by omega))) rfl ?_; clear S a; intro a S)
      (refine q_y S (Yr.ys (ys_ldO ⟨Try.isAgg5, Try.sizeOf5⟩ (Ev.t rfl) (fun _ => hc 0 _ rfl))) rfl ?_; clear S a; intro a S)
      (refine q_y S (Yr.ys (ys_move (Ev.t rfl))) rfl ?_; clear S a; intro a S)
      (refine q_y S (Yr.ys (ys_move (Ev.t rfl))) rfl ?_; clear S a; intro a S)
      (refine q_y S (Yr.ys (ys_ixS Try.underlying22 Try.sizeOf5 (Ev.t rfl) (Ev.t rfl) (fun _ => by omega))) rfl ?_; clear S a; intro a S)
      (refine q_y S (Yr.ys (ys_ldO ⟨Try.isAgg5, Try.sizeOf5⟩ (Ev.t rfl) (fun _ => hc' 0 _ rfl))) rfl ?_; clear S a; intro a S)
      (refine q_y S (Yr.ys (ys_neq (Ev.t rfl) (Ev.t rfl))) rfl ?_; clear S a; intro a S)
      (refine q_nil ?_; intro w W; replace S := St.mk S W; clear W)
      (refine (then_normal (hK3 _ _ ?_)); clear hK3)
      refine st_if S (Ev.t rfl) (fun h2 => ?_) (fun h2 => ?_)
      refine wp_seq_k fun _ hK3 => ?_
      refine wp_region_lit ?_
      (refine st_y S (Yr.ys (ys_assign Ev.c)) rfl ?_; clear S a w; intro a w S)
      refine st_nil ?_
      (refine (then_normal (hK3 _ _ ?_)); clear hK3)
      refine wp_ret ?_
      refine (in_ret (then_ret (then_ret (in_ret (then_ret ?_)))))
      refine st_ret S (results1 S Try.results39 (Rv.tmp rfl)) ?_
      rotate_left
      refine wp_skip ?_
      (refine (in_normal (then_normal (hK2 _ _ ?_))); clear hK2)
      refine wp_region_lit ?_
      (refine st_y S (Yr.ys (ys_addI (Ev.t rfl) Ev.c (fun _ => by unfold I64; omega))) rfl ?_; clear S a w; intro a w S)
      (refine st_y S (Yr.ys (ys_move (Ev.t rfl))) rfl ?_; clear S a w; intro a w S)
      refine st_nil ?_
      refine (then_normal ?_)
      rotate_left
      · refine ⟨?_, S.wd.below⟩
        have hne : ¬ m = m' := fun e => by
          have h3 := h2
          rw [u8_iff] at e
          simp at h3
          simp_all
        rw [at_ne hmm hmm' hne]
      · have heq : m = m' := by
          have h3 := h2
          rw [u8_iff]
          simpa using h3
        exact ⟨k + 1, ⟨by omega, at_step hno hmm hmm' heq⟩, by omega, S.weak (by repeat (first | exact Fits.nil | refine Fits.skip rfl ?_ | refine Fits.cons rfl ?_)) (by repeat (first | exact List.Sublist.refl _ | exact List.nil_sublist _ | refine .cons_cons _ ?_ | refine .cons _ ?_))⟩
    · refine wp_seq_k fun _ hK2 => ?_
      refine wp_region_lit ?_
      (refine st_y S (Yr.ys (ys_F (by omega) (ys_lss (Ev.t rfl) (Ev.t rfl)))) rfl ?_; clear S a w; intro a w S)
      refine st_nil ?_
      (refine (then_normal (hK2 _ _ ?_)); clear hK2)
      refine wp_seq_k fun _ hK2 => ?_
      refine st_else S (Ev.t rfl) ?_
      refine wp_exit ?_
      (refine (then_exit (then_exit (in_here (then_normal (hK1 _ _ ?_))))); clear hK1)
      refine wp_seq_k fun _ hK1 => ?_
      refine wp_region_lit ?_
      (refine st_y S (Yr.ys (ys_assign Ev.c)) rfl ?_; clear S a w; intro a w S)
      refine st_nil ?_
      (refine (then_normal (hK1 _ _ ?_)); clear hK1)
      refine wp_ret ?_
      refine st_ret S (results1 S Try.results39 (Rv.tmp rfl)) ?_
      refine ⟨?_, S.wd.below⟩
      rw [decide_eq_true]
      rw [List.take_of_length_le (by omega), List.take_of_length_le (by omega)] at hno
      exact hno
end Go.Proofs.Ytjfeeiljinbmjaa
set_option linter.unusedVariables false
set_option linter.unusedSimpArgs false
set_option maxRecDepth 100000
set_option maxHeartbeats 4000000
namespace Go.Proofs.Ytjfeeiljinbmjaa
open Go.Fw Go.Proofs Go.RowKit
theorem byteR_le {b : List UInt8} {k : Nat} (h : k ≤ b.length) : k + (byteR b k).2.1 ≤ b.length := by
  rcases Nat.lt_or_ge k b.length with h1 | h1
  · rw [byteR_some (x := b[k]) (by simp)]; dsimp only; omega
  · rw [byteR_none (by omega)]; dsimp only; omega
theorem c8 (w0 : World) (v1 v2 v3 : Value) (C : Ctx) (b : List UInt8) (x : Int) (h : RdCtx w0 w0.heap.size v1 v2 C) (h3 : Sl encB 1 w0 w0.heap.size v3 b)
    (hl : C.marks.length ≤ 1048576) (hd : C.cloud.length ≤ 1048576) (hb : b.length ≤ 1048576) :
    Calls Try.prog 8 #[.agg #[v1, v2], v3, .int .i64 x] w0 fun e w' => e = .returned (.bool true) ∧ Bel w0.heap.size w0 w' := by
  obtain ⟨hm1, hm2⟩ := id h
  obtain ⟨A3, cap3, rfl, hb1, hb2, _⟩ := id h3
  obtain ⟨E, hE⟩ : ∃ E, (if canL C = true then encC b C else []) = E := ⟨_, rfl⟩
  obtain ⟨z, hz⟩ : ∃ z : Int, (if canL C = true then (0 : Int) else 30) = z := ⟨_, rfl⟩
  have rw_E := hE
  have rw_z := hz
  have rw_1 : decide (E = E) = true := decide_eq_true rfl
  have rw_2 : decide (b = b) = true := decide_eq_true rfl
  obtain ⟨n, hn, hn2⟩ : ∃ n : Nat, IntKind.i64.wrap ((IntKind.u64.wrap x).tmod 3) = (n : Int) ∧ n ≤ 2 := by
    obtain ⟨h0, h1⟩ := u64_range x
    have h2 : (IntKind.u64.wrap x).tmod 3 = (IntKind.u64.wrap x) % 3 := Int.tmod_eq_emod_of_nonneg h0
    rw [h2, wrap_i64 ⟨by omega, by omega⟩]
    exact ⟨((IntKind.u64.wrap x) % 3).toNat, by omega, by omega⟩
  have rw_n := hn
  refine enter3 Try.func8 rfl Try.ntmps8 rfl fun a S => ?_
  refine wp_seq_k fun _ hK1 => ?_
  refine wp_region_lit ?_
  (refine st_m (op_box S (Ev.t rfl) rfl ?_); clear S a; intro g1 a w S)
  (refine st_y S (Yr.ys (ys_assign Ev.c)) rfl ?_; clear S a w; intro a w S)
  refine st_nil ?_
  (refine (then_normal (hK1 _ _ ?_)); clear hK1)
  refine wp_seq_k fun _ hK1 => ?_
  refine wp_region_lit ?_
  (refine st_y S (Yr.ys (ys_move (Ev.t rfl))) rfl ?_; clear S a w; intro a w S)
  (refine st_m (op_calls S Try.call13 (EvL.cons (Ev.t rfl) EvL.nil) (c13 _ _ _ (by exact .old S.wd (by assumption)) (by omega)) rfl ?_); clear S a w; rintro _ _ ⟨A1, c1, rfl, rfl⟩ a w S)
  (refine st_y S (Yr.ys (ys_assign (Ev.t rfl))) rfl ?_; clear S a w; intro a w S)
  refine st_nil ?_
  (refine (then_normal (hK1 _ _ ?_)); clear hK1)
  refine wp_seq_k fun _ hK1 => ?_
  refine wp_region_lit ?_
  (refine st_y S (Yr.ys (ys_move (Ev.t rfl))) rfl ?_; clear S a w; intro a w S)
  (refine st_y S (Yr.ys (ys_ldA ⟨Try.isAgg36, Try.sizeOf36⟩ (Ev.t rfl) (k := 1) rfl rfl)) rfl ?_; clear S a w; intro a w S)
  (refine st_m (op_calls S Try.call40 (EvL.cons (Ev.t rfl) EvL.nil) (c40 _ _ _ _ (by exact .old S.wd (by assumption)) (by assumption) (by assumption)) rfl ?_); clear S a w; rintro _ _ ⟨A11, c11, A21, c29, rfl, rfl⟩ a w S)
  (refine st_m (op_calls S Try.call34 (EvL.cons (Ev.t rfl) (EvL.cons (Ev.t rfl) EvL.nil)) (c34 _ _ _ _ _ _ (by exact Sl.of_own S.wd (k := 2) rfl (fun _ => rfl)) (by exact ⟨(by exact Sl.of_own S.wd (k := 0) rfl (fun _ => rfl)), (by exact Sl.of_own S.wd (k := 1) rfl (fun _ => rfl))⟩) (by omega)) rfl ?_); clear S a w; rintro _ _ ⟨A2, c2, rfl, rfl⟩ a w S)
  rw [rw_E] at S
  rw [rw_z] at S
  (refine st_y S (Yr.ys (ys_move (Ev.t rfl))) rfl ?_; clear S a w; intro a w S)
  (refine st_y S (Yr.ys (ys_ext (Ev.t rfl) rfl)) rfl ?_; clear S a w; intro a w S)
  (refine st_y S (Yr.ys (ys_ext (Ev.t rfl) rfl)) rfl ?_; clear S a w; intro a w S)
  (refine st_y S (Yr.ys (ys_assign (Ev.t rfl))) rfl ?_; clear S a w; intro a w S)
  (refine st_y S (Yr.ys (ys_assign (Ev.t rfl))) rfl ?_; clear S a w; intro a w S)
  refine st_nil ?_
  (refine (then_normal (hK1 _ _ ?_)); clear hK1)
  refine wp_seq_k fun _ hK1 => ?_
  refine wp_region_lit ?_
  (refine st_y S (Yr.ys (ys_move (Ev.t rfl))) rfl ?_; clear S a w; intro a w S)
  (refine st_y S (Yr.ys (ys_ldA ⟨Try.isAgg36, Try.sizeOf36⟩ (Ev.t rfl) (k := 4) rfl rfl)) rfl ?_; clear S a w; intro a w S)
  (refine st_m (op_calls S Try.call41 (EvL.cons (Ev.t rfl) (EvL.cons (Ev.t rfl) EvL.nil)) (c41 _ _ _ _ _ _ (by exact .old S.wd (by assumption)) (by exact .old S.wd (by assumption)) (by omega)) rfl ?_); clear S a w; rintro _ _ ⟨A4, c3, rfl, rfl⟩ a w S)
  rw [rw_E] at S
  rw [rw_z] at S
  (refine st_y S (Yr.ys (ys_move (Ev.t rfl))) rfl ?_; clear S a w; intro a w S)
  (refine st_y S (Yr.ys (ys_ext (Ev.t rfl) rfl)) rfl ?_; clear S a w; intro a w S)
  (refine st_y S (Yr.ys (ys_ext (Ev.t rfl) rfl)) rfl ?_; clear S a w; intro a w S)
  (refine st_y S (Yr.ys (ys_assign (Ev.t rfl))) rfl ?_; clear S a w; intro a w S)
  (refine st_y S (Yr.ys (ys_assign (Ev.t rfl))) rfl ?_; clear S a w; intro a w S)
  refine st_nil ?_
  (refine (then_normal (hK1 _ _ ?_)); clear hK1)
  refine wp_seq_k fun _ hK1 => ?_
  refine wp_seq_k fun _ hK2 => ?_
  refine wp_region_lit ?_
  (refine st_y S (Yr.ys (ys_move (Ev.t rfl))) rfl ?_; clear S a w; intro a w S)
  (refine st_y S (Yr.ys (ys_move (Ev.t rfl))) rfl ?_; clear S a w; intro a w S)
  (refine st_y S (Yr.ys (ys_F (by omega) (ys_neq (Ev.t rfl) (Ev.t rfl)))) rfl ?_; clear S a w; intro a w S)
  (refine st_y S (Yr.ys (ys_move (Ev.t rfl))) rfl ?_; clear S a w; intro a w S)
  (refine st_yt S rfl rfl (Yr.ys (ys_move (Ev.t rfl))) rfl ?_; clear S a w; intro a w S)
  (refine st_yt S rfl rfl (Yr.ys (ys_move (Ev.t rfl))) rfl ?_; clear S a w; intro a w S)
  (refine st_yt S rfl rfl (ys_call Try.call39 (EvL.cons (Ev.t rfl) (EvL.cons (Ev.t rfl) EvL.nil)) (fun hp w W => c39 _ _ _ _ _ (by exact Sl.of_own W (k := 1) rfl (fun _ => rfl)) (by exact Sl.of_own W (k := 0) rfl (fun _ => rfl)))) rfl ?_; clear S a w; intro a w S)
  simp only [List.nil_append] at S
  (refine st_yt S rfl rfl (Yr.ys (ys_not (Ev.t rfl))) rfl ?_; clear S a w; intro a w S)
  (refine st_y S (Yr.ys (ys_pickF (Ev.t rfl) (Ev.t rfl))) rfl ?_; clear S a w; intro a w S)
  (refine st_y S (Yr.ys (ys_move (Ev.t rfl))) rfl ?_; clear S a w; intro a w S)
  (refine st_yt S rfl rfl (Yr.ys (ys_move (Ev.t rfl))) rfl ?_; clear S a w; intro a w S)
  (refine st_yt S rfl rfl (Yr.ys (ys_move (Ev.t rfl))) rfl ?_; clear S a w; intro a w S)
  (refine st_yt S rfl rfl (ys_call Try.call39 (EvL.cons (Ev.t rfl) (EvL.cons (Ev.t rfl) EvL.nil)) (fun hp w W => c39 _ _ _ _ _ (by exact Sl.of_own W (k := 4) rfl (fun _ => rfl)) (by exact .old W (by assumption)))) rfl ?_; clear S a w; intro a w S)
  simp only [List.nil_append] at S
  (refine st_yt S rfl rfl (Yr.ys (ys_not (Ev.t rfl))) rfl ?_; clear S a w; intro a w S)
  (refine st_y S (Yr.ys (ys_pickF (Ev.t rfl) (Ev.t rfl))) rfl ?_; clear S a w; intro a w S)
  refine st_nil ?_
  (refine (then_normal (hK2 _ _ ?_)); clear hK2)
  refine st_else S (Ev.t rfl) ?_
  refine wp_skip ?_
  (refine (then_normal (hK1 _ _ ?_)); clear hK1)
  refine wp_seq_k fun _ hK1 => ?_
  refine wp_region_lit ?_
  (refine st_y S (Yr.ys (ys_move (Ev.t rfl))) rfl ?_; clear S a w; intro a w S)
  (refine st_m (op_calls S Try.call35 (EvL.cons (Ev.t rfl) EvL.nil) (c35 _ _ _ (by exact .old S.wd (by assumption)) (by omega)) rfl ?_); clear S a w; rintro _ _ ⟨g2, A5, c5, rfl, rfl⟩ a w S)
  (refine st_y S (Yr.ys (ys_move (Ev.t rfl))) rfl ?_; clear S a w; intro a w S)
  (refine st_y S (Yr.ys (ys_bld (ps := [(0, Go.Operand.tmp 48)]) (us := [_, _]) bld79 (EvL.cons (Ev.t rfl) EvL.nil) rfl)) rfl ?_; clear S a w; intro a w S)
  (refine st_m (op_box S (Ev.t rfl) rfl ?_); clear S a w; intro g3 a w S)
  (refine st_y S (Yr.ys (ys_assign (Ev.t rfl))) rfl ?_; clear S a w; intro a w S)
  (refine st_y S (Yr.ys (ys_assign (Ev.t rfl))) rfl ?_; clear S a w; intro a w S)
  refine st_nil ?_
  (refine (then_normal (hK1 _ _ ?_)); clear hK1)
  refine wp_seq_k fun _ hK1 => ?_
  refine wp_seq_k fun _ hK2 => ?_
  refine wp_region_lit ?_
  (refine st_y S (Yr.ys (ys_move (Ev.t rfl))) rfl ?_; clear S a w; intro a w S)
  (refine st_y S (Yr.ys (ys_cv Try.underlying3 Try.underlying46 (Ev.t rfl))) rfl ?_; clear S a w; intro a w S)
  (refine st_y S (Yr.ys (ys_rem (Ev.t rfl) Ev.c (fun _ => by omega))) rfl ?_; clear S a w; intro a w S)
  (refine st_y S (Yr.ys (ys_cv Try.underlying46 Try.underlying3 (Ev.t rfl))) rfl ?_; clear S a w; intro a w S)
  rw [rw_n] at S
  (refine st_y S (Yr.ys (ys_move Ev.c)) rfl ?_; clear S a w; intro a w S)
  refine st_nil ?_
  (refine (then_normal (hK2 _ _ ?_)); clear hK2)
  refine wp_block ?_
  refine st_loopM S [55] (X := Nat × Nat) (fun q => [(55, true, .int .i64 (q.1 : Int))]) (fun q => rdr g2 A5 c5 b q.2 (rds g3 A3 cap3 b q.2 []))
    (fun q => q.1 ≤ n ∧ q.2 ≤ b.length) (fun q => n - q.1) (0, 0) ⟨Nat.zero_le _, Nat.zero_le _⟩ (by repeat (first | exact Fits.nil | refine Fits.skip rfl ?_ | refine Fits.cons rfl ?_)) (by repeat (first | exact Picks.nil | (refine Picks.rest ?_; (repeat (first | exact List.Sublist.refl _ | refine List.Sublist.cons_cons _ ?_ | refine List.Sublist.cons _ ?_)); done) | refine Picks.take 0 rfl ?_ | refine Picks.take 1 rfl ?_ | refine Picks.take 2 rfl ?_ | refine Picks.take 3 rfl ?_ | refine Picks.take 4 rfl ?_ | refine Picks.take 5 rfl ?_ | refine Picks.take 6 rfl ?_ | refine Picks.take 7 rfl ?_ | refine Picks.take 8 rfl ?_ | refine Picks.take 9 rfl ?_ | refine Picks.take 10 rfl ?_ | refine Picks.take 11 rfl ?_)) ?_
  clear S
  intro ⟨i, k⟩ a w ⟨hi, hk⟩ S
  dsimp only at hi hk S
  by_cases hlt : i < n
  · refine wp_seq_k fun _ hK2 => ?_
    refine wp_region_lit ?_
    (refine st_y S (Yr.ys (ys_T (by omega) (ys_lss (Ev.t rfl) (Ev.t rfl)))) rfl ?_; clear S a w; intro a w S)
    refine st_nil ?_
    (refine (then_normal (hK2 _ _ ?_)); clear hK2)
    refine wp_seq_k fun _ hK2 => ?_
    refine st_then S (Ev.t rfl) ?_
    refine wp_skip ?_
    (refine (then_normal (hK2 _ _ ?_)); clear hK2)
    refine wp_seq_k fun _ hK2 => ?_
    refine wp_block ?_
    refine wp_seq_k fun _ hK3 => ?_
    refine wp_region_lit ?_
    (refine st_y S (Yr.ys (ys_move (Ev.t rfl))) rfl ?_; clear S a w; intro a w S)
    (refine st_m (op_callO S Try.call42 (EvL.cons (Ev.t rfl) EvL.nil) (c42 S.wd (by first | assumption | omega | exact Sl.nil_ | exact .old S.wd (by assumption) | exact Sl.of_own S.wd (k := 0) rfl (fun _ => rfl) | exact Sl.of_own S.wd (k := 1) rfl (fun _ => rfl) | exact Sl.of_own S.wd (k := 2) rfl (fun _ => rfl) | (simp at *; omega)) (by first | assumption | omega | exact Sl.nil_ | exact .old S.wd (by assumption) | exact Sl.of_own S.wd (k := 0) rfl (fun _ => rfl) | exact Sl.of_own S.wd (k := 1) rfl (fun _ => rfl) | exact Sl.of_own S.wd (k := 2) rfl (fun _ => rfl) | (simp at *; omega))) rfl ?_) <;> clear S a w)
    rintro _ _ ⟨rfl, rfl⟩ a w S
    refine st_nil ?_
    (refine (then_normal (hK3 _ _ ?_)); clear hK3)
    refine wp_region_lit ?_
    (refine st_y S (Yr.ys (ys_move (Ev.t rfl))) rfl ?_; clear S a w; intro a w S)
    (replace S := S.pull 2 rfl; try simp only [List.set_cons_zero, List.set_cons_succ, List.eraseIdx_cons_succ, List.eraseIdx_cons_zero] at S; refine st_m (op_callO S Try.call43 (EvL.cons (Ev.t rfl) EvL.nil) (c43 S.wd (by first | assumption | omega | exact Sl.nil_ | exact .old S.wd (by assumption) | exact Sl.of_own S.wd (k := 0) rfl (fun _ => rfl) | exact Sl.of_own S.wd (k := 1) rfl (fun _ => rfl) | exact Sl.of_own S.wd (k := 2) rfl (fun _ => rfl) | (simp at *; omega)) (by first | assumption | omega | exact Sl.nil_ | exact .old S.wd (by assumption) | exact Sl.of_own S.wd (k := 0) rfl (fun _ => rfl) | exact Sl.of_own S.wd (k := 1) rfl (fun _ => rfl) | exact Sl.of_own S.wd (k := 2) rfl (fun _ => rfl) | (simp at *; omega)) (by first | assumption | omega | exact Sl.nil_ | exact .old S.wd (by assumption) | exact Sl.of_own S.wd (k := 0) rfl (fun _ => rfl) | exact Sl.of_own S.wd (k := 1) rfl (fun _ => rfl) | exact Sl.of_own S.wd (k := 2) rfl (fun _ => rfl) | (simp at *; omega))) rfl ?_) <;> clear S a w)
    rintro _ _ ⟨rfl, rfl⟩ a w S
    refine st_nil ?_
    (refine (in_normal (then_normal (hK2 _ _ ?_))); clear hK2)
    refine wp_region_lit ?_
    (refine st_y S (Yr.ys (ys_addI (Ev.t rfl) Ev.c (fun _ => by unfold I64; omega))) rfl ?_; clear S a w; intro a w S)
    (refine st_y S (Yr.ys (ys_move (Ev.t rfl))) rfl ?_; clear S a w; intro a w S)
    refine st_nil ?_
    refine (then_normal ?_)
    exact ⟨(i + 1, k + (byteR b k).2.1), ⟨by dsimp only; omega, byteR_le hk⟩, by dsimp only; omega, S.picks (by repeat (first | exact Fits.nil | refine Fits.skip rfl ?_ | refine Fits.cons rfl ?_)) (by repeat (first | exact Picks.nil | (refine Picks.rest ?_; (repeat (first | exact List.Sublist.refl _ | refine List.Sublist.cons_cons _ ?_ | refine List.Sublist.cons _ ?_)); done) | refine Picks.take 0 rfl ?_ | refine Picks.take 1 rfl ?_ | refine Picks.take 2 rfl ?_ | refine Picks.take 3 rfl ?_ | refine Picks.take 4 rfl ?_ | refine Picks.take 5 rfl ?_ | refine Picks.take 6 rfl ?_ | refine Picks.take 7 rfl ?_ | refine Picks.take 8 rfl ?_ | refine Picks.take 9 rfl ?_ | refine Picks.take 10 rfl ?_ | refine Picks.take 11 rfl ?_))⟩
  · refine wp_seq_k fun _ hK2 => ?_
    refine wp_region_lit ?_
    (refine st_y S (Yr.ys (ys_F (by omega) (ys_lss (Ev.t rfl) (Ev.t rfl)))) rfl ?_; clear S a w; intro a w S)
    refine st_nil ?_
    (refine (then_normal (hK2 _ _ ?_)); clear hK2)
    refine wp_seq_k fun _ hK2 => ?_
    refine st_else S (Ev.t rfl) ?_
    refine wp_exit ?_
    (refine (then_exit (then_exit (in_here (then_normal (hK1 _ _ ?_))))); clear hK1)
    refine wp_seq_k fun _ hK1 => ?_
    refine wp_region_lit ?_
    (refine st_y S (Yr.ys (ys_move (Ev.t rfl))) rfl ?_; clear S a w; intro a w S)
    (refine st_m (op_callO S Try.call36 (EvL.cons (Ev.t rfl) EvL.nil) (c36 S.wd (by first | assumption | omega | exact Sl.nil_ | exact .old S.wd (by assumption) | exact Sl.of_own S.wd (k := 0) rfl (fun _ => rfl) | exact Sl.of_own S.wd (k := 1) rfl (fun _ => rfl) | exact Sl.of_own S.wd (k := 2) rfl (fun _ => rfl) | (simp at *; omega)) (by first | assumption | omega | exact Sl.nil_ | exact .old S.wd (by assumption) | exact Sl.of_own S.wd (k := 0) rfl (fun _ => rfl) | exact Sl.of_own S.wd (k := 1) rfl (fun _ => rfl) | exact Sl.of_own S.wd (k := 2) rfl (fun _ => rfl) | (simp at *; omega))) rfl ?_) <;> clear S a w)
    rintro _ _ ⟨B1, c7, B'1, c'1, rfl, rfl⟩ a w S
    (refine st_y S (Yr.ys (ys_move (Ev.t rfl))) rfl ?_; clear S a w; intro a w S)
    (refine st_y S (Yr.ys (ys_ext (Ev.t rfl) rfl)) rfl ?_; clear S a w; intro a w S)
    (refine st_y S (Yr.ys (ys_ext (Ev.t rfl) rfl)) rfl ?_; clear S a w; intro a w S)
    (refine st_m (op_alloc S Try.zeroValue36 (cs := _) rfl rfl ?_); clear S a w; intro g4 a w S)
    (refine st_m (op_stW S Try.sizeOf36 (Ev.t rfl) (Ev.t rfl) (k := 0) rfl rfl rfl (by simp [Value.oneCell']) ?_); clear S a w; intro a w S)
    (refine st_y S (Yr.ys (ys_assign (Ev.t rfl))) rfl ?_; clear S a w; intro a w S)
    refine st_nil ?_
    (refine (then_normal (hK1 _ _ ?_)); clear hK1)
    refine wp_seq_k fun _ hK1 => ?_
    refine wp_region_lit ?_
    (refine st_y S (Yr.ys (ys_move (Ev.t rfl))) rfl ?_; clear S a w; intro a w S)
    (replace S := S.pull 5 rfl; try simp only [List.set_cons_zero, List.set_cons_succ, List.eraseIdx_cons_succ, List.eraseIdx_cons_zero] at S; refine st_m (op_callO S Try.call44 (EvL.cons (Ev.t rfl) EvL.nil) (c44 S.wd (by first | assumption | omega | exact Sl.nil_ | exact .old S.wd (by assumption) | exact Sl.of_own S.wd (k := 0) rfl (fun _ => rfl) | exact Sl.of_own S.wd (k := 1) rfl (fun _ => rfl) | exact Sl.of_own S.wd (k := 2) rfl (fun _ => rfl) | exact Sl.of_own S.wd (k := 3) rfl (fun _ => rfl) | exact Sl.of_own S.wd (k := 4) rfl (fun _ => rfl) | exact Sl.of_own S.wd (k := 5) rfl (fun _ => rfl) | (simp at *; omega)) (by first | assumption | omega | exact Sl.nil_ | exact .old S.wd (by assumption) | exact Sl.of_own S.wd (k := 0) rfl (fun _ => rfl) | exact Sl.of_own S.wd (k := 1) rfl (fun _ => rfl) | exact Sl.of_own S.wd (k := 2) rfl (fun _ => rfl) | exact Sl.of_own S.wd (k := 3) rfl (fun _ => rfl) | exact Sl.of_own S.wd (k := 4) rfl (fun _ => rfl) | exact Sl.of_own S.wd (k := 5) rfl (fun _ => rfl) | (simp at *; omega)) (by first | assumption | omega | exact Sl.nil_ | exact .old S.wd (by assumption) | exact Sl.of_own S.wd (k := 0) rfl (fun _ => rfl) | exact Sl.of_own S.wd (k := 1) rfl (fun _ => rfl) | exact Sl.of_own S.wd (k := 2) rfl (fun _ => rfl) | exact Sl.of_own S.wd (k := 3) rfl (fun _ => rfl) | exact Sl.of_own S.wd (k := 4) rfl (fun _ => rfl) | exact Sl.of_own S.wd (k := 5) rfl (fun _ => rfl) | (simp at *; omega))) rfl ?_) <;> clear S a w)
    rintro _ _ ⟨B2, c9, B'2, c'2, rfl, rfl⟩ a w S
    (refine st_y S (Yr.ys (ys_move (Ev.t rfl))) rfl ?_; clear S a w; intro a w S)
    (refine st_y S (Yr.ys (ys_ext (Ev.t rfl) rfl)) rfl ?_; clear S a w; intro a w S)
    (refine st_y S (Yr.ys (ys_ext (Ev.t rfl) rfl)) rfl ?_; clear S a w; intro a w S)
    (refine st_m (op_alloc S Try.zeroValue36 (cs := _) rfl rfl ?_); clear S a w; intro g5 a w S)
    (refine st_m (op_stW S Try.sizeOf36 (Ev.t rfl) (Ev.t rfl) (k := 0) rfl rfl rfl (by simp [Value.oneCell']) ?_); clear S a w; intro a w S)
    (refine st_y S (Yr.ys (ys_assign (Ev.t rfl))) rfl ?_; clear S a w; intro a w S)
    refine st_nil ?_
    (refine (then_normal (hK1 _ _ ?_)); clear hK1)
    refine wp_seq_k fun _ hK1 => ?_
    (refine st_quiet S (by kernel_rfl) (by kernel_rfl) ?_; clear S w; intro a S)
    (refine q_y S (Yr.ys (ys_ldA ⟨Try.isAgg36, Try.sizeOf36⟩ (Ev.t rfl) (k := 4) rfl rfl)) rfl ?_; clear S a; intro a S)
    (refine q_y S (Yr.ys (ys_move (Ev.t rfl))) rfl ?_; clear S a; intro a S)
    (refine q_y S (Yr.ys (ys_ldA ⟨Try.isAgg36, Try.sizeOf36⟩ (Ev.t rfl) (k := 0) rfl rfl)) rfl ?_; clear S a; intro a S)
    (refine q_y S (Yr.ys (ys_move (Ev.t rfl))) rfl ?_; clear S a; intro a S)
    (refine q_y S (ys_call Try.call45 (EvL.cons (Ev.t rfl) (EvL.cons (Ev.t rfl) (EvL.cons (Ev.t rfl) (EvL.cons (Ev.t rfl) EvL.nil)))) (fun hp w W => c45 _ _ _ _ _ _ _ _ _ (by exact ⟨(by exact Sl.of_own W (k := 7) rfl (fun _ => rfl)), (by exact Sl.of_own W (k := 8) rfl (fun _ => rfl))⟩) (by exact ⟨(by exact Sl.of_own W (k := 2) rfl (fun _ => rfl)), (by exact Sl.of_own W (k := 3) rfl (fun _ => rfl))⟩))) rfl ?_; clear S a; intro a S)
    simp only [List.nil_append] at S
    (refine q_y S (Yr.ys (ys_move (Ev.t rfl))) rfl ?_; clear S a; intro a S)
    (refine q_yt S rfl rfl (Yr.ys (ys_move (Ev.t rfl))) rfl ?_; clear S a; intro a S)
    (refine q_yt S rfl rfl (ys_call Try.call38 (EvL.cons (Ev.t rfl) EvL.nil) (fun hp w W => c38 _ _ _ (by exact Wd.cell W (k := 5) rfl rfl) (by exact Wd.cell W (k := 5) rfl rfl))) rfl ?_; clear S a; intro a S)
    (refine q_yt S rfl rfl (Yr.ys (ys_move (Ev.t rfl))) rfl ?_; clear S a; intro a S)
    (refine q_yt S rfl rfl (Yr.ys (ys_nilc (Ev.t rfl))) rfl ?_; clear S a; intro a S)
    (refine q_yt S rfl rfl (Yr.ys (ys_fieldN (FieldT.mk Try.underlying79 rfl Try.sizeOf3 rfl) (Ev.t rfl) (i' := 1) rfl)) rfl ?_; clear S a; intro a S)
    (refine q_yt S rfl rfl (Yr.ys (ys_ld ⟨Try.isAgg3, Try.sizeOf3⟩ (Ev.t rfl) (k := 1) rfl rfl)) rfl ?_; clear S a; intro a S)
    (refine q_yt S rfl rfl (Yr.ys (ys_T (by omega) (ys_eql (Ev.t rfl) (Ev.t rfl)))) rfl ?_; clear S a; intro a S)
    (refine q_y S (Yr.ys (ys_pickT (Ev.t rfl) (Ev.t rfl))) rfl ?_; clear S a; intro a S)
    (refine q_y S (Yr.ys (ys_assign (Ev.t rfl))) rfl ?_; clear S a; intro a S)
    (refine q_nil ?_; intro w W; replace S := St.mk S W; clear W)
    (refine (then_normal (hK1 _ _ ?_)); clear hK1)
    refine wp_ret ?_
    refine st_ret S (results1 S Try.results8 (Rv.tmp rfl)) ?_
    exact ⟨rfl, S.wd.below⟩
end Go.Proofs.Ytjfeeiljinbmjaa
