/- Layer 3: Encode, walked. -/
import Derived.Test.YtjfeeiljinbmjaaCau18
import Derived.Test.YtjfeeiljinbmjaaCau6
import Derived.Test.YtjfeeiljinbmjaaMore7
set_option linter.unusedVariables false
set_option linter.unusedSimpArgs false
set_option maxRecDepth 100000
set_option maxHeartbeats 4000000
namespace Go.Proofs.Ytjfeeiljinbmjaa
open Go.Fw Go.Proofs Go.RowKit

/-- a context's bytes behind others, or the error -/
theorem c34 (w0 : World) (v0 v1 v2 : Value) (b : List UInt8) (C : Ctx) (hs : Sl encB 1 w0 w0.heap.size v0 b) (h : RdCtx w0 w0.heap.size v1 v2 C) (hb : b.length ≤ 4194304) :
    Rets Try.prog 34 #[v0, .agg #[v1, v2]] w0 fun v L => ∃ A c, v = .tuple #[.slice A (if canL C then encC b C else []).length c, .int .i64 (if canL C then 0 else 30)] ∧ L = [rowOf 5 1 encB A c (if canL C then encC b C else [])] := by
  obtain ⟨A0, q0, rfl, _⟩ := id hs
  obtain ⟨h1, h2⟩ := id h
  obtain ⟨B1, q1, rfl, _, _, hA⟩ := id h1
  obtain ⟨B2, q2, rfl, _⟩ := id h2
  cases rw_c : canL C with
  | false =>
    unfold Go.Fw.Rets
    refine enter2 Try.func34 rfl Try.ntmps34 rfl fun a S => ?_
    refine wp_seq_k fun _ hK1 => ?_
    refine wp_region_lit ?_
    (refine st_m (op_box1 S (Ev.t rfl) rfl rfl ?_); clear S a; intro g1 a w S)
    (refine st_m (op_box S (Ev.t rfl) rfl ?_); clear S a w; intro g2 a w S)
    (refine st_y S (Yr.ys (ys_assign Ev.c)) rfl ?_; clear S a w; intro a w S)
    (refine st_y S (Yr.ys (ys_assign Ev.c)) rfl ?_; clear S a w; intro a w S)
    refine st_nil ?_
    (refine (then_normal (hK1 _ _ ?_)); clear hK1)
    refine wp_seq_k fun _ hK1 => ?_
    refine wp_seq_k fun _ hK2 => ?_
    refine wp_region_lit ?_
    (refine st_y S (Yr.ys (ys_ldA ⟨Try.isAgg36, Try.sizeOf36⟩ (Ev.t rfl) (k := 0) rfl rfl)) rfl ?_; clear S a w; intro a w S)
    (refine st_y S (ys_call Try.call32 (EvL.cons (Ev.t rfl) EvL.nil) (fun hp w W => c32 _ _ _ _ (by exact .old W (by assumption)))) rfl ?_; clear S a w; intro a w S)
    rw [rw_c] at S
    (refine st_y S (Yr.ys (ys_not (Ev.t rfl))) rfl ?_; clear S a w; intro a w S)
    refine st_nil ?_
    (refine (then_normal (hK2 _ _ ?_)); clear hK2)
    refine st_then S (Ev.t rfl) ?_
    refine wp_seq_k fun _ hK2 => ?_
    refine wp_region_lit ?_
    (refine st_y S (Yr.ys (ys_assign Ev.c)) rfl ?_; clear S a w; intro a w S)
    (refine st_y S (Yr.ys (ys_assign Ev.c)) rfl ?_; clear S a w; intro a w S)
    refine st_nil ?_
    (refine (then_normal (hK2 _ _ ?_)); clear hK2)
    refine wp_ret ?_
    refine (then_ret ?_)
    refine st_ret S (results2 S Try.results34 (Rv.tmp rfl) (Rv.tmp rfl)) ?_
    exact ⟨_, _, rfl, (S.nil_ 5 1 encB none).wd.sub (by repeat (first | exact List.Sublist.refl _ | exact List.nil_sublist _ | refine .cons_cons _ ?_ | refine .cons _ ?_)), none, 0, rfl, rfl⟩
  | true =>
    have hmM := (can_nf rw_c).mayM
    have hmC := (can_nf rw_c).mayC
    have hlen := can_len rw_c
    unfold Go.Fw.Rets
    refine enter2 Try.func34 rfl Try.ntmps34 rfl fun a S => ?_
    refine wp_seq_k fun _ hK1 => ?_
    refine wp_region_lit ?_
    (refine st_m (op_box1 S (Ev.t rfl) rfl rfl ?_); clear S a; intro g1 a w S)
    (refine st_m (op_box S (Ev.t rfl) rfl ?_); clear S a w; intro g2 a w S)
    (refine st_y S (Yr.ys (ys_assign Ev.c)) rfl ?_; clear S a w; intro a w S)
    (refine st_y S (Yr.ys (ys_assign Ev.c)) rfl ?_; clear S a w; intro a w S)
    refine st_nil ?_
    (refine (then_normal (hK1 _ _ ?_)); clear hK1)
    refine wp_seq_k fun _ hK1 => ?_
    refine wp_seq_k fun _ hK2 => ?_
    refine wp_region_lit ?_
    (refine st_y S (Yr.ys (ys_ldA ⟨Try.isAgg36, Try.sizeOf36⟩ (Ev.t rfl) (k := 0) rfl rfl)) rfl ?_; clear S a w; intro a w S)
    (refine st_y S (ys_call Try.call32 (EvL.cons (Ev.t rfl) EvL.nil) (fun hp w W => c32 _ _ _ _ (by exact .old W (by assumption)))) rfl ?_; clear S a w; intro a w S)
    rw [rw_c] at S
    (refine st_y S (Yr.ys (ys_not (Ev.t rfl))) rfl ?_; clear S a w; intro a w S)
    refine st_nil ?_
    (refine (then_normal (hK2 _ _ ?_)); clear hK2)
    refine st_else S (Ev.t rfl) ?_
    refine wp_skip ?_
    (refine (then_normal (hK1 _ _ ?_)); clear hK1)
    refine wp_seq_k fun _ hK1 => ?_
    refine wp_region_lit ?_
    (refine st_y S (Yr.ys (ys_mkFunc (EvL.cons (Ev.t rfl) EvL.nil))) rfl ?_; clear S a w; intro a w S)
    (refine st_y S (Yr.ys (ys_assign (Ev.t rfl))) rfl ?_; clear S a w; intro a w S)
    refine st_nil ?_
    (refine (then_normal (hK1 _ _ ?_)); clear hK1)
    refine wp_seq_k fun _ hK1 => ?_
    refine wp_region_lit ?_
    (refine st_y S (Yr.ys (ys_assign Ev.c)) rfl ?_; clear S a w; intro a w S)
    refine st_nil ?_
    (refine (then_normal (hK1 _ _ ?_)); clear hK1)
    refine wp_seq_k fun _ hK1 => ?_
    refine wp_seq_k fun _ hK2 => ?_
    refine wp_region_lit ?_
    (refine st_y S (Yr.ys (ys_fieldN (FieldT.mk Try.underlying36 rfl Try.sizeOf29 rfl) (Ev.t rfl) (i' := 0) rfl)) rfl ?_; clear S a w; intro a w S)
    (refine st_y S (Yr.ys (ys_ld ⟨Try.isAgg29, Try.sizeOf29⟩ (Ev.t rfl) (k := 0) rfl rfl)) rfl ?_; clear S a w; intro a w S)
    (refine st_y S (Yr.ys (ys_lenS Try.underlying29 (Ev.t rfl))) rfl ?_; clear S a w; intro a w S)
    (refine st_y S (Yr.ys (ys_move Ev.c)) rfl ?_; clear S a w; intro a w S)
    refine st_nil ?_
    (refine (then_normal (hK2 _ _ ?_)); clear hK2)
    refine wp_block ?_
    (replace S := S.pull 1 rfl; try simp only [List.set_cons_zero, List.set_cons_succ, List.eraseIdx_cons_succ, List.eraseIdx_cons_zero] at S)
    refine st_loopK (S.nil_ 32 3 Dot.enc none) (X := Nat × Option Addr × Nat) (fun q => [(17, true, .int .i64 (q.1 : Int)), (7, true, .slice q.2.1 (C.marks.take q.1).length q.2.2)]) (fun q _ => [rowOf 32 3 Dot.enc q.2.1 q.2.2 (C.marks.take q.1), .blk g1 (.cells #[.slice A0 b.length q0] 22), .blk g2 (.cells #[.slice B1 C.marks.length q1, .slice B2 C.cloud.length q2] 36)])
      (fun q => q.1 ≤ C.marks.length) (fun q => C.marks.length - q.1) (0, none, 0) (Nat.zero_le _) (by repeat (first | exact Fits.nil | refine Fits.skip rfl ?_ | refine Fits.cons rfl ?_)) (by repeat (first | exact List.Sublist.refl _ | exact List.nil_sublist _ | refine .cons_cons _ ?_ | refine .cons _ ?_)) ?_
    clear S
    intro ⟨k, D, cD⟩ a w hk S
    dsimp only at hk S
    by_cases hlt : k < C.marks.length
    · obtain ⟨gq, oq, m, rfl, hmm, hdq, hc⟩ := row_at hA hlt
      have hlk : (C.marks.take k).length ≤ 64 := by rw [List.length_take]; omega
      refine wp_seq_k fun _ hK2 => ?_
      refine wp_region_lit ?_
      (refine st_y S (Yr.ys (ys_T (by omega) (ys_lss (Ev.t rfl) (Ev.t rfl)))) rfl ?_; clear S a w; intro a w S)
      refine st_nil ?_
      (refine (then_normal (hK2 _ _ ?_)); clear hK2)
      refine wp_seq_k fun _ hK2 => ?_
      refine st_then S (Ev.t rfl) ?_
      refine wp_skip ?_
      (refine (then_normal (hK2 _ _ ?_)); clear hK2)
      refine wp_seq_k fun _ hK2 => ?_
      refine wp_block ?_
      refine wp_seq_k fun _ hK3 => ?_
      refine wp_region_lit ?_
      (refine st_y S (Yr.ys (ys_ixS Try.underlying29 Try.sizeOf43 (Ev.t rfl) (Ev.t rfl) (fun _ => by omega))) rfl ?_; clear S a w; intro a w S)
      (refine st_y S (Yr.ys (ys_ldOA ⟨Try.isAgg43, Try.sizeOf43⟩ (Ev.t rfl) (vs := [_, _, _]) rfl (fun _ => hc))) rfl ?_; clear S a w; intro a w S)
      (refine st_m (op_alloc S Try.zeroValue43 (cs := _) rfl rfl ?_); clear S a w; intro g3 a w S)
      (refine st_m (op_stW S Try.sizeOf43 (Ev.t rfl) (Ev.t rfl) (k := 0) rfl rfl rfl (by simp [Value.oneCell']) ?_); clear S a w; intro a w S)
      refine st_nil ?_
      (refine (then_normal (hK3 _ _ ?_)); clear hK3)
      refine wp_region_lit ?_
      (refine st_y S (Yr.ys (ys_move (Ev.t rfl))) rfl ?_; clear S a w; intro a w S)
      (refine st_y S (Yr.ys (ys_ldA ⟨Try.isAgg43, Try.sizeOf43⟩ (Ev.t rfl) (k := 0) rfl rfl)) rfl ?_; clear S a w; intro a w S)
      (refine st_y S (ys_call Try.call66 (EvL.cons (Ev.t rfl) EvL.nil) (fun hp w W => c66 _ _ _ _)) rfl ?_; clear S a w; intro a w S)
      (refine st_m (op_bslice1 S Try.underlying30 inf32 rfl rfl rfl (Ev.t rfl) rfl rfl rfl ?_); clear S a w; intro g4 a w S)
      (refine st_m (op_push S Try.underlying30 inf32 rfl (k := 2) (j := 0) rfl (Ev.t rfl) (Ev.t rfl) rfl rfl rfl rfl (by first | omega | (simp only [List.length_append, List.length_cons, List.length_nil]; omega)) rfl rfl rfl ?_); clear S a w; intro A1 cap1 a w S)
      (refine st_y S (Yr.ys (ys_assign (Ev.t rfl))) rfl ?_; clear S a w; intro a w S)
      refine st_nil ?_
      (refine (in_normal (then_normal (hK2 _ _ ?_))); clear hK2)
      refine wp_region_lit ?_
      (refine st_y S (Yr.ys (ys_addI (Ev.t rfl) Ev.c (fun _ => by unfold I64; omega))) rfl ?_; clear S a w; intro a w S)
      (refine st_y S (Yr.ys (ys_move (Ev.t rfl))) rfl ?_; clear S a w; intro a w S)
      refine st_nil ?_
      refine (then_normal ?_)
      have et : C.marks.take (k + 1) = C.marks.take k ++ [m] := by rw [List.take_add_one, hmm]; rfl
      rw [← et] at S
      exact ⟨(k + 1, A1, cap1), by dsimp only; omega, by dsimp only; omega, S.weak (by repeat (first | exact Fits.nil | refine Fits.skip rfl ?_ | refine Fits.cons rfl ?_)) (by repeat (first | exact List.Sublist.refl _ | exact List.nil_sublist _ | refine .cons_cons _ ?_ | refine .cons _ ?_))⟩
    · have hend : k = C.marks.length := by omega
      subst hend
      rw [List.take_length] at S
      have hb1 := dotsB_len (b := b) hmM hlen.1
      refine wp_seq_k fun _ hK2 => ?_
      refine wp_region_lit ?_
      (refine st_y S (Yr.ys (ys_F (by omega) (ys_lss (Ev.t rfl) (Ev.t rfl)))) rfl ?_; clear S a w; intro a w S)
      refine st_nil ?_
      (refine (then_normal (hK2 _ _ ?_)); clear hK2)
      refine wp_seq_k fun _ hK2 => ?_
      refine st_else S (Ev.t rfl) ?_
      refine wp_exit ?_
      (refine (then_exit (then_exit (in_here (then_normal (hK1 _ _ ?_))))); clear hK1)
      refine wp_seq_k fun _ hK1 => ?_
      refine wp_region_lit ?_
      (refine st_y S (Yr.ys (ys_move (Ev.t rfl))) rfl ?_; clear S a w; intro a w S)
      (refine st_y S (Yr.ys (ys_move (Ev.t rfl))) rfl ?_; clear S a w; intro a w S)
      (replace S := S.pull 0 rfl; try simp only [List.set_cons_zero, List.set_cons_succ, List.eraseIdx_cons_succ, List.eraseIdx_cons_zero] at S; replace S := S.pull 1 rfl; try simp only [List.set_cons_zero, List.set_cons_succ, List.eraseIdx_cons_succ, List.eraseIdx_cons_zero] at S; refine st_m (op_callVO (cs := [_]) S (Ev.t rfl) Try.call74 (EvL.cons (Ev.t rfl) EvL.nil) (c74 S.wd (by first | assumption | omega | exact .old S.wd (by assumption) | exact Sl.of_own S.wd (k := 0) rfl (fun _ => rfl) | exact Sl.of_own S.wd (k := 1) rfl (fun _ => rfl) | exact Sl.of_own S.wd (k := 2) rfl (fun _ => rfl) | (simp at *; omega)) (by first | assumption | omega | exact .old S.wd (by assumption) | exact Sl.of_own S.wd (k := 0) rfl (fun _ => rfl) | exact Sl.of_own S.wd (k := 1) rfl (fun _ => rfl) | exact Sl.of_own S.wd (k := 2) rfl (fun _ => rfl) | (simp at *; omega)) (by first | assumption | omega | exact .old S.wd (by assumption) | exact Sl.of_own S.wd (k := 0) rfl (fun _ => rfl) | exact Sl.of_own S.wd (k := 1) rfl (fun _ => rfl) | exact Sl.of_own S.wd (k := 2) rfl (fun _ => rfl) | (simp at *; omega)) (by first | assumption | omega | exact .old S.wd (by assumption) | exact Sl.of_own S.wd (k := 0) rfl (fun _ => rfl) | exact Sl.of_own S.wd (k := 1) rfl (fun _ => rfl) | exact Sl.of_own S.wd (k := 2) rfl (fun _ => rfl) | (simp at *; omega))) rfl ?_) <;> clear S a w)
      rintro _ _ ⟨A11, c11, rfl, rfl⟩ a w S
      refine st_nil ?_
      (refine (then_normal (hK1 _ _ ?_)); clear hK1)
      refine wp_seq_k fun _ hK1 => ?_
      refine wp_region_lit ?_
      (refine st_y S (Yr.ys (ys_move (Ev.t rfl))) rfl ?_; clear S a w; intro a w S)
      (refine st_y S (Yr.ys (ys_fieldN (FieldT.mk Try.underlying36 rfl Try.sizeOf30 rfl) (Ev.t rfl) (i' := 1) rfl)) rfl ?_; clear S a w; intro a w S)
      (refine st_y S (Yr.ys (ys_ld ⟨Try.isAgg30, Try.sizeOf30⟩ (Ev.t rfl) (k := 3) rfl rfl)) rfl ?_; clear S a w; intro a w S)
      (refine st_m (op_callVO (cs := [_]) S (Ev.t rfl) Try.call74 (EvL.cons (Ev.t rfl) EvL.nil) (o74 S.wd (by first | assumption | omega | exact .old S.wd (by assumption) | exact Sl.of_own S.wd (k := 0) rfl (fun _ => rfl) | exact Sl.of_own S.wd (k := 1) rfl (fun _ => rfl) | exact Sl.of_own S.wd (k := 2) rfl (fun _ => rfl) | exact Sl.of_own S.wd (k := 3) rfl (fun _ => rfl) | (simp at *; omega)) (by first | assumption | omega | exact .old S.wd (by assumption) | exact Sl.of_own S.wd (k := 0) rfl (fun _ => rfl) | exact Sl.of_own S.wd (k := 1) rfl (fun _ => rfl) | exact Sl.of_own S.wd (k := 2) rfl (fun _ => rfl) | exact Sl.of_own S.wd (k := 3) rfl (fun _ => rfl) | (simp at *; omega)) (by first | assumption | omega | exact .old S.wd (by assumption) | exact Sl.of_own S.wd (k := 0) rfl (fun _ => rfl) | exact Sl.of_own S.wd (k := 1) rfl (fun _ => rfl) | exact Sl.of_own S.wd (k := 2) rfl (fun _ => rfl) | exact Sl.of_own S.wd (k := 3) rfl (fun _ => rfl) | (simp at *; omega)) (by first | assumption | omega | exact .old S.wd (by assumption) | exact Sl.of_own S.wd (k := 0) rfl (fun _ => rfl) | exact Sl.of_own S.wd (k := 1) rfl (fun _ => rfl) | exact Sl.of_own S.wd (k := 2) rfl (fun _ => rfl) | exact Sl.of_own S.wd (k := 3) rfl (fun _ => rfl) | (simp at *; omega))) rfl ?_) <;> clear S a w)
      rintro _ _ ⟨A12, c12, rfl, rfl⟩ a w S
      refine st_nil ?_
      (refine (then_normal (hK1 _ _ ?_)); clear hK1)
      refine wp_seq_k fun _ hK1 => ?_
      refine wp_region_lit ?_
      (refine st_y S (Yr.ys (ys_ld ⟨Try.isAgg22, Try.sizeOf22⟩ (Ev.t rfl) (k := 0) rfl rfl)) rfl ?_; clear S a w; intro a w S)
      (refine st_y S (Yr.ys (ys_assign (Ev.t rfl))) rfl ?_; clear S a w; intro a w S)
      (refine st_y S (Yr.ys (ys_assign Ev.c)) rfl ?_; clear S a w; intro a w S)
      refine st_nil ?_
      (refine (then_normal (hK1 _ _ ?_)); clear hK1)
      refine wp_ret ?_
      refine st_ret S (results2 S Try.results34 (Rv.tmp rfl) (Rv.tmp rfl)) ?_
      exact ⟨_, _, rfl, S.wd.picks (by repeat (first | exact Picks.nil | (refine Picks.rest ?_; (repeat (first | exact List.Sublist.refl _ | refine List.Sublist.cons_cons _ ?_ | refine List.Sublist.cons _ ?_)); done) | refine Picks.take 0 rfl ?_ | refine Picks.take 1 rfl ?_ | refine Picks.take 2 rfl ?_ | refine Picks.take 3 rfl ?_ | refine Picks.take 4 rfl ?_ | refine Picks.take 5 rfl ?_ | refine Picks.take 6 rfl ?_ | refine Picks.take 7 rfl ?_ | refine Picks.take 8 rfl ?_ | refine Picks.take 9 rfl ?_ | refine Picks.take 10 rfl ?_ | refine Picks.take 11 rfl ?_)), _, _, rfl, rfl⟩
end Go.Proofs.Ytjfeeiljinbmjaa
