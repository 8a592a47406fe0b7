/- Layer 3: a context read, walked. -/
import Derived.Test.YtjfeeiljinbmjaaRd2
import Derived.Test.YtjfeeiljinbmjaaWire3
import Derived.Test.YtjfeeiljinbmjaaCau19
set_option linter.unusedVariables false
set_option linter.unusedSimpArgs false
set_option maxRecDepth 100000
set_option maxHeartbeats 4000000
namespace Go.Proofs.Ytjfeeiljinbmjaa
open Go.Fw Go.Proofs Go.RowKit

theorem c105 {w0 w : World} {L : List Chunk} {g cap k : Nat} {A : Option Addr} {b : List UInt8} (W : Wd w0 (rdr g A cap b k L) w) (hk : k ≤ b.length) (hb : b.length ≤ 16777216) :
    RetsO Try.prog 105 #[.pointer (some ⟨g, 0, none⟩), .int .i64 64] w0 w (fun v L' => ∃ B c, v = .tuple #[.slice B (listAt b k).1.length c, .int .i64 (listAt b k).2.2] ∧ L' = rdr g A cap b (listAt b k).2.1 (rowOf 32 3 Dot.enc B c (listAt b k).1 :: L)) := by
  have hv := numAt_val b k
  have hp := numAt_le hk
  by_cases he : (numAt b k).2.2 = 0
  · by_cases h64 : 64 < (numAt b k).1
    · unfold Go.Fw.RetsO
      refine enterW2 W Try.func105 rfl Try.ntmps105 rfl fun a S => ?_
      refine wp_seq_k fun _ hK1 => ?_
      refine wp_region_lit ?_
      (refine st_y S (Yr.ys (ys_assign Ev.c)) rfl ?_; clear S a; intro a w S)
      (refine st_y S (Yr.ys (ys_assign Ev.c)) rfl ?_; clear S a w; intro a w S)
      refine st_nil ?_
      (refine (then_normal (hK1 _ _ ?_)); clear hK1)
      refine wp_seq_k fun _ hK1 => ?_
      refine wp_region_lit ?_
      (refine st_y S (Yr.ys (ys_move (Ev.t rfl))) rfl ?_; clear S a w; intro a w S)
      (refine st_m (op_callO S Try.call115 (EvL.cons (Ev.t rfl) EvL.nil) (c115 S.wd (by first | assumption | omega | exact Sl.nil_ | exact .old S.wd (by assumption) | exact Sl.of_own S.wd (k := 0) rfl (fun _ => rfl) | exact Sl.of_own S.wd (k := 1) rfl (fun _ => rfl) | (simp at *; omega)) (by first | assumption | omega | exact Sl.nil_ | exact .old S.wd (by assumption) | exact Sl.of_own S.wd (k := 0) rfl (fun _ => rfl) | exact Sl.of_own S.wd (k := 1) rfl (fun _ => rfl) | (simp at *; omega))) rfl ?_) <;> clear S a w)
      rintro _ _ ⟨rfl, rfl⟩ a w S
      (refine st_y S (Yr.ys (ys_move (Ev.t rfl))) rfl ?_; clear S a w; intro a w S)
      (refine st_y S (Yr.ys (ys_ext (Ev.t rfl) rfl)) rfl ?_; clear S a w; intro a w S)
      (refine st_y S (Yr.ys (ys_ext (Ev.t rfl) rfl)) rfl ?_; clear S a w; intro a w S)
      (refine st_y S (Yr.ys (ys_assign (Ev.t rfl))) rfl ?_; clear S a w; intro a w S)
      (refine st_y S (Yr.ys (ys_assign (Ev.t rfl))) rfl ?_; clear S a w; intro a w S)
      refine st_nil ?_
      (refine (then_normal (hK1 _ _ ?_)); clear hK1)
      refine wp_seq_k fun _ hK1 => ?_
      refine wp_seq_k fun _ hK2 => ?_
      refine wp_region_lit ?_
      (refine st_y S (Yr.ys (ys_move (Ev.t rfl))) rfl ?_; clear S a w; intro a w S)
      (refine st_y S (Yr.ys (ys_F (by omega) (ys_neq (Ev.t rfl) Ev.c))) rfl ?_; clear S a w; intro a w S)
      refine st_nil ?_
      (refine (then_normal (hK2 _ _ ?_)); clear hK2)
      refine st_else S (Ev.t rfl) ?_
      refine wp_skip ?_
      (refine (then_normal (hK1 _ _ ?_)); clear hK1)
      refine wp_seq_k fun _ hK1 => ?_
      refine wp_seq_k fun _ hK2 => ?_
      refine wp_region_lit ?_
      (refine st_y S (Yr.ys (ys_move (Ev.t rfl))) rfl ?_; clear S a w; intro a w S)
      (refine st_y S (Yr.ys (ys_move (Ev.t rfl))) rfl ?_; clear S a w; intro a w S)
      (refine st_y S (Yr.ys (ys_T (by omega) (ys_gtr (Ev.t rfl) (Ev.t rfl)))) rfl ?_; clear S a w; intro a w S)
      refine st_nil ?_
      (refine (then_normal (hK2 _ _ ?_)); clear hK2)
      refine st_then S (Ev.t rfl) ?_
      refine wp_seq_k fun _ hK2 => ?_
      refine wp_region_lit ?_
      (refine st_y S (Yr.ys (ys_assign Ev.c)) rfl ?_; clear S a w; intro a w S)
      (refine st_y S (Yr.ys (ys_assign Ev.c)) rfl ?_; clear S a w; intro a w S)
      refine st_nil ?_
      (refine (then_normal (hK2 _ _ ?_)); clear hK2)
      refine wp_ret ?_
      refine (then_ret ?_)
      refine st_ret S (results2 S Try.results105 (Rv.tmp rfl) (Rv.tmp rfl)) ?_
      rw [show listAt b k = ([], (numAt b k).2.1, 4) by unfold listAt; rw [bindR_ok he, if_pos h64]]
      exact ⟨_, _, rfl, (S.nil_ 32 3 Dot.enc none).wd.picks (by repeat (first | exact Picks.nil | (refine Picks.rest ?_; (repeat (first | exact List.Sublist.refl _ | refine List.Sublist.cons_cons _ ?_ | refine List.Sublist.cons _ ?_)); done) | refine Picks.take 0 rfl ?_ | refine Picks.take 1 rfl ?_ | refine Picks.take 2 rfl ?_ | refine Picks.take 3 rfl ?_ | refine Picks.take 4 rfl ?_ | refine Picks.take 5 rfl ?_ | refine Picks.take 6 rfl ?_ | refine Picks.take 7 rfl ?_ | refine Picks.take 8 rfl ?_ | refine Picks.take 9 rfl ?_ | refine Picks.take 10 rfl ?_ | refine Picks.take 11 rfl ?_)), none, 0, rfl, rfl⟩
    · obtain ⟨n, hn⟩ : ∃ n : Nat, (numAt b k).1 = (n : Int) := ⟨(numAt b k).1.toNat, by omega⟩
      have hla : listAt b k = dotsAt b n [] (numAt b k).2.1 := by unfold listAt; rw [bindR_ok he, if_neg h64, hn]; rfl
      have hn64 : n ≤ 64 := by omega
      have rw_n := hn
      unfold Go.Fw.RetsO
      refine enterW2 W Try.func105 rfl Try.ntmps105 rfl fun a S => ?_
      refine wp_seq_k fun _ hK1 => ?_
      refine wp_region_lit ?_
      (refine st_y S (Yr.ys (ys_assign Ev.c)) rfl ?_; clear S a; intro a w S)
      (refine st_y S (Yr.ys (ys_assign Ev.c)) rfl ?_; clear S a w; intro a w S)
      refine st_nil ?_
      (refine (then_normal (hK1 _ _ ?_)); clear hK1)
      refine wp_seq_k fun _ hK1 => ?_
      refine wp_region_lit ?_
      (refine st_y S (Yr.ys (ys_move (Ev.t rfl))) rfl ?_; clear S a w; intro a w S)
      (refine st_m (op_callO S Try.call115 (EvL.cons (Ev.t rfl) EvL.nil) (c115 S.wd (by first | assumption | omega | exact Sl.nil_ | exact .old S.wd (by assumption) | exact Sl.of_own S.wd (k := 0) rfl (fun _ => rfl) | exact Sl.of_own S.wd (k := 1) rfl (fun _ => rfl) | (simp at *; omega)) (by first | assumption | omega | exact Sl.nil_ | exact .old S.wd (by assumption) | exact Sl.of_own S.wd (k := 0) rfl (fun _ => rfl) | exact Sl.of_own S.wd (k := 1) rfl (fun _ => rfl) | (simp at *; omega))) rfl ?_) <;> clear S a w)
      rintro _ _ ⟨rfl, rfl⟩ a w S
      rw [rw_n] at S
      (refine st_y S (Yr.ys (ys_move (Ev.t rfl))) rfl ?_; clear S a w; intro a w S)
      (refine st_y S (Yr.ys (ys_ext (Ev.t rfl) rfl)) rfl ?_; clear S a w; intro a w S)
      (refine st_y S (Yr.ys (ys_ext (Ev.t rfl) rfl)) rfl ?_; clear S a w; intro a w S)
      (refine st_y S (Yr.ys (ys_assign (Ev.t rfl))) rfl ?_; clear S a w; intro a w S)
      (refine st_y S (Yr.ys (ys_assign (Ev.t rfl))) rfl ?_; clear S a w; intro a w S)
      refine st_nil ?_
      (refine (then_normal (hK1 _ _ ?_)); clear hK1)
      refine wp_seq_k fun _ hK1 => ?_
      refine wp_seq_k fun _ hK2 => ?_
      refine wp_region_lit ?_
      (refine st_y S (Yr.ys (ys_move (Ev.t rfl))) rfl ?_; clear S a w; intro a w S)
      (refine st_y S (Yr.ys (ys_F (by omega) (ys_neq (Ev.t rfl) Ev.c))) rfl ?_; clear S a w; intro a w S)
      refine st_nil ?_
      (refine (then_normal (hK2 _ _ ?_)); clear hK2)
      refine st_else S (Ev.t rfl) ?_
      refine wp_skip ?_
      (refine (then_normal (hK1 _ _ ?_)); clear hK1)
      refine wp_seq_k fun _ hK1 => ?_
      refine wp_seq_k fun _ hK2 => ?_
      refine wp_region_lit ?_
      (refine st_y S (Yr.ys (ys_move (Ev.t rfl))) rfl ?_; clear S a w; intro a w S)
      (refine st_y S (Yr.ys (ys_move (Ev.t rfl))) rfl ?_; clear S a w; intro a w S)
      (refine st_y S (Yr.ys (ys_F (by omega) (ys_gtr (Ev.t rfl) (Ev.t rfl)))) rfl ?_; clear S a w; intro a w S)
      refine st_nil ?_
      (refine (then_normal (hK2 _ _ ?_)); clear hK2)
      refine st_else S (Ev.t rfl) ?_
      refine wp_skip ?_
      (refine (then_normal (hK1 _ _ ?_)); clear hK1)
      refine wp_seq_k fun _ hK1 => ?_
      refine wp_region_lit ?_
      (refine st_y S (Yr.ys (ys_assign Ev.c)) rfl ?_; clear S a w; intro a w S)
      refine st_nil ?_
      (refine (then_normal (hK1 _ _ ?_)); clear hK1)
      refine wp_seq_k fun _ hK1 => ?_
      refine wp_seq_k fun _ hK2 => ?_
      refine wp_region_lit ?_
      (refine st_y S (Yr.ys (ys_move (Ev.t rfl))) rfl ?_; clear S a w; intro a w S)
      (refine st_y S (Yr.ys (ys_move Ev.c)) rfl ?_; clear S a w; intro a w S)
      refine st_nil ?_
      (refine (then_normal (hK2 _ _ ?_)); clear hK2)
      refine wp_block ?_
      refine st_loopM (S.nil_ 32 3 Dot.enc none) [7] (X := Nat × Nat × List Dot × Option Addr × Nat) (fun q => [(24, true, .int .i64 (q.1 : Int)), (8, true, .slice q.2.2.2.1 q.2.2.1.length q.2.2.2.2)]) (fun q => rowOf 32 3 Dot.enc q.2.2.2.1 q.2.2.2.2 q.2.2.1 :: rdr g A cap b q.2.1 L)
        (fun q => q.1 ≤ n ∧ q.2.1 ≤ b.length ∧ q.2.2.1.length = q.1 ∧ dotsAt b (n - q.1) q.2.2.1 q.2.1 = dotsAt b n [] (numAt b k).2.1) (fun q => n - q.1) (0, (numAt b k).2.1, [], none, 0) ⟨Nat.zero_le _, hp.2, rfl, rfl⟩ (by repeat (first | exact Fits.nil | refine Fits.skip rfl ?_ | refine Fits.cons rfl ?_)) (by repeat (first | exact Picks.nil | (refine Picks.rest ?_; (repeat (first | exact List.Sublist.refl _ | refine List.Sublist.cons_cons _ ?_ | refine List.Sublist.cons _ ?_)); done) | refine Picks.take 0 rfl ?_ | refine Picks.take 1 rfl ?_ | refine Picks.take 2 rfl ?_ | refine Picks.take 3 rfl ?_ | refine Picks.take 4 rfl ?_ | refine Picks.take 5 rfl ?_ | refine Picks.take 6 rfl ?_ | refine Picks.take 7 rfl ?_ | refine Picks.take 8 rfl ?_ | refine Picks.take 9 rfl ?_ | refine Picks.take 10 rfl ?_ | refine Picks.take 11 rfl ?_)) ?_
      clear S
      intro ⟨i, k', acc, D, cD⟩ a w ⟨hi, hk', hlen, hno⟩ S
      dsimp only at hi hk' hlen hno S
      by_cases hlt : i < n
      · rw [show n - i = (n - (i + 1)) + 1 by omega, dotsAt] at hno
        refine wp_seq_k fun _ hK2 => ?_
        refine wp_region_lit ?_
        (refine st_y S (Yr.ys (ys_T (by omega) (ys_lss (Ev.t rfl) (Ev.t rfl)))) rfl ?_; clear S a w; intro a w S)
        refine st_nil ?_
        (refine (then_normal (hK2 _ _ ?_)); clear hK2)
        refine wp_seq_k fun _ hK2 => ?_
        refine st_then S (Ev.t rfl) ?_
        refine wp_skip ?_
        (refine (then_normal (hK2 _ _ ?_)); clear hK2)
        refine wp_seq_k fun _ hK2 => ?_
        refine wp_block ?_
        refine wp_seq_k fun _ hK3 => ?_
        refine wp_region_lit ?_
        (refine st_m (op_alloc S Try.zeroValue32 (cs := _) rfl rfl ?_); clear S a w; intro g1 a w S)
        refine st_nil ?_
        (refine (then_normal (hK3 _ _ ?_)); clear hK3)
        refine wp_seq_k fun _ hK3 => ?_
        refine wp_seq_k fun _ hK4 => ?_
        refine wp_region_lit ?_
        (refine st_y S (Yr.ys (ys_fieldN (FieldT.mk Try.underlying32 rfl Try.sizeOf3 rfl) (Ev.t rfl) (i' := 0) rfl)) rfl ?_; clear S a w; intro a w S)
        (refine st_y S (Yr.ys (ys_fieldN (FieldT.mk Try.underlying32 rfl Try.sizeOf3 rfl) (Ev.t rfl) (i' := 1) rfl)) rfl ?_; clear S a w; intro a w S)
        (refine st_y S (Yr.ys (ys_fieldN (FieldT.mk Try.underlying32 rfl Try.sizeOf3 rfl) (Ev.t rfl) (i' := 2) rfl)) rfl ?_; clear S a w; intro a w S)
        (refine st_m (op_bsliceZ (ps := [(0, Go.Operand.tmp 26), (1, Go.Operand.tmp 27), (2, Go.Operand.tmp 28)]) (us := [_, _, _]) S Try.underlying165 Try.sizeOf164 Try.zeroValue164 rfl rfl (EvL.cons (Ev.t rfl) (EvL.cons (Ev.t rfl) (EvL.cons (Ev.t rfl) EvL.nil))) rfl rfl ?_); clear S a w; intro g2 a w S)
        (refine st_y S (Yr.ys (ys_lenS Try.underlying165 (Ev.t rfl))) rfl ?_; clear S a w; intro a w S)
        (refine st_y S (Yr.ys (ys_move Ev.c)) rfl ?_; clear S a w; intro a w S)
        refine st_nil ?_
        (refine (then_normal (hK4 _ _ ?_)); clear hK4)
        refine wp_block ?_
        have hp1 := numAt_le hk'
        by_cases e1 : (numAt b k').2.2 = 0
        · refine st_rounds 4 (st_round ?_)
          refine wp_seq_k fun _ hK4 => ?_
          refine wp_region_lit ?_
          (refine st_y S (Yr.ys (ys_T (by omega) (ys_lss (Ev.t rfl) (Ev.t rfl)))) rfl ?_; clear S a w; intro a w S)
          refine st_nil ?_
          (refine (then_normal (hK4 _ _ ?_)); clear hK4)
          refine wp_seq_k fun _ hK4 => ?_
          refine st_then S (Ev.t rfl) ?_
          refine wp_skip ?_
          (refine (then_normal (hK4 _ _ ?_)); clear hK4)
          refine wp_seq_k fun _ hK4 => ?_
          refine wp_block ?_
          refine wp_seq_k fun _ hK5 => ?_
          refine wp_region_lit ?_
          (refine st_y S (Yr.ys (ys_ixS (j := 0) Try.underlying165 Try.sizeOf164 (Ev.t rfl) (Ev.t rfl) (fun _ => by omega))) rfl ?_; clear S a w; intro a w S)
          (refine st_y S (Yr.ys (ys_ld ⟨Try.isAgg164, Try.sizeOf164⟩ (Ev.t rfl) (k := 0) rfl rfl)) rfl ?_; clear S a w; intro a w S)
          (refine st_y S (Yr.ys (ys_assign (Ev.t rfl))) rfl ?_; clear S a w; intro a w S)
          refine st_nil ?_
          (refine (then_normal (hK5 _ _ ?_)); clear hK5)
          refine wp_seq_k fun _ hK5 => ?_
          refine wp_region_lit ?_
          (refine st_y S (Yr.ys (ys_move (Ev.t rfl))) rfl ?_; clear S a w; intro a w S)
          (refine st_y S (Yr.ys (ys_move (Ev.t rfl))) rfl ?_; clear S a w; intro a w S)
          (replace S := S.pull 4 rfl; try simp only [List.set_cons_zero, List.set_cons_succ, List.eraseIdx_cons_succ, List.eraseIdx_cons_zero] at S; replace S := S.pull 4 rfl; try simp only [List.set_cons_zero, List.set_cons_succ, List.eraseIdx_cons_succ, List.eraseIdx_cons_zero] at S; refine st_m (op_callO S Try.call115 (EvL.cons (Ev.t rfl) EvL.nil) (c115 S.wd (by first | assumption | omega | exact Sl.nil_ | exact .old S.wd (by assumption) | exact Sl.of_own S.wd (k := 0) rfl (fun _ => rfl) | exact Sl.of_own S.wd (k := 1) rfl (fun _ => rfl) | exact Sl.of_own S.wd (k := 2) rfl (fun _ => rfl) | exact Sl.of_own S.wd (k := 3) rfl (fun _ => rfl) | exact Sl.of_own S.wd (k := 4) rfl (fun _ => rfl) | (simp at *; omega)) (by first | assumption | omega | exact Sl.nil_ | exact .old S.wd (by assumption) | exact Sl.of_own S.wd (k := 0) rfl (fun _ => rfl) | exact Sl.of_own S.wd (k := 1) rfl (fun _ => rfl) | exact Sl.of_own S.wd (k := 2) rfl (fun _ => rfl) | exact Sl.of_own S.wd (k := 3) rfl (fun _ => rfl) | exact Sl.of_own S.wd (k := 4) rfl (fun _ => rfl) | (simp at *; omega))) rfl ?_) <;> clear S a w)
          rintro _ _ ⟨rfl, rfl⟩ a w S
          (refine st_y S (Yr.ys (ys_move (Ev.t rfl))) rfl ?_; clear S a w; intro a w S)
          (refine st_y S (Yr.ys (ys_ext (Ev.t rfl) rfl)) rfl ?_; clear S a w; intro a w S)
          (refine st_y S (Yr.ys (ys_ext (Ev.t rfl) rfl)) rfl ?_; clear S a w; intro a w S)
          (refine st_y S (Yr.ys (ys_nilc (Ev.t rfl))) rfl ?_; clear S a w; intro a w S)
          (refine st_m (op_st S Try.sizeOf3 (Ev.t rfl) (Ev.t rfl) (k := 3) rfl rfl (by simp) ?_); clear S a w; intro a w S)
          (refine st_y S (Yr.ys (ys_assign (Ev.t rfl))) rfl ?_; clear S a w; intro a w S)
          refine st_nil ?_
          (refine (then_normal (hK5 _ _ ?_)); clear hK5)
          refine wp_seq_k fun _ hK5 => ?_
          refine wp_region_lit ?_
          (refine st_y S (Yr.ys (ys_move (Ev.t rfl))) rfl ?_; clear S a w; intro a w S)
          (refine st_y S (Yr.ys (ys_F (by omega) (ys_neq (Ev.t rfl) Ev.c))) rfl ?_; clear S a w; intro a w S)
          refine st_nil ?_
          (refine (then_normal (hK5 _ _ ?_)); clear hK5)
          refine st_else S (Ev.t rfl) ?_
          refine wp_skip ?_
          (refine (in_normal (then_normal (hK4 _ _ ?_))); clear hK4)
          refine wp_region_lit ?_
          (refine st_y S (Yr.ys (ys_addI (Ev.t rfl) Ev.c (fun _ => by unfold I64; omega))) rfl ?_; clear S a w; intro a w S)
          (refine st_y S (Yr.ys (ys_move (Ev.t rfl))) rfl ?_; clear S a w; intro a w S)
          refine st_nil ?_
          refine (then_normal ?_)
          refine st_round ?_
          have hp2 := numAt_le hp1.2
          by_cases e2 : (numAt b (numAt b k').2.1).2.2 = 0
          · refine wp_seq_k fun _ hK4 => ?_
            refine wp_region_lit ?_
            (refine st_y S (Yr.ys (ys_T (by omega) (ys_lss (Ev.t rfl) (Ev.t rfl)))) rfl ?_; clear S a w; intro a w S)
            refine st_nil ?_
            (refine (then_normal (hK4 _ _ ?_)); clear hK4)
            refine wp_seq_k fun _ hK4 => ?_
            refine st_then S (Ev.t rfl) ?_
            refine wp_skip ?_
            (refine (then_normal (hK4 _ _ ?_)); clear hK4)
            refine wp_seq_k fun _ hK4 => ?_
            refine wp_block ?_
            refine wp_seq_k fun _ hK5 => ?_
            refine wp_region_lit ?_
            (refine st_y S (Yr.ys (ys_ixS (j := 1) Try.underlying165 Try.sizeOf164 (Ev.t rfl) (Ev.t rfl) (fun _ => by omega))) rfl ?_; clear S a w; intro a w S)
            (refine st_y S (Yr.ys (ys_ld ⟨Try.isAgg164, Try.sizeOf164⟩ (Ev.t rfl) (k := 2) rfl rfl)) rfl ?_; clear S a w; intro a w S)
            (refine st_y S (Yr.ys (ys_assign (Ev.t rfl))) rfl ?_; clear S a w; intro a w S)
            refine st_nil ?_
            (refine (then_normal (hK5 _ _ ?_)); clear hK5)
            refine wp_seq_k fun _ hK5 => ?_
            refine wp_region_lit ?_
            (refine st_y S (Yr.ys (ys_move (Ev.t rfl))) rfl ?_; clear S a w; intro a w S)
            (refine st_y S (Yr.ys (ys_move (Ev.t rfl))) rfl ?_; clear S a w; intro a w S)
            (refine st_m (op_callO S Try.call115 (EvL.cons (Ev.t rfl) EvL.nil) (c115 S.wd (by first | assumption | omega | exact Sl.nil_ | exact .old S.wd (by assumption) | exact Sl.of_own S.wd (k := 0) rfl (fun _ => rfl) | exact Sl.of_own S.wd (k := 1) rfl (fun _ => rfl) | exact Sl.of_own S.wd (k := 2) rfl (fun _ => rfl) | exact Sl.of_own S.wd (k := 3) rfl (fun _ => rfl) | exact Sl.of_own S.wd (k := 4) rfl (fun _ => rfl) | (simp at *; omega)) (by first | assumption | omega | exact Sl.nil_ | exact .old S.wd (by assumption) | exact Sl.of_own S.wd (k := 0) rfl (fun _ => rfl) | exact Sl.of_own S.wd (k := 1) rfl (fun _ => rfl) | exact Sl.of_own S.wd (k := 2) rfl (fun _ => rfl) | exact Sl.of_own S.wd (k := 3) rfl (fun _ => rfl) | exact Sl.of_own S.wd (k := 4) rfl (fun _ => rfl) | (simp at *; omega))) rfl ?_) <;> clear S a w)
            rintro _ _ ⟨rfl, rfl⟩ a w S
            (refine st_y S (Yr.ys (ys_move (Ev.t rfl))) rfl ?_; clear S a w; intro a w S)
            (refine st_y S (Yr.ys (ys_ext (Ev.t rfl) rfl)) rfl ?_; clear S a w; intro a w S)
            (refine st_y S (Yr.ys (ys_ext (Ev.t rfl) rfl)) rfl ?_; clear S a w; intro a w S)
            (refine st_y S (Yr.ys (ys_nilc (Ev.t rfl))) rfl ?_; clear S a w; intro a w S)
            (refine st_m (op_st S Try.sizeOf3 (Ev.t rfl) (Ev.t rfl) (k := 3) rfl rfl (by simp) ?_); clear S a w; intro a w S)
            (refine st_y S (Yr.ys (ys_assign (Ev.t rfl))) rfl ?_; clear S a w; intro a w S)
            refine st_nil ?_
            (refine (then_normal (hK5 _ _ ?_)); clear hK5)
            refine wp_seq_k fun _ hK5 => ?_
            refine wp_region_lit ?_
            (refine st_y S (Yr.ys (ys_move (Ev.t rfl))) rfl ?_; clear S a w; intro a w S)
            (refine st_y S (Yr.ys (ys_F (by omega) (ys_neq (Ev.t rfl) Ev.c))) rfl ?_; clear S a w; intro a w S)
            refine st_nil ?_
            (refine (then_normal (hK5 _ _ ?_)); clear hK5)
            refine st_else S (Ev.t rfl) ?_
            refine wp_skip ?_
            (refine (in_normal (then_normal (hK4 _ _ ?_))); clear hK4)
            refine wp_region_lit ?_
            (refine st_y S (Yr.ys (ys_addI (Ev.t rfl) Ev.c (fun _ => by unfold I64; omega))) rfl ?_; clear S a w; intro a w S)
            (refine st_y S (Yr.ys (ys_move (Ev.t rfl))) rfl ?_; clear S a w; intro a w S)
            refine st_nil ?_
            refine (then_normal ?_)
            refine st_round ?_
            have hp3 := numAt_le hp2.2
            by_cases e3 : (numAt b (numAt b (numAt b k').2.1).2.1).2.2 = 0
            · refine wp_seq_k fun _ hK4 => ?_
              refine wp_region_lit ?_
              (refine st_y S (Yr.ys (ys_T (by omega) (ys_lss (Ev.t rfl) (Ev.t rfl)))) rfl ?_; clear S a w; intro a w S)
              refine st_nil ?_
              (refine (then_normal (hK4 _ _ ?_)); clear hK4)
              refine wp_seq_k fun _ hK4 => ?_
              refine st_then S (Ev.t rfl) ?_
              refine wp_skip ?_
              (refine (then_normal (hK4 _ _ ?_)); clear hK4)
              refine wp_seq_k fun _ hK4 => ?_
              refine wp_block ?_
              refine wp_seq_k fun _ hK5 => ?_
              refine wp_region_lit ?_
              (refine st_y S (Yr.ys (ys_ixS (j := 2) Try.underlying165 Try.sizeOf164 (Ev.t rfl) (Ev.t rfl) (fun _ => by omega))) rfl ?_; clear S a w; intro a w S)
              (refine st_y S (Yr.ys (ys_ld ⟨Try.isAgg164, Try.sizeOf164⟩ (Ev.t rfl) (k := 2) rfl rfl)) rfl ?_; clear S a w; intro a w S)
              (refine st_y S (Yr.ys (ys_assign (Ev.t rfl))) rfl ?_; clear S a w; intro a w S)
              refine st_nil ?_
              (refine (then_normal (hK5 _ _ ?_)); clear hK5)
              refine wp_seq_k fun _ hK5 => ?_
              refine wp_region_lit ?_
              (refine st_y S (Yr.ys (ys_move (Ev.t rfl))) rfl ?_; clear S a w; intro a w S)
              (refine st_y S (Yr.ys (ys_move (Ev.t rfl))) rfl ?_; clear S a w; intro a w S)
              (refine st_m (op_callO S Try.call115 (EvL.cons (Ev.t rfl) EvL.nil) (c115 S.wd (by first | assumption | omega | exact Sl.nil_ | exact .old S.wd (by assumption) | exact Sl.of_own S.wd (k := 0) rfl (fun _ => rfl) | exact Sl.of_own S.wd (k := 1) rfl (fun _ => rfl) | exact Sl.of_own S.wd (k := 2) rfl (fun _ => rfl) | exact Sl.of_own S.wd (k := 3) rfl (fun _ => rfl) | exact Sl.of_own S.wd (k := 4) rfl (fun _ => rfl) | (simp at *; omega)) (by first | assumption | omega | exact Sl.nil_ | exact .old S.wd (by assumption) | exact Sl.of_own S.wd (k := 0) rfl (fun _ => rfl) | exact Sl.of_own S.wd (k := 1) rfl (fun _ => rfl) | exact Sl.of_own S.wd (k := 2) rfl (fun _ => rfl) | exact Sl.of_own S.wd (k := 3) rfl (fun _ => rfl) | exact Sl.of_own S.wd (k := 4) rfl (fun _ => rfl) | (simp at *; omega))) rfl ?_) <;> clear S a w)
              rintro _ _ ⟨rfl, rfl⟩ a w S
              (refine st_y S (Yr.ys (ys_move (Ev.t rfl))) rfl ?_; clear S a w; intro a w S)
              (refine st_y S (Yr.ys (ys_ext (Ev.t rfl) rfl)) rfl ?_; clear S a w; intro a w S)
              (refine st_y S (Yr.ys (ys_ext (Ev.t rfl) rfl)) rfl ?_; clear S a w; intro a w S)
              (refine st_y S (Yr.ys (ys_nilc (Ev.t rfl))) rfl ?_; clear S a w; intro a w S)
              (refine st_m (op_st S Try.sizeOf3 (Ev.t rfl) (Ev.t rfl) (k := 3) rfl rfl (by simp) ?_); clear S a w; intro a w S)
              (refine st_y S (Yr.ys (ys_assign (Ev.t rfl))) rfl ?_; clear S a w; intro a w S)
              refine st_nil ?_
              (refine (then_normal (hK5 _ _ ?_)); clear hK5)
              refine wp_seq_k fun _ hK5 => ?_
              refine wp_region_lit ?_
              (refine st_y S (Yr.ys (ys_move (Ev.t rfl))) rfl ?_; clear S a w; intro a w S)
              (refine st_y S (Yr.ys (ys_F (by omega) (ys_neq (Ev.t rfl) Ev.c))) rfl ?_; clear S a w; intro a w S)
              refine st_nil ?_
              (refine (then_normal (hK5 _ _ ?_)); clear hK5)
              refine st_else S (Ev.t rfl) ?_
              refine wp_skip ?_
              (refine (in_normal (then_normal (hK4 _ _ ?_))); clear hK4)
              refine wp_region_lit ?_
              (refine st_y S (Yr.ys (ys_addI (Ev.t rfl) Ev.c (fun _ => by unfold I64; omega))) rfl ?_; clear S a w; intro a w S)
              (refine st_y S (Yr.ys (ys_move (Ev.t rfl))) rfl ?_; clear S a w; intro a w S)
              refine st_nil ?_
              refine (then_normal ?_)
              refine st_round ?_
              have hd : dotAt b k' = (⟨(numAt b k').1, (numAt b (numAt b k').2.1).1, (numAt b (numAt b (numAt b k').2.1).2.1).1⟩, (numAt b (numAt b (numAt b k').2.1).2.1).2.1, 0) := by unfold dotAt; rw [bindR_ok e1, bindR_ok e2, bindR_ok e3]
              rw [hd, bindR_ok rfl] at hno
              refine wp_seq_k fun _ hK4 => ?_
              refine wp_region_lit ?_
              (refine st_y S (Yr.ys (ys_F (by omega) (ys_lss (Ev.t rfl) (Ev.t rfl)))) rfl ?_; clear S a w; intro a w S)
              refine st_nil ?_
              (refine (then_normal (hK4 _ _ ?_)); clear hK4)
              refine wp_seq_k fun _ hK4 => ?_
              refine st_else S (Ev.t rfl) ?_
              refine wp_exit ?_
              (refine (then_exit (then_exit (in_here (then_normal (hK3 _ _ ?_))))); clear hK3)
              refine wp_region_lit ?_
              (refine st_y S (Yr.ys (ys_move (Ev.t rfl))) rfl ?_; clear S a w; intro a w S)
              (refine st_y S (Yr.ys (ys_ldA ⟨Try.isAgg32, Try.sizeOf32⟩ (Ev.t rfl) (k := 3) rfl rfl)) rfl ?_; clear S a w; intro a w S)
              (refine st_m (op_bslice1 S Try.underlying30 inf32 rfl rfl rfl (Ev.t rfl) rfl rfl rfl ?_); clear S a w; intro g3 a w S)
              (refine st_m (op_push S Try.underlying30 inf32 rfl (k := 5) (j := 0) rfl (Ev.t rfl) (Ev.t rfl) rfl Go.Fw.Dot.mkEnc rfl rfl (by first | omega | (simp only [List.length_append, List.length_cons, List.length_nil]; omega)) rfl rfl rfl ?_); clear S a w; intro A1 cap1 a w S)
              (refine st_y S (Yr.ys (ys_assign (Ev.t rfl))) rfl ?_; clear S a w; intro a w S)
              refine st_nil ?_
              (refine (in_normal (then_normal (hK2 _ _ ?_))); clear hK2)
              refine wp_region_lit ?_
              (refine st_y S (Yr.ys (ys_addI (Ev.t rfl) Ev.c (fun _ => by unfold I64; omega))) rfl ?_; clear S a w; intro a w S)
              (refine st_y S (Yr.ys (ys_move (Ev.t rfl))) rfl ?_; clear S a w; intro a w S)
              refine st_nil ?_
              refine (then_normal ?_)
              exact ⟨(i + 1, (numAt b (numAt b (numAt b k').2.1).2.1).2.1, acc ++ [⟨(numAt b k').1, (numAt b (numAt b k').2.1).1, (numAt b (numAt b (numAt b k').2.1).2.1).1⟩], A1, cap1), ⟨by dsimp only; omega, hp3.2, by simp [hlen], hno⟩, by dsimp only; omega, S.picks (by repeat (first | exact Fits.nil | refine Fits.skip rfl ?_ | refine Fits.cons rfl ?_)) (by repeat (first | exact Picks.nil | (refine Picks.rest ?_; (repeat (first | exact List.Sublist.refl _ | refine List.Sublist.cons_cons _ ?_ | refine List.Sublist.cons _ ?_)); done) | refine Picks.take 0 rfl ?_ | refine Picks.take 1 rfl ?_ | refine Picks.take 2 rfl ?_ | refine Picks.take 3 rfl ?_ | refine Picks.take 4 rfl ?_ | refine Picks.take 5 rfl ?_ | refine Picks.take 6 rfl ?_ | refine Picks.take 7 rfl ?_ | refine Picks.take 8 rfl ?_ | refine Picks.take 9 rfl ?_ | refine Picks.take 10 rfl ?_ | refine Picks.take 11 rfl ?_))⟩
            · have hd : dotAt b k' = (⟨0, 0, 0⟩, (numAt b (numAt b (numAt b k').2.1).2.1).2.1, (numAt b (numAt b (numAt b k').2.1).2.1).2.2) := by unfold dotAt; rw [bindR_ok e1, bindR_ok e2, bindR_bad e3]
              rw [hd, bindR_bad' e3] at hno
              refine wp_seq_k fun _ hK4 => ?_
              refine wp_region_lit ?_
              (refine st_y S (Yr.ys (ys_T (by omega) (ys_lss (Ev.t rfl) (Ev.t rfl)))) rfl ?_; clear S a w; intro a w S)
              refine st_nil ?_
              (refine (then_normal (hK4 _ _ ?_)); clear hK4)
              refine wp_seq_k fun _ hK4 => ?_
              refine st_then S (Ev.t rfl) ?_
              refine wp_skip ?_
              (refine (then_normal (hK4 _ _ ?_)); clear hK4)
              refine wp_seq_k fun _ hK4 => ?_
              refine wp_block ?_
              refine wp_seq_k fun _ hK5 => ?_
              refine wp_region_lit ?_
              (refine st_y S (Yr.ys (ys_ixS (j := 2) Try.underlying165 Try.sizeOf164 (Ev.t rfl) (Ev.t rfl) (fun _ => by omega))) rfl ?_; clear S a w; intro a w S)
              (refine st_y S (Yr.ys (ys_ld ⟨Try.isAgg164, Try.sizeOf164⟩ (Ev.t rfl) (k := 2) rfl rfl)) rfl ?_; clear S a w; intro a w S)
              (refine st_y S (Yr.ys (ys_assign (Ev.t rfl))) rfl ?_; clear S a w; intro a w S)
              refine st_nil ?_
              (refine (then_normal (hK5 _ _ ?_)); clear hK5)
              refine wp_seq_k fun _ hK5 => ?_
              refine wp_region_lit ?_
              (refine st_y S (Yr.ys (ys_move (Ev.t rfl))) rfl ?_; clear S a w; intro a w S)
              (refine st_y S (Yr.ys (ys_move (Ev.t rfl))) rfl ?_; clear S a w; intro a w S)
              (refine st_m (op_callO S Try.call115 (EvL.cons (Ev.t rfl) EvL.nil) (c115 S.wd (by first | assumption | omega | exact Sl.nil_ | exact .old S.wd (by assumption) | exact Sl.of_own S.wd (k := 0) rfl (fun _ => rfl) | exact Sl.of_own S.wd (k := 1) rfl (fun _ => rfl) | exact Sl.of_own S.wd (k := 2) rfl (fun _ => rfl) | exact Sl.of_own S.wd (k := 3) rfl (fun _ => rfl) | exact Sl.of_own S.wd (k := 4) rfl (fun _ => rfl) | (simp at *; omega)) (by first | assumption | omega | exact Sl.nil_ | exact .old S.wd (by assumption) | exact Sl.of_own S.wd (k := 0) rfl (fun _ => rfl) | exact Sl.of_own S.wd (k := 1) rfl (fun _ => rfl) | exact Sl.of_own S.wd (k := 2) rfl (fun _ => rfl) | exact Sl.of_own S.wd (k := 3) rfl (fun _ => rfl) | exact Sl.of_own S.wd (k := 4) rfl (fun _ => rfl) | (simp at *; omega))) rfl ?_) <;> clear S a w)
              rintro _ _ ⟨rfl, rfl⟩ a w S
              (refine st_y S (Yr.ys (ys_move (Ev.t rfl))) rfl ?_; clear S a w; intro a w S)
              (refine st_y S (Yr.ys (ys_ext (Ev.t rfl) rfl)) rfl ?_; clear S a w; intro a w S)
              (refine st_y S (Yr.ys (ys_ext (Ev.t rfl) rfl)) rfl ?_; clear S a w; intro a w S)
              (refine st_y S (Yr.ys (ys_nilc (Ev.t rfl))) rfl ?_; clear S a w; intro a w S)
              (refine st_m (op_st S Try.sizeOf3 (Ev.t rfl) (Ev.t rfl) (k := 3) rfl rfl (by simp) ?_); clear S a w; intro a w S)
              (refine st_y S (Yr.ys (ys_assign (Ev.t rfl))) rfl ?_; clear S a w; intro a w S)
              refine st_nil ?_
              (refine (then_normal (hK5 _ _ ?_)); clear hK5)
              refine wp_seq_k fun _ hK5 => ?_
              refine wp_region_lit ?_
              (refine st_y S (Yr.ys (ys_move (Ev.t rfl))) rfl ?_; clear S a w; intro a w S)
              (refine st_y S (Yr.ys (ys_T (by omega) (ys_neq (Ev.t rfl) Ev.c))) rfl ?_; clear S a w; intro a w S)
              refine st_nil ?_
              (refine (then_normal (hK5 _ _ ?_)); clear hK5)
              refine st_then S (Ev.t rfl) ?_
              refine wp_seq_k fun _ hK5 => ?_
              refine wp_region_lit ?_
              (refine st_y S (Yr.ys (ys_move (Ev.t rfl))) rfl ?_; clear S a w; intro a w S)
              (refine st_y S (Yr.ys (ys_assign Ev.c)) rfl ?_; clear S a w; intro a w S)
              (refine st_y S (Yr.ys (ys_assign (Ev.t rfl))) rfl ?_; clear S a w; intro a w S)
              refine st_nil ?_
              (refine (then_normal (hK5 _ _ ?_)); clear hK5)
              refine wp_ret ?_
              refine (in_ret (then_ret (then_ret (in_ret (then_ret (in_ret (then_ret (then_ret (in_ret (then_ret ?_))))))))))
              refine st_ret S (results2 S Try.results105 (Rv.tmp rfl) (Rv.tmp rfl)) ?_
              rw [hla, ← hno]
              exact ⟨_, _, rfl, (S.nil_ 32 3 Dot.enc none).wd.picks (by repeat (first | exact Picks.nil | (refine Picks.rest ?_; (repeat (first | exact List.Sublist.refl _ | refine List.Sublist.cons_cons _ ?_ | refine List.Sublist.cons _ ?_)); done) | refine Picks.take 0 rfl ?_ | refine Picks.take 1 rfl ?_ | refine Picks.take 2 rfl ?_ | refine Picks.take 3 rfl ?_ | refine Picks.take 4 rfl ?_ | refine Picks.take 5 rfl ?_ | refine Picks.take 6 rfl ?_ | refine Picks.take 7 rfl ?_ | refine Picks.take 8 rfl ?_ | refine Picks.take 9 rfl ?_ | refine Picks.take 10 rfl ?_ | refine Picks.take 11 rfl ?_)), none, 0, rfl, rfl⟩
          · have hd : dotAt b k' = (⟨0, 0, 0⟩, (numAt b (numAt b k').2.1).2.1, (numAt b (numAt b k').2.1).2.2) := by unfold dotAt; rw [bindR_ok e1, bindR_bad e2]
            rw [hd, bindR_bad' e2] at hno
            refine wp_seq_k fun _ hK4 => ?_
            refine wp_region_lit ?_
            (refine st_y S (Yr.ys (ys_T (by omega) (ys_lss (Ev.t rfl) (Ev.t rfl)))) rfl ?_; clear S a w; intro a w S)
            refine st_nil ?_
            (refine (then_normal (hK4 _ _ ?_)); clear hK4)
            refine wp_seq_k fun _ hK4 => ?_
            refine st_then S (Ev.t rfl) ?_
            refine wp_skip ?_
            (refine (then_normal (hK4 _ _ ?_)); clear hK4)
            refine wp_seq_k fun _ hK4 => ?_
            refine wp_block ?_
            refine wp_seq_k fun _ hK5 => ?_
            refine wp_region_lit ?_
            (refine st_y S (Yr.ys (ys_ixS (j := 1) Try.underlying165 Try.sizeOf164 (Ev.t rfl) (Ev.t rfl) (fun _ => by omega))) rfl ?_; clear S a w; intro a w S)
            (refine st_y S (Yr.ys (ys_ld ⟨Try.isAgg164, Try.sizeOf164⟩ (Ev.t rfl) (k := 2) rfl rfl)) rfl ?_; clear S a w; intro a w S)
            (refine st_y S (Yr.ys (ys_assign (Ev.t rfl))) rfl ?_; clear S a w; intro a w S)
            refine st_nil ?_
            (refine (then_normal (hK5 _ _ ?_)); clear hK5)
            refine wp_seq_k fun _ hK5 => ?_
            refine wp_region_lit ?_
            (refine st_y S (Yr.ys (ys_move (Ev.t rfl))) rfl ?_; clear S a w; intro a w S)
            (refine st_y S (Yr.ys (ys_move (Ev.t rfl))) rfl ?_; clear S a w; intro a w S)
            (refine st_m (op_callO S Try.call115 (EvL.cons (Ev.t rfl) EvL.nil) (c115 S.wd (by first | assumption | omega | exact Sl.nil_ | exact .old S.wd (by assumption) | exact Sl.of_own S.wd (k := 0) rfl (fun _ => rfl) | exact Sl.of_own S.wd (k := 1) rfl (fun _ => rfl) | exact Sl.of_own S.wd (k := 2) rfl (fun _ => rfl) | exact Sl.of_own S.wd (k := 3) rfl (fun _ => rfl) | exact Sl.of_own S.wd (k := 4) rfl (fun _ => rfl) | (simp at *; omega)) (by first | assumption | omega | exact Sl.nil_ | exact .old S.wd (by assumption) | exact Sl.of_own S.wd (k := 0) rfl (fun _ => rfl) | exact Sl.of_own S.wd (k := 1) rfl (fun _ => rfl) | exact Sl.of_own S.wd (k := 2) rfl (fun _ => rfl) | exact Sl.of_own S.wd (k := 3) rfl (fun _ => rfl) | exact Sl.of_own S.wd (k := 4) rfl (fun _ => rfl) | (simp at *; omega))) rfl ?_) <;> clear S a w)
            rintro _ _ ⟨rfl, rfl⟩ a w S
            (refine st_y S (Yr.ys (ys_move (Ev.t rfl))) rfl ?_; clear S a w; intro a w S)
            (refine st_y S (Yr.ys (ys_ext (Ev.t rfl) rfl)) rfl ?_; clear S a w; intro a w S)
            (refine st_y S (Yr.ys (ys_ext (Ev.t rfl) rfl)) rfl ?_; clear S a w; intro a w S)
            (refine st_y S (Yr.ys (ys_nilc (Ev.t rfl))) rfl ?_; clear S a w; intro a w S)
            (refine st_m (op_st S Try.sizeOf3 (Ev.t rfl) (Ev.t rfl) (k := 3) rfl rfl (by simp) ?_); clear S a w; intro a w S)
            (refine st_y S (Yr.ys (ys_assign (Ev.t rfl))) rfl ?_; clear S a w; intro a w S)
            refine st_nil ?_
            (refine (then_normal (hK5 _ _ ?_)); clear hK5)
            refine wp_seq_k fun _ hK5 => ?_
            refine wp_region_lit ?_
            (refine st_y S (Yr.ys (ys_move (Ev.t rfl))) rfl ?_; clear S a w; intro a w S)
            (refine st_y S (Yr.ys (ys_T (by omega) (ys_neq (Ev.t rfl) Ev.c))) rfl ?_; clear S a w; intro a w S)
            refine st_nil ?_
            (refine (then_normal (hK5 _ _ ?_)); clear hK5)
            refine st_then S (Ev.t rfl) ?_
            refine wp_seq_k fun _ hK5 => ?_
            refine wp_region_lit ?_
            (refine st_y S (Yr.ys (ys_move (Ev.t rfl))) rfl ?_; clear S a w; intro a w S)
            (refine st_y S (Yr.ys (ys_assign Ev.c)) rfl ?_; clear S a w; intro a w S)
            (refine st_y S (Yr.ys (ys_assign (Ev.t rfl))) rfl ?_; clear S a w; intro a w S)
            refine st_nil ?_
            (refine (then_normal (hK5 _ _ ?_)); clear hK5)
            refine wp_ret ?_
            refine (in_ret (then_ret (then_ret (in_ret (then_ret (in_ret (then_ret (then_ret (in_ret (then_ret ?_))))))))))
            refine st_ret S (results2 S Try.results105 (Rv.tmp rfl) (Rv.tmp rfl)) ?_
            rw [hla, ← hno]
            exact ⟨_, _, rfl, (S.nil_ 32 3 Dot.enc none).wd.picks (by repeat (first | exact Picks.nil | (refine Picks.rest ?_; (repeat (first | exact List.Sublist.refl _ | refine List.Sublist.cons_cons _ ?_ | refine List.Sublist.cons _ ?_)); done) | refine Picks.take 0 rfl ?_ | refine Picks.take 1 rfl ?_ | refine Picks.take 2 rfl ?_ | refine Picks.take 3 rfl ?_ | refine Picks.take 4 rfl ?_ | refine Picks.take 5 rfl ?_ | refine Picks.take 6 rfl ?_ | refine Picks.take 7 rfl ?_ | refine Picks.take 8 rfl ?_ | refine Picks.take 9 rfl ?_ | refine Picks.take 10 rfl ?_ | refine Picks.take 11 rfl ?_)), none, 0, rfl, rfl⟩
        · refine st_rounds 4 (st_round ?_)
          have hd : dotAt b k' = (⟨0, 0, 0⟩, (numAt b k').2.1, (numAt b k').2.2) := by unfold dotAt; rw [bindR_bad e1]
          rw [hd, bindR_bad' e1] at hno
          refine wp_seq_k fun _ hK4 => ?_
          refine wp_region_lit ?_
          (refine st_y S (Yr.ys (ys_T (by omega) (ys_lss (Ev.t rfl) (Ev.t rfl)))) rfl ?_; clear S a w; intro a w S)
          refine st_nil ?_
          (refine (then_normal (hK4 _ _ ?_)); clear hK4)
          refine wp_seq_k fun _ hK4 => ?_
          refine st_then S (Ev.t rfl) ?_
          refine wp_skip ?_
          (refine (then_normal (hK4 _ _ ?_)); clear hK4)
          refine wp_seq_k fun _ hK4 => ?_
          refine wp_block ?_
          refine wp_seq_k fun _ hK5 => ?_
          refine wp_region_lit ?_
          (refine st_y S (Yr.ys (ys_ixS (j := 0) Try.underlying165 Try.sizeOf164 (Ev.t rfl) (Ev.t rfl) (fun _ => by omega))) rfl ?_; clear S a w; intro a w S)
          (refine st_y S (Yr.ys (ys_ld ⟨Try.isAgg164, Try.sizeOf164⟩ (Ev.t rfl) (k := 0) rfl rfl)) rfl ?_; clear S a w; intro a w S)
          (refine st_y S (Yr.ys (ys_assign (Ev.t rfl))) rfl ?_; clear S a w; intro a w S)
          refine st_nil ?_
          (refine (then_normal (hK5 _ _ ?_)); clear hK5)
          refine wp_seq_k fun _ hK5 => ?_
          refine wp_region_lit ?_
          (refine st_y S (Yr.ys (ys_move (Ev.t rfl))) rfl ?_; clear S a w; intro a w S)
          (refine st_y S (Yr.ys (ys_move (Ev.t rfl))) rfl ?_; clear S a w; intro a w S)
          (replace S := S.pull 4 rfl; try simp only [List.set_cons_zero, List.set_cons_succ, List.eraseIdx_cons_succ, List.eraseIdx_cons_zero] at S; replace S := S.pull 4 rfl; try simp only [List.set_cons_zero, List.set_cons_succ, List.eraseIdx_cons_succ, List.eraseIdx_cons_zero] at S; refine st_m (op_callO S Try.call115 (EvL.cons (Ev.t rfl) EvL.nil) (c115 S.wd (by first | assumption | omega | exact Sl.nil_ | exact .old S.wd (by assumption) | exact Sl.of_own S.wd (k := 0) rfl (fun _ => rfl) | exact Sl.of_own S.wd (k := 1) rfl (fun _ => rfl) | exact Sl.of_own S.wd (k := 2) rfl (fun _ => rfl) | exact Sl.of_own S.wd (k := 3) rfl (fun _ => rfl) | exact Sl.of_own S.wd (k := 4) rfl (fun _ => rfl) | (simp at *; omega)) (by first | assumption | omega | exact Sl.nil_ | exact .old S.wd (by assumption) | exact Sl.of_own S.wd (k := 0) rfl (fun _ => rfl) | exact Sl.of_own S.wd (k := 1) rfl (fun _ => rfl) | exact Sl.of_own S.wd (k := 2) rfl (fun _ => rfl) | exact Sl.of_own S.wd (k := 3) rfl (fun _ => rfl) | exact Sl.of_own S.wd (k := 4) rfl (fun _ => rfl) | (simp at *; omega))) rfl ?_) <;> clear S a w)
          rintro _ _ ⟨rfl, rfl⟩ a w S
          (refine st_y S (Yr.ys (ys_move (Ev.t rfl))) rfl ?_; clear S a w; intro a w S)
          (refine st_y S (Yr.ys (ys_ext (Ev.t rfl) rfl)) rfl ?_; clear S a w; intro a w S)
          (refine st_y S (Yr.ys (ys_ext (Ev.t rfl) rfl)) rfl ?_; clear S a w; intro a w S)
          (refine st_y S (Yr.ys (ys_nilc (Ev.t rfl))) rfl ?_; clear S a w; intro a w S)
          (refine st_m (op_st S Try.sizeOf3 (Ev.t rfl) (Ev.t rfl) (k := 3) rfl rfl (by simp) ?_); clear S a w; intro a w S)
          (refine st_y S (Yr.ys (ys_assign (Ev.t rfl))) rfl ?_; clear S a w; intro a w S)
          refine st_nil ?_
          (refine (then_normal (hK5 _ _ ?_)); clear hK5)
          refine wp_seq_k fun _ hK5 => ?_
          refine wp_region_lit ?_
          (refine st_y S (Yr.ys (ys_move (Ev.t rfl))) rfl ?_; clear S a w; intro a w S)
          (refine st_y S (Yr.ys (ys_T (by omega) (ys_neq (Ev.t rfl) Ev.c))) rfl ?_; clear S a w; intro a w S)
          refine st_nil ?_
          (refine (then_normal (hK5 _ _ ?_)); clear hK5)
          refine st_then S (Ev.t rfl) ?_
          refine wp_seq_k fun _ hK5 => ?_
          refine wp_region_lit ?_
          (refine st_y S (Yr.ys (ys_move (Ev.t rfl))) rfl ?_; clear S a w; intro a w S)
          (refine st_y S (Yr.ys (ys_assign Ev.c)) rfl ?_; clear S a w; intro a w S)
          (refine st_y S (Yr.ys (ys_assign (Ev.t rfl))) rfl ?_; clear S a w; intro a w S)
          refine st_nil ?_
          (refine (then_normal (hK5 _ _ ?_)); clear hK5)
          refine wp_ret ?_
          refine (in_ret (then_ret (then_ret (in_ret (then_ret (in_ret (then_ret (then_ret (in_ret (then_ret ?_))))))))))
          refine st_ret S (results2 S Try.results105 (Rv.tmp rfl) (Rv.tmp rfl)) ?_
          rw [hla, ← hno]
          exact ⟨_, _, rfl, (S.nil_ 32 3 Dot.enc none).wd.picks (by repeat (first | exact Picks.nil | (refine Picks.rest ?_; (repeat (first | exact List.Sublist.refl _ | refine List.Sublist.cons_cons _ ?_ | refine List.Sublist.cons _ ?_)); done) | refine Picks.take 0 rfl ?_ | refine Picks.take 1 rfl ?_ | refine Picks.take 2 rfl ?_ | refine Picks.take 3 rfl ?_ | refine Picks.take 4 rfl ?_ | refine Picks.take 5 rfl ?_ | refine Picks.take 6 rfl ?_ | refine Picks.take 7 rfl ?_ | refine Picks.take 8 rfl ?_ | refine Picks.take 9 rfl ?_ | refine Picks.take 10 rfl ?_ | refine Picks.take 11 rfl ?_)), none, 0, rfl, rfl⟩
      · rw [show n - i = 0 by omega, dotsAt] at hno
        refine wp_seq_k fun _ hK2 => ?_
        refine wp_region_lit ?_
        (refine st_y S (Yr.ys (ys_F (by omega) (ys_lss (Ev.t rfl) (Ev.t rfl)))) rfl ?_; clear S a w; intro a w S)
        refine st_nil ?_
        (refine (then_normal (hK2 _ _ ?_)); clear hK2)
        refine wp_seq_k fun _ hK2 => ?_
        refine st_else S (Ev.t rfl) ?_
        refine wp_exit ?_
        (refine (then_exit (then_exit (in_here (then_normal (hK1 _ _ ?_))))); clear hK1)
        refine wp_seq_k fun _ hK1 => ?_
        refine wp_region_lit ?_
        (refine st_y S (Yr.ys (ys_move (Ev.t rfl))) rfl ?_; clear S a w; intro a w S)
        (refine st_y S (Yr.ys (ys_assign (Ev.t rfl))) rfl ?_; clear S a w; intro a w S)
        (refine st_y S (Yr.ys (ys_assign Ev.c)) rfl ?_; clear S a w; intro a w S)
        refine st_nil ?_
        (refine (then_normal (hK1 _ _ ?_)); clear hK1)
        refine wp_ret ?_
        refine st_ret S (results2 S Try.results105 (Rv.tmp rfl) (Rv.tmp rfl)) ?_
        rw [hla, ← hno]
        exact ⟨_, _, rfl, S.wd.picks (by repeat (first | exact Picks.nil | (refine Picks.rest ?_; (repeat (first | exact List.Sublist.refl _ | refine List.Sublist.cons_cons _ ?_ | refine List.Sublist.cons _ ?_)); done) | refine Picks.take 0 rfl ?_ | refine Picks.take 1 rfl ?_ | refine Picks.take 2 rfl ?_ | refine Picks.take 3 rfl ?_ | refine Picks.take 4 rfl ?_ | refine Picks.take 5 rfl ?_ | refine Picks.take 6 rfl ?_ | refine Picks.take 7 rfl ?_ | refine Picks.take 8 rfl ?_ | refine Picks.take 9 rfl ?_ | refine Picks.take 10 rfl ?_ | refine Picks.take 11 rfl ?_)), D, cD, rfl, rfl⟩
  · unfold Go.Fw.RetsO
    refine enterW2 W Try.func105 rfl Try.ntmps105 rfl fun a S => ?_
    refine wp_seq_k fun _ hK1 => ?_
    refine wp_region_lit ?_
    (refine st_y S (Yr.ys (ys_assign Ev.c)) rfl ?_; clear S a; intro a w S)
    (refine st_y S (Yr.ys (ys_assign Ev.c)) rfl ?_; clear S a w; intro a w S)
    refine st_nil ?_
    (refine (then_normal (hK1 _ _ ?_)); clear hK1)
    refine wp_seq_k fun _ hK1 => ?_
    refine wp_region_lit ?_
    (refine st_y S (Yr.ys (ys_move (Ev.t rfl))) rfl ?_; clear S a w; intro a w S)
    (refine st_m (op_callO S Try.call115 (EvL.cons (Ev.t rfl) EvL.nil) (c115 S.wd (by first | assumption | omega | exact Sl.nil_ | exact .old S.wd (by assumption) | exact Sl.of_own S.wd (k := 0) rfl (fun _ => rfl) | exact Sl.of_own S.wd (k := 1) rfl (fun _ => rfl) | (simp at *; omega)) (by first | assumption | omega | exact Sl.nil_ | exact .old S.wd (by assumption) | exact Sl.of_own S.wd (k := 0) rfl (fun _ => rfl) | exact Sl.of_own S.wd (k := 1) rfl (fun _ => rfl) | (simp at *; omega))) rfl ?_) <;> clear S a w)
    rintro _ _ ⟨rfl, rfl⟩ a w S
    (refine st_y S (Yr.ys (ys_move (Ev.t rfl))) rfl ?_; clear S a w; intro a w S)
    (refine st_y S (Yr.ys (ys_ext (Ev.t rfl) rfl)) rfl ?_; clear S a w; intro a w S)
    (refine st_y S (Yr.ys (ys_ext (Ev.t rfl) rfl)) rfl ?_; clear S a w; intro a w S)
    (refine st_y S (Yr.ys (ys_assign (Ev.t rfl))) rfl ?_; clear S a w; intro a w S)
    (refine st_y S (Yr.ys (ys_assign (Ev.t rfl))) rfl ?_; clear S a w; intro a w S)
    refine st_nil ?_
    (refine (then_normal (hK1 _ _ ?_)); clear hK1)
    refine wp_seq_k fun _ hK1 => ?_
    refine wp_seq_k fun _ hK2 => ?_
    refine wp_region_lit ?_
    (refine st_y S (Yr.ys (ys_move (Ev.t rfl))) rfl ?_; clear S a w; intro a w S)
    (refine st_y S (Yr.ys (ys_T (by omega) (ys_neq (Ev.t rfl) Ev.c))) rfl ?_; clear S a w; intro a w S)
    refine st_nil ?_
    (refine (then_normal (hK2 _ _ ?_)); clear hK2)
    refine st_then S (Ev.t rfl) ?_
    refine wp_seq_k fun _ hK2 => ?_
    refine wp_region_lit ?_
    (refine st_y S (Yr.ys (ys_move (Ev.t rfl))) rfl ?_; clear S a w; intro a w S)
    (refine st_y S (Yr.ys (ys_assign Ev.c)) rfl ?_; clear S a w; intro a w S)
    (refine st_y S (Yr.ys (ys_assign (Ev.t rfl))) rfl ?_; clear S a w; intro a w S)
    refine st_nil ?_
    (refine (then_normal (hK2 _ _ ?_)); clear hK2)
    refine wp_ret ?_
    refine (then_ret ?_)
    refine st_ret S (results2 S Try.results105 (Rv.tmp rfl) (Rv.tmp rfl)) ?_
    rw [show listAt b k = ([], (numAt b k).2.1, (numAt b k).2.2) by unfold listAt; rw [bindR_bad he]]
    exact ⟨_, _, rfl, (S.nil_ 32 3 Dot.enc none).wd.picks (by repeat (first | exact Picks.nil | (refine Picks.rest ?_; (repeat (first | exact List.Sublist.refl _ | refine List.Sublist.cons_cons _ ?_ | refine List.Sublist.cons _ ?_)); done) | refine Picks.take 0 rfl ?_ | refine Picks.take 1 rfl ?_ | refine Picks.take 2 rfl ?_ | refine Picks.take 3 rfl ?_ | refine Picks.take 4 rfl ?_ | refine Picks.take 5 rfl ?_ | refine Picks.take 6 rfl ?_ | refine Picks.take 7 rfl ?_ | refine Picks.take 8 rfl ?_ | refine Picks.take 9 rfl ?_ | refine Picks.take 10 rfl ?_ | refine Picks.take 11 rfl ?_)), none, 0, rfl, rfl⟩
theorem c76 {w0 w : World} {L : List Chunk} {g cap k : Nat} {A : Option Addr} {b : List UInt8} (W : Wd w0 (rdr g A cap b k L) w) (hk : k ≤ b.length) (hb : b.length ≤ 16777216) :
    RetsO Try.prog 76 #[.pointer (some ⟨g, 0, none⟩)] w0 w (fun v L' => ∃ B c B' c', v = .tuple #[.agg #[.slice B (ctxAt b k).1.marks.length c, .slice B' (ctxAt b k).1.cloud.length c'], .int .i64 (ctxAt b k).2.2] ∧ L' = rdr g A cap b (ctxAt b k).2.1 (rowOf 43 3 Dot.enc B c (ctxAt b k).1.marks :: rowOf 32 3 Dot.enc B' c' (ctxAt b k).1.cloud :: L)) := by
  have hp1 := listAt_le hk
  have hl1 := listAt_len b k
  by_cases e1 : (listAt b k).2.2 = 0
  · have hp2 := listAt_le hp1.2
    have hl2 := listAt_len b (listAt b k).2.1
    by_cases e2 : (listAt b (listAt b k).2.1).2.2 = 0
    · generalize hl : (listAt b k).1 = l at hl1
      generalize hm : (listAt b (listAt b k).2.1).1 = m at hl2
      have hc : ctxAt b k = if canL ⟨l, m⟩ then (⟨l, m⟩, (listAt b (listAt b k).2.1).2.1, 0) else (⟨[], []⟩, (listAt b (listAt b k).2.1).2.1, 30) := by unfold ctxAt; rw [bindR_ok e1, bindR_ok e2, hl, hm]
      have rw_l := hl
      have rw_m := hm
      unfold Go.Fw.RetsO
      refine enterW1 W Try.func76 rfl Try.ntmps76 rfl fun a S => ?_
      refine wp_seq_k fun _ hK1 => ?_
      refine wp_region_lit ?_
      (refine st_m (op_alloc S Try.zeroValue36 (cs := _) rfl rfl ?_); clear S a; intro g1 a w S)
      (refine st_y S (Yr.ys (ys_assign Ev.c)) rfl ?_; clear S a w; intro a w S)
      refine st_nil ?_
      (refine (then_normal (hK1 _ _ ?_)); clear hK1)
      refine wp_seq_k fun _ hK1 => ?_
      refine wp_region_lit ?_
      (refine st_y S (Yr.ys (ys_move (Ev.t rfl))) rfl ?_; clear S a w; intro a w S)
      (replace S := S.pull 2 rfl; try simp only [List.set_cons_zero, List.set_cons_succ, List.eraseIdx_cons_succ, List.eraseIdx_cons_zero] at S; replace S := S.pull 2 rfl; try simp only [List.set_cons_zero, List.set_cons_succ, List.eraseIdx_cons_succ, List.eraseIdx_cons_zero] at S; refine st_m (op_callO S Try.call105 (EvL.cons (Ev.t rfl) (EvL.cons Ev.c EvL.nil)) (c105 S.wd (by first | assumption | omega | exact Sl.nil_ | exact .old S.wd (by assumption) | exact Sl.of_own S.wd (k := 0) rfl (fun _ => rfl) | exact Sl.of_own S.wd (k := 1) rfl (fun _ => rfl) | exact Sl.of_own S.wd (k := 2) rfl (fun _ => rfl) | (simp at *; omega)) (by first | assumption | omega | exact Sl.nil_ | exact .old S.wd (by assumption) | exact Sl.of_own S.wd (k := 0) rfl (fun _ => rfl) | exact Sl.of_own S.wd (k := 1) rfl (fun _ => rfl) | exact Sl.of_own S.wd (k := 2) rfl (fun _ => rfl) | (simp at *; omega))) rfl ?_) <;> clear S a w)
      rintro _ _ ⟨B1, c1, rfl, rfl⟩ a w S
      rw [rw_l] at S
      (refine st_y S (Yr.ys (ys_move (Ev.t rfl))) rfl ?_; clear S a w; intro a w S)
      (refine st_y S (Yr.ys (ys_ext (Ev.t rfl) rfl)) rfl ?_; clear S a w; intro a w S)
      (refine st_y S (Yr.ys (ys_ext (Ev.t rfl) rfl)) rfl ?_; clear S a w; intro a w S)
      (refine st_y S (Yr.ys (ys_assign (Ev.t rfl))) rfl ?_; clear S a w; intro a w S)
      (refine st_y S (Yr.ys (ys_assign (Ev.t rfl))) rfl ?_; clear S a w; intro a w S)
      refine st_nil ?_
      (refine (then_normal (hK1 _ _ ?_)); clear hK1)
      refine wp_seq_k fun _ hK1 => ?_
      refine wp_seq_k fun _ hK2 => ?_
      refine wp_region_lit ?_
      (refine st_y S (Yr.ys (ys_move (Ev.t rfl))) rfl ?_; clear S a w; intro a w S)
      (refine st_y S (Yr.ys (ys_F (by omega) (ys_neq (Ev.t rfl) Ev.c))) rfl ?_; clear S a w; intro a w S)
      refine st_nil ?_
      (refine (then_normal (hK2 _ _ ?_)); clear hK2)
      refine st_else S (Ev.t rfl) ?_
      refine wp_skip ?_
      (refine (then_normal (hK1 _ _ ?_)); clear hK1)
      refine wp_seq_k fun _ hK1 => ?_
      refine wp_region_lit ?_
      (refine st_y S (Yr.ys (ys_move (Ev.t rfl))) rfl ?_; clear S a w; intro a w S)
      (refine st_m (op_callO S Try.call105 (EvL.cons (Ev.t rfl) (EvL.cons Ev.c EvL.nil)) (c105 S.wd (by first | assumption | omega | exact Sl.nil_ | exact .old S.wd (by assumption) | exact Sl.of_own S.wd (k := 0) rfl (fun _ => rfl) | exact Sl.of_own S.wd (k := 1) rfl (fun _ => rfl) | exact Sl.of_own S.wd (k := 2) rfl (fun _ => rfl) | exact Sl.of_own S.wd (k := 3) rfl (fun _ => rfl) | (simp at *; omega)) (by first | assumption | omega | exact Sl.nil_ | exact .old S.wd (by assumption) | exact Sl.of_own S.wd (k := 0) rfl (fun _ => rfl) | exact Sl.of_own S.wd (k := 1) rfl (fun _ => rfl) | exact Sl.of_own S.wd (k := 2) rfl (fun _ => rfl) | exact Sl.of_own S.wd (k := 3) rfl (fun _ => rfl) | (simp at *; omega))) rfl ?_) <;> clear S a w)
      rintro _ _ ⟨B2, c2, rfl, rfl⟩ a w S
      rw [rw_m] at S
      (refine st_y S (Yr.ys (ys_move (Ev.t rfl))) rfl ?_; clear S a w; intro a w S)
      (refine st_y S (Yr.ys (ys_ext (Ev.t rfl) rfl)) rfl ?_; clear S a w; intro a w S)
      (refine st_y S (Yr.ys (ys_ext (Ev.t rfl) rfl)) rfl ?_; clear S a w; intro a w S)
      (refine st_y S (Yr.ys (ys_assign (Ev.t rfl))) rfl ?_; clear S a w; intro a w S)
      (refine st_y S (Yr.ys (ys_assign (Ev.t rfl))) rfl ?_; clear S a w; intro a w S)
      refine st_nil ?_
      (refine (then_normal (hK1 _ _ ?_)); clear hK1)
      refine wp_seq_k fun _ hK1 => ?_
      refine wp_seq_k fun _ hK2 => ?_
      refine wp_region_lit ?_
      (refine st_y S (Yr.ys (ys_move (Ev.t rfl))) rfl ?_; clear S a w; intro a w S)
      (refine st_y S (Yr.ys (ys_F (by omega) (ys_neq (Ev.t rfl) Ev.c))) rfl ?_; clear S a w; intro a w S)
      refine st_nil ?_
      (refine (then_normal (hK2 _ _ ?_)); clear hK2)
      refine st_else S (Ev.t rfl) ?_
      refine wp_skip ?_
      (refine (then_normal (hK1 _ _ ?_)); clear hK1)
      refine wp_seq_k fun _ hK1 => ?_
      refine wp_region_lit ?_
      (refine st_y S (Yr.ys (ys_move (Ev.t rfl))) rfl ?_; clear S a w; intro a w S)
      (refine st_y S (Yr.ys (ys_bld (ps := [(1, Go.Operand.tmp 28)]) (us := [_, _]) bld36 (EvL.cons (Ev.t rfl) EvL.nil) rfl)) rfl ?_; clear S a w; intro a w S)
      (refine st_m (op_alloc S Try.zeroValue36 (cs := _) rfl rfl ?_); clear S a w; intro g2 a w S)
      (refine st_m (op_stW S Try.sizeOf36 (Ev.t rfl) (Ev.t rfl) (k := 0) rfl rfl rfl (by simp [Value.oneCell']) ?_); clear S a w; intro a w S)
      refine st_nil ?_
      (refine (then_normal (hK1 _ _ ?_)); clear hK1)
      refine wp_seq_k fun _ hK1 => ?_
      refine wp_seq_k fun _ hK2 => ?_
      refine wp_region_lit ?_
      (refine st_y S (Yr.ys (ys_move (Ev.t rfl))) rfl ?_; clear S a w; intro a w S)
      (refine st_y S (Yr.ys (ys_lenS Try.underlying30 (Ev.t rfl))) rfl ?_; clear S a w; intro a w S)
      (refine st_y S (Yr.ys (ys_move Ev.c)) rfl ?_; clear S a w; intro a w S)
      refine st_nil ?_
      (refine (then_normal (hK2 _ _ ?_)); clear hK2)
      refine wp_block ?_
      refine st_loopM (S.nil_ 43 3 Dot.enc none) [32] (X := Nat × Option Addr × Nat) (fun q => [(32, true, .int .i64 (q.1 : Int))])
        (fun q => rowOf 43 3 Dot.enc q.2.1 q.2.2 (l.take q.1) :: .blk g2 (.cells #[.slice q.2.1 (l.take q.1).length q.2.2, .slice B2 m.length c2] 36) :: rowOf 32 3 Dot.enc B1 c1 l :: rowOf 32 3 Dot.enc B2 c2 m :: .blk g1 (.cells #[.slice none 0 0, .slice none 0 0] 36) :: rdr g A cap b (listAt b (listAt b k).2.1).2.1 L)
        (fun q => q.1 ≤ l.length) (fun q => l.length - q.1) (0, none, 0) (Nat.zero_le _) (by repeat (first | exact Fits.nil | refine Fits.skip rfl ?_ | refine Fits.cons rfl ?_)) (by repeat (first | exact Picks.nil | (refine Picks.rest ?_; (repeat (first | exact List.Sublist.refl _ | refine List.Sublist.cons_cons _ ?_ | refine List.Sublist.cons _ ?_)); done) | refine Picks.take 0 rfl ?_ | refine Picks.take 1 rfl ?_ | refine Picks.take 2 rfl ?_ | refine Picks.take 3 rfl ?_ | refine Picks.take 4 rfl ?_ | refine Picks.take 5 rfl ?_ | refine Picks.take 6 rfl ?_ | refine Picks.take 7 rfl ?_ | refine Picks.take 8 rfl ?_ | refine Picks.take 9 rfl ?_ | refine Picks.take 10 rfl ?_ | refine Picks.take 11 rfl ?_)) ?_
      clear S
      intro ⟨i, D, cD⟩ a w hi S
      dsimp only at hi S
      by_cases hlt : i < l.length
      · obtain ⟨ga, rfl⟩ := S.wd.row_at (k := 2) rfl (by have := (S.wd.room (k := 2) rfl).1; omega)
        obtain ⟨x, hx⟩ : ∃ x, l[i]? = some x := ⟨l[i], by simp⟩
        have hlk : (l.take i).length ≤ 64 := by rw [List.length_take]; omega
        have et : l.take (i + 1) = l.take i ++ [x] := by rw [List.take_add_one, hx]; rfl
        refine wp_seq_k fun _ hK2 => ?_
        refine wp_region_lit ?_
        (refine st_y S (Yr.ys (ys_T (by omega) (ys_lss (Ev.t rfl) (Ev.t rfl)))) rfl ?_; clear S a w; intro a w S)
        refine st_nil ?_
        (refine (then_normal (hK2 _ _ ?_)); clear hK2)
        refine wp_seq_k fun _ hK2 => ?_
        refine st_then S (Ev.t rfl) ?_
        refine wp_skip ?_
        (refine (then_normal (hK2 _ _ ?_)); clear hK2)
        refine wp_seq_k fun _ hK2 => ?_
        refine wp_block ?_
        refine wp_seq_k fun _ hK3 => ?_
        refine wp_region_lit ?_
        (refine st_y S (Yr.ys (ys_ixS Try.underlying30 Try.sizeOf32 (Ev.t rfl) (Ev.t rfl) (fun _ => by omega))) rfl ?_; clear S a w; intro a w S)
        (refine st_y S (Yr.ys (ys_ldWA ⟨Try.isAgg32, Try.sizeOf32⟩ (Ev.t rfl) (k := 2) rfl hx (fun _ => rfl))) rfl ?_; clear S a w; intro a w S)
        (refine st_m (op_alloc S Try.zeroValue32 (cs := _) rfl rfl ?_); clear S a w; intro g3 a w S)
        (refine st_m (op_stW S Try.sizeOf32 (Ev.t rfl) (Ev.t rfl) (k := 0) rfl rfl rfl (by simp [Value.oneCell']) ?_); clear S a w; intro a w S)
        refine st_nil ?_
        (refine (then_normal (hK3 _ _ ?_)); clear hK3)
        refine wp_region_lit ?_
        (refine st_y S (Yr.ys (ys_fieldN (FieldT.mk Try.underlying36 rfl Try.sizeOf29 rfl) (Ev.t rfl) (i' := 0) rfl)) rfl ?_; clear S a w; intro a w S)
        (refine st_y S (Yr.ys (ys_ld ⟨Try.isAgg29, Try.sizeOf29⟩ (Ev.t rfl) (k := 2) rfl rfl)) rfl ?_; clear S a w; intro a w S)
        (refine st_y S (Yr.ys (ys_ldA ⟨Try.isAgg32, Try.sizeOf32⟩ (Ev.t rfl) (k := 0) rfl rfl)) rfl ?_; clear S a w; intro a w S)
        (refine st_m (op_bslice1 S Try.underlying29 inf43 rfl rfl rfl (Ev.t rfl) rfl rfl rfl ?_); clear S a w; intro g4 a w S)
        (refine st_m (op_push S Try.underlying29 inf43 rfl (k := 2) (j := 0) rfl (Ev.t rfl) (Ev.t rfl) rfl rfl rfl rfl (by first | omega | (simp only [List.length_append, List.length_cons, List.length_nil]; omega)) rfl rfl rfl ?_); clear S a w; intro A1 cap1 a w S)
        (refine st_y S (Yr.ys (ys_fieldN (FieldT.mk Try.underlying36 rfl Try.sizeOf29 rfl) (Ev.t rfl) (i' := 0) rfl)) rfl ?_; clear S a w; intro a w S)
        (refine st_m (op_st S Try.sizeOf29 (Ev.t rfl) (Ev.t rfl) (k := 3) rfl rfl (by simp) ?_); clear S a w; intro a w S)
        refine st_nil ?_
        (refine (in_normal (then_normal (hK2 _ _ ?_))); clear hK2)
        refine wp_region_lit ?_
        (refine st_y S (Yr.ys (ys_addI (Ev.t rfl) Ev.c (fun _ => by unfold I64; omega))) rfl ?_; clear S a w; intro a w S)
        (refine st_y S (Yr.ys (ys_move (Ev.t rfl))) rfl ?_; clear S a w; intro a w S)
        refine st_nil ?_
        refine (then_normal ?_)
        rw [← et] at S
        exact ⟨(i + 1, A1, cap1), by dsimp only; omega, by dsimp only; omega, S.picks (by repeat (first | exact Fits.nil | refine Fits.skip rfl ?_ | refine Fits.cons rfl ?_)) (by repeat (first | exact Picks.nil | (refine Picks.rest ?_; (repeat (first | exact List.Sublist.refl _ | refine List.Sublist.cons_cons _ ?_ | refine List.Sublist.cons _ ?_)); done) | refine Picks.take 0 rfl ?_ | refine Picks.take 1 rfl ?_ | refine Picks.take 2 rfl ?_ | refine Picks.take 3 rfl ?_ | refine Picks.take 4 rfl ?_ | refine Picks.take 5 rfl ?_ | refine Picks.take 6 rfl ?_ | refine Picks.take 7 rfl ?_ | refine Picks.take 8 rfl ?_ | refine Picks.take 9 rfl ?_ | refine Picks.take 10 rfl ?_ | refine Picks.take 11 rfl ?_))⟩
      · have hend : i = l.length := by omega
        subst hend
        rw [List.take_length] at S
        cases hcn : canL ⟨l, m⟩ with
        | true =>
          have rw_c := hcn
          rw [hcn, if_pos rfl] at hc
          refine wp_seq_k fun _ hK2 => ?_
          refine wp_region_lit ?_
          (refine st_y S (Yr.ys (ys_F (by omega) (ys_lss (Ev.t rfl) (Ev.t rfl)))) rfl ?_; clear S a w; intro a w S)
          refine st_nil ?_
          (refine (then_normal (hK2 _ _ ?_)); clear hK2)
          refine wp_seq_k fun _ hK2 => ?_
          refine st_else S (Ev.t rfl) ?_
          refine wp_exit ?_
          (refine (then_exit (then_exit (in_here (then_normal (hK1 _ _ ?_))))); clear hK1)
          refine wp_seq_k fun _ hK1 => ?_
          refine wp_seq_k fun _ hK3 => ?_
          refine wp_region_lit ?_
          (refine st_y S (Yr.ys (ys_ldA ⟨Try.isAgg36, Try.sizeOf36⟩ (Ev.t rfl) (k := 1) rfl rfl)) rfl ?_; clear S a w; intro a w S)
          (refine st_y S (ys_call Try.call32 (EvL.cons (Ev.t rfl) EvL.nil) (fun hp w W => c32 _ _ _ _ (by exact RdCtx.mk' (by exact Sl.of_own W (k := 0) rfl (fun _ => rfl)) (by exact Sl.of_own W (k := 3) rfl (fun _ => rfl))))) rfl ?_; clear S a w; intro a w S)
          rw [rw_c] at S
          (refine st_y S (Yr.ys (ys_not (Ev.t rfl))) rfl ?_; clear S a w; intro a w S)
          refine st_nil ?_
          (refine (then_normal (hK3 _ _ ?_)); clear hK3)
          refine st_else S (Ev.t rfl) ?_
          refine wp_skip ?_
          (refine (then_normal (hK1 _ _ ?_)); clear hK1)
          refine wp_seq_k fun _ hK1 => ?_
          refine wp_region_lit ?_
          (refine st_y S (Yr.ys (ys_ldA ⟨Try.isAgg36, Try.sizeOf36⟩ (Ev.t rfl) (k := 1) rfl rfl)) rfl ?_; clear S a w; intro a w S)
          (refine st_m (op_stW S Try.sizeOf36 (Ev.t rfl) (Ev.t rfl) (k := 4) rfl rfl rfl (by simp [Value.oneCell']) ?_); clear S a w; intro a w S)
          (refine st_y S (Yr.ys (ys_assign Ev.c)) rfl ?_; clear S a w; intro a w S)
          refine st_nil ?_
          (refine (then_normal (hK1 _ _ ?_)); clear hK1)
          refine wp_ret ?_
          refine st_ret S (results2 S Try.results76 (Rv.cell (k := 4) ⟨Try.isAgg36, Try.sizeOf36⟩ rfl rfl rfl) (Rv.tmp rfl)) ?_
          rw [hc]
          exact ⟨_, _, rfl, S.wd.picks (by repeat (first | exact Picks.nil | (refine Picks.rest ?_; (repeat (first | exact List.Sublist.refl _ | refine List.Sublist.cons_cons _ ?_ | refine List.Sublist.cons _ ?_)); done) | refine Picks.take 0 rfl ?_ | refine Picks.take 1 rfl ?_ | refine Picks.take 2 rfl ?_ | refine Picks.take 3 rfl ?_ | refine Picks.take 4 rfl ?_ | refine Picks.take 5 rfl ?_ | refine Picks.take 6 rfl ?_ | refine Picks.take 7 rfl ?_ | refine Picks.take 8 rfl ?_ | refine Picks.take 9 rfl ?_ | refine Picks.take 10 rfl ?_ | refine Picks.take 11 rfl ?_)), D, cD, B2, c2, rfl, rfl⟩
        | false =>
          have rw_c := hcn
          rw [hcn] at hc
          simp only [Bool.false_eq_true, if_false] at hc
          refine wp_seq_k fun _ hK2 => ?_
          refine wp_region_lit ?_
          (refine st_y S (Yr.ys (ys_F (by omega) (ys_lss (Ev.t rfl) (Ev.t rfl)))) rfl ?_; clear S a w; intro a w S)
          refine st_nil ?_
          (refine (then_normal (hK2 _ _ ?_)); clear hK2)
          refine wp_seq_k fun _ hK2 => ?_
          refine st_else S (Ev.t rfl) ?_
          refine wp_exit ?_
          (refine (then_exit (then_exit (in_here (then_normal (hK1 _ _ ?_))))); clear hK1)
          refine wp_seq_k fun _ hK1 => ?_
          refine wp_seq_k fun _ hK3 => ?_
          refine wp_region_lit ?_
          (refine st_y S (Yr.ys (ys_ldA ⟨Try.isAgg36, Try.sizeOf36⟩ (Ev.t rfl) (k := 1) rfl rfl)) rfl ?_; clear S a w; intro a w S)
          (refine st_y S (ys_call Try.call32 (EvL.cons (Ev.t rfl) EvL.nil) (fun hp w W => c32 _ _ _ _ (by exact RdCtx.mk' (by exact Sl.of_own W (k := 0) rfl (fun _ => rfl)) (by exact Sl.of_own W (k := 3) rfl (fun _ => rfl))))) rfl ?_; clear S a w; intro a w S)
          rw [rw_c] at S
          (refine st_y S (Yr.ys (ys_not (Ev.t rfl))) rfl ?_; clear S a w; intro a w S)
          refine st_nil ?_
          (refine (then_normal (hK3 _ _ ?_)); clear hK3)
          refine st_then S (Ev.t rfl) ?_
          refine wp_seq_k fun _ hK3 => ?_
          refine wp_region_lit ?_
          (refine st_y S (Yr.ys (ys_bld (ps := []) (us := [_, _]) bld36 EvL.nil rfl)) rfl ?_; clear S a w; intro a w S)
          (refine st_m (op_stW S Try.sizeOf36 (Ev.t rfl) (Ev.t rfl) (k := 4) rfl rfl rfl (by simp [Value.oneCell']) ?_); clear S a w; intro a w S)
          (refine st_y S (Yr.ys (ys_assign Ev.c)) rfl ?_; clear S a w; intro a w S)
          refine st_nil ?_
          (refine (then_normal (hK3 _ _ ?_)); clear hK3)
          refine wp_ret ?_
          refine (then_ret ?_)
          refine st_ret S (results2 S Try.results76 (Rv.cell (k := 4) ⟨Try.isAgg36, Try.sizeOf36⟩ rfl rfl rfl) (Rv.tmp rfl)) ?_
          rw [hc]
          exact ⟨_, _, rfl, ((S.nil_ 32 3 Dot.enc none).nil_ 43 3 Dot.enc none).wd.picks (by repeat (first | exact Picks.nil | (refine Picks.rest ?_; (repeat (first | exact List.Sublist.refl _ | refine List.Sublist.cons_cons _ ?_ | refine List.Sublist.cons _ ?_)); done) | refine Picks.take 0 rfl ?_ | refine Picks.take 1 rfl ?_ | refine Picks.take 2 rfl ?_ | refine Picks.take 3 rfl ?_ | refine Picks.take 4 rfl ?_ | refine Picks.take 5 rfl ?_ | refine Picks.take 6 rfl ?_ | refine Picks.take 7 rfl ?_ | refine Picks.take 8 rfl ?_ | refine Picks.take 9 rfl ?_ | refine Picks.take 10 rfl ?_ | refine Picks.take 11 rfl ?_)), none, 0, none, 0, rfl, rfl⟩
    · have hc : ctxAt b k = (⟨[], []⟩, (listAt b (listAt b k).2.1).2.1, (listAt b (listAt b k).2.1).2.2) := by unfold ctxAt; rw [bindR_ok e1, bindR_bad e2]
      unfold Go.Fw.RetsO
      refine enterW1 W Try.func76 rfl Try.ntmps76 rfl fun a S => ?_
      refine wp_seq_k fun _ hK1 => ?_
      refine wp_region_lit ?_
      (refine st_m (op_alloc S Try.zeroValue36 (cs := _) rfl rfl ?_); clear S a; intro g1 a w S)
      (refine st_y S (Yr.ys (ys_assign Ev.c)) rfl ?_; clear S a w; intro a w S)
      refine st_nil ?_
      (refine (then_normal (hK1 _ _ ?_)); clear hK1)
      refine wp_seq_k fun _ hK1 => ?_
      refine wp_region_lit ?_
      (refine st_y S (Yr.ys (ys_move (Ev.t rfl))) rfl ?_; clear S a w; intro a w S)
      (replace S := S.pull 2 rfl; try simp only [List.set_cons_zero, List.set_cons_succ, List.eraseIdx_cons_succ, List.eraseIdx_cons_zero] at S; replace S := S.pull 2 rfl; try simp only [List.set_cons_zero, List.set_cons_succ, List.eraseIdx_cons_succ, List.eraseIdx_cons_zero] at S; refine st_m (op_callO S Try.call105 (EvL.cons (Ev.t rfl) (EvL.cons Ev.c EvL.nil)) (c105 S.wd (by first | assumption | omega | exact Sl.nil_ | exact .old S.wd (by assumption) | exact Sl.of_own S.wd (k := 0) rfl (fun _ => rfl) | exact Sl.of_own S.wd (k := 1) rfl (fun _ => rfl) | exact Sl.of_own S.wd (k := 2) rfl (fun _ => rfl) | (simp at *; omega)) (by first | assumption | omega | exact Sl.nil_ | exact .old S.wd (by assumption) | exact Sl.of_own S.wd (k := 0) rfl (fun _ => rfl) | exact Sl.of_own S.wd (k := 1) rfl (fun _ => rfl) | exact Sl.of_own S.wd (k := 2) rfl (fun _ => rfl) | (simp at *; omega))) rfl ?_) <;> clear S a w)
      rintro _ _ ⟨B1, c1, rfl, rfl⟩ a w S
      (refine st_y S (Yr.ys (ys_move (Ev.t rfl))) rfl ?_; clear S a w; intro a w S)
      (refine st_y S (Yr.ys (ys_ext (Ev.t rfl) rfl)) rfl ?_; clear S a w; intro a w S)
      (refine st_y S (Yr.ys (ys_ext (Ev.t rfl) rfl)) rfl ?_; clear S a w; intro a w S)
      (refine st_y S (Yr.ys (ys_assign (Ev.t rfl))) rfl ?_; clear S a w; intro a w S)
      (refine st_y S (Yr.ys (ys_assign (Ev.t rfl))) rfl ?_; clear S a w; intro a w S)
      refine st_nil ?_
      (refine (then_normal (hK1 _ _ ?_)); clear hK1)
      refine wp_seq_k fun _ hK1 => ?_
      refine wp_seq_k fun _ hK2 => ?_
      refine wp_region_lit ?_
      (refine st_y S (Yr.ys (ys_move (Ev.t rfl))) rfl ?_; clear S a w; intro a w S)
      (refine st_y S (Yr.ys (ys_F (by omega) (ys_neq (Ev.t rfl) Ev.c))) rfl ?_; clear S a w; intro a w S)
      refine st_nil ?_
      (refine (then_normal (hK2 _ _ ?_)); clear hK2)
      refine st_else S (Ev.t rfl) ?_
      refine wp_skip ?_
      (refine (then_normal (hK1 _ _ ?_)); clear hK1)
      refine wp_seq_k fun _ hK1 => ?_
      refine wp_region_lit ?_
      (refine st_y S (Yr.ys (ys_move (Ev.t rfl))) rfl ?_; clear S a w; intro a w S)
      (refine st_m (op_callO S Try.call105 (EvL.cons (Ev.t rfl) (EvL.cons Ev.c EvL.nil)) (c105 S.wd (by first | assumption | omega | exact Sl.nil_ | exact .old S.wd (by assumption) | exact Sl.of_own S.wd (k := 0) rfl (fun _ => rfl) | exact Sl.of_own S.wd (k := 1) rfl (fun _ => rfl) | exact Sl.of_own S.wd (k := 2) rfl (fun _ => rfl) | exact Sl.of_own S.wd (k := 3) rfl (fun _ => rfl) | (simp at *; omega)) (by first | assumption | omega | exact Sl.nil_ | exact .old S.wd (by assumption) | exact Sl.of_own S.wd (k := 0) rfl (fun _ => rfl) | exact Sl.of_own S.wd (k := 1) rfl (fun _ => rfl) | exact Sl.of_own S.wd (k := 2) rfl (fun _ => rfl) | exact Sl.of_own S.wd (k := 3) rfl (fun _ => rfl) | (simp at *; omega))) rfl ?_) <;> clear S a w)
      rintro _ _ ⟨B2, c2, rfl, rfl⟩ a w S
      (refine st_y S (Yr.ys (ys_move (Ev.t rfl))) rfl ?_; clear S a w; intro a w S)
      (refine st_y S (Yr.ys (ys_ext (Ev.t rfl) rfl)) rfl ?_; clear S a w; intro a w S)
      (refine st_y S (Yr.ys (ys_ext (Ev.t rfl) rfl)) rfl ?_; clear S a w; intro a w S)
      (refine st_y S (Yr.ys (ys_assign (Ev.t rfl))) rfl ?_; clear S a w; intro a w S)
      (refine st_y S (Yr.ys (ys_assign (Ev.t rfl))) rfl ?_; clear S a w; intro a w S)
      refine st_nil ?_
      (refine (then_normal (hK1 _ _ ?_)); clear hK1)
      refine wp_seq_k fun _ hK1 => ?_
      refine wp_seq_k fun _ hK2 => ?_
      refine wp_region_lit ?_
      (refine st_y S (Yr.ys (ys_move (Ev.t rfl))) rfl ?_; clear S a w; intro a w S)
      (refine st_y S (Yr.ys (ys_T (by omega) (ys_neq (Ev.t rfl) Ev.c))) rfl ?_; clear S a w; intro a w S)
      refine st_nil ?_
      (refine (then_normal (hK2 _ _ ?_)); clear hK2)
      refine st_then S (Ev.t rfl) ?_
      refine wp_seq_k fun _ hK2 => ?_
      refine wp_region_lit ?_
      (refine st_y S (Yr.ys (ys_bld (ps := []) (us := [_, _]) bld36 EvL.nil rfl)) rfl ?_; clear S a w; intro a w S)
      (refine st_y S (Yr.ys (ys_move (Ev.t rfl))) rfl ?_; clear S a w; intro a w S)
      (refine st_m (op_stW S Try.sizeOf36 (Ev.t rfl) (Ev.t rfl) (k := 4) rfl rfl rfl (by simp [Value.oneCell']) ?_); clear S a w; intro a w S)
      (refine st_y S (Yr.ys (ys_assign (Ev.t rfl))) rfl ?_; clear S a w; intro a w S)
      refine st_nil ?_
      (refine (then_normal (hK2 _ _ ?_)); clear hK2)
      refine wp_ret ?_
      refine (then_ret ?_)
      refine st_ret S (results2 S Try.results76 (Rv.cell (k := 4) ⟨Try.isAgg36, Try.sizeOf36⟩ rfl rfl rfl) (Rv.tmp rfl)) ?_
      rw [hc]
      exact ⟨_, _, rfl, ((S.nil_ 32 3 Dot.enc none).nil_ 43 3 Dot.enc none).wd.picks (by repeat (first | exact Picks.nil | (refine Picks.rest ?_; (repeat (first | exact List.Sublist.refl _ | refine List.Sublist.cons_cons _ ?_ | refine List.Sublist.cons _ ?_)); done) | refine Picks.take 0 rfl ?_ | refine Picks.take 1 rfl ?_ | refine Picks.take 2 rfl ?_ | refine Picks.take 3 rfl ?_ | refine Picks.take 4 rfl ?_ | refine Picks.take 5 rfl ?_ | refine Picks.take 6 rfl ?_ | refine Picks.take 7 rfl ?_ | refine Picks.take 8 rfl ?_ | refine Picks.take 9 rfl ?_ | refine Picks.take 10 rfl ?_ | refine Picks.take 11 rfl ?_)), none, 0, none, 0, rfl, rfl⟩
  · have hc : ctxAt b k = (⟨[], []⟩, (listAt b k).2.1, (listAt b k).2.2) := by unfold ctxAt; rw [bindR_bad e1]
    unfold Go.Fw.RetsO
    refine enterW1 W Try.func76 rfl Try.ntmps76 rfl fun a S => ?_
    refine wp_seq_k fun _ hK1 => ?_
    refine wp_region_lit ?_
    (refine st_m (op_alloc S Try.zeroValue36 (cs := _) rfl rfl ?_); clear S a; intro g1 a w S)
    (refine st_y S (Yr.ys (ys_assign Ev.c)) rfl ?_; clear S a w; intro a w S)
    refine st_nil ?_
    (refine (then_normal (hK1 _ _ ?_)); clear hK1)
    refine wp_seq_k fun _ hK1 => ?_
    refine wp_region_lit ?_
    (refine st_y S (Yr.ys (ys_move (Ev.t rfl))) rfl ?_; clear S a w; intro a w S)
    (replace S := S.pull 2 rfl; try simp only [List.set_cons_zero, List.set_cons_succ, List.eraseIdx_cons_succ, List.eraseIdx_cons_zero] at S; replace S := S.pull 2 rfl; try simp only [List.set_cons_zero, List.set_cons_succ, List.eraseIdx_cons_succ, List.eraseIdx_cons_zero] at S; refine st_m (op_callO S Try.call105 (EvL.cons (Ev.t rfl) (EvL.cons Ev.c EvL.nil)) (c105 S.wd (by first | assumption | omega | exact Sl.nil_ | exact .old S.wd (by assumption) | exact Sl.of_own S.wd (k := 0) rfl (fun _ => rfl) | exact Sl.of_own S.wd (k := 1) rfl (fun _ => rfl) | exact Sl.of_own S.wd (k := 2) rfl (fun _ => rfl) | (simp at *; omega)) (by first | assumption | omega | exact Sl.nil_ | exact .old S.wd (by assumption) | exact Sl.of_own S.wd (k := 0) rfl (fun _ => rfl) | exact Sl.of_own S.wd (k := 1) rfl (fun _ => rfl) | exact Sl.of_own S.wd (k := 2) rfl (fun _ => rfl) | (simp at *; omega))) rfl ?_) <;> clear S a w)
    rintro _ _ ⟨B1, c1, rfl, rfl⟩ a w S
    (refine st_y S (Yr.ys (ys_move (Ev.t rfl))) rfl ?_; clear S a w; intro a w S)
    (refine st_y S (Yr.ys (ys_ext (Ev.t rfl) rfl)) rfl ?_; clear S a w; intro a w S)
    (refine st_y S (Yr.ys (ys_ext (Ev.t rfl) rfl)) rfl ?_; clear S a w; intro a w S)
    (refine st_y S (Yr.ys (ys_assign (Ev.t rfl))) rfl ?_; clear S a w; intro a w S)
    (refine st_y S (Yr.ys (ys_assign (Ev.t rfl))) rfl ?_; clear S a w; intro a w S)
    refine st_nil ?_
    (refine (then_normal (hK1 _ _ ?_)); clear hK1)
    refine wp_seq_k fun _ hK1 => ?_
    refine wp_seq_k fun _ hK2 => ?_
    refine wp_region_lit ?_
    (refine st_y S (Yr.ys (ys_move (Ev.t rfl))) rfl ?_; clear S a w; intro a w S)
    (refine st_y S (Yr.ys (ys_T (by omega) (ys_neq (Ev.t rfl) Ev.c))) rfl ?_; clear S a w; intro a w S)
    refine st_nil ?_
    (refine (then_normal (hK2 _ _ ?_)); clear hK2)
    refine st_then S (Ev.t rfl) ?_
    refine wp_seq_k fun _ hK2 => ?_
    refine wp_region_lit ?_
    (refine st_y S (Yr.ys (ys_bld (ps := []) (us := [_, _]) bld36 EvL.nil rfl)) rfl ?_; clear S a w; intro a w S)
    (refine st_y S (Yr.ys (ys_move (Ev.t rfl))) rfl ?_; clear S a w; intro a w S)
    (refine st_m (op_stW S Try.sizeOf36 (Ev.t rfl) (Ev.t rfl) (k := 3) rfl rfl rfl (by simp [Value.oneCell']) ?_); clear S a w; intro a w S)
    (refine st_y S (Yr.ys (ys_assign (Ev.t rfl))) rfl ?_; clear S a w; intro a w S)
    refine st_nil ?_
    (refine (then_normal (hK2 _ _ ?_)); clear hK2)
    refine wp_ret ?_
    refine (then_ret ?_)
    refine st_ret S (results2 S Try.results76 (Rv.cell (k := 3) ⟨Try.isAgg36, Try.sizeOf36⟩ rfl rfl rfl) (Rv.tmp rfl)) ?_
    rw [hc]
    exact ⟨_, _, rfl, ((S.nil_ 32 3 Dot.enc none).nil_ 43 3 Dot.enc none).wd.picks (by repeat (first | exact Picks.nil | (refine Picks.rest ?_; (repeat (first | exact List.Sublist.refl _ | refine List.Sublist.cons_cons _ ?_ | refine List.Sublist.cons _ ?_)); done) | refine Picks.take 0 rfl ?_ | refine Picks.take 1 rfl ?_ | refine Picks.take 2 rfl ?_ | refine Picks.take 3 rfl ?_ | refine Picks.take 4 rfl ?_ | refine Picks.take 5 rfl ?_ | refine Picks.take 6 rfl ?_ | refine Picks.take 7 rfl ?_ | refine Picks.take 8 rfl ?_ | refine Picks.take 9 rfl ?_ | refine Picks.take 10 rfl ?_ | refine Picks.take 11 rfl ?_)), none, 0, none, 0, rfl, rfl⟩
/-- a context, or the error; with an error nothing was read -/
theorem c36 {w0 w : World} {L : List Chunk} {g cap k : Nat} {A : Option Addr} {b : List UInt8} (W : Wd w0 (rdr g A cap b k L) w) (hk : k ≤ b.length) (hb : b.length ≤ 16777216) :
    RetsO Try.prog 36 #[.pointer (some ⟨g, 0, none⟩)] w0 w (fun v L' => ∃ B c B' c', v = .tuple #[.agg #[.slice B (decAt b k).1.marks.length c, .slice B' (decAt b k).1.cloud.length c'], .int .i64 (decAt b k).2.2] ∧ L' = rdr g A cap b (decAt b k).2.1 (rowOf 43 3 Dot.enc B c (decAt b k).1.marks :: rowOf 32 3 Dot.enc B' c' (decAt b k).1.cloud :: L)) := by
  by_cases e : (ctxAt b k).2.2 = 0
  · have hc : decAt b k = ctxAt b k := by unfold decAt; rw [if_pos e]
    unfold Go.Fw.RetsO
    refine enterW1 W Try.func36 rfl Try.ntmps36 rfl fun a S => ?_
    refine wp_seq_k fun _ hK1 => ?_
    refine wp_region_lit ?_
    (refine st_m (op_alloc S Try.zeroValue36 (cs := _) rfl rfl ?_); clear S a; intro g1 a w S)
    (refine st_y S (Yr.ys (ys_assign Ev.c)) rfl ?_; clear S a w; intro a w S)
    refine st_nil ?_
    (refine (then_normal (hK1 _ _ ?_)); clear hK1)
    refine wp_seq_k fun _ hK1 => ?_
    refine wp_seq_k fun _ hK2 => ?_
    refine wp_region_lit ?_
    (refine st_y S (Yr.ys (ys_move (Ev.t rfl))) rfl ?_; clear S a w; intro a w S)
    (refine st_y S (Yr.ys (ys_pNilS Try.underlying70 (Ev.t rfl) Ev.c)) rfl ?_; clear S a w; intro a w S)
    refine st_nil ?_
    (refine (then_normal (hK2 _ _ ?_)); clear hK2)
    refine st_else S (Ev.t rfl) ?_
    refine wp_skip ?_
    (refine (then_normal (hK1 _ _ ?_)); clear hK1)
    refine wp_seq_k fun _ hK1 => ?_
    refine wp_region_lit ?_
    (refine st_y S (Yr.ys (ys_move (Ev.t rfl))) rfl ?_; clear S a w; intro a w S)
    (refine st_y S (Yr.ys (ys_nilc (Ev.t rfl))) rfl ?_; clear S a w; intro a w S)
    (refine st_y S (Yr.ys (ys_ldA ⟨Try.isAgg134, Try.sizeOf134⟩ (Ev.t rfl) (k := 1) rfl rfl)) rfl ?_; clear S a w; intro a w S)
    (refine st_m (op_alloc S Try.zeroValue134 (cs := _) rfl rfl ?_); clear S a w; intro g2 a w S)
    (refine st_m (op_stW S Try.sizeOf134 (Ev.t rfl) (Ev.t rfl) (k := 0) rfl rfl rfl (by simp [Value.oneCell']) ?_); clear S a w; intro a w S)
    refine st_nil ?_
    (refine (then_normal (hK1 _ _ ?_)); clear hK1)
    refine wp_seq_k fun _ hK1 => ?_
    refine wp_region_lit ?_
    (refine st_y S (Yr.ys (ys_move (Ev.t rfl))) rfl ?_; clear S a w; intro a w S)
    (replace S := S.pull 3 rfl; try simp only [List.set_cons_zero, List.set_cons_succ, List.eraseIdx_cons_succ, List.eraseIdx_cons_zero] at S; replace S := S.pull 3 rfl; try simp only [List.set_cons_zero, List.set_cons_succ, List.eraseIdx_cons_succ, List.eraseIdx_cons_zero] at S; refine st_m (op_callO S Try.call76 (EvL.cons (Ev.t rfl) EvL.nil) (c76 S.wd (by first | assumption | omega | exact Sl.nil_ | exact .old S.wd (by assumption) | exact Sl.of_own S.wd (k := 0) rfl (fun _ => rfl) | exact Sl.of_own S.wd (k := 1) rfl (fun _ => rfl) | exact Sl.of_own S.wd (k := 2) rfl (fun _ => rfl) | exact Sl.of_own S.wd (k := 3) rfl (fun _ => rfl) | (simp at *; omega)) (by first | assumption | omega | exact Sl.nil_ | exact .old S.wd (by assumption) | exact Sl.of_own S.wd (k := 0) rfl (fun _ => rfl) | exact Sl.of_own S.wd (k := 1) rfl (fun _ => rfl) | exact Sl.of_own S.wd (k := 2) rfl (fun _ => rfl) | exact Sl.of_own S.wd (k := 3) rfl (fun _ => rfl) | (simp at *; omega))) rfl ?_) <;> clear S a w)
    rintro _ _ ⟨B1, c1, B'1, c'1, rfl, rfl⟩ a w S
    (refine st_y S (Yr.ys (ys_move (Ev.t rfl))) rfl ?_; clear S a w; intro a w S)
    (refine st_y S (Yr.ys (ys_ext (Ev.t rfl) rfl)) rfl ?_; clear S a w; intro a w S)
    (refine st_y S (Yr.ys (ys_ext (Ev.t rfl) rfl)) rfl ?_; clear S a w; intro a w S)
    (refine st_m (op_alloc S Try.zeroValue36 (cs := _) rfl rfl ?_); clear S a w; intro g3 a w S)
    (refine st_m (op_stW S Try.sizeOf36 (Ev.t rfl) (Ev.t rfl) (k := 0) rfl rfl rfl (by simp [Value.oneCell']) ?_); clear S a w; intro a w S)
    (refine st_y S (Yr.ys (ys_assign (Ev.t rfl))) rfl ?_; clear S a w; intro a w S)
    refine st_nil ?_
    (refine (then_normal (hK1 _ _ ?_)); clear hK1)
    refine wp_seq_k fun _ hK1 => ?_
    refine wp_seq_k fun _ hK2 => ?_
    refine wp_region_lit ?_
    (refine st_y S (Yr.ys (ys_move (Ev.t rfl))) rfl ?_; clear S a w; intro a w S)
    (refine st_y S (Yr.ys (ys_F (by omega) (ys_neq (Ev.t rfl) Ev.c))) rfl ?_; clear S a w; intro a w S)
    refine st_nil ?_
    (refine (then_normal (hK2 _ _ ?_)); clear hK2)
    refine st_else S (Ev.t rfl) ?_
    refine wp_skip ?_
    (refine (then_normal (hK1 _ _ ?_)); clear hK1)
    refine wp_seq_k fun _ hK1 => ?_
    refine wp_region_lit ?_
    (refine st_y S (Yr.ys (ys_ldA ⟨Try.isAgg36, Try.sizeOf36⟩ (Ev.t rfl) (k := 0) rfl rfl)) rfl ?_; clear S a w; intro a w S)
    (refine st_m (op_stW S Try.sizeOf36 (Ev.t rfl) (Ev.t rfl) (k := 6) rfl rfl rfl (by simp [Value.oneCell']) ?_); clear S a w; intro a w S)
    (refine st_y S (Yr.ys (ys_assign Ev.c)) rfl ?_; clear S a w; intro a w S)
    refine st_nil ?_
    (refine (then_normal (hK1 _ _ ?_)); clear hK1)
    refine wp_ret ?_
    refine st_ret S (results2 S Try.results36 (Rv.cell (k := 6) ⟨Try.isAgg36, Try.sizeOf36⟩ rfl rfl rfl) (Rv.tmp rfl)) ?_
    rw [hc, e]
    exact ⟨_, _, rfl, S.wd.picks (by repeat (first | exact Picks.nil | (refine Picks.rest ?_; (repeat (first | exact List.Sublist.refl _ | refine List.Sublist.cons_cons _ ?_ | refine List.Sublist.cons _ ?_)); done) | refine Picks.take 0 rfl ?_ | refine Picks.take 1 rfl ?_ | refine Picks.take 2 rfl ?_ | refine Picks.take 3 rfl ?_ | refine Picks.take 4 rfl ?_ | refine Picks.take 5 rfl ?_ | refine Picks.take 6 rfl ?_ | refine Picks.take 7 rfl ?_ | refine Picks.take 8 rfl ?_ | refine Picks.take 9 rfl ?_ | refine Picks.take 10 rfl ?_ | refine Picks.take 11 rfl ?_)), _, _, _, _, rfl, rfl⟩
  · have hc : decAt b k = (⟨[], []⟩, k, (ctxAt b k).2.2) := by unfold decAt; rw [if_neg e]
    unfold Go.Fw.RetsO
    refine enterW1 W Try.func36 rfl Try.ntmps36 rfl fun a S => ?_
    refine wp_seq_k fun _ hK1 => ?_
    refine wp_region_lit ?_
    (refine st_m (op_alloc S Try.zeroValue36 (cs := _) rfl rfl ?_); clear S a; intro g1 a w S)
    (refine st_y S (Yr.ys (ys_assign Ev.c)) rfl ?_; clear S a w; intro a w S)
    refine st_nil ?_
    (refine (then_normal (hK1 _ _ ?_)); clear hK1)
    refine wp_seq_k fun _ hK1 => ?_
    refine wp_seq_k fun _ hK2 => ?_
    refine wp_region_lit ?_
    (refine st_y S (Yr.ys (ys_move (Ev.t rfl))) rfl ?_; clear S a w; intro a w S)
    (refine st_y S (Yr.ys (ys_pNilS Try.underlying70 (Ev.t rfl) Ev.c)) rfl ?_; clear S a w; intro a w S)
    refine st_nil ?_
    (refine (then_normal (hK2 _ _ ?_)); clear hK2)
    refine st_else S (Ev.t rfl) ?_
    refine wp_skip ?_
    (refine (then_normal (hK1 _ _ ?_)); clear hK1)
    refine wp_seq_k fun _ hK1 => ?_
    refine wp_region_lit ?_
    (refine st_y S (Yr.ys (ys_move (Ev.t rfl))) rfl ?_; clear S a w; intro a w S)
    (refine st_y S (Yr.ys (ys_nilc (Ev.t rfl))) rfl ?_; clear S a w; intro a w S)
    (refine st_y S (Yr.ys (ys_ldA ⟨Try.isAgg134, Try.sizeOf134⟩ (Ev.t rfl) (k := 1) rfl rfl)) rfl ?_; clear S a w; intro a w S)
    (refine st_m (op_alloc S Try.zeroValue134 (cs := _) rfl rfl ?_); clear S a w; intro g2 a w S)
    (refine st_m (op_stW S Try.sizeOf134 (Ev.t rfl) (Ev.t rfl) (k := 0) rfl rfl rfl (by simp [Value.oneCell']) ?_); clear S a w; intro a w S)
    refine st_nil ?_
    (refine (then_normal (hK1 _ _ ?_)); clear hK1)
    refine wp_seq_k fun _ hK1 => ?_
    refine wp_region_lit ?_
    (refine st_y S (Yr.ys (ys_move (Ev.t rfl))) rfl ?_; clear S a w; intro a w S)
    (replace S := S.pull 3 rfl; try simp only [List.set_cons_zero, List.set_cons_succ, List.eraseIdx_cons_succ, List.eraseIdx_cons_zero] at S; replace S := S.pull 3 rfl; try simp only [List.set_cons_zero, List.set_cons_succ, List.eraseIdx_cons_succ, List.eraseIdx_cons_zero] at S; refine st_m (op_callO S Try.call76 (EvL.cons (Ev.t rfl) EvL.nil) (c76 S.wd (by first | assumption | omega | exact Sl.nil_ | exact .old S.wd (by assumption) | exact Sl.of_own S.wd (k := 0) rfl (fun _ => rfl) | exact Sl.of_own S.wd (k := 1) rfl (fun _ => rfl) | exact Sl.of_own S.wd (k := 2) rfl (fun _ => rfl) | exact Sl.of_own S.wd (k := 3) rfl (fun _ => rfl) | (simp at *; omega)) (by first | assumption | omega | exact Sl.nil_ | exact .old S.wd (by assumption) | exact Sl.of_own S.wd (k := 0) rfl (fun _ => rfl) | exact Sl.of_own S.wd (k := 1) rfl (fun _ => rfl) | exact Sl.of_own S.wd (k := 2) rfl (fun _ => rfl) | exact Sl.of_own S.wd (k := 3) rfl (fun _ => rfl) | (simp at *; omega))) rfl ?_) <;> clear S a w)
    rintro _ _ ⟨B1, c1, B'1, c'1, rfl, rfl⟩ a w S
    (refine st_y S (Yr.ys (ys_move (Ev.t rfl))) rfl ?_; clear S a w; intro a w S)
    (refine st_y S (Yr.ys (ys_ext (Ev.t rfl) rfl)) rfl ?_; clear S a w; intro a w S)
    (refine st_y S (Yr.ys (ys_ext (Ev.t rfl) rfl)) rfl ?_; clear S a w; intro a w S)
    (refine st_m (op_alloc S Try.zeroValue36 (cs := _) rfl rfl ?_); clear S a w; intro g3 a w S)
    (refine st_m (op_stW S Try.sizeOf36 (Ev.t rfl) (Ev.t rfl) (k := 0) rfl rfl rfl (by simp [Value.oneCell']) ?_); clear S a w; intro a w S)
    (refine st_y S (Yr.ys (ys_assign (Ev.t rfl))) rfl ?_; clear S a w; intro a w S)
    refine st_nil ?_
    (refine (then_normal (hK1 _ _ ?_)); clear hK1)
    refine wp_seq_k fun _ hK1 => ?_
    refine wp_seq_k fun _ hK2 => ?_
    refine wp_region_lit ?_
    (refine st_y S (Yr.ys (ys_move (Ev.t rfl))) rfl ?_; clear S a w; intro a w S)
    (refine st_y S (Yr.ys (ys_T (by omega) (ys_neq (Ev.t rfl) Ev.c))) rfl ?_; clear S a w; intro a w S)
    refine st_nil ?_
    (refine (then_normal (hK2 _ _ ?_)); clear hK2)
    refine st_then S (Ev.t rfl) ?_
    refine wp_seq_k fun _ hK2 => ?_
    refine wp_region_lit ?_
    (refine st_y S (Yr.ys (ys_move (Ev.t rfl))) rfl ?_; clear S a w; intro a w S)
    (refine st_y S (Yr.ys (ys_ldA ⟨Try.isAgg134, Try.sizeOf134⟩ (Ev.t rfl) (k := 5) rfl rfl)) rfl ?_; clear S a w; intro a w S)
    (refine st_y S (Yr.ys (ys_nilc (Ev.t rfl))) rfl ?_; clear S a w; intro a w S)
    (refine st_m (op_stW S Try.sizeOf134 (Ev.t rfl) (Ev.t rfl) (k := 1) rfl rfl rfl (by simp [Value.oneCell']) ?_); clear S a w; intro a w S)
    refine st_nil ?_
    (refine (then_normal (hK2 _ _ ?_)); clear hK2)
    refine wp_seq_k fun _ hK2 => ?_
    refine wp_region_lit ?_
    (refine st_y S (Yr.ys (ys_bld (ps := []) (us := [_, _]) bld36 EvL.nil rfl)) rfl ?_; clear S a w; intro a w S)
    (refine st_y S (Yr.ys (ys_move (Ev.t rfl))) rfl ?_; clear S a w; intro a w S)
    (refine st_m (op_stW S Try.sizeOf36 (Ev.t rfl) (Ev.t rfl) (k := 6) rfl rfl rfl (by simp [Value.oneCell']) ?_); clear S a w; intro a w S)
    (refine st_y S (Yr.ys (ys_assign (Ev.t rfl))) rfl ?_; clear S a w; intro a w S)
    refine st_nil ?_
    (refine (then_normal (hK2 _ _ ?_)); clear hK2)
    refine wp_ret ?_
    refine (then_ret ?_)
    refine st_ret S (results2 S Try.results36 (Rv.cell (k := 6) ⟨Try.isAgg36, Try.sizeOf36⟩ rfl rfl rfl) (Rv.tmp rfl)) ?_
    rw [hc]
    exact ⟨_, _, rfl, ((S.nil_ 32 3 Dot.enc none).nil_ 43 3 Dot.enc none).wd.picks (by repeat (first | exact Picks.nil | (refine Picks.rest ?_; (repeat (first | exact List.Sublist.refl _ | refine List.Sublist.cons_cons _ ?_ | refine List.Sublist.cons _ ?_)); done) | refine Picks.take 0 rfl ?_ | refine Picks.take 1 rfl ?_ | refine Picks.take 2 rfl ?_ | refine Picks.take 3 rfl ?_ | refine Picks.take 4 rfl ?_ | refine Picks.take 5 rfl ?_ | refine Picks.take 6 rfl ?_ | refine Picks.take 7 rfl ?_ | refine Picks.take 8 rfl ?_ | refine Picks.take 9 rfl ?_ | refine Picks.take 10 rfl ?_ | refine Picks.take 11 rfl ?_)), none, 0, none, 0, rfl, rfl⟩
end Go.Proofs.Ytjfeeiljinbmjaa
