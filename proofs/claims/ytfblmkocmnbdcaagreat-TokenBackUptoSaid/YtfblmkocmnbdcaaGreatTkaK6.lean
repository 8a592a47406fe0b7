/- Contracts and laws that the statement Tka leans on, part 6. -/
import Derived.Test.YtfblmkocmnbdcaaGreatTkaK5
import Derived.ScopeJumps
import Derived.LoopN
set_option linter.unusedVariables false
set_option linter.unusedSimpArgs false
set_option maxRecDepth 100000
set_option maxHeartbeats 4000000
namespace Go.Fw
theorem unframe_bad {b : List UInt8} (h : (unframeL b).2.2 ≠ 0) : (unframeL b).1 = [] ∧ (unframeL b).2.1 = [] := by
  unfold unframeL at h ⊢
  repeat' split
  all_goals first | exact ⟨rfl, rfl⟩ | skip
  simp_all
end Go.Fw
namespace Go.Proofs.YtfblmkocmnbdcaaGreat
open Go.Fw Go.Proofs Go.RowKit Go.Proofs.Tryz
theorem c77 (w0 : World) (v1 : Value) (b : List UInt8) (h : Sl encB 1 w0 w0.heap.size v1 b) (hb : b.length ≤ 16777216) :
    Rets Tryz.prog 77 #[v1] w0 fun v L => ∃ A r A' r', v = .tuple #[.slice A (unframeL b).1.length r, .slice A' (unframeL b).2.1.length r', .int .i64 (unframeL b).2.2] ∧ L = [rowOf 5 1 encB A r (unframeL b).1, rowOf 5 1 encB A' r' (unframeL b).2.1] := by
  obtain ⟨A, cap, rfl, hlc, hcap, hA⟩ := id h
  unfold Go.Fw.Rets
  refine enter1 func77 rfl ntmps77 rfl fun a S => sg S (.ac rfl <| .ac rfl <| .ac rfl <| .z) fun a w S => wp_seq_k fun _ hK1 => wp_region_lit (run S (.mv rfl <| .z) fun a w S => ?_)
  (refine st_m (op_calls S call56 (.cons (.t rfl) .nil) (c56 _ _ _ (by exact .old S.wd (by assumption)) (by assumption)) rfl ?_); clear S a w; rintro _ _ ⟨g1, A1, c1, rfl, rfl⟩ a w S)
  refine st_m (op_alloc S zeroValue92 (cs := _) rfl rfl fun g2 a w S => st_m (op_st S sizeOf92 (.t rfl) (.t rfl) (k := 0) rfl rfl (by simp) fun a w S => st_nil (then_normal (hK1 _ _ (wp_seq_k fun _ hK1 => wp_region_lit (st_m (op_alloc S zeroValue28 (cs := _) rfl rfl fun g3 a w S => st_m (op_alloc S zeroValue28 (cs := _) rfl rfl fun g4 a w S => st_nil (then_normal (hK1 _ _ (wp_seq_k fun _ hK1 => wp_region_lit (run S (.yy (ys_mkFunc (.cons (.t rfl) (.cons (.t rfl) (.cons (.t rfl) .nil)))) rfl <| .z) fun a w S => ?_))))))))))))
  have W2 := S.wd.picks (L' := rdr g1 A1 c1 b 0 [.blk g2 (.cells #[.pointer (some ⟨g1, 0, none⟩)] 92), .blk g3 (.cells #[.slice none 0 0] 28), .blk g4 (.cells #[.slice none 0 0] 28)]) (by repeat (first | exact Picks.nil | (refine Picks.rest ?_; (repeat (first | exact List.Sublist.refl _ | refine List.Sublist.cons_cons _ ?_ | refine List.Sublist.cons _ ?_)); done) | refine Picks.take 0 rfl ?_ | refine Picks.take 1 rfl ?_ | refine Picks.take 2 rfl ?_ | refine Picks.take 3 rfl ?_ | refine Picks.take 4 rfl ?_ | refine Picks.take 5 rfl ?_ | refine Picks.take 6 rfl ?_ | refine Picks.take 7 rfl ?_ | refine Picks.take 8 rfl ?_ | refine Picks.take 9 rfl ?_ | refine Picks.take 10 rfl ?_ | refine Picks.take 11 rfl ?_))
  replace S := St.mk S.kn W2
  refine st_m (op_callO S call137 (.cons (.t rfl) .nil) (tryW (f := 138) (cs := [.pointer (some ⟨g2, 0, none⟩), .pointer (some ⟨g3, 0, none⟩), .pointer (some ⟨g4, 0, none⟩)])
    (R := fun x L' => (x = 0 ∧ (unframeL b).2.2 = 0 ∧ ∃ P r Q s, L' = [.blk g3 (.cells #[.slice P (unframeL b).1.length r] 28), .blk g4 (.cells #[.slice Q (unframeL b).2.1.length s] 28), rowOf 5 1 encB P r (unframeL b).1, rowOf 5 1 encB Q s (unframeL b).2.1]) ∨ (x ≠ 0 ∧ x = (unframeL b).2.2 ∧ L' = []))
    S.wd call138 fun C w1 W1 => Calls.mono (q138 (L := [C]) (W1.pk) hb) ?_) rfl ?_)
  · intro e w' h
    rcases h with ⟨v, L', rfl, hw, h1, rfl, P, r, Q, s, rfl⟩ | ⟨x, L', rfl, hw, rfl, h1, rfl⟩
    · exact .inl ⟨_, _, rfl, hw.picks (L' := C :: [.blk g3 (.cells #[.slice P (unframeL b).1.length r] 28), .blk g4 (.cells #[.slice Q (unframeL b).2.1.length s] 28), rowOf 5 1 encB P r (unframeL b).1, rowOf 5 1 encB Q s (unframeL b).2.1]) (by repeat (first | exact Picks.nil | (refine Picks.rest ?_; (repeat (first | exact List.Sublist.refl _ | refine List.Sublist.cons_cons _ ?_ | refine List.Sublist.cons _ ?_)); done) | refine Picks.take 0 rfl ?_ | refine Picks.take 1 rfl ?_ | refine Picks.take 2 rfl ?_ | refine Picks.take 3 rfl ?_ | refine Picks.take 4 rfl ?_ | refine Picks.take 5 rfl ?_ | refine Picks.take 6 rfl ?_ | refine Picks.take 7 rfl ?_ | refine Picks.take 8 rfl ?_ | refine Picks.take 9 rfl ?_ | refine Picks.take 10 rfl ?_ | refine Picks.take 11 rfl ?_)), _, rfl, rfl, .inl ⟨rfl, h1, P, r, Q, s, rfl⟩⟩
    · exact .inr ⟨_, _, rfl, hw, _, rfl, .inr ⟨h1, rfl, rfl⟩⟩
  clear S W2
  rintro _ _ ⟨x, rfl, h⟩ a w S
  rcases h with ⟨rfl, h1, P, r, Q, s, rfl⟩ | ⟨hx, rfl, rfl⟩
  · refine run S (.as rfl <| .z) fun a w S => st_nil (then_normal (hK1 _ _ (wp_seq_k fun _ hK1 => sg S (.mv rfl <| .yy (ys_F (by omega) (ys_neq (.t rfl) Ev.c)) rfl <| .z) fun a w S => st_else S (.t rfl) (wp_skip (then_normal (hK1 _ _ (wp_seq_k fun _ hK1 => st_quiet S (by kernel_rfl) (by kernel_rfl) fun a S => qrun S (.ld gt28 0 rfl rfl rfl <| .ld gt28 1 rfl rfl rfl <| .as rfl <| .as rfl <| .ac rfl <| .z) fun a S => ?_)))))))
    (refine q_nil ?_; intro w W; replace S := St.mk S W; clear W)
    refine then_normal (hK1 _ _ (wp_ret (st_ret S (results3 S results77 (Rv.tmp rfl) (Rv.tmp rfl) (Rv.tmp rfl)) ?_)))
    rw [h1]
    exact ⟨_, _, rfl, S.wd.picks (L' := [rowOf 5 1 encB P r (unframeL b).1, rowOf 5 1 encB Q s (unframeL b).2.1]) (by repeat (first | exact Picks.nil | (refine Picks.rest ?_; (repeat (first | exact List.Sublist.refl _ | refine List.Sublist.cons_cons _ ?_ | refine List.Sublist.cons _ ?_)); done) | refine Picks.take 0 rfl ?_ | refine Picks.take 1 rfl ?_ | refine Picks.take 2 rfl ?_ | refine Picks.take 3 rfl ?_ | refine Picks.take 4 rfl ?_ | refine Picks.take 5 rfl ?_ | refine Picks.take 6 rfl ?_ | refine Picks.take 7 rfl ?_ | refine Picks.take 8 rfl ?_ | refine Picks.take 9 rfl ?_ | refine Picks.take 10 rfl ?_ | refine Picks.take 11 rfl ?_)), _, _, _, _, rfl, rfl⟩
  · have hz := unframe_bad hx
    have rw_d : decide ((unframeL b).2.2 ≠ 0) = true := decide_eq_true hx
    refine run S (.as rfl <| .z) fun a w S => st_nil (then_normal (hK1 _ _ (wp_seq_k fun _ hK1 => sg S (.mv rfl <| .yy (ys_T (by omega) (ys_neq (.t rfl) Ev.c)) rfl <| .z) fun a w S => st_then S (.t rfl) (sg S (.mv rfl <| .ac rfl <| .ac rfl <| .as rfl <| .z) fun a w S => wp_ret (then_ret (st_ret S (results3 S results77 (Rv.tmp rfl) (Rv.tmp rfl) (Rv.tmp rfl)) ?_))))))
    rw [hz.1, hz.2]
    exact ⟨_, _, rfl, ((S.nil_ 5 1 encB none).nil_ 5 1 encB none).wd, _, _, _, _, rfl, rfl⟩
end Go.Proofs.YtfblmkocmnbdcaaGreat
set_option linter.unusedVariables false
set_option linter.unusedSimpArgs false
set_option maxRecDepth 100000
set_option maxHeartbeats 4000000
namespace Go.Proofs.YtfblmkocmnbdcaaGreat
open Go.Fw Go.Proofs Go.RowKit Go.Proofs.Tryz
theorem c64 {w0 w : World} {L : List Chunk} {g cap k : Nat} {A : Option Addr} {b : List UInt8} (W : Wd w0 (rds g A cap b k L) w) (hs : Sl encB 1 w0 w0.heap.size (.slice A b.length cap) b) (hk : k ≤ b.length) (hb : b.length ≤ 16777216) :
    RetsO Tryz.prog 64 #[.pointer (some ⟨g, 0, none⟩)] w0 w (fun v L' => ∃ x k', v = .tuple #[.agg (Ent.enc x).toArray, .int .i64 (entAt b k).2.2] ∧ L' = rds g A cap b k' L ∧ EntRd b k x k') := by
  have t1 := textR_le (most := 32) hk
  obtain ⟨s, k1, e, hT⟩ : ∃ s k1 e, textR b k 32 = (s, k1, e) := ⟨_, _, _, rfl⟩
  have rw_T1 : (textR b k 32).1 = s := by rw [hT]
  have rw_T2 : (textR b k 32).2.1 = k1 := by rw [hT]
  have rw_T3 : (textR b k 32).2.2 = e := by rw [hT]
  rw [rw_T2] at t1
  by_cases e0 : e = 0
  rotate_left
  · have rw_d : decide (e ≠ 0) = true := decide_eq_true e0
    have he0 : (entAt b k).2.2 = e := by unfold entAt; rw [bindR_bad (by rw [rw_T3]; exact e0), rw_T3]
    unfold Go.Fw.RetsO
    refine enterW1 W func64 rfl ntmps64 rfl fun a S => wp_seq_k fun _ hK1 => wp_region_lit (st_m (op_alloc S zeroValue71 (cs := _) rfl rfl fun g1 a w S => run S (.ac rfl <| .z) fun a w S => st_nil (then_normal (hK1 _ _ (wp_seq_k fun _ hK1 => wp_region_lit (run S (.mv rfl <| .z) fun a w S => ?_))))))
    (replace S := S.pull 1 rfl; try simp only [List.set_cons_zero, List.set_cons_succ, List.eraseIdx_cons_succ, List.eraseIdx_cons_zero] at S; refine st_m (op_callO S call123 (.cons (.t rfl) (.cons Ev.c .nil)) (c123 S.wd (by first | assumption | omega | (dsimp only; omega) | exact Sl.nil_ | exact .old S.wd (by assumption) | exact Sl.of_own S.wd (k := 0) rfl (fun _ => rfl) | exact Sl.of_own S.wd (k := 1) rfl (fun _ => rfl) | (simp at *; omega)) (by first | assumption | omega | (dsimp only; omega) | exact Sl.nil_ | exact .old S.wd (by assumption) | exact Sl.of_own S.wd (k := 0) rfl (fun _ => rfl) | exact Sl.of_own S.wd (k := 1) rfl (fun _ => rfl) | (simp at *; omega)) (by first | assumption | omega | (dsimp only; omega) | exact Sl.nil_ | exact .old S.wd (by assumption) | exact Sl.of_own S.wd (k := 0) rfl (fun _ => rfl) | exact Sl.of_own S.wd (k := 1) rfl (fun _ => rfl) | (simp at *; omega))) rfl ?_) <;> clear S a w)
    rintro _ _ ⟨rfl, rfl⟩ a w S
    rw [rw_T1] at S
    rw [rw_T2] at S
    rw [rw_T3] at S
    refine run S (.mv rfl <| .ex rfl rfl <| .ex rfl rfl <| .as rfl <| .as rfl <| .z) fun a w S => st_nil (then_normal (hK1 _ _ (wp_seq_k fun _ hK1 => sg S (.mv rfl <| .yy (ys_T (by omega) (ys_neq (.t rfl) Ev.c)) rfl <| .z) fun a w S => st_then S (.t rfl) (wp_seq_k fun _ hK2 => wp_region_lit (run S (.yy (ys_bld (ps := []) (us := [_, _, _, _, _, _]) bld71 .nil rfl) rfl <| .mv rfl <| .z) fun a w S => st_m (op_stW S sizeOf71 (.t rfl) (.t rfl) (k := 1) rfl rfl rfl (by simp [Value.oneCell']) fun a w S => run S (.as rfl <| .z) fun a w S => st_nil (then_normal (hK2 _ _ (wp_ret (then_ret (st_ret S (results2 S results64 (Rv.cell (k := 1) ⟨isAgg71, sizeOf71⟩ rfl rfl rfl) (Rv.tmp rfl)) ?_)))))))))))
    exact ⟨_, _, rfl, S.wd.picks (L' := rds g A cap b k1 L) (by repeat (first | exact Picks.nil | (refine Picks.rest ?_; (repeat (first | exact List.Sublist.refl _ | refine List.Sublist.cons_cons _ ?_ | refine List.Sublist.cons _ ?_)); done) | refine Picks.take 0 rfl ?_ | refine Picks.take 1 rfl ?_ | refine Picks.take 2 rfl ?_ | refine Picks.take 3 rfl ?_ | refine Picks.take 4 rfl ?_ | refine Picks.take 5 rfl ?_ | refine Picks.take 6 rfl ?_ | refine Picks.take 7 rfl ?_ | refine Picks.take 8 rfl ?_ | refine Picks.take 9 rfl ?_ | refine Picks.take 10 rfl ?_ | refine Picks.take 11 rfl ?_)), Ent.none, k1, by rw [he0]; rfl, rfl, t1.2, fun h => absurd (he0.symm.trans h) e0⟩
  subst e0
  obtain ⟨x1, k2, e1, hN1⟩ : ∃ x k e, numAt b k1 = (x, k, e) := ⟨_, _, _, rfl⟩
  have t2 := numAt_le (b := b) (k := k1) (by omega)
  have rw_N1a : (numAt b k1).1 = x1 := by rw [hN1]
  have rw_N1b : (numAt b k1).2.1 = k2 := by rw [hN1]
  have rw_N1c : (numAt b k1).2.2 = e1 := by rw [hN1]
  rw [rw_N1b] at t2
  have he1 : e1 ≠ 0 → (entAt b k).2.2 = e1 := fun h => by
    unfold entAt
    rw [hT, bindR_ok rfl]
    dsimp only
    rw [hN1, bindR_bad (by exact h)]
  by_cases h1 : e1 = 0
  rotate_left
  · have rw_d : decide (e1 ≠ 0) = true := decide_eq_true h1
    unfold Go.Fw.RetsO
    refine enterW1 W func64 rfl ntmps64 rfl fun a S => wp_seq_k fun _ hK1 => wp_region_lit (st_m (op_alloc S zeroValue71 (cs := _) rfl rfl fun g1 a w S => run S (.ac rfl <| .z) fun a w S => st_nil (then_normal (hK1 _ _ (wp_seq_k fun _ hK1 => wp_region_lit (run S (.mv rfl <| .z) fun a w S => ?_))))))
    (replace S := S.pull 1 rfl; try simp only [List.set_cons_zero, List.set_cons_succ, List.eraseIdx_cons_succ, List.eraseIdx_cons_zero] at S; refine st_m (op_callO S call123 (.cons (.t rfl) (.cons Ev.c .nil)) (c123 S.wd (by first | assumption | omega | (dsimp only; omega) | exact Sl.nil_ | exact .old S.wd (by assumption) | exact Sl.of_own S.wd (k := 0) rfl (fun _ => rfl) | exact Sl.of_own S.wd (k := 1) rfl (fun _ => rfl) | (simp at *; omega)) (by first | assumption | omega | (dsimp only; omega) | exact Sl.nil_ | exact .old S.wd (by assumption) | exact Sl.of_own S.wd (k := 0) rfl (fun _ => rfl) | exact Sl.of_own S.wd (k := 1) rfl (fun _ => rfl) | (simp at *; omega)) (by first | assumption | omega | (dsimp only; omega) | exact Sl.nil_ | exact .old S.wd (by assumption) | exact Sl.of_own S.wd (k := 0) rfl (fun _ => rfl) | exact Sl.of_own S.wd (k := 1) rfl (fun _ => rfl) | (simp at *; omega))) rfl ?_) <;> clear S a w)
    rintro _ _ ⟨rfl, rfl⟩ a w S
    rw [rw_T1] at S
    rw [rw_T2] at S
    rw [rw_T3] at S
    refine run S (.mv rfl <| .ex rfl rfl <| .ex rfl rfl <| .as rfl <| .as rfl <| .z) fun a w S => st_nil (then_normal (hK1 _ _ (wp_seq_k fun _ hK1 => sg S (.mv rfl <| .yy (ys_F (by omega) (ys_neq (.t rfl) Ev.c)) rfl <| .z) fun a w S => st_else S (.t rfl) (wp_skip (then_normal (hK1 _ _ (wp_seq_k fun _ hK1 => wp_region_lit (st_m (op_alloc S zeroValue153 (cs := _) rfl rfl fun g2 a w S => st_nil (then_normal (hK1 _ _ (wp_seq_k fun _ hK1 => sg S (.mc rfl <| .z) fun a w S => wp_block (st_rounds 5 (st_round (sg S (.yy (ys_T (by omega) (ys_lss (.t rfl) Ev.c)) rfl <| .z) fun a w S => wp_seq_k fun _ hK2 => st_then S (.t rfl) (wp_skip (then_normal (hK2 _ _ (wp_seq_k fun _ hK2 => wp_block (sg S (.mv rfl <| .as rfl <| .z) fun a w S => wp_seq_k fun _ hK3 => wp_region_lit (run S (.mv rfl <| .z) fun a w S => ?_)))))))))))))))))))))
    (replace S := S.pull 1 rfl; try simp only [List.set_cons_zero, List.set_cons_succ, List.eraseIdx_cons_succ, List.eraseIdx_cons_zero] at S; refine st_m (op_callO S call63 (.cons (.t rfl) .nil) (c63 S.wd (by first | assumption | omega | (dsimp only; omega) | exact Sl.nil_ | exact .old S.wd (by assumption) | exact Sl.of_own S.wd (k := 0) rfl (fun _ => rfl) | exact Sl.of_own S.wd (k := 1) rfl (fun _ => rfl) | exact Sl.of_own S.wd (k := 2) rfl (fun _ => rfl) | (simp at *; omega)) (by first | assumption | omega | (dsimp only; omega) | exact Sl.nil_ | exact .old S.wd (by assumption) | exact Sl.of_own S.wd (k := 0) rfl (fun _ => rfl) | exact Sl.of_own S.wd (k := 1) rfl (fun _ => rfl) | exact Sl.of_own S.wd (k := 2) rfl (fun _ => rfl) | (simp at *; omega)) (by first | assumption | omega | (dsimp only; omega) | exact Sl.nil_ | exact .old S.wd (by assumption) | exact Sl.of_own S.wd (k := 0) rfl (fun _ => rfl) | exact Sl.of_own S.wd (k := 1) rfl (fun _ => rfl) | exact Sl.of_own S.wd (k := 2) rfl (fun _ => rfl) | (simp at *; omega))) rfl ?_) <;> clear S a w)
    rintro _ _ ⟨rfl, rfl⟩ a w S
    rw [rw_N1a] at S
    rw [rw_N1b] at S
    rw [rw_N1c] at S
    refine run S (.mv rfl <| .ex rfl rfl <| .ex rfl rfl <| .as rfl <| .as rfl <| .z) fun a w S => st_nil (then_normal (hK3 _ _ (wp_seq_k fun _ hK3 => sg S (.mv rfl <| .yy (ys_T (by omega) (ys_neq (.t rfl) Ev.c)) rfl <| .z) fun a w S => st_then S (.t rfl) (wp_seq_k fun _ hK4 => wp_region_lit (run S (.yy (ys_bld (ps := []) (us := [_, _, _, _, _, _]) bld71 .nil rfl) rfl <| .mv rfl <| .z) fun a w S => st_m (op_stW S sizeOf71 (.t rfl) (.t rfl) (k := 2) rfl rfl rfl (by simp [Value.oneCell']) fun a w S => run S (.as rfl <| .z) fun a w S => st_nil (then_normal (hK4 _ _ (wp_ret (then_ret (in_ret (then_ret (then_ret (in_ret (then_ret (st_ret S (results2 S results64 (Rv.cell (k := 2) ⟨isAgg71, sizeOf71⟩ rfl rfl rfl) (Rv.tmp rfl)) ?_))))))))))))))))
    exact ⟨_, _, rfl, S.wd.picks (L' := rds g A cap b k2 L) (by repeat (first | exact Picks.nil | (refine Picks.rest ?_; (repeat (first | exact List.Sublist.refl _ | refine List.Sublist.cons_cons _ ?_ | refine List.Sublist.cons _ ?_)); done) | refine Picks.take 0 rfl ?_ | refine Picks.take 1 rfl ?_ | refine Picks.take 2 rfl ?_ | refine Picks.take 3 rfl ?_ | refine Picks.take 4 rfl ?_ | refine Picks.take 5 rfl ?_ | refine Picks.take 6 rfl ?_ | refine Picks.take 7 rfl ?_ | refine Picks.take 8 rfl ?_ | refine Picks.take 9 rfl ?_ | refine Picks.take 10 rfl ?_ | refine Picks.take 11 rfl ?_)), Ent.none, k2, by rw [he1 h1]; rfl, rfl, by omega, fun h => absurd ((he1 h1).symm.trans h) h1⟩
  subst h1
  unfold Go.Fw.RetsO
  refine enterW1 W func64 rfl ntmps64 rfl fun a S => wp_seq_k fun _ hK1 => wp_region_lit (st_m (op_alloc S zeroValue71 (cs := _) rfl rfl fun g1 a w S => run S (.ac rfl <| .z) fun a w S => st_nil (then_normal (hK1 _ _ (wp_seq_k fun _ hK1 => wp_region_lit (run S (.mv rfl <| .z) fun a w S => ?_))))))
  (replace S := S.pull 1 rfl; try simp only [List.set_cons_zero, List.set_cons_succ, List.eraseIdx_cons_succ, List.eraseIdx_cons_zero] at S; refine st_m (op_callO S call123 (.cons (.t rfl) (.cons Ev.c .nil)) (c123 S.wd (by first | assumption | omega | (dsimp only; omega) | exact Sl.nil_ | exact .old S.wd (by assumption) | exact Sl.of_own S.wd (k := 0) rfl (fun _ => rfl) | exact Sl.of_own S.wd (k := 1) rfl (fun _ => rfl) | (simp at *; omega)) (by first | assumption | omega | (dsimp only; omega) | exact Sl.nil_ | exact .old S.wd (by assumption) | exact Sl.of_own S.wd (k := 0) rfl (fun _ => rfl) | exact Sl.of_own S.wd (k := 1) rfl (fun _ => rfl) | (simp at *; omega)) (by first | assumption | omega | (dsimp only; omega) | exact Sl.nil_ | exact .old S.wd (by assumption) | exact Sl.of_own S.wd (k := 0) rfl (fun _ => rfl) | exact Sl.of_own S.wd (k := 1) rfl (fun _ => rfl) | (simp at *; omega))) rfl ?_) <;> clear S a w)
  rintro _ _ ⟨rfl, rfl⟩ a w S
  rw [rw_T1] at S
  rw [rw_T2] at S
  rw [rw_T3] at S
  refine run S (.mv rfl <| .ex rfl rfl <| .ex rfl rfl <| .as rfl <| .as rfl <| .z) fun a w S => st_nil (then_normal (hK1 _ _ (wp_seq_k fun _ hK1 => sg S (.mv rfl <| .yy (ys_F (by omega) (ys_neq (.t rfl) Ev.c)) rfl <| .z) fun a w S => st_else S (.t rfl) (wp_skip (then_normal (hK1 _ _ (wp_seq_k fun _ hK1 => wp_region_lit (st_m (op_alloc S zeroValue153 (cs := _) rfl rfl fun g2 a w S => st_nil (then_normal (hK1 _ _ (wp_seq_k fun _ hK1 => sg S (.mc rfl <| .z) fun a w S => wp_block (st_rounds 5 (st_round (sg S (.yy (ys_T (by omega) (ys_lss (.t rfl) Ev.c)) rfl <| .z) fun a w S => wp_seq_k fun _ hK2 => st_then S (.t rfl) (wp_skip (then_normal (hK2 _ _ (wp_seq_k fun _ hK2 => wp_block (sg S (.mv rfl <| .as rfl <| .z) fun a w S => wp_seq_k fun _ hK3 => wp_region_lit (run S (.mv rfl <| .z) fun a w S => ?_)))))))))))))))))))))
  (replace S := S.pull 1 rfl; try simp only [List.set_cons_zero, List.set_cons_succ, List.eraseIdx_cons_succ, List.eraseIdx_cons_zero] at S; refine st_m (op_callO S call63 (.cons (.t rfl) .nil) (c63 S.wd (by first | assumption | omega | (dsimp only; omega) | exact Sl.nil_ | exact .old S.wd (by assumption) | exact Sl.of_own S.wd (k := 0) rfl (fun _ => rfl) | exact Sl.of_own S.wd (k := 1) rfl (fun _ => rfl) | exact Sl.of_own S.wd (k := 2) rfl (fun _ => rfl) | (simp at *; omega)) (by first | assumption | omega | (dsimp only; omega) | exact Sl.nil_ | exact .old S.wd (by assumption) | exact Sl.of_own S.wd (k := 0) rfl (fun _ => rfl) | exact Sl.of_own S.wd (k := 1) rfl (fun _ => rfl) | exact Sl.of_own S.wd (k := 2) rfl (fun _ => rfl) | (simp at *; omega)) (by first | assumption | omega | (dsimp only; omega) | exact Sl.nil_ | exact .old S.wd (by assumption) | exact Sl.of_own S.wd (k := 0) rfl (fun _ => rfl) | exact Sl.of_own S.wd (k := 1) rfl (fun _ => rfl) | exact Sl.of_own S.wd (k := 2) rfl (fun _ => rfl) | (simp at *; omega))) rfl ?_) <;> clear S a w)
  rintro _ _ ⟨rfl, rfl⟩ a w S
  rw [rw_N1a] at S
  rw [rw_N1b] at S
  rw [rw_N1c] at S
  refine run S (.mv rfl <| .ex rfl rfl <| .ex rfl rfl <| .as rfl <| .as rfl <| .z) fun a w S => st_nil (then_normal (hK3 _ _ (wp_seq_k fun _ hK3 => sg S (.mv rfl <| .yy (ys_F (by omega) (ys_neq (.t rfl) Ev.c)) rfl <| .z) fun a w S => st_else S (.t rfl) (wp_skip (then_normal (hK3 _ _ (wp_region_lit (run S (.mv rfl <| .mv rfl <| .yy (ys_ixA (j := 0) underlying153 sizeOf3 (.t rfl) (.t rfl) (fun _ => by decide)) rfl <| .z) fun a w S => st_m (op_st S sizeOf3 (.t rfl) (.t rfl) (k := 1) rfl rfl (by simp) fun a w S => st_nil (in_normal (then_normal (hK2 _ _ (wp_region_lit (run S (.ad (by unfold I64; omega) rfl <| .mv rfl <| .z) fun a w S => st_nil (then_normal ?_)))))))))))))))
  obtain ⟨x2, k3, e2, hN2⟩ : ∃ x k e, numAt b k2 = (x, k, e) := ⟨_, _, _, rfl⟩
  have t3 := numAt_le (b := b) (k := k2) (by omega)
  have rw_N2a : (numAt b k2).1 = x2 := by rw [hN2]
  have rw_N2b : (numAt b k2).2.1 = k3 := by rw [hN2]
  have rw_N2c : (numAt b k2).2.2 = e2 := by rw [hN2]
  rw [rw_N2b] at t3
  have he2 : e2 ≠ 0 → (entAt b k).2.2 = e2 := fun h => by
    unfold entAt
    rw [hT, bindR_ok rfl]
    dsimp only
    rw [hN1, bindR_ok rfl]
    dsimp only
    rw [hN2, bindR_bad (by exact h)]
  by_cases h2 : e2 = 0
  rotate_left
  · have rw_d : decide (e2 ≠ 0) = true := decide_eq_true h2
    refine st_round (sg S (.yy (ys_T (by omega) (ys_lss (.t rfl) Ev.c)) rfl <| .z) fun a w S => wp_seq_k fun _ hK2 => st_then S (.t rfl) (wp_skip (then_normal (hK2 _ _ (wp_seq_k fun _ hK2 => wp_block (sg S (.mv rfl <| .as rfl <| .z) fun a w S => wp_seq_k fun _ hK3 => wp_region_lit (run S (.mv rfl <| .z) fun a w S => ?_)))))))
    (refine st_m (op_callO S call63 (.cons (.t rfl) .nil) (c63 S.wd (by first | assumption | omega | (dsimp only; omega) | exact Sl.nil_ | exact .old S.wd (by assumption) | exact Sl.of_own S.wd (k := 0) rfl (fun _ => rfl) | exact Sl.of_own S.wd (k := 1) rfl (fun _ => rfl) | exact Sl.of_own S.wd (k := 2) rfl (fun _ => rfl) | (simp at *; omega)) (by first | assumption | omega | (dsimp only; omega) | exact Sl.nil_ | exact .old S.wd (by assumption) | exact Sl.of_own S.wd (k := 0) rfl (fun _ => rfl) | exact Sl.of_own S.wd (k := 1) rfl (fun _ => rfl) | exact Sl.of_own S.wd (k := 2) rfl (fun _ => rfl) | (simp at *; omega)) (by first | assumption | omega | (dsimp only; omega) | exact Sl.nil_ | exact .old S.wd (by assumption) | exact Sl.of_own S.wd (k := 0) rfl (fun _ => rfl) | exact Sl.of_own S.wd (k := 1) rfl (fun _ => rfl) | exact Sl.of_own S.wd (k := 2) rfl (fun _ => rfl) | (simp at *; omega))) rfl ?_) <;> clear S a w)
    rintro _ _ ⟨rfl, rfl⟩ a w S
    rw [rw_N2a] at S
    rw [rw_N2b] at S
    rw [rw_N2c] at S
    refine run S (.mv rfl <| .ex rfl rfl <| .ex rfl rfl <| .as rfl <| .as rfl <| .z) fun a w S => st_nil (then_normal (hK3 _ _ (wp_seq_k fun _ hK3 => sg S (.mv rfl <| .yy (ys_T (by omega) (ys_neq (.t rfl) Ev.c)) rfl <| .z) fun a w S => st_then S (.t rfl) (wp_seq_k fun _ hK4 => wp_region_lit (run S (.yy (ys_bld (ps := []) (us := [_, _, _, _, _, _]) bld71 .nil rfl) rfl <| .mv rfl <| .z) fun a w S => st_m (op_stW S sizeOf71 (.t rfl) (.t rfl) (k := 2) rfl rfl rfl (by simp [Value.oneCell']) fun a w S => run S (.as rfl <| .z) fun a w S => st_nil (then_normal (hK4 _ _ (wp_ret (then_ret (in_ret (then_ret (then_ret (in_ret (then_ret (st_ret S (results2 S results64 (Rv.cell (k := 2) ⟨isAgg71, sizeOf71⟩ rfl rfl rfl) (Rv.tmp rfl)) ?_))))))))))))))))
    exact ⟨_, _, rfl, S.wd.picks (L' := rds g A cap b k3 L) (by repeat (first | exact Picks.nil | (refine Picks.rest ?_; (repeat (first | exact List.Sublist.refl _ | refine List.Sublist.cons_cons _ ?_ | refine List.Sublist.cons _ ?_)); done) | refine Picks.take 0 rfl ?_ | refine Picks.take 1 rfl ?_ | refine Picks.take 2 rfl ?_ | refine Picks.take 3 rfl ?_ | refine Picks.take 4 rfl ?_ | refine Picks.take 5 rfl ?_ | refine Picks.take 6 rfl ?_ | refine Picks.take 7 rfl ?_ | refine Picks.take 8 rfl ?_ | refine Picks.take 9 rfl ?_ | refine Picks.take 10 rfl ?_ | refine Picks.take 11 rfl ?_)), Ent.none, k3, by rw [he2 h2]; rfl, rfl, by omega, fun h => absurd ((he2 h2).symm.trans h) h2⟩
  subst h2
  refine st_round (sg S (.yy (ys_T (by omega) (ys_lss (.t rfl) Ev.c)) rfl <| .z) fun a w S => wp_seq_k fun _ hK2 => st_then S (.t rfl) (wp_skip (then_normal (hK2 _ _ (wp_seq_k fun _ hK2 => wp_block (sg S (.mv rfl <| .as rfl <| .z) fun a w S => wp_seq_k fun _ hK3 => wp_region_lit (run S (.mv rfl <| .z) fun a w S => ?_)))))))
  (refine st_m (op_callO S call63 (.cons (.t rfl) .nil) (c63 S.wd (by first | assumption | omega | (dsimp only; omega) | exact Sl.nil_ | exact .old S.wd (by assumption) | exact Sl.of_own S.wd (k := 0) rfl (fun _ => rfl) | exact Sl.of_own S.wd (k := 1) rfl (fun _ => rfl) | exact Sl.of_own S.wd (k := 2) rfl (fun _ => rfl) | (simp at *; omega)) (by first | assumption | omega | (dsimp only; omega) | exact Sl.nil_ | exact .old S.wd (by assumption) | exact Sl.of_own S.wd (k := 0) rfl (fun _ => rfl) | exact Sl.of_own S.wd (k := 1) rfl (fun _ => rfl) | exact Sl.of_own S.wd (k := 2) rfl (fun _ => rfl) | (simp at *; omega)) (by first | assumption | omega | (dsimp only; omega) | exact Sl.nil_ | exact .old S.wd (by assumption) | exact Sl.of_own S.wd (k := 0) rfl (fun _ => rfl) | exact Sl.of_own S.wd (k := 1) rfl (fun _ => rfl) | exact Sl.of_own S.wd (k := 2) rfl (fun _ => rfl) | (simp at *; omega))) rfl ?_) <;> clear S a w)
  rintro _ _ ⟨rfl, rfl⟩ a w S
  rw [rw_N2a] at S
  rw [rw_N2b] at S
  rw [rw_N2c] at S
  refine run S (.mv rfl <| .ex rfl rfl <| .ex rfl rfl <| .as rfl <| .as rfl <| .z) fun a w S => st_nil (then_normal (hK3 _ _ (wp_seq_k fun _ hK3 => sg S (.mv rfl <| .yy (ys_F (by omega) (ys_neq (.t rfl) Ev.c)) rfl <| .z) fun a w S => st_else S (.t rfl) (wp_skip (then_normal (hK3 _ _ (wp_region_lit (run S (.mv rfl <| .mv rfl <| .yy (ys_ixAI underlying153 sizeOf3 (.t rfl) (.t rfl) (fun _ => by omega)) rfl <| .z) fun a w S => st_m (op_st S sizeOf3 (.t rfl) (.t rfl) (k := 1) rfl rfl (by simp) fun a w S => st_nil (in_normal (then_normal (hK2 _ _ (wp_region_lit (run S (.ad (by unfold I64; omega) rfl <| .mv rfl <| .z) fun a w S => st_nil (then_normal ?_)))))))))))))))
  obtain ⟨x3, k4, e3, hN3⟩ : ∃ x k e, numAt b k3 = (x, k, e) := ⟨_, _, _, rfl⟩
  have t4 := numAt_le (b := b) (k := k3) (by omega)
  have rw_N3a : (numAt b k3).1 = x3 := by rw [hN3]
  have rw_N3b : (numAt b k3).2.1 = k4 := by rw [hN3]
  have rw_N3c : (numAt b k3).2.2 = e3 := by rw [hN3]
  rw [rw_N3b] at t4
  have he3 : e3 ≠ 0 → (entAt b k).2.2 = e3 := fun h => by
    unfold entAt
    rw [hT, bindR_ok rfl]
    dsimp only
    rw [hN1, bindR_ok rfl]
    dsimp only
    rw [hN2, bindR_ok rfl]
    dsimp only
    rw [hN3, bindR_bad (by exact h)]
  by_cases h3 : e3 = 0
  rotate_left
  · have rw_d : decide (e3 ≠ 0) = true := decide_eq_true h3
    refine st_round (sg S (.yy (ys_T (by omega) (ys_lss (.t rfl) Ev.c)) rfl <| .z) fun a w S => wp_seq_k fun _ hK2 => st_then S (.t rfl) (wp_skip (then_normal (hK2 _ _ (wp_seq_k fun _ hK2 => wp_block (sg S (.mv rfl <| .as rfl <| .z) fun a w S => wp_seq_k fun _ hK3 => wp_region_lit (run S (.mv rfl <| .z) fun a w S => ?_)))))))
    (refine st_m (op_callO S call63 (.cons (.t rfl) .nil) (c63 S.wd (by first | assumption | omega | (dsimp only; omega) | exact Sl.nil_ | exact .old S.wd (by assumption) | exact Sl.of_own S.wd (k := 0) rfl (fun _ => rfl) | exact Sl.of_own S.wd (k := 1) rfl (fun _ => rfl) | exact Sl.of_own S.wd (k := 2) rfl (fun _ => rfl) | (simp at *; omega)) (by first | assumption | omega | (dsimp only; omega) | exact Sl.nil_ | exact .old S.wd (by assumption) | exact Sl.of_own S.wd (k := 0) rfl (fun _ => rfl) | exact Sl.of_own S.wd (k := 1) rfl (fun _ => rfl) | exact Sl.of_own S.wd (k := 2) rfl (fun _ => rfl) | (simp at *; omega)) (by first | assumption | omega | (dsimp only; omega) | exact Sl.nil_ | exact .old S.wd (by assumption) | exact Sl.of_own S.wd (k := 0) rfl (fun _ => rfl) | exact Sl.of_own S.wd (k := 1) rfl (fun _ => rfl) | exact Sl.of_own S.wd (k := 2) rfl (fun _ => rfl) | (simp at *; omega))) rfl ?_) <;> clear S a w)
    rintro _ _ ⟨rfl, rfl⟩ a w S
    rw [rw_N3a] at S
    rw [rw_N3b] at S
    rw [rw_N3c] at S
    refine run S (.mv rfl <| .ex rfl rfl <| .ex rfl rfl <| .as rfl <| .as rfl <| .z) fun a w S => st_nil (then_normal (hK3 _ _ (wp_seq_k fun _ hK3 => sg S (.mv rfl <| .yy (ys_T (by omega) (ys_neq (.t rfl) Ev.c)) rfl <| .z) fun a w S => st_then S (.t rfl) (wp_seq_k fun _ hK4 => wp_region_lit (run S (.yy (ys_bld (ps := []) (us := [_, _, _, _, _, _]) bld71 .nil rfl) rfl <| .mv rfl <| .z) fun a w S => st_m (op_stW S sizeOf71 (.t rfl) (.t rfl) (k := 2) rfl rfl rfl (by simp [Value.oneCell']) fun a w S => run S (.as rfl <| .z) fun a w S => st_nil (then_normal (hK4 _ _ (wp_ret (then_ret (in_ret (then_ret (then_ret (in_ret (then_ret (st_ret S (results2 S results64 (Rv.cell (k := 2) ⟨isAgg71, sizeOf71⟩ rfl rfl rfl) (Rv.tmp rfl)) ?_))))))))))))))))
    exact ⟨_, _, rfl, S.wd.picks (L' := rds g A cap b k4 L) (by repeat (first | exact Picks.nil | (refine Picks.rest ?_; (repeat (first | exact List.Sublist.refl _ | refine List.Sublist.cons_cons _ ?_ | refine List.Sublist.cons _ ?_)); done) | refine Picks.take 0 rfl ?_ | refine Picks.take 1 rfl ?_ | refine Picks.take 2 rfl ?_ | refine Picks.take 3 rfl ?_ | refine Picks.take 4 rfl ?_ | refine Picks.take 5 rfl ?_ | refine Picks.take 6 rfl ?_ | refine Picks.take 7 rfl ?_ | refine Picks.take 8 rfl ?_ | refine Picks.take 9 rfl ?_ | refine Picks.take 10 rfl ?_ | refine Picks.take 11 rfl ?_)), Ent.none, k4, by rw [he3 h3]; rfl, rfl, by omega, fun h => absurd ((he3 h3).symm.trans h) h3⟩
  subst h3
  refine st_round (sg S (.yy (ys_T (by omega) (ys_lss (.t rfl) Ev.c)) rfl <| .z) fun a w S => wp_seq_k fun _ hK2 => st_then S (.t rfl) (wp_skip (then_normal (hK2 _ _ (wp_seq_k fun _ hK2 => wp_block (sg S (.mv rfl <| .as rfl <| .z) fun a w S => wp_seq_k fun _ hK3 => wp_region_lit (run S (.mv rfl <| .z) fun a w S => ?_)))))))
  (refine st_m (op_callO S call63 (.cons (.t rfl) .nil) (c63 S.wd (by first | assumption | omega | (dsimp only; omega) | exact Sl.nil_ | exact .old S.wd (by assumption) | exact Sl.of_own S.wd (k := 0) rfl (fun _ => rfl) | exact Sl.of_own S.wd (k := 1) rfl (fun _ => rfl) | exact Sl.of_own S.wd (k := 2) rfl (fun _ => rfl) | (simp at *; omega)) (by first | assumption | omega | (dsimp only; omega) | exact Sl.nil_ | exact .old S.wd (by assumption) | exact Sl.of_own S.wd (k := 0) rfl (fun _ => rfl) | exact Sl.of_own S.wd (k := 1) rfl (fun _ => rfl) | exact Sl.of_own S.wd (k := 2) rfl (fun _ => rfl) | (simp at *; omega)) (by first | assumption | omega | (dsimp only; omega) | exact Sl.nil_ | exact .old S.wd (by assumption) | exact Sl.of_own S.wd (k := 0) rfl (fun _ => rfl) | exact Sl.of_own S.wd (k := 1) rfl (fun _ => rfl) | exact Sl.of_own S.wd (k := 2) rfl (fun _ => rfl) | (simp at *; omega))) rfl ?_) <;> clear S a w)
  rintro _ _ ⟨rfl, rfl⟩ a w S
  rw [rw_N3a] at S
  rw [rw_N3b] at S
  rw [rw_N3c] at S
  refine run S (.mv rfl <| .ex rfl rfl <| .ex rfl rfl <| .as rfl <| .as rfl <| .z) fun a w S => st_nil (then_normal (hK3 _ _ (wp_seq_k fun _ hK3 => sg S (.mv rfl <| .yy (ys_F (by omega) (ys_neq (.t rfl) Ev.c)) rfl <| .z) fun a w S => st_else S (.t rfl) (wp_skip (then_normal (hK3 _ _ (wp_region_lit (run S (.mv rfl <| .mv rfl <| .yy (ys_ixAI underlying153 sizeOf3 (.t rfl) (.t rfl) (fun _ => by omega)) rfl <| .z) fun a w S => st_m (op_st S sizeOf3 (.t rfl) (.t rfl) (k := 1) rfl rfl (by simp) fun a w S => st_nil (in_normal (then_normal (hK2 _ _ (wp_region_lit (run S (.ad (by unfold I64; omega) rfl <| .mv rfl <| .z) fun a w S => st_nil (then_normal ?_)))))))))))))))
  obtain ⟨x4, k5, e4, hN4⟩ : ∃ x k e, numAt b k4 = (x, k, e) := ⟨_, _, _, rfl⟩
  have t5 := numAt_le (b := b) (k := k4) (by omega)
  have rw_N4a : (numAt b k4).1 = x4 := by rw [hN4]
  have rw_N4b : (numAt b k4).2.1 = k5 := by rw [hN4]
  have rw_N4c : (numAt b k4).2.2 = e4 := by rw [hN4]
  rw [rw_N4b] at t5
  have he4 : e4 ≠ 0 → (entAt b k).2.2 = e4 := fun h => by
    unfold entAt
    rw [hT, bindR_ok rfl]
    dsimp only
    rw [hN1, bindR_ok rfl]
    dsimp only
    rw [hN2, bindR_ok rfl]
    dsimp only
    rw [hN3, bindR_ok rfl]
    dsimp only
    rw [hN4, bindR_bad (by exact h)]
  by_cases h4 : e4 = 0
  rotate_left
  · have rw_d : decide (e4 ≠ 0) = true := decide_eq_true h4
    refine st_round (sg S (.yy (ys_T (by omega) (ys_lss (.t rfl) Ev.c)) rfl <| .z) fun a w S => wp_seq_k fun _ hK2 => st_then S (.t rfl) (wp_skip (then_normal (hK2 _ _ (wp_seq_k fun _ hK2 => wp_block (sg S (.mv rfl <| .as rfl <| .z) fun a w S => wp_seq_k fun _ hK3 => wp_region_lit (run S (.mv rfl <| .z) fun a w S => ?_)))))))
    (refine st_m (op_callO S call63 (.cons (.t rfl) .nil) (c63 S.wd (by first | assumption | omega | (dsimp only; omega) | exact Sl.nil_ | exact .old S.wd (by assumption) | exact Sl.of_own S.wd (k := 0) rfl (fun _ => rfl) | exact Sl.of_own S.wd (k := 1) rfl (fun _ => rfl) | exact Sl.of_own S.wd (k := 2) rfl (fun _ => rfl) | (simp at *; omega)) (by first | assumption | omega | (dsimp only; omega) | exact Sl.nil_ | exact .old S.wd (by assumption) | exact Sl.of_own S.wd (k := 0) rfl (fun _ => rfl) | exact Sl.of_own S.wd (k := 1) rfl (fun _ => rfl) | exact Sl.of_own S.wd (k := 2) rfl (fun _ => rfl) | (simp at *; omega)) (by first | assumption | omega | (dsimp only; omega) | exact Sl.nil_ | exact .old S.wd (by assumption) | exact Sl.of_own S.wd (k := 0) rfl (fun _ => rfl) | exact Sl.of_own S.wd (k := 1) rfl (fun _ => rfl) | exact Sl.of_own S.wd (k := 2) rfl (fun _ => rfl) | (simp at *; omega))) rfl ?_) <;> clear S a w)
    rintro _ _ ⟨rfl, rfl⟩ a w S
    rw [rw_N4a] at S
    rw [rw_N4b] at S
    rw [rw_N4c] at S
    refine run S (.mv rfl <| .ex rfl rfl <| .ex rfl rfl <| .as rfl <| .as rfl <| .z) fun a w S => st_nil (then_normal (hK3 _ _ (wp_seq_k fun _ hK3 => sg S (.mv rfl <| .yy (ys_T (by omega) (ys_neq (.t rfl) Ev.c)) rfl <| .z) fun a w S => st_then S (.t rfl) (wp_seq_k fun _ hK4 => wp_region_lit (run S (.yy (ys_bld (ps := []) (us := [_, _, _, _, _, _]) bld71 .nil rfl) rfl <| .mv rfl <| .z) fun a w S => st_m (op_stW S sizeOf71 (.t rfl) (.t rfl) (k := 2) rfl rfl rfl (by simp [Value.oneCell']) fun a w S => run S (.as rfl <| .z) fun a w S => st_nil (then_normal (hK4 _ _ (wp_ret (then_ret (in_ret (then_ret (then_ret (in_ret (then_ret (st_ret S (results2 S results64 (Rv.cell (k := 2) ⟨isAgg71, sizeOf71⟩ rfl rfl rfl) (Rv.tmp rfl)) ?_))))))))))))))))
    exact ⟨_, _, rfl, S.wd.picks (L' := rds g A cap b k5 L) (by repeat (first | exact Picks.nil | (refine Picks.rest ?_; (repeat (first | exact List.Sublist.refl _ | refine List.Sublist.cons_cons _ ?_ | refine List.Sublist.cons _ ?_)); done) | refine Picks.take 0 rfl ?_ | refine Picks.take 1 rfl ?_ | refine Picks.take 2 rfl ?_ | refine Picks.take 3 rfl ?_ | refine Picks.take 4 rfl ?_ | refine Picks.take 5 rfl ?_ | refine Picks.take 6 rfl ?_ | refine Picks.take 7 rfl ?_ | refine Picks.take 8 rfl ?_ | refine Picks.take 9 rfl ?_ | refine Picks.take 10 rfl ?_ | refine Picks.take 11 rfl ?_)), Ent.none, k5, by rw [he4 h4]; rfl, rfl, by omega, fun h => absurd ((he4 h4).symm.trans h) h4⟩
  subst h4
  refine st_round (sg S (.yy (ys_T (by omega) (ys_lss (.t rfl) Ev.c)) rfl <| .z) fun a w S => wp_seq_k fun _ hK2 => st_then S (.t rfl) (wp_skip (then_normal (hK2 _ _ (wp_seq_k fun _ hK2 => wp_block (sg S (.mv rfl <| .as rfl <| .z) fun a w S => wp_seq_k fun _ hK3 => wp_region_lit (run S (.mv rfl <| .z) fun a w S => ?_)))))))
  (refine st_m (op_callO S call63 (.cons (.t rfl) .nil) (c63 S.wd (by first | assumption | omega | (dsimp only; omega) | exact Sl.nil_ | exact .old S.wd (by assumption) | exact Sl.of_own S.wd (k := 0) rfl (fun _ => rfl) | exact Sl.of_own S.wd (k := 1) rfl (fun _ => rfl) | exact Sl.of_own S.wd (k := 2) rfl (fun _ => rfl) | (simp at *; omega)) (by first | assumption | omega | (dsimp only; omega) | exact Sl.nil_ | exact .old S.wd (by assumption) | exact Sl.of_own S.wd (k := 0) rfl (fun _ => rfl) | exact Sl.of_own S.wd (k := 1) rfl (fun _ => rfl) | exact Sl.of_own S.wd (k := 2) rfl (fun _ => rfl) | (simp at *; omega)) (by first | assumption | omega | (dsimp only; omega) | exact Sl.nil_ | exact .old S.wd (by assumption) | exact Sl.of_own S.wd (k := 0) rfl (fun _ => rfl) | exact Sl.of_own S.wd (k := 1) rfl (fun _ => rfl) | exact Sl.of_own S.wd (k := 2) rfl (fun _ => rfl) | (simp at *; omega))) rfl ?_) <;> clear S a w)
  rintro _ _ ⟨rfl, rfl⟩ a w S
  rw [rw_N4a] at S
  rw [rw_N4b] at S
  rw [rw_N4c] at S
  refine run S (.mv rfl <| .ex rfl rfl <| .ex rfl rfl <| .as rfl <| .as rfl <| .z) fun a w S => st_nil (then_normal (hK3 _ _ (wp_seq_k fun _ hK3 => sg S (.mv rfl <| .yy (ys_F (by omega) (ys_neq (.t rfl) Ev.c)) rfl <| .z) fun a w S => st_else S (.t rfl) (wp_skip (then_normal (hK3 _ _ (wp_region_lit (run S (.mv rfl <| .mv rfl <| .yy (ys_ixAI underlying153 sizeOf3 (.t rfl) (.t rfl) (fun _ => by omega)) rfl <| .z) fun a w S => st_m (op_st S sizeOf3 (.t rfl) (.t rfl) (k := 1) rfl rfl (by simp) fun a w S => st_nil (in_normal (then_normal (hK2 _ _ (wp_region_lit (run S (.ad (by unfold I64; omega) rfl <| .mv rfl <| .z) fun a w S => st_nil (then_normal (st_round (sg S (.yy (ys_F (by omega) (ys_lss (.t rfl) Ev.c)) rfl <| .z) fun a w S => wp_seq_k fun _ hK2 => st_else S (.t rfl) (wp_exit (then_exit (then_exit (in_here (then_normal (hK1 _ _ (sg S (.ac rfl <| .z) fun a w S => wp_seq_k fun _ hK1 => sg S (.mc rfl <| .z) fun a w S => wp_block ?_))))))))))))))))))))))))
  have t6 : u64R b k5 = if k5 + 8 ≤ b.length then (leV b k5 8, k5 + 8, 0) else (0, b.length, 2) := rfl
  have hE : entAt b k = bindR (u64R b k5) Ent.none fun p k6 => (⟨s, ⟨x1, x2, x3⟩, x4, UInt64.ofNat p⟩, k6, 0) := by
    unfold entAt
    rw [hT, bindR_ok rfl]
    dsimp only
    rw [hN1, bindR_ok rfl]
    dsimp only
    rw [hN2, bindR_ok rfl]
    dsimp only
    rw [hN3, bindR_ok rfl]
    dsimp only
    rw [hN4, bindR_ok rfl]
  refine st_lpM S [10, 39] (X := Nat) (fun i => [(39, true, .int .i64 (i : Int)), (10, true, .int .u64 (leV b k5 i : Int))]) (fun i => rds g A cap b (k5 + i) (.blk g2 (.cells #[.int .i64 x1, .int .i64 x2, .int .i64 x3, .int .i64 x4] 153) :: .blk g1 (.cells #[.string ⟨#[]⟩, .int .i64 0, .int .i64 0, .int .i64 0, .int .i64 0, .int .u64 0] 71) :: L))
    (fun i => i ≤ 8 ∧ k5 + i ≤ b.length) (fun i => 8 - i) 0 ⟨Nat.zero_le _, t5.2⟩ ?_
  clear S
  intro i a w ⟨hi, hki⟩ S
  by_cases hlt : i < 8
  · by_cases hb8 : k5 + i < b.length
    · obtain ⟨y, hy⟩ : ∃ y, b[k5 + i]? = some y := ⟨_, List.getElem?_eq_getElem hb8⟩
      have hy8 : y.toNat < 256 := y.toNat_lt
      have rw_b1 : (byteR b (k5 + i)).1 = (y.toNat : Int) := by rw [byteR_some hy]
      have rw_b2 : (byteR b (k5 + i)).2.1 = 1 := by rw [byteR_some hy]
      have rw_b3 : (byteR b (k5 + i)).2.2 = 0 := by rw [byteR_some hy]
      have rw_i : (i : Int) + 1 = ((i + 1 : Nat) : Int) := rfl
      have rw_8 : 8 * (i : Int) = ((8 * i : Nat) : Int) := rfl
      have rw_s := shl_le hy8 hlt
      have rw_o : IntKind.u64.wrap ((leV b k5 i : Int) + ((y.toNat * 256 ^ i : Nat) : Int)) = (leV b k5 (i + 1) : Int) := by
        have h1 := leV_lt b k5 (i + 1)
        have h2 : 256 ^ (i + 1) ≤ 256 ^ 8 := Nat.pow_le_pow_right (by omega) (by omega)
        have h3 : (256 : Nat) ^ 8 = 18446744073709551616 := by decide
        have e : leV b k5 i + y.toNat * 256 ^ i = leV b k5 (i + 1) := by
          rw [leV, List.getD_eq_getElem?_getD, hy]
          rfl
        rw [← Int.natCast_add, e]
        exact wrap_u64n (by omega)
      refine sg S (.yy (ys_T (by omega) (ys_lss (.t rfl) Ev.c)) rfl <| .z) fun a w S => wp_seq_k fun _ hK3 => st_then S (.t rfl) (wp_skip (then_normal (hK3 _ _ (wp_seq_k fun _ hK3 => wp_block (sg S (.mv rfl <| .as rfl <| .z) fun a w S => wp_seq_k fun _ hK4 => wp_region_lit (run S (.mv rfl <| .z) fun a w S => ?_))))))
      (refine st_m (op_callO S call124 (.cons (.t rfl) .nil) (c124 S.wd (by first | assumption | omega | (dsimp only; omega) | exact Sl.nil_ | exact .old S.wd (by assumption) | exact Sl.of_own S.wd (k := 0) rfl (fun _ => rfl) | exact Sl.of_own S.wd (k := 1) rfl (fun _ => rfl) | exact Sl.of_own S.wd (k := 2) rfl (fun _ => rfl) | (simp at *; omega)) (by first | assumption | omega | (dsimp only; omega) | exact Sl.nil_ | exact .old S.wd (by assumption) | exact Sl.of_own S.wd (k := 0) rfl (fun _ => rfl) | exact Sl.of_own S.wd (k := 1) rfl (fun _ => rfl) | exact Sl.of_own S.wd (k := 2) rfl (fun _ => rfl) | (simp at *; omega)) (by first | assumption | omega | (dsimp only; omega) | exact Sl.nil_ | exact .old S.wd (by assumption) | exact Sl.of_own S.wd (k := 0) rfl (fun _ => rfl) | exact Sl.of_own S.wd (k := 1) rfl (fun _ => rfl) | exact Sl.of_own S.wd (k := 2) rfl (fun _ => rfl) | (simp at *; omega))) rfl ?_) <;> clear S a w)
      rintro _ _ ⟨rfl, rfl⟩ a w S
      rw [rw_b1] at S
      rw [rw_b2] at S
      rw [rw_b3] at S
      refine run S (.mv rfl <| .ex rfl rfl <| .ex rfl rfl <| .as rfl <| .as rfl <| .z) fun a w S => st_nil (then_normal (hK4 _ _ (wp_seq_k fun _ hK4 => sg S (.mv rfl <| .yy (ys_F (by omega) (ys_neq (.t rfl) Ev.c)) rfl <| .z) fun a w S => st_else S (.t rfl) (wp_skip (then_normal (hK4 _ _ (wp_region_lit (run S (.mv rfl <| .mv rfl <| .yy (ys_cvU underlying3 underlying27 (.t rfl) (fun _ => by omega)) rfl <| .mv rfl <| .yy (ys_mulI Ev.c (.t rfl) (fun _ => by unfold I64; omega)) rfl <| .z) fun a w S => ?_))))))))
      rw [rw_8] at S
      refine run S (.yy (ys_shl (.t rfl) (.t rfl) (Nat.ble_eq_true_of_le (by show _ ≤ 64; omega))) rfl <| .z) fun a w S => ?_
      rw [rw_s] at S
      refine run S (.yy (ys_add (.t rfl) (.t rfl)) rfl <| .z) fun a w S => ?_
      rw [rw_o] at S
      refine run S (.as rfl <| .z) fun a w S => st_nil (in_normal (then_normal (hK3 _ _ (wp_region_lit (run S (.ad (by unfold I64; omega) rfl <| .z) fun a w S => ?_)))))
      rw [rw_i] at S
      refine run S (.mv rfl <| .z) fun a w S => st_nil (then_normal ?_)
      exact ⟨i + 1, ⟨by omega, by omega⟩, by omega, S.pk⟩
    · have rw_b1 : (byteR b (k5 + i)).1 = 0 := by rw [byteR_none (by omega)]
      have rw_b2 : (byteR b (k5 + i)).2.1 = 0 := by rw [byteR_none (by omega)]
      have rw_b3 : (byteR b (k5 + i)).2.2 = 2 := by rw [byteR_none (by omega)]
      have he : (entAt b k).2.2 = 2 := by rw [hE, t6, if_neg (by omega)]; rfl
      refine sg S (.yy (ys_T (by omega) (ys_lss (.t rfl) Ev.c)) rfl <| .z) fun a w S => wp_seq_k fun _ hK3 => st_then S (.t rfl) (wp_skip (then_normal (hK3 _ _ (wp_seq_k fun _ hK3 => wp_block (sg S (.mv rfl <| .as rfl <| .z) fun a w S => wp_seq_k fun _ hK4 => wp_region_lit (run S (.mv rfl <| .z) fun a w S => ?_))))))
      (refine st_m (op_callO S call124 (.cons (.t rfl) .nil) (c124 S.wd (by first | assumption | omega | (dsimp only; omega) | exact Sl.nil_ | exact .old S.wd (by assumption) | exact Sl.of_own S.wd (k := 0) rfl (fun _ => rfl) | exact Sl.of_own S.wd (k := 1) rfl (fun _ => rfl) | exact Sl.of_own S.wd (k := 2) rfl (fun _ => rfl) | (simp at *; omega)) (by first | assumption | omega | (dsimp only; omega) | exact Sl.nil_ | exact .old S.wd (by assumption) | exact Sl.of_own S.wd (k := 0) rfl (fun _ => rfl) | exact Sl.of_own S.wd (k := 1) rfl (fun _ => rfl) | exact Sl.of_own S.wd (k := 2) rfl (fun _ => rfl) | (simp at *; omega)) (by first | assumption | omega | (dsimp only; omega) | exact Sl.nil_ | exact .old S.wd (by assumption) | exact Sl.of_own S.wd (k := 0) rfl (fun _ => rfl) | exact Sl.of_own S.wd (k := 1) rfl (fun _ => rfl) | exact Sl.of_own S.wd (k := 2) rfl (fun _ => rfl) | (simp at *; omega))) rfl ?_) <;> clear S a w)
      rintro _ _ ⟨rfl, rfl⟩ a w S
      rw [rw_b1] at S
      rw [rw_b2] at S
      rw [rw_b3] at S
      refine run S (.mv rfl <| .ex rfl rfl <| .ex rfl rfl <| .as rfl <| .as rfl <| .z) fun a w S => st_nil (then_normal (hK4 _ _ (wp_seq_k fun _ hK4 => sg S (.mv rfl <| .yy (ys_T (by omega) (ys_neq (.t rfl) Ev.c)) rfl <| .z) fun a w S => st_then S (.t rfl) (wp_seq_k fun _ hK5 => wp_region_lit (run S (.yy (ys_bld (ps := []) (us := [_, _, _, _, _, _]) bld71 .nil rfl) rfl <| .mv rfl <| .z) fun a w S => st_m (op_stW S sizeOf71 (.t rfl) (.t rfl) (k := 2) rfl rfl rfl (by simp [Value.oneCell']) fun a w S => run S (.as rfl <| .z) fun a w S => st_nil (then_normal (hK5 _ _ (wp_ret (then_ret (in_ret (then_ret (then_ret (in_ret (then_ret (st_ret S (results2 S results64 (Rv.cell (k := 2) ⟨isAgg71, sizeOf71⟩ rfl rfl rfl) (Rv.tmp rfl)) ?_))))))))))))))))
      exact ⟨_, _, rfl, S.wd.picks (L' := rds g A cap b (k5 + i) L) (by repeat (first | exact Picks.nil | (refine Picks.rest ?_; (repeat (first | exact List.Sublist.refl _ | refine List.Sublist.cons_cons _ ?_ | refine List.Sublist.cons _ ?_)); done) | refine Picks.take 0 rfl ?_ | refine Picks.take 1 rfl ?_ | refine Picks.take 2 rfl ?_ | refine Picks.take 3 rfl ?_ | refine Picks.take 4 rfl ?_ | refine Picks.take 5 rfl ?_ | refine Picks.take 6 rfl ?_ | refine Picks.take 7 rfl ?_ | refine Picks.take 8 rfl ?_ | refine Picks.take 9 rfl ?_ | refine Picks.take 10 rfl ?_ | refine Picks.take 11 rfl ?_)), Ent.none, k5 + i, by rw [he]; rfl, rfl, hki, fun h => absurd (he.symm.trans h) (by decide)⟩
  obtain rfl : i = 8 := by omega
  refine sg S (.yy (ys_F (by omega) (ys_lss (.t rfl) Ev.c)) rfl <| .z) fun a w S => wp_seq_k fun _ hK3 => st_else S (.t rfl) (wp_exit (then_exit (then_exit (in_here (then_normal (hK1 _ _ (wp_seq_k fun _ hK1 => wp_region_lit (run S (.mv rfl <| .yy (ys_ixA (j := 0) underlying153 sizeOf3 (.t rfl) Ev.c (fun _ => by decide)) rfl <| .ld gt3 1 rfl rfl rfl <| .yy (ys_ixA (j := 1) underlying153 sizeOf3 (.t rfl) Ev.c (fun _ => by decide)) rfl <| .ld gt3 1 rfl rfl rfl <| .yy (ys_ixA (j := 2) underlying153 sizeOf3 (.t rfl) Ev.c (fun _ => by decide)) rfl <| .ld gt3 1 rfl rfl rfl <| .yy (ys_bld (ps := [(0, Go.Operand.tmp 61), (1, Go.Operand.tmp 63), (2, Go.Operand.tmp 65)]) (us := [_, _, _]) bld58 (.cons (.t rfl) (.cons (.t rfl) (.cons (.t rfl) .nil))) rfl) rfl <| .yy (ys_ixA (j := 3) underlying153 sizeOf3 (.t rfl) Ev.c (fun _ => by decide)) rfl <| .ld gt3 1 rfl rfl rfl <| .mv rfl <| .yy (ys_bld (ps := [(0, Go.Operand.tmp 59), (1, Go.Operand.tmp 66), (2, Go.Operand.tmp 68), (3, Go.Operand.tmp 69)]) (us := [_, _, _, _, _, _]) bld71 (.cons (.t rfl) (.cons (.t rfl) (.cons (.t rfl) (.cons (.t rfl) .nil)))) rfl) rfl <| .z) fun a w S => st_m (op_stW S sizeOf71 (.t rfl) (.t rfl) (k := 2) rfl rfl rfl (by simp [Value.oneCell']) fun a w S => run S (.ac rfl <| .z) fun a w S => st_nil (then_normal (hK1 _ _ (wp_ret ?_))))))))))))
  refine st_ret S (results2 S results64 (Rv.cell (k := 2) ⟨isAgg71, sizeOf71⟩ rfl rfl rfl) (Rv.tmp rfl)) ?_
  have he : entAt b k = (⟨s, ⟨x1, x2, x3⟩, x4, UInt64.ofNat (leV b k5 8)⟩, k5 + 8, 0) := by rw [hE, t6, if_pos (by omega), bindR_ok rfl]
  have hv : (UInt64.ofNat (leV b k5 8)).toNat = leV b k5 8 := by rw [UInt64.toNat_ofNat']; exact Nat.mod_eq_of_lt (leV_lt b k5 8)
  refine ⟨_, _, rfl, S.wd.picks (L' := rds g A cap b (k5 + 8) L) (by repeat (first | exact Picks.nil | (refine Picks.rest ?_; (repeat (first | exact List.Sublist.refl _ | refine List.Sublist.cons_cons _ ?_ | refine List.Sublist.cons _ ?_)); done) | refine Picks.take 0 rfl ?_ | refine Picks.take 1 rfl ?_ | refine Picks.take 2 rfl ?_ | refine Picks.take 3 rfl ?_ | refine Picks.take 4 rfl ?_ | refine Picks.take 5 rfl ?_ | refine Picks.take 6 rfl ?_ | refine Picks.take 7 rfl ?_ | refine Picks.take 8 rfl ?_ | refine Picks.take 9 rfl ?_ | refine Picks.take 10 rfl ?_ | refine Picks.take 11 rfl ?_)), (entAt b k).1, k5 + 8, ?_, rfl, hki, fun _ => ⟨rfl, by rw [he]⟩⟩
  rw [he]
  dsimp only [Ent.enc]
  rw [hv]
end Go.Proofs.YtfblmkocmnbdcaaGreat
set_option linter.unusedVariables false
set_option linter.unusedSimpArgs false
set_option maxRecDepth 100000
set_option maxHeartbeats 4000000
namespace Go.Fw
theorem decR_num {b : List UInt8} {x : Int} {k1 : Nat} {e : Int} (h : numAt b 0 = (x, k1, e)) (he : e ≠ 0) : decK b = (Cart.zero, e) := by
  unfold decK decR
  rw [h, bindR_bad (by exact he)]
theorem decR_long {b : List UInt8} {x : Int} {k1 : Nat} (h : numAt b 0 = (x, k1, 0)) (hx : 64 < x) : decK b = (Cart.zero, 4) := by
  unfold decK decR
  rw [h, bindR_ok rfl]
  dsimp only
  rw [if_pos hx]
theorem decR_ents {b : List UInt8} {x : Int} {k1 : Nat} (h : numAt b 0 = (x, k1, 0)) (hx : ¬ 64 < x) (he : (entsAt b x.toNat [] k1).2.2 ≠ 0) : decK b = (Cart.zero, (entsAt b x.toNat [] k1).2.2) := by
  unfold decK decR
  rw [h, bindR_ok rfl]
  dsimp only
  rw [if_neg hx, bindR_bad he]
theorem decR_ctx {b : List UInt8} {x : Int} {k1 k2 : Nat} {l : List Ent} (h : numAt b 0 = (x, k1, 0)) (hx : ¬ 64 < x) (he : entsAt b x.toNat [] k1 = (l, k2, 0)) (hc : (decAt b k2).2.2 ≠ 0) : decK b = (Cart.zero, (decAt b k2).2.2) := by
  unfold decK decR
  rw [h, bindR_ok rfl]
  dsimp only
  rw [if_neg hx, he, bindR_ok rfl]
  dsimp only
  rw [bindR_bad hc]
theorem decR_last {b : List UInt8} {x : Int} {k1 k2 : Nat} {l : List Ent} (h : numAt b 0 = (x, k1, 0)) (hx : ¬ 64 < x) (he : entsAt b x.toNat [] k1 = (l, k2, 0)) (hc : (decAt b k2).2.2 = 0) : decK b = ((lastK b ⟨l, (decAt b k2).1⟩ (decAt b k2).2.1).1, (lastK b ⟨l, (decAt b k2).1⟩ (decAt b k2).2.1).2.2) := by
  unfold decK decR
  rw [h, bindR_ok rfl]
  dsimp only
  rw [if_neg hx, he, bindR_ok rfl]
  dsimp only
  rw [bindR_ok hc]
theorem lastK_more {b : List UInt8} {c : Cart} {k : Nat} (h : k < b.length) : lastK b c k = (Cart.zero, k, 3) := if_pos h
theorem lastK_bad {b : List UInt8} {c : Cart} {k : Nat} (h : ¬ k < b.length) (hc : canE c ≠ 0) : lastK b c k = (Cart.zero, k, canE c) := by unfold lastK; rw [if_neg h, if_neg hc]
theorem lastK_ok {b : List UInt8} {c : Cart} {k : Nat} (h : ¬ k < b.length) (hc : canE c = 0) : lastK b c k = (c, k, 0) := by unfold lastK; rw [if_neg h, if_pos hc]
end Go.Fw
namespace Go.Proofs.YtfblmkocmnbdcaaGreat
open Go.Fw Go.Proofs Go.RowKit Go.Proofs.Tryz
theorem c16 (w0 : World) (v1 : Value) (b : List UInt8) (h : Sl encB 1 w0 w0.heap.size v1 b) (hb : b.length ≤ 4194304) :
    Rets Tryz.prog 16 #[v1] w0 fun v L => ∃ A1 r1 A2 r2 A3 r3, v = .tuple #[.agg #[.slice A1 (decK b).1.ents.length r1, .slice A2 (decK b).1.ctx.marks.length r2, .slice A3 (decK b).1.ctx.cloud.length r3], .int .i64 (decK b).2] ∧
      L = [rowOf 71 6 Ent.enc A1 r1 (decK b).1.ents, rowOf 122 3 Dot.enc A2 r2 (decK b).1.ctx.marks, rowOf 58 3 Dot.enc A3 r3 (decK b).1.ctx.cloud] := by
  have hs := h
  obtain ⟨A, cap, rfl, hl, hcap, hA⟩ := h
  have hv := numAt_val b 0
  have t1 := numAt_le (b := b) (k := 0) (Nat.zero_le _)
  obtain ⟨x0, k1, e, hN⟩ : ∃ x k e, numAt b 0 = (x, k, e) := ⟨_, _, _, rfl⟩
  have rw_Na : (numAt b 0).1 = x0 := by rw [hN]
  have rw_Nb : (numAt b 0).2.1 = k1 := by rw [hN]
  have rw_Nc : (numAt b 0).2.2 = e := by rw [hN]
  rw [rw_Na] at hv
  rw [rw_Nb] at t1
  by_cases he : e = 0
  rotate_left
  · have rw_d : decide (e ≠ 0) = true := decide_eq_true he
    have hD := decR_num hN he
    unfold Go.Fw.Rets
    refine enter1 func16 rfl ntmps16 rfl fun a S => wp_seq_k fun _ hK1 => wp_region_lit (st_m (op_alloc S zeroValue39 (cs := _) rfl rfl fun g1 a w S => run S (.ac rfl <| .z) fun a w S => st_nil (then_normal (hK1 _ _ (wp_seq_k fun _ hK1 => wp_region_lit (run S (.mv rfl <| .z) fun a w S => ?_))))))
    (refine st_m (op_calls S call56 (.cons (.t rfl) .nil) (c56 _ _ _ (by exact .old S.wd (by assumption)) (by omega)) rfl ?_); clear S a w; rintro _ _ ⟨g2, A1, c1, rfl, rfl⟩ a w S)
    refine run S (.as rfl <| .z) fun a w S => st_nil (then_normal (hK1 _ _ (wp_seq_k fun _ hK1 => wp_region_lit (run S (.mv rfl <| .z) fun a w S => ?_))))
    (refine st_m (op_callO S call57 (.cons (.t rfl) .nil) (c57 S.wd (by first | assumption | omega | (dsimp only; omega) | exact Sl.nil_ | exact .old S.wd (by assumption) | exact Sl.of_own S.wd (k := 0) rfl (fun _ => rfl) | exact Sl.of_own S.wd (k := 1) rfl (fun _ => rfl) | exact Sl.of_own S.wd (k := 2) rfl (fun _ => rfl) | (simp at *; omega)) (by first | assumption | omega | (dsimp only; omega) | exact Sl.nil_ | exact .old S.wd (by assumption) | exact Sl.of_own S.wd (k := 0) rfl (fun _ => rfl) | exact Sl.of_own S.wd (k := 1) rfl (fun _ => rfl) | exact Sl.of_own S.wd (k := 2) rfl (fun _ => rfl) | (simp at *; omega))) rfl ?_) <;> clear S a w)
    rintro _ _ ⟨rfl, rfl⟩ a w S
    rw [rw_Na] at S
    rw [rw_Nb] at S
    rw [rw_Nc] at S
    refine run S (.mv rfl <| .ex rfl rfl <| .ex rfl rfl <| .as rfl <| .as rfl <| .z) fun a w S => st_nil (then_normal (hK1 _ _ (wp_seq_k fun _ hK1 => sg S (.mv rfl <| .yy (ys_T (by omega) (ys_neq (.t rfl) Ev.c)) rfl <| .z) fun a w S => st_then S (.t rfl) (wp_seq_k fun _ hK2 => wp_region_lit (run S (.yy (ys_bld (ps := []) (us := [_, _, _]) bld39 .nil rfl) rfl <| .mv rfl <| .z) fun a w S => st_m (op_stW S sizeOf39 (.t rfl) (.t rfl) (k := 2) rfl rfl rfl (by simp [Value.oneCell']) fun a w S => run S (.as rfl <| .z) fun a w S => st_nil (then_normal (hK2 _ _ (wp_ret (then_ret (st_ret S (results2 S results16 (Rv.cell (k := 2) ⟨isAgg39, sizeOf39⟩ rfl rfl rfl) (Rv.tmp rfl)) ?_)))))))))))
    refine ⟨_, [rowOf 71 6 Ent.enc none 0 [], rowOf 122 3 Dot.enc none 0 [], rowOf 58 3 Dot.enc none 0 []], rfl, (((S.nil_ 58 3 Dot.enc none).nil_ 122 3 Dot.enc none).nil_ 71 6 Ent.enc none).wd.pk, none, 0, none, 0, none, 0, ?_, ?_⟩ <;> rw [hD] <;> rfl
  subst he
  by_cases h64 : 64 < x0
  · have hD := decR_long hN h64
    unfold Go.Fw.Rets
    refine enter1 func16 rfl ntmps16 rfl fun a S => wp_seq_k fun _ hK1 => wp_region_lit (st_m (op_alloc S zeroValue39 (cs := _) rfl rfl fun g1 a w S => run S (.ac rfl <| .z) fun a w S => st_nil (then_normal (hK1 _ _ (wp_seq_k fun _ hK1 => wp_region_lit (run S (.mv rfl <| .z) fun a w S => ?_))))))
    (refine st_m (op_calls S call56 (.cons (.t rfl) .nil) (c56 _ _ _ (by exact .old S.wd (by assumption)) (by omega)) rfl ?_); clear S a w; rintro _ _ ⟨g2, A1, c1, rfl, rfl⟩ a w S)
    refine run S (.as rfl <| .z) fun a w S => st_nil (then_normal (hK1 _ _ (wp_seq_k fun _ hK1 => wp_region_lit (run S (.mv rfl <| .z) fun a w S => ?_))))
    (refine st_m (op_callO S call57 (.cons (.t rfl) .nil) (c57 S.wd (by first | assumption | omega | (dsimp only; omega) | exact Sl.nil_ | exact .old S.wd (by assumption) | exact Sl.of_own S.wd (k := 0) rfl (fun _ => rfl) | exact Sl.of_own S.wd (k := 1) rfl (fun _ => rfl) | exact Sl.of_own S.wd (k := 2) rfl (fun _ => rfl) | (simp at *; omega)) (by first | assumption | omega | (dsimp only; omega) | exact Sl.nil_ | exact .old S.wd (by assumption) | exact Sl.of_own S.wd (k := 0) rfl (fun _ => rfl) | exact Sl.of_own S.wd (k := 1) rfl (fun _ => rfl) | exact Sl.of_own S.wd (k := 2) rfl (fun _ => rfl) | (simp at *; omega))) rfl ?_) <;> clear S a w)
    rintro _ _ ⟨rfl, rfl⟩ a w S
    rw [rw_Na] at S
    rw [rw_Nb] at S
    rw [rw_Nc] at S
    refine run S (.mv rfl <| .ex rfl rfl <| .ex rfl rfl <| .as rfl <| .as rfl <| .z) fun a w S => st_nil (then_normal (hK1 _ _ (wp_seq_k fun _ hK1 => sg S (.mv rfl <| .yy (ys_F (by omega) (ys_neq (.t rfl) Ev.c)) rfl <| .z) fun a w S => st_else S (.t rfl) (wp_skip (then_normal (hK1 _ _ (wp_seq_k fun _ hK1 => sg S (.mv rfl <| .yy (ys_T (by omega) (ys_gtr (.t rfl) Ev.c)) rfl <| .z) fun a w S => st_then S (.t rfl) (wp_seq_k fun _ hK2 => wp_region_lit (run S (.yy (ys_bld (ps := []) (us := [_, _, _]) bld39 .nil rfl) rfl <| .z) fun a w S => st_m (op_stW S sizeOf39 (.t rfl) (.t rfl) (k := 2) rfl rfl rfl (by simp [Value.oneCell']) fun a w S => run S (.ac rfl <| .z) fun a w S => st_nil (then_normal (hK2 _ _ (wp_ret (then_ret (st_ret S (results2 S results16 (Rv.cell (k := 2) ⟨isAgg39, sizeOf39⟩ rfl rfl rfl) (Rv.tmp rfl)) ?_)))))))))))))))
    refine ⟨_, [rowOf 71 6 Ent.enc none 0 [], rowOf 122 3 Dot.enc none 0 [], rowOf 58 3 Dot.enc none 0 []], rfl, (((S.nil_ 58 3 Dot.enc none).nil_ 122 3 Dot.enc none).nil_ 71 6 Ent.enc none).wd.pk, none, 0, none, 0, none, 0, ?_, ?_⟩ <;> rw [hD] <;> rfl
  obtain ⟨n, rfl⟩ : ∃ n : Nat, x0 = (n : Int) := ⟨x0.toNat, by omega⟩
  unfold Go.Fw.Rets
  refine enter1 func16 rfl ntmps16 rfl fun a S => wp_seq_k fun _ hK1 => wp_region_lit (st_m (op_alloc S zeroValue39 (cs := _) rfl rfl fun g1 a w S => run S (.ac rfl <| .z) fun a w S => st_nil (then_normal (hK1 _ _ (wp_seq_k fun _ hK1 => wp_region_lit (run S (.mv rfl <| .z) fun a w S => ?_))))))
  (refine st_m (op_calls S call56 (.cons (.t rfl) .nil) (c56 _ _ _ (by exact .old S.wd (by assumption)) (by omega)) rfl ?_); clear S a w; rintro _ _ ⟨g2, A1, c1, rfl, rfl⟩ a w S)
  refine run S (.as rfl <| .z) fun a w S => st_nil (then_normal (hK1 _ _ (wp_seq_k fun _ hK1 => wp_region_lit (run S (.mv rfl <| .z) fun a w S => ?_))))
  (refine st_m (op_callO S call57 (.cons (.t rfl) .nil) (c57 S.wd (by first | assumption | omega | (dsimp only; omega) | exact Sl.nil_ | exact .old S.wd (by assumption) | exact Sl.of_own S.wd (k := 0) rfl (fun _ => rfl) | exact Sl.of_own S.wd (k := 1) rfl (fun _ => rfl) | exact Sl.of_own S.wd (k := 2) rfl (fun _ => rfl) | (simp at *; omega)) (by first | assumption | omega | (dsimp only; omega) | exact Sl.nil_ | exact .old S.wd (by assumption) | exact Sl.of_own S.wd (k := 0) rfl (fun _ => rfl) | exact Sl.of_own S.wd (k := 1) rfl (fun _ => rfl) | exact Sl.of_own S.wd (k := 2) rfl (fun _ => rfl) | (simp at *; omega))) rfl ?_) <;> clear S a w)
  rintro _ _ ⟨rfl, rfl⟩ a w S
  rw [rw_Nb] at S
  rw [rw_Nc] at S
  rw [rw_Na] at S
  refine run S (.mv rfl <| .ex rfl rfl <| .ex rfl rfl <| .as rfl <| .as rfl <| .z) fun a w S => st_nil (then_normal (hK1 _ _ (wp_seq_k fun _ hK1 => sg S (.mv rfl <| .yy (ys_F (by omega) (ys_neq (.t rfl) Ev.c)) rfl <| .z) fun a w S => st_else S (.t rfl) (wp_skip (then_normal (hK1 _ _ (wp_seq_k fun _ hK1 => sg S (.mv rfl <| .yy (ys_F (by omega) (ys_gtr (.t rfl) Ev.c)) rfl <| .z) fun a w S => st_else S (.t rfl) (wp_skip (then_normal (hK1 _ _ (wp_seq_k fun _ hK1 => wp_region_lit (st_m (op_alloc S zeroValue39 (cs := _) rfl rfl fun g3 a w S => st_nil (then_normal (hK1 _ _ (wp_seq_k fun _ hK1 => sg S (.mv rfl <| .mc rfl <| .z) fun a w S => wp_block ?_))))))))))))))))
  have h64' : n ≤ 64 := by omega
  refine st_lpM (S.nil_ 71 6 Ent.enc none) [25] (X := Nat × Nat × List Ent × Option Addr × Nat) (fun q => [(25, true, .int .i64 (q.1 : Int))])
    (fun q => rowOf 71 6 Ent.enc q.2.2.2.1 q.2.2.2.2 q.2.2.1 :: .blk g3 (.cells #[.slice q.2.2.2.1 q.2.2.1.length q.2.2.2.2, .slice none 0 0, .slice none 0 0] 39) :: rdr g2 A1 c1 b q.2.1 [.blk g1 (.cells #[.slice none 0 0, .slice none 0 0, .slice none 0 0] 39)])
    (fun q => q.1 ≤ n ∧ q.2.1 ≤ b.length ∧ q.2.2.1.length = q.1 ∧ entsAt b (n - q.1) q.2.2.1 q.2.1 = entsAt b n [] k1) (fun q => n - q.1) (0, k1, [], none, 0) ⟨Nat.zero_le _, t1.2, rfl, rfl⟩ ?_
  clear S
  rintro ⟨i, k', acc, D, cD⟩ a w ⟨hi, hk', hlen, hno⟩ S
  dsimp only at hi hk' hlen hno S
  by_cases hlt : i < n
  · rw [show n - i = (n - (i + 1)) + 1 by omega, entsAt] at hno
    have rw_i : (i : Int) + 1 = ((i + 1 : Nat) : Int) := rfl
    by_cases hE : (entAt b k').2.2 = 0
    · rw [bindR_ok hE] at hno
      have rw_E := hE
      refine sg S (.lt (by omega) rfl rfl <| .z) fun a w S => wp_seq_k fun _ hK2 => st_then S (.t rfl) (wp_skip (then_normal (hK2 _ _ (wp_seq_k fun _ hK2 => wp_block (wp_seq_k fun _ hK3 => wp_region_lit (run S (.mv rfl <| .z) fun a w S => ?_))))))
      (replace S := S.pull 3 rfl; try simp only [List.set_cons_zero, List.set_cons_succ, List.eraseIdx_cons_succ, List.eraseIdx_cons_zero] at S; replace S := S.pull 3 rfl; try simp only [List.set_cons_zero, List.set_cons_succ, List.eraseIdx_cons_succ, List.eraseIdx_cons_zero] at S; refine st_m (op_callO S call58 (.cons (.t rfl) .nil) (c58 S.wd (by first | assumption | omega | (dsimp only; omega) | exact Sl.nil_ | exact .old S.wd (by assumption) | exact Sl.of_own S.wd (k := 0) rfl (fun _ => rfl) | exact Sl.of_own S.wd (k := 1) rfl (fun _ => rfl) | exact Sl.of_own S.wd (k := 2) rfl (fun _ => rfl) | exact Sl.of_own S.wd (k := 3) rfl (fun _ => rfl) | exact Sl.of_own S.wd (k := 4) rfl (fun _ => rfl) | (simp at *; omega)) (by first | assumption | omega | (dsimp only; omega) | exact Sl.nil_ | exact .old S.wd (by assumption) | exact Sl.of_own S.wd (k := 0) rfl (fun _ => rfl) | exact Sl.of_own S.wd (k := 1) rfl (fun _ => rfl) | exact Sl.of_own S.wd (k := 2) rfl (fun _ => rfl) | exact Sl.of_own S.wd (k := 3) rfl (fun _ => rfl) | exact Sl.of_own S.wd (k := 4) rfl (fun _ => rfl) | (simp at *; omega))) rfl ?_) <;> clear S a w)
      rintro _ _ ⟨x1, k'1, rfl, rfl, hr1⟩ a w S
      rw [rw_E] at S
      refine run S (.mv rfl <| .ex rfl rfl <| .ex rfl rfl <| .z) fun a w S => st_m (op_alloc S zeroValue71 (cs := _) rfl rfl fun g4 a w S => st_m (op_stW S sizeOf71 (.t rfl) (.t rfl) (k := 0) rfl rfl rfl (by simp [Value.oneCell']) fun a w S => run S (.as rfl <| .z) fun a w S => st_nil (then_normal (hK3 _ _ (wp_seq_k fun _ hK3 => sg S (.mv rfl <| .yy (ys_F (by omega) (ys_neq (.t rfl) Ev.c)) rfl <| .z) fun a w S => st_else S (.t rfl) (wp_skip (then_normal (hK3 _ _ (wp_region_lit (run S (.fa underlying39 sizeOf33 0 rfl rfl rfl <| .ld gt33 4 rfl rfl rfl <| .la gt71 0 rfl rfl rfl <| .z) fun a w S => st_m (op_bslice1 S underlying33 inf71 rfl rfl rfl (.t rfl) rfl rfl rfl fun g5 a w S => st_m (op_push S underlying33 inf71 rfl (k := 4) (j := 0) rfl (.t rfl) (.t rfl) rfl rfl rfl rfl (by first | omega | (simp only [List.length_append, List.length_cons, List.length_nil]; omega)) rfl rfl rfl fun A2 cap1 a w S => run S (.fa underlying39 sizeOf33 0 rfl rfl rfl <| .z) fun a w S => st_m (op_st S sizeOf33 (.t rfl) (.t rfl) (k := 5) rfl rfl (by simp) fun a w S => st_nil (in_normal (then_normal (hK2 _ _ (wp_region_lit (run S (.ad (by unfold I64; omega) rfl <| .z) fun a w S => ?_))))))))))))))))))
      rw [rw_i] at S
      refine run S (.mv rfl <| .z) fun a w S => st_nil (then_normal ?_)
      obtain ⟨q1, q2⟩ := hr1
      obtain ⟨q3, q4⟩ := q2 hE
      rw [← q3, ← q4] at hno
      exact ⟨(i + 1, k'1, acc ++ [x1], A2, cap1), ⟨by dsimp only; omega, q1, by simp [hlen], hno⟩, by dsimp only; omega, S.pk⟩
    · have hb2 : (entsAt b n [] k1).2.2 = (entAt b k').2.2 := by rw [← hno, bindR_bad hE]
      have hD : decK b = (Cart.zero, (entAt b k').2.2) := by
        rw [decR_ents hN h64 (by rw [Int.toNat_natCast, hb2]; exact hE), Int.toNat_natCast, hb2]
      have rw_d : decide ((entAt b k').2.2 ≠ 0) = true := decide_eq_true hE
      refine sg S (.lt (by omega) rfl rfl <| .z) fun a w S => wp_seq_k fun _ hK2 => st_then S (.t rfl) (wp_skip (then_normal (hK2 _ _ (wp_seq_k fun _ hK2 => wp_block (wp_seq_k fun _ hK3 => wp_region_lit (run S (.mv rfl <| .z) fun a w S => ?_))))))
      (replace S := S.pull 3 rfl; try simp only [List.set_cons_zero, List.set_cons_succ, List.eraseIdx_cons_succ, List.eraseIdx_cons_zero] at S; replace S := S.pull 3 rfl; try simp only [List.set_cons_zero, List.set_cons_succ, List.eraseIdx_cons_succ, List.eraseIdx_cons_zero] at S; refine st_m (op_callO S call58 (.cons (.t rfl) .nil) (c58 S.wd (by first | assumption | omega | (dsimp only; omega) | exact Sl.nil_ | exact .old S.wd (by assumption) | exact Sl.of_own S.wd (k := 0) rfl (fun _ => rfl) | exact Sl.of_own S.wd (k := 1) rfl (fun _ => rfl) | exact Sl.of_own S.wd (k := 2) rfl (fun _ => rfl) | exact Sl.of_own S.wd (k := 3) rfl (fun _ => rfl) | exact Sl.of_own S.wd (k := 4) rfl (fun _ => rfl) | (simp at *; omega)) (by first | assumption | omega | (dsimp only; omega) | exact Sl.nil_ | exact .old S.wd (by assumption) | exact Sl.of_own S.wd (k := 0) rfl (fun _ => rfl) | exact Sl.of_own S.wd (k := 1) rfl (fun _ => rfl) | exact Sl.of_own S.wd (k := 2) rfl (fun _ => rfl) | exact Sl.of_own S.wd (k := 3) rfl (fun _ => rfl) | exact Sl.of_own S.wd (k := 4) rfl (fun _ => rfl) | (simp at *; omega))) rfl ?_) <;> clear S a w)
      rintro _ _ ⟨x1, k'1, rfl, rfl, hr1⟩ a w S
      refine run S (.mv rfl <| .ex rfl rfl <| .ex rfl rfl <| .z) fun a w S => st_m (op_alloc S zeroValue71 (cs := _) rfl rfl fun g4 a w S => st_m (op_stW S sizeOf71 (.t rfl) (.t rfl) (k := 0) rfl rfl rfl (by simp [Value.oneCell']) fun a w S => run S (.as rfl <| .z) fun a w S => st_nil (then_normal (hK3 _ _ (wp_seq_k fun _ hK3 => sg S (.mv rfl <| .yy (ys_T (by omega) (ys_neq (.t rfl) Ev.c)) rfl <| .z) fun a w S => st_then S (.t rfl) (wp_seq_k fun _ hK4 => wp_region_lit (run S (.yy (ys_bld (ps := []) (us := [_, _, _]) bld39 .nil rfl) rfl <| .mv rfl <| .z) fun a w S => st_m (op_stW S sizeOf39 (.t rfl) (.t rfl) (k := 5) rfl rfl rfl (by simp [Value.oneCell']) fun a w S => run S (.as rfl <| .z) fun a w S => st_nil (then_normal (hK4 _ _ (wp_ret (then_ret (in_ret (then_ret (then_ret (in_ret (then_ret (st_ret S (results2 S results16 (Rv.cell (k := 5) ⟨isAgg39, sizeOf39⟩ rfl rfl rfl) (Rv.tmp rfl)) ?_))))))))))))))))))
      refine ⟨_, [rowOf 71 6 Ent.enc none 0 [], rowOf 122 3 Dot.enc none 0 [], rowOf 58 3 Dot.enc none 0 []], rfl, (((S.nil_ 58 3 Dot.enc none).nil_ 122 3 Dot.enc none).nil_ 71 6 Ent.enc none).wd.pk, none, 0, none, 0, none, 0, ?_, ?_⟩ <;> rw [hD] <;> rfl
  obtain rfl : i = n := by omega
  rw [Nat.sub_self, entsAt] at hno
  have hents : entsAt b (i : Int).toNat [] k1 = (acc, k', 0) := by rw [Int.toNat_natCast]; exact hno.symm
  have t3 := decAt_le hk'
  by_cases hC : (decAt b k').2.2 = 0
  rotate_left
  · have hD := decR_ctx hN h64 hents hC
    have rw_d : decide ((decAt b k').2.2 ≠ 0) = true := decide_eq_true hC
    have rw_d2 : decide ((decAt b k').2.2 = 0) = false := decide_eq_false hC
    refine sg S (.ge (by omega) rfl rfl <| .z) fun a w S => wp_seq_k fun _ hK2 => st_else S (.t rfl) (wp_exit (then_exit (then_exit (in_here (then_normal (hK1 _ _ (wp_seq_k fun _ hK1 => wp_region_lit (run S (.mv rfl <| .z) fun a w S => ?_))))))))
    (replace S := S.pull 3 rfl; try simp only [List.set_cons_zero, List.set_cons_succ, List.eraseIdx_cons_succ, List.eraseIdx_cons_zero] at S; replace S := S.pull 3 rfl; try simp only [List.set_cons_zero, List.set_cons_succ, List.eraseIdx_cons_succ, List.eraseIdx_cons_zero] at S; refine st_m (op_callO S call59 (.cons (.t rfl) .nil) (c59 S.wd (by first | assumption | omega | (dsimp only; omega) | exact Sl.nil_ | exact .old S.wd (by assumption) | exact Sl.of_own S.wd (k := 0) rfl (fun _ => rfl) | exact Sl.of_own S.wd (k := 1) rfl (fun _ => rfl) | exact Sl.of_own S.wd (k := 2) rfl (fun _ => rfl) | exact Sl.of_own S.wd (k := 3) rfl (fun _ => rfl) | exact Sl.of_own S.wd (k := 4) rfl (fun _ => rfl) | (simp at *; omega)) (by first | assumption | omega | (dsimp only; omega) | exact Sl.nil_ | exact .old S.wd (by assumption) | exact Sl.of_own S.wd (k := 0) rfl (fun _ => rfl) | exact Sl.of_own S.wd (k := 1) rfl (fun _ => rfl) | exact Sl.of_own S.wd (k := 2) rfl (fun _ => rfl) | exact Sl.of_own S.wd (k := 3) rfl (fun _ => rfl) | exact Sl.of_own S.wd (k := 4) rfl (fun _ => rfl) | (simp at *; omega))) rfl ?_) <;> clear S a w)
    rintro _ _ ⟨B1, c2, B'1, c'1, rfl, rfl⟩ a w S
    refine run S (.mv rfl <| .ex rfl rfl <| .ex rfl rfl <| .fa underlying39 sizeOf37 1 rfl rfl rfl <| .z) fun a w S => st_m (op_stA S sizeOf37 (.t rfl) (.t rfl) (k := 5) rfl rfl (by simp [Value.oneCell']) (by simp) fun a w S => run S (.as rfl <| .z) fun a w S => st_nil (then_normal (hK1 _ _ (wp_seq_k fun _ hK1 => sg S (.mv rfl <| .yy (ys_F (by omega) (ys_eql (.t rfl) Ev.c)) rfl <| .z) fun a w S => st_else S (.t rfl) (wp_skip (then_normal (hK1 _ _ (wp_seq_k fun _ hK1 => sg S (.mv rfl <| .yy (ys_F (by omega) (ys_eql (.t rfl) Ev.c)) rfl <| .z) fun a w S => st_else S (.t rfl) (wp_skip (then_normal (hK1 _ _ (wp_seq_k fun _ hK1 => sg S (.mv rfl <| .yy (ys_T (by omega) (ys_neq (.t rfl) Ev.c)) rfl <| .z) fun a w S => st_then S (.t rfl) (wp_seq_k fun _ hK3 => wp_region_lit (run S (.yy (ys_bld (ps := []) (us := [_, _, _]) bld39 .nil rfl) rfl <| .mv rfl <| .z) fun a w S => st_m (op_stW S sizeOf39 (.t rfl) (.t rfl) (k := 6) rfl rfl rfl (by simp [Value.oneCell']) fun a w S => run S (.as rfl <| .z) fun a w S => st_nil (then_normal (hK3 _ _ (wp_ret (then_ret (st_ret S (results2 S results16 (Rv.cell (k := 6) ⟨isAgg39, sizeOf39⟩ rfl rfl rfl) (Rv.tmp rfl)) ?_))))))))))))))))))))
    refine ⟨_, [rowOf 71 6 Ent.enc none 0 [], rowOf 122 3 Dot.enc none 0 [], rowOf 58 3 Dot.enc none 0 []], rfl, (((S.nil_ 58 3 Dot.enc none).nil_ 122 3 Dot.enc none).nil_ 71 6 Ent.enc none).wd.pk, none, 0, none, 0, none, 0, ?_, ?_⟩ <;> rw [hD] <;> rfl
  have hL := decR_last hN h64 hents hC
  obtain ⟨C, rw_C⟩ : ∃ C, (decAt b k').1 = C := ⟨_, rfl⟩
  obtain ⟨X, rfl, rfl⟩ : ∃ X : Cart, acc = X.ents ∧ C = X.ctx := ⟨⟨acc, C⟩, rfl, rfl⟩
  obtain ⟨k3, rw_k3⟩ : ∃ k3, (decAt b k').2.1 = k3 := ⟨_, rfl⟩
  have rw_c := hC
  rw [rw_C, rw_k3] at hL
  rw [rw_k3] at t3
  by_cases hm : k3 < b.length
  · have hD : decK b = (Cart.zero, 3) := by rw [hL, lastK_more hm]
    have rw_m : (if k3 < b.length then (3 : Int) else 0) = 3 := if_pos hm
    refine sg S (.ge (by omega) rfl rfl <| .z) fun a w S => wp_seq_k fun _ hK2 => st_else S (.t rfl) (wp_exit (then_exit (then_exit (in_here (then_normal (hK1 _ _ (wp_seq_k fun _ hK1 => wp_region_lit (run S (.mv rfl <| .z) fun a w S => ?_))))))))
    (replace S := S.pull 3 rfl; try simp only [List.set_cons_zero, List.set_cons_succ, List.eraseIdx_cons_succ, List.eraseIdx_cons_zero] at S; replace S := S.pull 3 rfl; try simp only [List.set_cons_zero, List.set_cons_succ, List.eraseIdx_cons_succ, List.eraseIdx_cons_zero] at S; refine st_m (op_callO S call59 (.cons (.t rfl) .nil) (c59 S.wd (by first | assumption | omega | (dsimp only; omega) | exact Sl.nil_ | exact .old S.wd (by assumption) | exact Sl.of_own S.wd (k := 0) rfl (fun _ => rfl) | exact Sl.of_own S.wd (k := 1) rfl (fun _ => rfl) | exact Sl.of_own S.wd (k := 2) rfl (fun _ => rfl) | exact Sl.of_own S.wd (k := 3) rfl (fun _ => rfl) | exact Sl.of_own S.wd (k := 4) rfl (fun _ => rfl) | (simp at *; omega)) (by first | assumption | omega | (dsimp only; omega) | exact Sl.nil_ | exact .old S.wd (by assumption) | exact Sl.of_own S.wd (k := 0) rfl (fun _ => rfl) | exact Sl.of_own S.wd (k := 1) rfl (fun _ => rfl) | exact Sl.of_own S.wd (k := 2) rfl (fun _ => rfl) | exact Sl.of_own S.wd (k := 3) rfl (fun _ => rfl) | exact Sl.of_own S.wd (k := 4) rfl (fun _ => rfl) | (simp at *; omega))) rfl ?_) <;> clear S a w)
    rintro _ _ ⟨B1, c2, B'1, c'1, rfl, rfl⟩ a w S
    rw [rw_C] at S
    rw [rw_k3] at S
    rw [rw_c] at S
    refine run S (.mv rfl <| .ex rfl rfl <| .ex rfl rfl <| .fa underlying39 sizeOf37 1 rfl rfl rfl <| .z) fun a w S => st_m (op_stA S sizeOf37 (.t rfl) (.t rfl) (k := 5) rfl rfl (by simp [Value.oneCell']) (by simp) fun a w S => run S (.as rfl <| .z) fun a w S => st_nil (then_normal (hK1 _ _ (wp_seq_k fun _ hK1 => sg S (.mv rfl <| .yy (ys_T (by omega) (ys_eql (.t rfl) Ev.c)) rfl <| .z) fun a w S => st_then S (.t rfl) (wp_region_lit (run S (.mv rfl <| .xx (ys_call call60 (.cons (.t rfl) .nil) (fun hp w W => c60 _ _ _ _ _ _ (by exact Wd.cell W (k := 0) rfl rfl) (by exact Wd.cell W (k := 0) rfl rfl) (by exact Wd.cell W (k := 0) rfl rfl) (by omega) (by omega))) rfl <| .z) fun a w S => ?_))))))
    rw [rw_m] at S
    refine run S (.as rfl <| .z) fun a w S => st_nil (then_normal (hK1 _ _ (wp_seq_k fun _ hK1 => sg S (.mv rfl <| .yy (ys_F (by omega) (ys_eql (.t rfl) Ev.c)) rfl <| .z) fun a w S => st_else S (.t rfl) (wp_skip (then_normal (hK1 _ _ (wp_seq_k fun _ hK1 => sg S (.mv rfl <| .yy (ys_T (by omega) (ys_neq (.t rfl) Ev.c)) rfl <| .z) fun a w S => st_then S (.t rfl) (wp_seq_k fun _ hK3 => wp_region_lit (run S (.yy (ys_bld (ps := []) (us := [_, _, _]) bld39 .nil rfl) rfl <| .mv rfl <| .z) fun a w S => st_m (op_stW S sizeOf39 (.t rfl) (.t rfl) (k := 6) rfl rfl rfl (by simp [Value.oneCell']) fun a w S => run S (.as rfl <| .z) fun a w S => st_nil (then_normal (hK3 _ _ (wp_ret (then_ret (st_ret S (results2 S results16 (Rv.cell (k := 6) ⟨isAgg39, sizeOf39⟩ rfl rfl rfl) (Rv.tmp rfl)) ?_)))))))))))))))
    refine ⟨_, [rowOf 71 6 Ent.enc none 0 [], rowOf 122 3 Dot.enc none 0 [], rowOf 58 3 Dot.enc none 0 []], rfl, (((S.nil_ 58 3 Dot.enc none).nil_ 122 3 Dot.enc none).nil_ 71 6 Ent.enc none).wd.pk, none, 0, none, 0, none, 0, ?_, ?_⟩ <;> rw [hD] <;> rfl
  have rw_m : (if k3 < b.length then (3 : Int) else 0) = 0 := if_neg hm
  by_cases hK : canE X = 0
  · have hD : decK b = (X, 0) := by rw [hL, lastK_ok hm hK]
    have rw_K := hK
    refine sg S (.ge (by omega) rfl rfl <| .z) fun a w S => wp_seq_k fun _ hK2 => st_else S (.t rfl) (wp_exit (then_exit (then_exit (in_here (then_normal (hK1 _ _ (wp_seq_k fun _ hK1 => wp_region_lit (run S (.mv rfl <| .z) fun a w S => ?_))))))))
    (replace S := S.pull 3 rfl; try simp only [List.set_cons_zero, List.set_cons_succ, List.eraseIdx_cons_succ, List.eraseIdx_cons_zero] at S; replace S := S.pull 3 rfl; try simp only [List.set_cons_zero, List.set_cons_succ, List.eraseIdx_cons_succ, List.eraseIdx_cons_zero] at S; refine st_m (op_callO S call59 (.cons (.t rfl) .nil) (c59 S.wd (by first | assumption | omega | (dsimp only; omega) | exact Sl.nil_ | exact .old S.wd (by assumption) | exact Sl.of_own S.wd (k := 0) rfl (fun _ => rfl) | exact Sl.of_own S.wd (k := 1) rfl (fun _ => rfl) | exact Sl.of_own S.wd (k := 2) rfl (fun _ => rfl) | exact Sl.of_own S.wd (k := 3) rfl (fun _ => rfl) | exact Sl.of_own S.wd (k := 4) rfl (fun _ => rfl) | (simp at *; omega)) (by first | assumption | omega | (dsimp only; omega) | exact Sl.nil_ | exact .old S.wd (by assumption) | exact Sl.of_own S.wd (k := 0) rfl (fun _ => rfl) | exact Sl.of_own S.wd (k := 1) rfl (fun _ => rfl) | exact Sl.of_own S.wd (k := 2) rfl (fun _ => rfl) | exact Sl.of_own S.wd (k := 3) rfl (fun _ => rfl) | exact Sl.of_own S.wd (k := 4) rfl (fun _ => rfl) | (simp at *; omega))) rfl ?_) <;> clear S a w)
    rintro _ _ ⟨B1, c2, B'1, c'1, rfl, rfl⟩ a w S
    rw [rw_C] at S
    rw [rw_k3] at S
    rw [rw_c] at S
    refine run S (.mv rfl <| .ex rfl rfl <| .ex rfl rfl <| .fa underlying39 sizeOf37 1 rfl rfl rfl <| .z) fun a w S => st_m (op_stA S sizeOf37 (.t rfl) (.t rfl) (k := 5) rfl rfl (by simp [Value.oneCell']) (by simp) fun a w S => run S (.as rfl <| .z) fun a w S => st_nil (then_normal (hK1 _ _ (wp_seq_k fun _ hK1 => sg S (.mv rfl <| .yy (ys_T (by omega) (ys_eql (.t rfl) Ev.c)) rfl <| .z) fun a w S => st_then S (.t rfl) (wp_region_lit (run S (.mv rfl <| .xx (ys_call call60 (.cons (.t rfl) .nil) (fun hp w W => c60 _ _ _ _ _ _ (by exact Wd.cell W (k := 0) rfl rfl) (by exact Wd.cell W (k := 0) rfl rfl) (by exact Wd.cell W (k := 0) rfl rfl) (by omega) (by omega))) rfl <| .z) fun a w S => ?_))))))
    rw [rw_m] at S
    refine run S (.as rfl <| .z) fun a w S => st_nil (then_normal (hK1 _ _ (wp_seq_k fun _ hK1 => sg S (.mv rfl <| .yy (ys_T (by omega) (ys_eql (.t rfl) Ev.c)) rfl <| .z) fun a w S => st_then S (.t rfl) (wp_region_lit (run S (.la gt39 5 rfl rfl rfl <| .xx (ys_call call52 (.cons (.t rfl) .nil) (fun hp w W => c52 _ _ _ _ _ (by exact Sl.of_own W (k := 4) rfl (fun _ => rfl)) (by exact ⟨(by exact Sl.of_own W (k := 2) rfl (fun _ => rfl)), (by exact Sl.of_own W (k := 3) rfl (fun _ => rfl))⟩))) rfl <| .z) fun a w S => ?_)))))
    rw [rw_K] at S
    refine run S (.as rfl <| .z) fun a w S => st_nil (then_normal (hK1 _ _ (wp_seq_k fun _ hK1 => sg S (.mv rfl <| .yy (ys_F (by omega) (ys_neq (.t rfl) Ev.c)) rfl <| .z) fun a w S => st_else S (.t rfl) (wp_skip (then_normal (hK1 _ _ (wp_seq_k fun _ hK1 => wp_region_lit (run S (.la gt39 5 rfl rfl rfl <| .z) fun a w S => st_m (op_stW S sizeOf39 (.t rfl) (.t rfl) (k := 6) rfl rfl rfl (by simp [Value.oneCell']) fun a w S => run S (.ac rfl <| .z) fun a w S => st_nil (then_normal (hK1 _ _ (wp_ret (st_ret S (results2 S results16 (Rv.cell (k := 6) ⟨isAgg39, sizeOf39⟩ rfl rfl rfl) (Rv.tmp rfl)) ?_)))))))))))))
    refine ⟨_, [rowOf 71 6 Ent.enc D cD X.ents, rowOf 122 3 Dot.enc B1 c2 X.ctx.marks, rowOf 58 3 Dot.enc B'1 c'1 X.ctx.cloud], rfl, S.wd.pk, D, cD, B1, c2, B'1, c'1, ?_, ?_⟩ <;> rw [hD]
  · have hD : decK b = (Cart.zero, canE X) := by rw [hL, lastK_bad hm hK]
    have rw_K : decide (canE X ≠ 0) = true := decide_eq_true hK
    refine sg S (.ge (by omega) rfl rfl <| .z) fun a w S => wp_seq_k fun _ hK2 => st_else S (.t rfl) (wp_exit (then_exit (then_exit (in_here (then_normal (hK1 _ _ (wp_seq_k fun _ hK1 => wp_region_lit (run S (.mv rfl <| .z) fun a w S => ?_))))))))
    (replace S := S.pull 3 rfl; try simp only [List.set_cons_zero, List.set_cons_succ, List.eraseIdx_cons_succ, List.eraseIdx_cons_zero] at S; replace S := S.pull 3 rfl; try simp only [List.set_cons_zero, List.set_cons_succ, List.eraseIdx_cons_succ, List.eraseIdx_cons_zero] at S; refine st_m (op_callO S call59 (.cons (.t rfl) .nil) (c59 S.wd (by first | assumption | omega | (dsimp only; omega) | exact Sl.nil_ | exact .old S.wd (by assumption) | exact Sl.of_own S.wd (k := 0) rfl (fun _ => rfl) | exact Sl.of_own S.wd (k := 1) rfl (fun _ => rfl) | exact Sl.of_own S.wd (k := 2) rfl (fun _ => rfl) | exact Sl.of_own S.wd (k := 3) rfl (fun _ => rfl) | exact Sl.of_own S.wd (k := 4) rfl (fun _ => rfl) | (simp at *; omega)) (by first | assumption | omega | (dsimp only; omega) | exact Sl.nil_ | exact .old S.wd (by assumption) | exact Sl.of_own S.wd (k := 0) rfl (fun _ => rfl) | exact Sl.of_own S.wd (k := 1) rfl (fun _ => rfl) | exact Sl.of_own S.wd (k := 2) rfl (fun _ => rfl) | exact Sl.of_own S.wd (k := 3) rfl (fun _ => rfl) | exact Sl.of_own S.wd (k := 4) rfl (fun _ => rfl) | (simp at *; omega))) rfl ?_) <;> clear S a w)
    rintro _ _ ⟨B1, c2, B'1, c'1, rfl, rfl⟩ a w S
    rw [rw_C] at S
    rw [rw_k3] at S
    rw [rw_c] at S
    refine run S (.mv rfl <| .ex rfl rfl <| .ex rfl rfl <| .fa underlying39 sizeOf37 1 rfl rfl rfl <| .z) fun a w S => st_m (op_stA S sizeOf37 (.t rfl) (.t rfl) (k := 5) rfl rfl (by simp [Value.oneCell']) (by simp) fun a w S => run S (.as rfl <| .z) fun a w S => st_nil (then_normal (hK1 _ _ (wp_seq_k fun _ hK1 => sg S (.mv rfl <| .yy (ys_T (by omega) (ys_eql (.t rfl) Ev.c)) rfl <| .z) fun a w S => st_then S (.t rfl) (wp_region_lit (run S (.mv rfl <| .xx (ys_call call60 (.cons (.t rfl) .nil) (fun hp w W => c60 _ _ _ _ _ _ (by exact Wd.cell W (k := 0) rfl rfl) (by exact Wd.cell W (k := 0) rfl rfl) (by exact Wd.cell W (k := 0) rfl rfl) (by omega) (by omega))) rfl <| .z) fun a w S => ?_))))))
    rw [rw_m] at S
    refine run S (.as rfl <| .z) fun a w S => st_nil (then_normal (hK1 _ _ (wp_seq_k fun _ hK1 => sg S (.mv rfl <| .yy (ys_T (by omega) (ys_eql (.t rfl) Ev.c)) rfl <| .z) fun a w S => st_then S (.t rfl) (rg S (.la gt39 5 rfl rfl rfl <| .xx (ys_call call52 (.cons (.t rfl) .nil) (fun hp w W => c52 _ _ _ _ _ (by exact Sl.of_own W (k := 4) rfl (fun _ => rfl)) (by exact ⟨(by exact Sl.of_own W (k := 2) rfl (fun _ => rfl)), (by exact Sl.of_own W (k := 3) rfl (fun _ => rfl))⟩))) rfl <| .as rfl <| .z) hK1 fun a w S => wp_seq_k fun _ hK1 => sg S (.mv rfl <| .yy (ys_T (by omega) (ys_neq (.t rfl) Ev.c)) rfl <| .z) fun a w S => st_then S (.t rfl) (wp_seq_k fun _ hK3 => wp_region_lit (run S (.yy (ys_bld (ps := []) (us := [_, _, _]) bld39 .nil rfl) rfl <| .mv rfl <| .z) fun a w S => st_m (op_stW S sizeOf39 (.t rfl) (.t rfl) (k := 6) rfl rfl rfl (by simp [Value.oneCell']) fun a w S => run S (.as rfl <| .z) fun a w S => st_nil (then_normal (hK3 _ _ (wp_ret (then_ret (st_ret S (results2 S results16 (Rv.cell (k := 6) ⟨isAgg39, sizeOf39⟩ rfl rfl rfl) (Rv.tmp rfl)) ?_))))))))))))
    refine ⟨_, [rowOf 71 6 Ent.enc none 0 [], rowOf 122 3 Dot.enc none 0 [], rowOf 58 3 Dot.enc none 0 []], rfl, (((S.nil_ 58 3 Dot.enc none).nil_ 122 3 Dot.enc none).nil_ 71 6 Ent.enc none).wd.pk, none, 0, none, 0, none, 0, ?_, ?_⟩ <;> rw [hD] <;> rfl
end Go.Proofs.YtfblmkocmnbdcaaGreat
set_option linter.unusedVariables false
set_option linter.unusedSimpArgs false
set_option maxRecDepth 100000
set_option maxHeartbeats 4000000
namespace Go.Proofs.YtfblmkocmnbdcaaGreat
open Go.Fw Go.Proofs Go.RowKit Go.Proofs.Tryz
theorem c18 (w0 : World) (v1 : Value) (b : List UInt8) (h : Sl encB 1 w0 w0.heap.size v1 b) (hb : b.length ≤ 4194304) :
    Rets Tryz.prog 18 #[v1] w0 fun v L => ∃ A1 r1 A2 r2 A3 r3, v = .tuple #[.agg #[.slice A1 (decK b).1.ents.length r1, .slice A2 (decK b).1.ctx.marks.length r2, .slice A3 (decK b).1.ctx.cloud.length r3], .int .i64 (decK b).2] ∧
      L = [rowOf 71 6 Ent.enc A1 r1 (decK b).1.ents, rowOf 122 3 Dot.enc A2 r2 (decK b).1.ctx.marks, rowOf 58 3 Dot.enc A3 r3 (decK b).1.ctx.cloud] := by
  have hs := h
  obtain ⟨A, cap, rfl, hl, hcap, hA⟩ := h
  have hv := numAt_val b 0
  have t1 := numAt_le (b := b) (k := 0) (Nat.zero_le _)
  obtain ⟨x0, k1, e, hN⟩ : ∃ x k e, numAt b 0 = (x, k, e) := ⟨_, _, _, rfl⟩
  have rw_Na : (numAt b 0).1 = x0 := by rw [hN]
  have rw_Nb : (numAt b 0).2.1 = k1 := by rw [hN]
  have rw_Nc : (numAt b 0).2.2 = e := by rw [hN]
  rw [rw_Na] at hv
  rw [rw_Nb] at t1
  by_cases he : e = 0
  rotate_left
  · have rw_d : decide (e ≠ 0) = true := decide_eq_true he
    have hD := decR_num hN he
    unfold Go.Fw.Rets
    refine enter1 func18 rfl ntmps18 rfl fun a S => wp_seq_k fun _ hK1 => wp_region_lit (st_m (op_alloc S zeroValue39 (cs := _) rfl rfl fun g1 a w S => run S (.ac rfl <| .z) fun a w S => st_nil (then_normal (hK1 _ _ (wp_seq_k fun _ hK1 => wp_region_lit (run S (.mv rfl <| .yy (ys_bld (ps := [(0, Go.Operand.tmp 12)]) (us := [_, _]) bld105 (.cons (.t rfl) .nil) rfl) rfl <| .z) fun a w S => st_m (op_box S (.t rfl) rfl fun g2 a w S => run S (.as rfl <| .z) fun a w S => st_nil (then_normal (hK1 _ _ (wp_seq_k fun _ hK1 => wp_region_lit (run S (.mv rfl <| .z) fun a w S => ?_)))))))))))
    (refine st_m (op_callO S call63 (.cons (.t rfl) .nil) (c63 S.wd (by first | assumption | omega | (dsimp only; omega) | exact Sl.nil_ | exact .old S.wd (by assumption) | exact Sl.of_own S.wd (k := 0) rfl (fun _ => rfl) | exact Sl.of_own S.wd (k := 1) rfl (fun _ => rfl) | (simp at *; omega)) (by first | assumption | omega | (dsimp only; omega) | exact Sl.nil_ | exact .old S.wd (by assumption) | exact Sl.of_own S.wd (k := 0) rfl (fun _ => rfl) | exact Sl.of_own S.wd (k := 1) rfl (fun _ => rfl) | (simp at *; omega)) (by first | assumption | omega | (dsimp only; omega) | exact Sl.nil_ | exact .old S.wd (by assumption) | exact Sl.of_own S.wd (k := 0) rfl (fun _ => rfl) | exact Sl.of_own S.wd (k := 1) rfl (fun _ => rfl) | (simp at *; omega))) rfl ?_) <;> clear S a w)
    rintro _ _ ⟨rfl, rfl⟩ a w S
    rw [rw_Na] at S
    rw [rw_Nb] at S
    rw [rw_Nc] at S
    refine run S (.mv rfl <| .ex rfl rfl <| .ex rfl rfl <| .as rfl <| .as rfl <| .z) fun a w S => st_nil (then_normal (hK1 _ _ (wp_seq_k fun _ hK1 => sg S (.mv rfl <| .yy (ys_T (by omega) (ys_neq (.t rfl) Ev.c)) rfl <| .z) fun a w S => st_then S (.t rfl) (wp_seq_k fun _ hK2 => wp_region_lit (run S (.yy (ys_bld (ps := []) (us := [_, _, _]) bld39 .nil rfl) rfl <| .mv rfl <| .z) fun a w S => st_m (op_stW S sizeOf39 (.t rfl) (.t rfl) (k := 1) rfl rfl rfl (by simp [Value.oneCell']) fun a w S => run S (.as rfl <| .z) fun a w S => st_nil (then_normal (hK2 _ _ (wp_ret (then_ret (st_ret S (results2 S results18 (Rv.cell (k := 1) ⟨isAgg39, sizeOf39⟩ rfl rfl rfl) (Rv.tmp rfl)) ?_)))))))))))
    refine ⟨_, [rowOf 71 6 Ent.enc none 0 [], rowOf 122 3 Dot.enc none 0 [], rowOf 58 3 Dot.enc none 0 []], rfl, (((S.nil_ 58 3 Dot.enc none).nil_ 122 3 Dot.enc none).nil_ 71 6 Ent.enc none).wd.pk, none, 0, none, 0, none, 0, ?_, ?_⟩ <;> rw [hD] <;> rfl
  subst he
  by_cases h64 : 64 < x0
  · have hD := decR_long hN h64
    unfold Go.Fw.Rets
    refine enter1 func18 rfl ntmps18 rfl fun a S => wp_seq_k fun _ hK1 => wp_region_lit (st_m (op_alloc S zeroValue39 (cs := _) rfl rfl fun g1 a w S => run S (.ac rfl <| .z) fun a w S => st_nil (then_normal (hK1 _ _ (wp_seq_k fun _ hK1 => wp_region_lit (run S (.mv rfl <| .yy (ys_bld (ps := [(0, Go.Operand.tmp 12)]) (us := [_, _]) bld105 (.cons (.t rfl) .nil) rfl) rfl <| .z) fun a w S => st_m (op_box S (.t rfl) rfl fun g2 a w S => run S (.as rfl <| .z) fun a w S => st_nil (then_normal (hK1 _ _ (wp_seq_k fun _ hK1 => wp_region_lit (run S (.mv rfl <| .z) fun a w S => ?_)))))))))))
    (refine st_m (op_callO S call63 (.cons (.t rfl) .nil) (c63 S.wd (by first | assumption | omega | (dsimp only; omega) | exact Sl.nil_ | exact .old S.wd (by assumption) | exact Sl.of_own S.wd (k := 0) rfl (fun _ => rfl) | exact Sl.of_own S.wd (k := 1) rfl (fun _ => rfl) | (simp at *; omega)) (by first | assumption | omega | (dsimp only; omega) | exact Sl.nil_ | exact .old S.wd (by assumption) | exact Sl.of_own S.wd (k := 0) rfl (fun _ => rfl) | exact Sl.of_own S.wd (k := 1) rfl (fun _ => rfl) | (simp at *; omega)) (by first | assumption | omega | (dsimp only; omega) | exact Sl.nil_ | exact .old S.wd (by assumption) | exact Sl.of_own S.wd (k := 0) rfl (fun _ => rfl) | exact Sl.of_own S.wd (k := 1) rfl (fun _ => rfl) | (simp at *; omega))) rfl ?_) <;> clear S a w)
    rintro _ _ ⟨rfl, rfl⟩ a w S
    rw [rw_Na] at S
    rw [rw_Nb] at S
    rw [rw_Nc] at S
    refine run S (.mv rfl <| .ex rfl rfl <| .ex rfl rfl <| .as rfl <| .as rfl <| .z) fun a w S => st_nil (then_normal (hK1 _ _ (wp_seq_k fun _ hK1 => sg S (.mv rfl <| .yy (ys_F (by omega) (ys_neq (.t rfl) Ev.c)) rfl <| .z) fun a w S => st_else S (.t rfl) (wp_skip (then_normal (hK1 _ _ (wp_seq_k fun _ hK1 => sg S (.mv rfl <| .yy (ys_T (by omega) (ys_gtr (.t rfl) Ev.c)) rfl <| .z) fun a w S => st_then S (.t rfl) (wp_seq_k fun _ hK2 => wp_region_lit (run S (.yy (ys_bld (ps := []) (us := [_, _, _]) bld39 .nil rfl) rfl <| .z) fun a w S => st_m (op_stW S sizeOf39 (.t rfl) (.t rfl) (k := 1) rfl rfl rfl (by simp [Value.oneCell']) fun a w S => run S (.ac rfl <| .z) fun a w S => st_nil (then_normal (hK2 _ _ (wp_ret (then_ret (st_ret S (results2 S results18 (Rv.cell (k := 1) ⟨isAgg39, sizeOf39⟩ rfl rfl rfl) (Rv.tmp rfl)) ?_)))))))))))))))
    refine ⟨_, [rowOf 71 6 Ent.enc none 0 [], rowOf 122 3 Dot.enc none 0 [], rowOf 58 3 Dot.enc none 0 []], rfl, (((S.nil_ 58 3 Dot.enc none).nil_ 122 3 Dot.enc none).nil_ 71 6 Ent.enc none).wd.pk, none, 0, none, 0, none, 0, ?_, ?_⟩ <;> rw [hD] <;> rfl
  obtain ⟨n, rfl⟩ : ∃ n : Nat, x0 = (n : Int) := ⟨x0.toNat, by omega⟩
  unfold Go.Fw.Rets
  refine enter1 func18 rfl ntmps18 rfl fun a S => wp_seq_k fun _ hK1 => wp_region_lit (st_m (op_alloc S zeroValue39 (cs := _) rfl rfl fun g1 a w S => run S (.ac rfl <| .z) fun a w S => st_nil (then_normal (hK1 _ _ (wp_seq_k fun _ hK1 => wp_region_lit (run S (.mv rfl <| .yy (ys_bld (ps := [(0, Go.Operand.tmp 12)]) (us := [_, _]) bld105 (.cons (.t rfl) .nil) rfl) rfl <| .z) fun a w S => st_m (op_box S (.t rfl) rfl fun g2 a w S => run S (.as rfl <| .z) fun a w S => st_nil (then_normal (hK1 _ _ (wp_seq_k fun _ hK1 => wp_region_lit (run S (.mv rfl <| .z) fun a w S => ?_)))))))))))
  (refine st_m (op_callO S call63 (.cons (.t rfl) .nil) (c63 S.wd (by first | assumption | omega | (dsimp only; omega) | exact Sl.nil_ | exact .old S.wd (by assumption) | exact Sl.of_own S.wd (k := 0) rfl (fun _ => rfl) | exact Sl.of_own S.wd (k := 1) rfl (fun _ => rfl) | (simp at *; omega)) (by first | assumption | omega | (dsimp only; omega) | exact Sl.nil_ | exact .old S.wd (by assumption) | exact Sl.of_own S.wd (k := 0) rfl (fun _ => rfl) | exact Sl.of_own S.wd (k := 1) rfl (fun _ => rfl) | (simp at *; omega)) (by first | assumption | omega | (dsimp only; omega) | exact Sl.nil_ | exact .old S.wd (by assumption) | exact Sl.of_own S.wd (k := 0) rfl (fun _ => rfl) | exact Sl.of_own S.wd (k := 1) rfl (fun _ => rfl) | (simp at *; omega))) rfl ?_) <;> clear S a w)
  rintro _ _ ⟨rfl, rfl⟩ a w S
  rw [rw_Nb] at S
  rw [rw_Nc] at S
  rw [rw_Na] at S
  refine run S (.mv rfl <| .ex rfl rfl <| .ex rfl rfl <| .as rfl <| .as rfl <| .z) fun a w S => st_nil (then_normal (hK1 _ _ (wp_seq_k fun _ hK1 => sg S (.mv rfl <| .yy (ys_F (by omega) (ys_neq (.t rfl) Ev.c)) rfl <| .z) fun a w S => st_else S (.t rfl) (wp_skip (then_normal (hK1 _ _ (wp_seq_k fun _ hK1 => sg S (.mv rfl <| .yy (ys_F (by omega) (ys_gtr (.t rfl) Ev.c)) rfl <| .z) fun a w S => st_else S (.t rfl) (wp_skip (then_normal (hK1 _ _ (wp_seq_k fun _ hK1 => wp_region_lit (st_m (op_alloc S zeroValue39 (cs := _) rfl rfl fun g3 a w S => st_nil (then_normal (hK1 _ _ (wp_seq_k fun _ hK1 => sg S (.mv rfl <| .mc rfl <| .z) fun a w S => wp_block ?_))))))))))))))))
  have h64' : n ≤ 64 := by omega
  refine st_lpM (S.nil_ 71 6 Ent.enc none) [28] (X := Nat × Nat × List Ent × Option Addr × Nat) (fun q => [(28, true, .int .i64 (q.1 : Int))])
    (fun q => rowOf 71 6 Ent.enc q.2.2.2.1 q.2.2.2.2 q.2.2.1 :: .blk g3 (.cells #[.slice q.2.2.2.1 q.2.2.1.length q.2.2.2.2, .slice none 0 0, .slice none 0 0] 39) :: rds g2 A cap b q.2.1 [.blk g1 (.cells #[.slice none 0 0, .slice none 0 0, .slice none 0 0] 39)])
    (fun q => q.1 ≤ n ∧ q.2.1 ≤ b.length ∧ q.2.2.1.length = q.1 ∧ entsAt b (n - q.1) q.2.2.1 q.2.1 = entsAt b n [] k1) (fun q => n - q.1) (0, k1, [], none, 0) ⟨Nat.zero_le _, t1.2, rfl, rfl⟩ ?_
  clear S
  rintro ⟨i, k', acc, D, cD⟩ a w ⟨hi, hk', hlen, hno⟩ S
  dsimp only at hi hk' hlen hno S
  by_cases hlt : i < n
  · rw [show n - i = (n - (i + 1)) + 1 by omega, entsAt] at hno
    have rw_i : (i : Int) + 1 = ((i + 1 : Nat) : Int) := rfl
    by_cases hE : (entAt b k').2.2 = 0
    · rw [bindR_ok hE] at hno
      have rw_E := hE
      refine sg S (.lt (by omega) rfl rfl <| .z) fun a w S => wp_seq_k fun _ hK2 => st_then S (.t rfl) (wp_skip (then_normal (hK2 _ _ (wp_seq_k fun _ hK2 => wp_block (wp_seq_k fun _ hK3 => wp_region_lit (run S (.mv rfl <| .z) fun a w S => ?_))))))
      (replace S := S.pull 2 rfl; try simp only [List.set_cons_zero, List.set_cons_succ, List.eraseIdx_cons_succ, List.eraseIdx_cons_zero] at S; refine st_m (op_callO S call64 (.cons (.t rfl) .nil) (c64 S.wd (by first | assumption | omega | (dsimp only; omega) | exact Sl.nil_ | exact .old S.wd (by assumption) | exact Sl.of_own S.wd (k := 0) rfl (fun _ => rfl) | exact Sl.of_own S.wd (k := 1) rfl (fun _ => rfl) | exact Sl.of_own S.wd (k := 2) rfl (fun _ => rfl) | exact Sl.of_own S.wd (k := 3) rfl (fun _ => rfl) | (simp at *; omega)) (by first | assumption | omega | (dsimp only; omega) | exact Sl.nil_ | exact .old S.wd (by assumption) | exact Sl.of_own S.wd (k := 0) rfl (fun _ => rfl) | exact Sl.of_own S.wd (k := 1) rfl (fun _ => rfl) | exact Sl.of_own S.wd (k := 2) rfl (fun _ => rfl) | exact Sl.of_own S.wd (k := 3) rfl (fun _ => rfl) | (simp at *; omega)) (by first | assumption | omega | (dsimp only; omega) | exact Sl.nil_ | exact .old S.wd (by assumption) | exact Sl.of_own S.wd (k := 0) rfl (fun _ => rfl) | exact Sl.of_own S.wd (k := 1) rfl (fun _ => rfl) | exact Sl.of_own S.wd (k := 2) rfl (fun _ => rfl) | exact Sl.of_own S.wd (k := 3) rfl (fun _ => rfl) | (simp at *; omega))) rfl ?_) <;> clear S a w)
      rintro _ _ ⟨x1, k'1, rfl, rfl, hr1⟩ a w S
      rw [rw_E] at S
      refine run S (.mv rfl <| .ex rfl rfl <| .ex rfl rfl <| .z) fun a w S => st_m (op_alloc S zeroValue71 (cs := _) rfl rfl fun g4 a w S => st_m (op_stW S sizeOf71 (.t rfl) (.t rfl) (k := 0) rfl rfl rfl (by simp [Value.oneCell']) fun a w S => run S (.as rfl <| .z) fun a w S => st_nil (then_normal (hK3 _ _ (wp_seq_k fun _ hK3 => sg S (.mv rfl <| .yy (ys_F (by omega) (ys_neq (.t rfl) Ev.c)) rfl <| .z) fun a w S => st_else S (.t rfl) (wp_skip (then_normal (hK3 _ _ (wp_region_lit (run S (.fa underlying39 sizeOf33 0 rfl rfl rfl <| .ld gt33 3 rfl rfl rfl <| .la gt71 0 rfl rfl rfl <| .z) fun a w S => st_m (op_bslice1 S underlying33 inf71 rfl rfl rfl (.t rfl) rfl rfl rfl fun g5 a w S => st_m (op_push S underlying33 inf71 rfl (k := 3) (j := 0) rfl (.t rfl) (.t rfl) rfl rfl rfl rfl (by first | omega | (simp only [List.length_append, List.length_cons, List.length_nil]; omega)) rfl rfl rfl fun A1 cap1 a w S => run S (.fa underlying39 sizeOf33 0 rfl rfl rfl <| .z) fun a w S => st_m (op_st S sizeOf33 (.t rfl) (.t rfl) (k := 4) rfl rfl (by simp) fun a w S => st_nil (in_normal (then_normal (hK2 _ _ (wp_region_lit (run S (.ad (by unfold I64; omega) rfl <| .z) fun a w S => ?_))))))))))))))))))
      rw [rw_i] at S
      refine run S (.mv rfl <| .z) fun a w S => st_nil (then_normal ?_)
      obtain ⟨q1, q2⟩ := hr1
      obtain ⟨q3, q4⟩ := q2 hE
      rw [← q3, ← q4] at hno
      exact ⟨(i + 1, k'1, acc ++ [x1], A1, cap1), ⟨by dsimp only; omega, q1, by simp [hlen], hno⟩, by dsimp only; omega, S.pk⟩
    · have hb2 : (entsAt b n [] k1).2.2 = (entAt b k').2.2 := by rw [← hno, bindR_bad hE]
      have hD : decK b = (Cart.zero, (entAt b k').2.2) := by
        rw [decR_ents hN h64 (by rw [Int.toNat_natCast, hb2]; exact hE), Int.toNat_natCast, hb2]
      have rw_d : decide ((entAt b k').2.2 ≠ 0) = true := decide_eq_true hE
      refine sg S (.lt (by omega) rfl rfl <| .z) fun a w S => wp_seq_k fun _ hK2 => st_then S (.t rfl) (wp_skip (then_normal (hK2 _ _ (wp_seq_k fun _ hK2 => wp_block (wp_seq_k fun _ hK3 => wp_region_lit (run S (.mv rfl <| .z) fun a w S => ?_))))))
      (replace S := S.pull 2 rfl; try simp only [List.set_cons_zero, List.set_cons_succ, List.eraseIdx_cons_succ, List.eraseIdx_cons_zero] at S; refine st_m (op_callO S call64 (.cons (.t rfl) .nil) (c64 S.wd (by first | assumption | omega | (dsimp only; omega) | exact Sl.nil_ | exact .old S.wd (by assumption) | exact Sl.of_own S.wd (k := 0) rfl (fun _ => rfl) | exact Sl.of_own S.wd (k := 1) rfl (fun _ => rfl) | exact Sl.of_own S.wd (k := 2) rfl (fun _ => rfl) | exact Sl.of_own S.wd (k := 3) rfl (fun _ => rfl) | (simp at *; omega)) (by first | assumption | omega | (dsimp only; omega) | exact Sl.nil_ | exact .old S.wd (by assumption) | exact Sl.of_own S.wd (k := 0) rfl (fun _ => rfl) | exact Sl.of_own S.wd (k := 1) rfl (fun _ => rfl) | exact Sl.of_own S.wd (k := 2) rfl (fun _ => rfl) | exact Sl.of_own S.wd (k := 3) rfl (fun _ => rfl) | (simp at *; omega)) (by first | assumption | omega | (dsimp only; omega) | exact Sl.nil_ | exact .old S.wd (by assumption) | exact Sl.of_own S.wd (k := 0) rfl (fun _ => rfl) | exact Sl.of_own S.wd (k := 1) rfl (fun _ => rfl) | exact Sl.of_own S.wd (k := 2) rfl (fun _ => rfl) | exact Sl.of_own S.wd (k := 3) rfl (fun _ => rfl) | (simp at *; omega))) rfl ?_) <;> clear S a w)
      rintro _ _ ⟨x1, k'1, rfl, rfl, hr1⟩ a w S
      refine run S (.mv rfl <| .ex rfl rfl <| .ex rfl rfl <| .z) fun a w S => st_m (op_alloc S zeroValue71 (cs := _) rfl rfl fun g4 a w S => st_m (op_stW S sizeOf71 (.t rfl) (.t rfl) (k := 0) rfl rfl rfl (by simp [Value.oneCell']) fun a w S => run S (.as rfl <| .z) fun a w S => st_nil (then_normal (hK3 _ _ (wp_seq_k fun _ hK3 => sg S (.mv rfl <| .yy (ys_T (by omega) (ys_neq (.t rfl) Ev.c)) rfl <| .z) fun a w S => st_then S (.t rfl) (wp_seq_k fun _ hK4 => wp_region_lit (run S (.yy (ys_bld (ps := []) (us := [_, _, _]) bld39 .nil rfl) rfl <| .mv rfl <| .z) fun a w S => st_m (op_stW S sizeOf39 (.t rfl) (.t rfl) (k := 4) rfl rfl rfl (by simp [Value.oneCell']) fun a w S => run S (.as rfl <| .z) fun a w S => st_nil (then_normal (hK4 _ _ (wp_ret (then_ret (in_ret (then_ret (then_ret (in_ret (then_ret (st_ret S (results2 S results18 (Rv.cell (k := 4) ⟨isAgg39, sizeOf39⟩ rfl rfl rfl) (Rv.tmp rfl)) ?_))))))))))))))))))
      refine ⟨_, [rowOf 71 6 Ent.enc none 0 [], rowOf 122 3 Dot.enc none 0 [], rowOf 58 3 Dot.enc none 0 []], rfl, (((S.nil_ 58 3 Dot.enc none).nil_ 122 3 Dot.enc none).nil_ 71 6 Ent.enc none).wd.pk, none, 0, none, 0, none, 0, ?_, ?_⟩ <;> rw [hD] <;> rfl
  obtain rfl : i = n := by omega
  rw [Nat.sub_self, entsAt] at hno
  have hents : entsAt b (i : Int).toNat [] k1 = (acc, k', 0) := by rw [Int.toNat_natCast]; exact hno.symm
  have t3 := decAt_le hk'
  by_cases hC : (decAt b k').2.2 = 0
  rotate_left
  · have hD := decR_ctx hN h64 hents hC
    have rw_d : decide ((decAt b k').2.2 ≠ 0) = true := decide_eq_true hC
    have rw_d2 : decide ((decAt b k').2.2 = 0) = false := decide_eq_false hC
    refine sg S (.ge (by omega) rfl rfl <| .z) fun a w S => wp_seq_k fun _ hK2 => st_else S (.t rfl) (wp_exit (then_exit (then_exit (in_here (then_normal (hK1 _ _ (wp_seq_k fun _ hK1 => wp_region_lit (run S (.mv rfl <| .z) fun a w S => ?_))))))))
    (replace S := S.pull 2 rfl; try simp only [List.set_cons_zero, List.set_cons_succ, List.eraseIdx_cons_succ, List.eraseIdx_cons_zero] at S; refine st_m (op_callO S call65 (.cons (.t rfl) .nil) (c65 S.wd (by first | assumption | omega | (dsimp only; omega) | exact Sl.nil_ | exact .old S.wd (by assumption) | exact Sl.of_own S.wd (k := 0) rfl (fun _ => rfl) | exact Sl.of_own S.wd (k := 1) rfl (fun _ => rfl) | exact Sl.of_own S.wd (k := 2) rfl (fun _ => rfl) | exact Sl.of_own S.wd (k := 3) rfl (fun _ => rfl) | (simp at *; omega)) (by first | assumption | omega | (dsimp only; omega) | exact Sl.nil_ | exact .old S.wd (by assumption) | exact Sl.of_own S.wd (k := 0) rfl (fun _ => rfl) | exact Sl.of_own S.wd (k := 1) rfl (fun _ => rfl) | exact Sl.of_own S.wd (k := 2) rfl (fun _ => rfl) | exact Sl.of_own S.wd (k := 3) rfl (fun _ => rfl) | (simp at *; omega)) (by first | assumption | omega | (dsimp only; omega) | exact Sl.nil_ | exact .old S.wd (by assumption) | exact Sl.of_own S.wd (k := 0) rfl (fun _ => rfl) | exact Sl.of_own S.wd (k := 1) rfl (fun _ => rfl) | exact Sl.of_own S.wd (k := 2) rfl (fun _ => rfl) | exact Sl.of_own S.wd (k := 3) rfl (fun _ => rfl) | (simp at *; omega))) rfl ?_) <;> clear S a w)
    rintro _ _ ⟨B1, c1, B'1, c'1, rfl, rfl⟩ a w S
    refine run S (.mv rfl <| .ex rfl rfl <| .ex rfl rfl <| .z) fun a w S => st_m (op_alloc S zeroValue37 (cs := _) rfl rfl fun g4 a w S => st_m (op_stW S sizeOf37 (.t rfl) (.t rfl) (k := 0) rfl rfl rfl (by simp [Value.oneCell']) fun a w S => run S (.as rfl <| .z) fun a w S => st_nil (then_normal (hK1 _ _ (wp_seq_k fun _ hK1 => sg S (.mv rfl <| .yy (ys_T (by omega) (ys_neq (.t rfl) Ev.c)) rfl <| .z) fun a w S => st_then S (.t rfl) (wp_seq_k fun _ hK3 => wp_region_lit (run S (.yy (ys_bld (ps := []) (us := [_, _, _]) bld39 .nil rfl) rfl <| .mv rfl <| .z) fun a w S => st_m (op_stW S sizeOf39 (.t rfl) (.t rfl) (k := 6) rfl rfl rfl (by simp [Value.oneCell']) fun a w S => run S (.as rfl <| .z) fun a w S => st_nil (then_normal (hK3 _ _ (wp_ret (then_ret (st_ret S (results2 S results18 (Rv.cell (k := 6) ⟨isAgg39, sizeOf39⟩ rfl rfl rfl) (Rv.tmp rfl)) ?_)))))))))))))
    refine ⟨_, [rowOf 71 6 Ent.enc none 0 [], rowOf 122 3 Dot.enc none 0 [], rowOf 58 3 Dot.enc none 0 []], rfl, (((S.nil_ 58 3 Dot.enc none).nil_ 122 3 Dot.enc none).nil_ 71 6 Ent.enc none).wd.pk, none, 0, none, 0, none, 0, ?_, ?_⟩ <;> rw [hD] <;> rfl
  have hL := decR_last hN h64 hents hC
  obtain ⟨C, rw_C⟩ : ∃ C, (decAt b k').1 = C := ⟨_, rfl⟩
  obtain ⟨X, rfl, rfl⟩ : ∃ X : Cart, acc = X.ents ∧ C = X.ctx := ⟨⟨acc, C⟩, rfl, rfl⟩
  obtain ⟨k3, rw_k3⟩ : ∃ k3, (decAt b k').2.1 = k3 := ⟨_, rfl⟩
  have rw_c := hC
  rw [rw_C, rw_k3] at hL
  rw [rw_k3] at t3
  by_cases hm : k3 < b.length
  · have hD : decK b = (Cart.zero, 3) := by rw [hL, lastK_more hm]
    have rw_m : (if k3 < b.length then (3 : Int) else 0) = 3 := if_pos hm
    refine sg S (.ge (by omega) rfl rfl <| .z) fun a w S => wp_seq_k fun _ hK2 => st_else S (.t rfl) (wp_exit (then_exit (then_exit (in_here (then_normal (hK1 _ _ (wp_seq_k fun _ hK1 => wp_region_lit (run S (.mv rfl <| .z) fun a w S => ?_))))))))
    (replace S := S.pull 2 rfl; try simp only [List.set_cons_zero, List.set_cons_succ, List.eraseIdx_cons_succ, List.eraseIdx_cons_zero] at S; refine st_m (op_callO S call65 (.cons (.t rfl) .nil) (c65 S.wd (by first | assumption | omega | (dsimp only; omega) | exact Sl.nil_ | exact .old S.wd (by assumption) | exact Sl.of_own S.wd (k := 0) rfl (fun _ => rfl) | exact Sl.of_own S.wd (k := 1) rfl (fun _ => rfl) | exact Sl.of_own S.wd (k := 2) rfl (fun _ => rfl) | exact Sl.of_own S.wd (k := 3) rfl (fun _ => rfl) | (simp at *; omega)) (by first | assumption | omega | (dsimp only; omega) | exact Sl.nil_ | exact .old S.wd (by assumption) | exact Sl.of_own S.wd (k := 0) rfl (fun _ => rfl) | exact Sl.of_own S.wd (k := 1) rfl (fun _ => rfl) | exact Sl.of_own S.wd (k := 2) rfl (fun _ => rfl) | exact Sl.of_own S.wd (k := 3) rfl (fun _ => rfl) | (simp at *; omega)) (by first | assumption | omega | (dsimp only; omega) | exact Sl.nil_ | exact .old S.wd (by assumption) | exact Sl.of_own S.wd (k := 0) rfl (fun _ => rfl) | exact Sl.of_own S.wd (k := 1) rfl (fun _ => rfl) | exact Sl.of_own S.wd (k := 2) rfl (fun _ => rfl) | exact Sl.of_own S.wd (k := 3) rfl (fun _ => rfl) | (simp at *; omega))) rfl ?_) <;> clear S a w)
    rintro _ _ ⟨B1, c1, B'1, c'1, rfl, rfl⟩ a w S
    rw [rw_C] at S
    rw [rw_k3] at S
    rw [rw_c] at S
    refine run S (.mv rfl <| .ex rfl rfl <| .ex rfl rfl <| .z) fun a w S => st_m (op_alloc S zeroValue37 (cs := _) rfl rfl fun g4 a w S => st_m (op_stW S sizeOf37 (.t rfl) (.t rfl) (k := 0) rfl rfl rfl (by simp [Value.oneCell']) fun a w S => run S (.as rfl <| .z) fun a w S => st_nil (then_normal (hK1 _ _ (wp_seq_k fun _ hK1 => sg S (.mv rfl <| .yy (ys_F (by omega) (ys_neq (.t rfl) Ev.c)) rfl <| .z) fun a w S => st_else S (.t rfl) (wp_skip (then_normal (hK1 _ _ (wp_seq_k fun _ hK1 => wp_region_lit (run S (.la gt37 0 rfl rfl rfl <| .fa underlying39 sizeOf37 1 rfl rfl rfl <| .z) fun a w S => st_m (op_stA S sizeOf37 (.t rfl) (.t rfl) (k := 5) rfl rfl (by simp [Value.oneCell']) (by simp) fun a w S => st_nil (then_normal (hK1 _ _ (wp_seq_k fun _ hK1 => sg S (.mv rfl <| .yy (ys_nilc (.t rfl)) rfl <| .fa underlying105 sizeOf3 1 rfl rfl rfl <| .ld gt3 1 rfl rfl rfl <| .mv rfl <| .ln underlying28 rfl <| .lt (by omega) rfl rfl <| .z) fun a w S => st_then S (.t rfl) (wp_seq_k fun _ hK3 => wp_region_lit (run S (.yy (ys_bld (ps := []) (us := [_, _, _]) bld39 .nil rfl) rfl <| .z) fun a w S => st_m (op_stW S sizeOf39 (.t rfl) (.t rfl) (k := 6) rfl rfl rfl (by simp [Value.oneCell']) fun a w S => run S (.ac rfl <| .z) fun a w S => st_nil (then_normal (hK3 _ _ (wp_ret ?_))))))))))))))))))))
    refine then_ret (st_ret S (results2 S results18 (Rv.cell (k := 6) ⟨isAgg39, sizeOf39⟩ rfl rfl rfl) (Rv.tmp rfl)) ?_)
    refine ⟨_, [rowOf 71 6 Ent.enc none 0 [], rowOf 122 3 Dot.enc none 0 [], rowOf 58 3 Dot.enc none 0 []], rfl, (((S.nil_ 58 3 Dot.enc none).nil_ 122 3 Dot.enc none).nil_ 71 6 Ent.enc none).wd.pk, none, 0, none, 0, none, 0, ?_, ?_⟩ <;> rw [hD] <;> rfl
  have rw_m : (if k3 < b.length then (3 : Int) else 0) = 0 := if_neg hm
  by_cases hK : canE X = 0
  · have hD : decK b = (X, 0) := by rw [hL, lastK_ok hm hK]
    have rw_K := hK
    refine sg S (.ge (by omega) rfl rfl <| .z) fun a w S => wp_seq_k fun _ hK2 => st_else S (.t rfl) (wp_exit (then_exit (then_exit (in_here (then_normal (hK1 _ _ (wp_seq_k fun _ hK1 => wp_region_lit (run S (.mv rfl <| .z) fun a w S => ?_))))))))
    (replace S := S.pull 2 rfl; try simp only [List.set_cons_zero, List.set_cons_succ, List.eraseIdx_cons_succ, List.eraseIdx_cons_zero] at S; refine st_m (op_callO S call65 (.cons (.t rfl) .nil) (c65 S.wd (by first | assumption | omega | (dsimp only; omega) | exact Sl.nil_ | exact .old S.wd (by assumption) | exact Sl.of_own S.wd (k := 0) rfl (fun _ => rfl) | exact Sl.of_own S.wd (k := 1) rfl (fun _ => rfl) | exact Sl.of_own S.wd (k := 2) rfl (fun _ => rfl) | exact Sl.of_own S.wd (k := 3) rfl (fun _ => rfl) | (simp at *; omega)) (by first | assumption | omega | (dsimp only; omega) | exact Sl.nil_ | exact .old S.wd (by assumption) | exact Sl.of_own S.wd (k := 0) rfl (fun _ => rfl) | exact Sl.of_own S.wd (k := 1) rfl (fun _ => rfl) | exact Sl.of_own S.wd (k := 2) rfl (fun _ => rfl) | exact Sl.of_own S.wd (k := 3) rfl (fun _ => rfl) | (simp at *; omega)) (by first | assumption | omega | (dsimp only; omega) | exact Sl.nil_ | exact .old S.wd (by assumption) | exact Sl.of_own S.wd (k := 0) rfl (fun _ => rfl) | exact Sl.of_own S.wd (k := 1) rfl (fun _ => rfl) | exact Sl.of_own S.wd (k := 2) rfl (fun _ => rfl) | exact Sl.of_own S.wd (k := 3) rfl (fun _ => rfl) | (simp at *; omega))) rfl ?_) <;> clear S a w)
    rintro _ _ ⟨B1, c1, B'1, c'1, rfl, rfl⟩ a w S
    rw [rw_C] at S
    rw [rw_k3] at S
    rw [rw_c] at S
    refine run S (.mv rfl <| .ex rfl rfl <| .ex rfl rfl <| .z) fun a w S => st_m (op_alloc S zeroValue37 (cs := _) rfl rfl fun g4 a w S => st_m (op_stW S sizeOf37 (.t rfl) (.t rfl) (k := 0) rfl rfl rfl (by simp [Value.oneCell']) fun a w S => run S (.as rfl <| .z) fun a w S => st_nil (then_normal (hK1 _ _ (wp_seq_k fun _ hK1 => sg S (.mv rfl <| .yy (ys_F (by omega) (ys_neq (.t rfl) Ev.c)) rfl <| .z) fun a w S => st_else S (.t rfl) (wp_skip (then_normal (hK1 _ _ (wp_seq_k fun _ hK1 => wp_region_lit (run S (.la gt37 0 rfl rfl rfl <| .fa underlying39 sizeOf37 1 rfl rfl rfl <| .z) fun a w S => st_m (op_stA S sizeOf37 (.t rfl) (.t rfl) (k := 5) rfl rfl (by simp [Value.oneCell']) (by simp) fun a w S => st_nil (then_normal (hK1 _ _ (wp_seq_k fun _ hK1 => sg S (.mv rfl <| .yy (ys_nilc (.t rfl)) rfl <| .fa underlying105 sizeOf3 1 rfl rfl rfl <| .ld gt3 1 rfl rfl rfl <| .mv rfl <| .ln underlying28 rfl <| .ge (by omega) rfl rfl <| .z) fun a w S => st_else S (.t rfl) (wp_skip (then_normal (hK1 _ _ (wp_seq_k fun _ hK1 => wp_seq_k fun _ hK3 => wp_region_lit ?_))))))))))))))))))
    refine run S (.la gt39 5 rfl rfl rfl <| .xx (ys_call call66 (.cons (.t rfl) .nil) (fun hp w W => c66 _ _ _ _ _ (by exact Sl.of_own W (k := 4) rfl (fun _ => rfl)) (by exact ⟨(by exact Sl.of_own W (k := 2) rfl (fun _ => rfl)), (by exact Sl.of_own W (k := 3) rfl (fun _ => rfl))⟩))) rfl <| .z) fun a w S => ?_
    rw [rw_K] at S
    refine run S (.as rfl <| .z) fun a w S => st_nil (then_normal (hK3 _ _ (sg S (.mv rfl <| .yy (ys_F (by omega) (ys_neq (.t rfl) Ev.c)) rfl <| .z) fun a w S => st_else S (.t rfl) (wp_skip (then_normal (hK1 _ _ (wp_seq_k fun _ hK1 => wp_region_lit (run S (.la gt39 5 rfl rfl rfl <| .z) fun a w S => st_m (op_stW S sizeOf39 (.t rfl) (.t rfl) (k := 6) rfl rfl rfl (by simp [Value.oneCell']) fun a w S => run S (.ac rfl <| .z) fun a w S => st_nil (then_normal (hK1 _ _ (wp_ret (st_ret S (results2 S results18 (Rv.cell (k := 6) ⟨isAgg39, sizeOf39⟩ rfl rfl rfl) (Rv.tmp rfl)) ?_)))))))))))))
    refine ⟨_, [rowOf 71 6 Ent.enc D cD X.ents, rowOf 122 3 Dot.enc B1 c1 X.ctx.marks, rowOf 58 3 Dot.enc B'1 c'1 X.ctx.cloud], rfl, S.wd.pk, D, cD, B1, c1, B'1, c'1, ?_, ?_⟩ <;> rw [hD]
  · have hD : decK b = (Cart.zero, canE X) := by rw [hL, lastK_bad hm hK]
    have rw_K : decide (canE X ≠ 0) = true := decide_eq_true hK
    refine sg S (.ge (by omega) rfl rfl <| .z) fun a w S => wp_seq_k fun _ hK2 => st_else S (.t rfl) (wp_exit (then_exit (then_exit (in_here (then_normal (hK1 _ _ (wp_seq_k fun _ hK1 => wp_region_lit (run S (.mv rfl <| .z) fun a w S => ?_))))))))
    (replace S := S.pull 2 rfl; try simp only [List.set_cons_zero, List.set_cons_succ, List.eraseIdx_cons_succ, List.eraseIdx_cons_zero] at S; refine st_m (op_callO S call65 (.cons (.t rfl) .nil) (c65 S.wd (by first | assumption | omega | (dsimp only; omega) | exact Sl.nil_ | exact .old S.wd (by assumption) | exact Sl.of_own S.wd (k := 0) rfl (fun _ => rfl) | exact Sl.of_own S.wd (k := 1) rfl (fun _ => rfl) | exact Sl.of_own S.wd (k := 2) rfl (fun _ => rfl) | exact Sl.of_own S.wd (k := 3) rfl (fun _ => rfl) | (simp at *; omega)) (by first | assumption | omega | (dsimp only; omega) | exact Sl.nil_ | exact .old S.wd (by assumption) | exact Sl.of_own S.wd (k := 0) rfl (fun _ => rfl) | exact Sl.of_own S.wd (k := 1) rfl (fun _ => rfl) | exact Sl.of_own S.wd (k := 2) rfl (fun _ => rfl) | exact Sl.of_own S.wd (k := 3) rfl (fun _ => rfl) | (simp at *; omega)) (by first | assumption | omega | (dsimp only; omega) | exact Sl.nil_ | exact .old S.wd (by assumption) | exact Sl.of_own S.wd (k := 0) rfl (fun _ => rfl) | exact Sl.of_own S.wd (k := 1) rfl (fun _ => rfl) | exact Sl.of_own S.wd (k := 2) rfl (fun _ => rfl) | exact Sl.of_own S.wd (k := 3) rfl (fun _ => rfl) | (simp at *; omega))) rfl ?_) <;> clear S a w)
    rintro _ _ ⟨B1, c1, B'1, c'1, rfl, rfl⟩ a w S
    rw [rw_C] at S
    rw [rw_k3] at S
    rw [rw_c] at S
    refine run S (.mv rfl <| .ex rfl rfl <| .ex rfl rfl <| .z) fun a w S => st_m (op_alloc S zeroValue37 (cs := _) rfl rfl fun g4 a w S => st_m (op_stW S sizeOf37 (.t rfl) (.t rfl) (k := 0) rfl rfl rfl (by simp [Value.oneCell']) fun a w S => run S (.as rfl <| .z) fun a w S => st_nil (then_normal (hK1 _ _ (wp_seq_k fun _ hK1 => sg S (.mv rfl <| .yy (ys_F (by omega) (ys_neq (.t rfl) Ev.c)) rfl <| .z) fun a w S => st_else S (.t rfl) (wp_skip (then_normal (hK1 _ _ (wp_seq_k fun _ hK1 => wp_region_lit (run S (.la gt37 0 rfl rfl rfl <| .fa underlying39 sizeOf37 1 rfl rfl rfl <| .z) fun a w S => st_m (op_stA S sizeOf37 (.t rfl) (.t rfl) (k := 5) rfl rfl (by simp [Value.oneCell']) (by simp) fun a w S => st_nil (then_normal (hK1 _ _ (wp_seq_k fun _ hK1 => sg S (.mv rfl <| .yy (ys_nilc (.t rfl)) rfl <| .fa underlying105 sizeOf3 1 rfl rfl rfl <| .ld gt3 1 rfl rfl rfl <| .mv rfl <| .ln underlying28 rfl <| .ge (by omega) rfl rfl <| .z) fun a w S => st_else S (.t rfl) (wp_skip (then_normal (hK1 _ _ (wp_seq_k fun _ hK1 => wp_seq_k fun _ hK3 => wp_region_lit ?_))))))))))))))))))
    refine run S (.la gt39 5 rfl rfl rfl <| .xx (ys_call call66 (.cons (.t rfl) .nil) (fun hp w W => c66 _ _ _ _ _ (by exact Sl.of_own W (k := 4) rfl (fun _ => rfl)) (by exact ⟨(by exact Sl.of_own W (k := 2) rfl (fun _ => rfl)), (by exact Sl.of_own W (k := 3) rfl (fun _ => rfl))⟩))) rfl <| .as rfl <| .z) fun a w S => st_nil (then_normal (hK3 _ _ (sg S (.mv rfl <| .yy (ys_T (by omega) (ys_neq (.t rfl) Ev.c)) rfl <| .z) fun a w S => st_then S (.t rfl) (wp_seq_k fun _ hK3 => wp_region_lit (run S (.yy (ys_bld (ps := []) (us := [_, _, _]) bld39 .nil rfl) rfl <| .mv rfl <| .z) fun a w S => st_m (op_stW S sizeOf39 (.t rfl) (.t rfl) (k := 6) rfl rfl rfl (by simp [Value.oneCell']) fun a w S => run S (.as rfl <| .z) fun a w S => st_nil (then_normal (hK3 _ _ (wp_ret (then_ret (st_ret S (results2 S results18 (Rv.cell (k := 6) ⟨isAgg39, sizeOf39⟩ rfl rfl rfl) (Rv.tmp rfl)) ?_)))))))))))
    refine ⟨_, [rowOf 71 6 Ent.enc none 0 [], rowOf 122 3 Dot.enc none 0 [], rowOf 58 3 Dot.enc none 0 []], rfl, (((S.nil_ 58 3 Dot.enc none).nil_ 122 3 Dot.enc none).nil_ 71 6 Ent.enc none).wd.pk, none, 0, none, 0, none, 0, ?_, ?_⟩ <;> rw [hD] <;> rfl
end Go.Proofs.YtfblmkocmnbdcaaGreat
set_option linter.unusedVariables false
set_option linter.unusedSimpArgs false
set_option maxRecDepth 100000
set_option maxHeartbeats 4000000
namespace Go.Fw
def shN (p : Nat) : Nat → Nat
  | 0 => p
  | i + 1 => shN p i / 256
theorem shN_eq (p : Nat) : ∀ i, shN p i = p / 256 ^ i
  | 0 => by simp [shN]
  | i + 1 => by rw [shN, shN_eq p i, Nat.div_div_eq_div_mul, Nat.pow_succ]
theorem shN_le (p i : Nat) : shN p i ≤ p := by rw [shN_eq]; exact Nat.div_le_self _ _
theorem shN_next {p : Nat} (hp : p < 18446744073709551616) (i : Nat) : IntKind.u64.wrap (((shN p i : Nat) : Int).tdiv 256) = ((shN p (i + 1) : Nat) : Int) := by
  have h := shN_le p i
  have e : ((shN p i : Nat) : Int).tdiv 256 = ((shN p i / 256 : Nat) : Int) := by
    rw [Int.tdiv_eq_ediv_of_nonneg (by omega)]; omega
  rw [e, shN]
  simp only [IntKind.wrap, IntKind.signed, IntKind.bits]
  simp
  omega
theorem shN_byte (p i : Nat) : b8 (((shN p i : Nat) : Int) % 256) = UInt8.ofNat (p / 256 ^ i % 256) := by
  rw [← shN_eq]
  unfold b8
  congr 1
  omega
end Go.Fw
namespace Go.Proofs.YtfblmkocmnbdcaaGreat
open Go.Fw Go.Proofs Go.RowKit Go.Proofs.Tryz
theorem c21 (w0 : World) (v1 v2 v3 : Value) (X : Cart) (h : Sl Ent.enc 6 w0 w0.heap.size v1 X.ents) (hr : RdCtx w0 w0.heap.size v2 v3 X.ctx) :
    Rets Tryz.prog 21 #[.agg #[v1, v2, v3]] w0 fun v L => ∃ A r, v = .tuple #[.slice A (if canE X = 0 then encK X else []).length r, .int .i64 (canE X)] ∧ L = [rowOf 5 1 encB A r (if canE X = 0 then encK X else [])] := by
  have hs := h
  have hrr := hr
  obtain ⟨A, cap, rfl, hl, hcap, hA⟩ := h
  obtain ⟨⟨A2, cap2, rfl, _⟩, ⟨A3, cap3, rfl, _⟩⟩ := hr
  by_cases he : canE X = 0
  rotate_left
  · have rw_e : decide (canE X ≠ 0) = true := decide_eq_true he
    unfold Go.Fw.Rets
    refine enter1 func21 rfl ntmps21 rfl fun a S => wp_seq_k fun _ hK1 => wp_region_lit (st_m (op_box S (.t rfl) rfl fun g1 a w S => run S (.ac rfl <| .ac rfl <| .z) fun a w S => st_nil (then_normal (hK1 _ _ (wp_seq_k fun _ hK1 => sg S (.la gt39 0 rfl rfl rfl <| .xx (ys_call call66 (.cons (.t rfl) .nil) (fun hp w W => c66 _ _ _ _ _ (by exact .old W (by assumption)) (by exact .old W (by assumption)))) rfl <| .as rfl <| .z) fun a w S => sg S (.mv rfl <| .yy (ys_T (by omega) (ys_neq (.t rfl) Ev.c)) rfl <| .z) fun a w S => st_then S (.t rfl) (sg S (.mv rfl <| .ac rfl <| .as rfl <| .z) fun a w S => wp_ret (then_ret (st_ret S (results2 S results21 (Rv.tmp rfl) (Rv.tmp rfl)) ?_))))))))
    rw [if_neg he]
    exact ⟨_, _, rfl, (S.nil_ 5 1 encB none).wd.pk, none, 0, rfl, rfl⟩
  have rw_e := he
  unfold Go.Fw.Rets
  refine enter1 func21 rfl ntmps21 rfl fun a S => wp_seq_k fun _ hK1 => wp_region_lit (st_m (op_box S (.t rfl) rfl fun g1 a w S => run S (.ac rfl <| .ac rfl <| .z) fun a w S => st_nil (then_normal (hK1 _ _ (wp_seq_k fun _ hK1 => wp_seq_k fun _ hK2 => wp_region_lit (run S (.la gt39 0 rfl rfl rfl <| .xx (ys_call call66 (.cons (.t rfl) .nil) (fun hp w W => c66 _ _ _ _ _ (by exact .old W (by assumption)) (by exact .old W (by assumption)))) rfl <| .z) fun a w S => ?_))))))
  rw [rw_e] at S
  refine run S (.as rfl <| .z) fun a w S => st_nil (then_normal (hK2 _ _ (sg S (.mv rfl <| .yy (ys_F (by omega) (ys_neq (.t rfl) Ev.c)) rfl <| .z) fun a w S => st_else S (.t rfl) (wp_skip (then_normal (hK1 _ _ (wp_seq_k fun _ hK1 => wp_region_lit (run S (.fa underlying39 sizeOf33 0 rfl rfl rfl <| .ld gt33 0 rfl rfl rfl <| .ln underlying33 rfl <| .z) fun a w S => ?_))))))))
  (refine st_m (op_calls S call69 (.cons Ev.c (.cons (.t rfl) .nil)) (c69 _ _ _ _ (by exact Sl.nil_) (by (simp; done)) (by omega)) rfl ?_); clear S a w; rintro _ _ ⟨A1, c1, rfl, rfl⟩ a w S)
  refine run S (.as rfl <| .z) fun a w S => st_nil (then_normal (hK1 _ _ (wp_seq_k fun _ hK1 => sg S (.fa underlying39 sizeOf33 0 rfl rfl rfl <| .ld gt33 1 rfl rfl rfl <| .ln underlying33 rfl <| .mc rfl <| .z) fun a w S => wp_block ?_)))
  have ok := (canE_ok X).1 he
  have lX := ok.len
  have hp0 := putL_len [] (n := (X.ents.length : Int)) (by omega)
  have e0 : putL [] (X.ents.length : Int) = (X.ents.take 0).foldl entB (putL [] (X.ents.length : Int)) := rfl
  rw [e0] at S
  refine st_lpM S [5, 23] (X := Nat × Option Addr × Nat) (fun q => [(5, true, .slice q.2.1 ((X.ents.take q.1).foldl entB (putL [] (X.ents.length : Int))).length q.2.2), (23, true, .int .i64 (q.1 : Int))])
    (fun q => [rowOf 5 1 encB q.2.1 q.2.2 ((X.ents.take q.1).foldl entB (putL [] (X.ents.length : Int))), .blk g1 (.cells #[.slice A X.ents.length cap, .slice A2 X.ctx.marks.length cap2, .slice A3 X.ctx.cloud.length cap3] 39)])
    (fun q => q.1 ≤ X.ents.length) (fun q => X.ents.length - q.1) (0, A1, c1) (Nat.zero_le _) ?_
  clear S
  rintro ⟨k, D, cD⟩ a w hk S
  dsimp only at hk S
  have hbl := ents_len ok k
  by_cases hlt : k < X.ents.length
  · obtain ⟨g, o, x, rfl, hx, hd, hc⟩ := row_at hA hlt
    have hxo := ok.each x (List.mem_of_getElem? hx)
    obtain ⟨hxi, hxq1, hxq2, hx1, hx2, hx3, hx4, hx5, hx6⟩ := ent_lim ok.ctx hxo
    have hst : (X.ents.take (k + 1)).foldl entB (putL [] (X.ents.length : Int)) = entB ((X.ents.take k).foldl entB (putL [] (X.ents.length : Int))) x := by
      rw [List.take_add_one, hx, Option.toList_some, List.foldl_append]; rfl
    generalize hO : (X.ents.take k).foldl entB (putL [] (X.ents.length : Int)) = O at *
    have hl1 := textL_len O x.item
    generalize rw_o1 : textL O x.item = O1 at *
    have hl2 := putL_len O1 (n := x.dot.node) (by omega)
    generalize rw_o2 : putL O1 x.dot.node = O2 at *
    have hl3 := putL_len O2 (n := x.dot.life) (by omega)
    generalize rw_o3 : putL O2 x.dot.life = O3 at *
    have hl4 := putL_len O3 (n := x.dot.count) (by omega)
    generalize rw_o4 : putL O3 x.dot.count = O4 at *
    have hl5 := putL_len O4 (n := x.qty) (by omega)
    generalize rw_o5 : putL O4 x.qty = O5 at *
    refine sg S (.lt (by omega) rfl rfl <| .z) fun a w S => wp_seq_k fun _ hK2 => st_then S (.t rfl) (wp_skip (then_normal (hK2 _ _ (wp_seq_k fun _ hK2 => wp_block (wp_seq_k fun _ hK3 => wp_region_lit (run S (.ix underlying33 sizeOf71 (by omega) rfl rfl <| .yy (ys_ldOA ⟨isAgg71, sizeOf71⟩ (.t rfl) (vs := [_, _, _, _, _, _]) rfl (fun _ => hc)) rfl <| .z) fun a w S => st_m (op_alloc S zeroValue71 (cs := _) rfl rfl fun g2 a w S => st_m (op_stW S sizeOf71 (.t rfl) (.t rfl) (k := 0) rfl rfl rfl (by simp [Value.oneCell']) fun a w S => st_nil (then_normal (hK3 _ _ (wp_seq_k fun _ hK3 => wp_region_lit (run S (.mv rfl <| .fa underlying71 sizeOf9 0 rfl rfl rfl <| .ld gt9 0 rfl rfl rfl <| .z) fun a w S => ?_))))))))))))
    (refine st_m (op_calls S call70 (.cons (.t rfl) (.cons (.t rfl) .nil)) (c70 _ _ _ _ (by exact Sl.of_own S.wd (k := 1) rfl (fun _ => rfl)) (by omega) (by omega)) rfl ?_); clear S a w; rintro _ _ ⟨A4, r1, rfl, rfl⟩ a w S)
    rw [rw_o1] at S
    refine run S (.as rfl <| .z) fun a w S => st_nil (then_normal (hK3 _ _ (wp_seq_k fun _ hK3 => wp_seq_k fun _ hK4 => wp_region_lit (run S (.fa underlying71 sizeOf58 1 rfl rfl rfl <| .fa underlying58 sizeOf3 1 rfl rfl rfl <| .ld gt3 1 rfl rfl rfl <| .fa underlying71 sizeOf58 1 rfl rfl rfl <| .fa underlying58 sizeOf3 2 rfl rfl rfl <| .ld gt3 1 rfl rfl rfl <| .fa underlying71 sizeOf58 1 rfl rfl rfl <| .fa underlying58 sizeOf3 3 rfl rfl rfl <| .ld gt3 1 rfl rfl rfl <| .fa underlying71 sizeOf3 4 rfl rfl rfl <| .ld gt3 1 rfl rfl rfl <| .z) fun a w S => st_m (op_bsliceZ (ps := [(0, Go.Operand.tmp 33), (1, Go.Operand.tmp 36), (2, Go.Operand.tmp 39), (3, Go.Operand.tmp 41)]) (us := [_, _, _, _]) S underlying23 sizeOf3 zeroValue3 rfl rfl (.cons (.t rfl) (.cons (.t rfl) (.cons (.t rfl) (.cons (.t rfl) .nil)))) rfl rfl fun g3 a w S => run S (.ln underlying23 rfl <| .mc rfl <| .z) fun a w S => st_nil (then_normal (hK4 _ _ (wp_block (st_rounds 5 (st_round (sg S (.lt (by omega) rfl rfl <| .z) fun a w S => wp_seq_k fun _ hK4 => st_then S (.t rfl) (wp_skip (then_normal (hK4 _ _ (wp_seq_k fun _ hK4 => wp_block (wp_seq_k fun _ hK5 => wp_region_lit ?_))))))))))))))))
    refine run S (.yy (ys_ixS (j := 0) underlying23 sizeOf3 (.t rfl) (.t rfl) (fun _ => by omega)) rfl <| .ld gt3 0 rfl rfl rfl <| .as rfl <| .z) fun a w S => st_nil (then_normal (hK5 _ _ (wp_region_lit (run S (.mv rfl <| .mv rfl <| .z) fun a w S => ?_))))
    (refine st_m (op_calls S call69 (.cons (.t rfl) (.cons (.t rfl) .nil)) (c69 _ _ _ _ (by exact Sl.of_own S.wd (k := 1) rfl (fun _ => rfl)) (by omega) (by omega)) rfl ?_); clear S a w; rintro _ _ ⟨A5, c2, rfl, rfl⟩ a w S)
    rw [rw_o2] at S
    refine run S (.as rfl <| .z) fun a w S => st_nil (in_normal (then_normal (hK4 _ _ (wp_region_lit (run S (.ad (by unfold I64; omega) rfl <| .mv rfl <| .z) fun a w S => st_nil (then_normal (st_round (sg S (.lt (by omega) rfl rfl <| .z) fun a w S => wp_seq_k fun _ hK4 => st_then S (.t rfl) (wp_skip (then_normal (hK4 _ _ (wp_seq_k fun _ hK4 => wp_block (sg S (.yy (ys_ixS (j := 1) underlying23 sizeOf3 (.t rfl) (.t rfl) (fun _ => by omega)) rfl <| .ld gt3 1 rfl rfl rfl <| .as rfl <| .z) fun a w S => wp_region_lit (run S (.mv rfl <| .mv rfl <| .z) fun a w S => ?_))))))))))))))
    (refine st_m (op_calls S call69 (.cons (.t rfl) (.cons (.t rfl) .nil)) (c69 _ _ _ _ (by exact Sl.of_own S.wd (k := 0) rfl (fun _ => rfl)) (by omega) (by omega)) rfl ?_); clear S a w; rintro _ _ ⟨A6, c3, rfl, rfl⟩ a w S)
    rw [rw_o3] at S
    refine run S (.as rfl <| .z) fun a w S => st_nil (in_normal (then_normal (hK4 _ _ (wp_region_lit (run S (.ad (by unfold I64; omega) rfl <| .mv rfl <| .z) fun a w S => st_nil (then_normal (st_round (sg S (.lt (by omega) rfl rfl <| .z) fun a w S => wp_seq_k fun _ hK4 => st_then S (.t rfl) (wp_skip (then_normal (hK4 _ _ (wp_seq_k fun _ hK4 => wp_block (sg S (.yy (ys_ixS (j := 2) underlying23 sizeOf3 (.t rfl) (.t rfl) (fun _ => by omega)) rfl <| .ld gt3 2 rfl rfl rfl <| .as rfl <| .z) fun a w S => wp_region_lit (run S (.mv rfl <| .mv rfl <| .z) fun a w S => ?_))))))))))))))
    (refine st_m (op_calls S call69 (.cons (.t rfl) (.cons (.t rfl) .nil)) (c69 _ _ _ _ (by exact Sl.of_own S.wd (k := 0) rfl (fun _ => rfl)) (by omega) (by omega)) rfl ?_); clear S a w; rintro _ _ ⟨A7, c4, rfl, rfl⟩ a w S)
    rw [rw_o4] at S
    refine run S (.as rfl <| .z) fun a w S => st_nil (in_normal (then_normal (hK4 _ _ (wp_region_lit (run S (.ad (by unfold I64; omega) rfl <| .mv rfl <| .z) fun a w S => st_nil (then_normal (st_round (sg S (.lt (by omega) rfl rfl <| .z) fun a w S => wp_seq_k fun _ hK4 => st_then S (.t rfl) (wp_skip (then_normal (hK4 _ _ (wp_seq_k fun _ hK4 => wp_block (sg S (.yy (ys_ixS (j := 3) underlying23 sizeOf3 (.t rfl) (.t rfl) (fun _ => by omega)) rfl <| .ld gt3 3 rfl rfl rfl <| .as rfl <| .z) fun a w S => wp_region_lit (run S (.mv rfl <| .mv rfl <| .z) fun a w S => ?_))))))))))))))
    (refine st_m (op_calls S call69 (.cons (.t rfl) (.cons (.t rfl) .nil)) (c69 _ _ _ _ (by exact Sl.of_own S.wd (k := 0) rfl (fun _ => rfl)) (by omega) (by omega)) rfl ?_); clear S a w; rintro _ _ ⟨A8, c5, rfl, rfl⟩ a w S)
    rw [rw_o5] at S
    refine run S (.as rfl <| .z) fun a w S => st_nil (in_normal (then_normal (hK4 _ _ (wp_region_lit (run S (.ad (by unfold I64; omega) rfl <| .mv rfl <| .z) fun a w S => st_nil (then_normal (st_round (sg S (.ge (by omega) rfl rfl <| .z) fun a w S => wp_seq_k fun _ hK4 => st_else S (.t rfl) (wp_exit (then_exit (then_exit (in_here (then_normal (hK3 _ _ (sg S (.fa underlying71 sizeOf27 5 rfl rfl rfl <| .ld gt27 6 rfl rfl rfl <| .as rfl <| .z) fun a w S => sg S (.mc rfl <| .z) fun a w S => wp_block ?_)))))))))))))))
    have hpl := x.price.toNat_lt
    have rw_f : O5 ++ leN x.price.toNat 0 = O5 := List.append_nil _
    rw [← rw_f] at S
    clear rw_f
    refine st_lpM S [5, 10, 54] (X := Nat × Option Addr × Nat) (fun q => [(5, true, .slice q.2.1 (O5 ++ leN x.price.toNat q.1).length q.2.2), (10, true, .int .u64 ((shN x.price.toNat q.1 : Nat) : Int)), (54, true, .int .i64 (q.1 : Int))])
      (fun q => [rowOf 5 1 encB q.2.1 q.2.2 (O5 ++ leN x.price.toNat q.1), .blk g2 (.cells (Ent.enc x).toArray 71), .blk g1 (.cells #[.slice (some ⟨g, o, none⟩) X.ents.length cap, .slice A2 X.ctx.marks.length cap2, .slice A3 X.ctx.cloud.length cap3] 39)])
      (fun q => q.1 ≤ 8) (fun q => 8 - q.1) (0, _, _) (Nat.zero_le _) ?_
    clear S
    rintro ⟨i, F, cF⟩ a w hi S
    dsimp only at hi S
    have hll : (O5 ++ leN x.price.toNat i).length = O5.length + i := by rw [List.length_append, leN_len]
    have hpd := shN_le x.price.toNat i
    have rw_d := shN_next (p := x.price.toNat) hpl i
    by_cases hi8 : i < 8
    · refine sg S (.yy (ys_T (by omega) (ys_lss (.t rfl) Ev.c)) rfl <| .z) fun a w S => wp_seq_k fun _ hK3 => st_then S (.t rfl) (wp_skip (then_normal (hK3 _ _ (wp_seq_k fun _ hK3 => wp_block (wp_seq_k fun _ hK5 => wp_region_lit (run S (.mv rfl <| .mv rfl <| .yy (ys_remE (.t rfl) Ev.c (fun _ => by omega)) rfl <| .yy (ys_cvB underlying27 underlying5 (.t rfl)) rfl <| .z) fun a w S => st_m (op_bslice1 S underlying28 inf5 rfl rfl rfl (.t rfl) rfl rfl rfl fun g4 a w S => st_m (op_push S underlying28 inf5 rfl (k := 1) (j := 0) rfl (.t rfl) (.t rfl) rfl rfl rfl rfl (by first | omega | (simp only [List.length_append, List.length_cons, List.length_nil]; omega)) rfl rfl rfl fun A9 cap1 a w S => run S (.as rfl <| .z) fun a w S => st_nil (then_normal (hK5 _ _ (wp_region_lit (run S (.mv rfl <| .yy (ys_quo (.t rfl) Ev.c (fun _ => by omega)) rfl <| .z) fun a w S => ?_))))))))))))
      rw [rw_d] at S
      refine run S (.as rfl <| .z) fun a w S => st_nil (in_normal (then_normal (hK3 _ _ (wp_region_lit (run S (.ad (by unfold I64; omega) rfl <| .mv rfl <| .z) fun a w S => st_nil (then_normal ?_))))))
      rw [shN_byte, List.append_assoc, show leN x.price.toNat i ++ [UInt8.ofNat (x.price.toNat / 256 ^ i % 256)] = leN x.price.toNat (i + 1) from rfl] at S
      exact ⟨(i + 1, A9, cap1), by dsimp only; omega, by dsimp only; omega, S.pk⟩
    obtain rfl : i = 8 := by omega
    have he5 : entB O x = O5 ++ leN x.price.toNat 8 := by unfold entB; rw [rw_o1, rw_o2, rw_o3, rw_o4, rw_o5]
    refine sg S (.yy (ys_F (by omega) (ys_lss (.t rfl) Ev.c)) rfl <| .z) fun a w S => wp_seq_k fun _ hK3 => st_else S (.t rfl) (wp_exit (then_exit (then_exit (in_here (in_normal (then_normal (hK2 _ _ (wp_region_lit (run S (.ad (by unfold I64; omega) rfl <| .mv rfl <| .z) fun a w S => st_nil (then_normal ?_))))))))))
    exact ⟨(k + 1, F, cF), by dsimp only; omega, by dsimp only; omega, by dsimp only; rw [hst, he5]; exact S.pk⟩
  obtain rfl : k = X.ents.length := by omega
  rw [List.take_length] at S hbl
  have ee : X.ents.foldl entB (putL [] (X.ents.length : Int)) = entsB [] X.ents := rfl
  rw [ee] at S hbl
  have rw_1 : ∀ a b : List UInt8, (if canL X.ctx = true then a else b) = a := fun _ _ => if_pos ok.ctx
  have rw_2 : ∀ a b : Int, (if canL X.ctx = true then a else b) = a := fun _ _ => if_pos ok.ctx
  have rw_3 : encC (entsB [] X.ents) X.ctx = encK X := rfl
  refine sg S (.ge (by omega) rfl rfl <| .z) fun a w S => wp_seq_k fun _ hK2 => st_else S (.t rfl) (wp_exit (then_exit (then_exit (in_here (then_normal (hK1 _ _ (wp_seq_k fun _ hK1 => wp_region_lit (run S (.mv rfl <| .fa underlying39 sizeOf37 1 rfl rfl rfl <| .la gt37 1 rfl rfl rfl <| .z) fun a w S => ?_))))))))
  (refine st_m (op_calls S call71 (.cons (.t rfl) (.cons (.t rfl) .nil)) (c71 _ _ _ _ _ _ (by exact Sl.of_own S.wd (k := 0) rfl (fun _ => rfl)) (by exact .old S.wd (by assumption)) (by omega)) rfl ?_); clear S a w; rintro _ _ ⟨A4, c2, rfl, rfl⟩ a w S)
  rw [rw_1] at S
  rw [rw_2] at S
  rw [rw_3] at S
  refine run S (.ex rfl rfl <| .ex rfl rfl <| .as rfl <| .as rfl <| .z) fun a w S => st_nil (then_normal (hK1 _ _ (wp_ret (st_ret S (results2 S results21 (Rv.tmp rfl) (Rv.tmp rfl)) ?_))))
  rw [if_pos he, he]
  exact ⟨_, _, rfl, S.wd.pk, _, _, rfl, rfl⟩
end Go.Proofs.YtfblmkocmnbdcaaGreat
set_option linter.unusedVariables false
set_option linter.unusedSimpArgs false
namespace Go.Fw
open Go.RowKit Go.Sort Go.Proofs
abbrev MEnt := {e : Ent // mayD e.dot = true}
instance : Inhabited MEnt := ⟨⟨⟨[], ⟨0, 1, 1⟩, 0, 0⟩, rfl⟩⟩
abbrev MEnt.enc (e : MEnt) : List Value := Ent.enc e.1
end Go.Fw
set_option linter.unusedVariables false
set_option linter.unusedSimpArgs false
namespace Go.Ft
open Go.RowKit
abbrev bs (l : List UInt8) : ByteArray := ⟨l.toArray⟩
section ops
variable {P : Program} {n : Nat} {w0 : World} {K : KL} {L : List Chunk} {b : Bool} {dst : Option Tmp} {ty : TypeId} {pos : String} {aft : Array Edge} {gd : Option (Nat × Bool)}
end ops
section
variable {P : Program} {n : Nat} {w0 : World} {K : KL} {L : List Chunk} {ty : TypeId} {pos : String} {aft : Array Edge} {gd : Option (Nat × Bool)} {a : Act} {w : World} {Z : Act → World → Prop} {Q : Exit → Act → World → Prop} {d : Nat}
end
section
variable {P : Program} {n : Nat} {w0 : World} {K : KL} {L : List Chunk} {ty : TypeId} {pos : String} {aft : Array Edge} {gd : Option (Nat × Bool)} {a : Act} {w : World} {Z : Act → World → Prop} {Q : Exit → Act → World → Prop} {d : Nat}
end
section
variable {P : Program} {n : Nat} {w0 : World} {K : KL} {L : List Chunk} {ty : TypeId} {pos : String} {aft : Array Edge} {gd : Option (Nat × Bool)} {a : Act} {w : World} {Z : Act → World → Prop} {Q : Exit → Act → World → Prop} {d : Nat}
end
section
variable {P : Program} {Q : Exit → Act → World → Prop} {J : Act → World → Prop} {l i : Nat} {a : Act} {w : World}
end
section ops
variable {P : Program} {n : Nat} {w0 : World} {K : KL} {L : List Chunk} {b : Bool} {dst : Option Tmp} {ty : TypeId} {pos : String} {aft : Array Edge} {gd : Option (Nat × Bool)}
end ops
end Go.Ft
set_option linter.unusedVariables false
set_option linter.unusedSimpArgs false
namespace Go.Ft
open Go.RowKit
section ops
variable {P : Program} {n : Nat} {w0 : World} {K : KL} {L : List Chunk} {b : Bool} {dst : Option Tmp} {ty : TypeId} {pos : String} {aft : Array Edge} {gd : Option (Nat × Bool)}
end ops
section
variable {n : Nat} {w0 : World} {K : KL} {L : List Chunk} {a : Act} {w : World} {c : Chunk}
end
theorem Wd.cell {w0 w : World} {L : List Chunk} (W : Wd w0 L w) {k g i : Nat} {cs : List Value} {e : TypeId} {fr : Nat × Nat} {v : Value} (hk : L[k]? = some (.blk g (.cells cs.toArray e fr))) (hc : nth cs i = some v) : w.cell? ⟨g, i, none⟩ = some v := by
  rw [cell_of_row w g i _ e fr (W.get hk).2]
  rw [nth_eq] at hc
  simpa using hc
section split
variable {P : Program} {Q : Exit → Act → World → Prop} {n : Nat} {w0 : World} {K : KL} {L Lr : List Chunk} {a : Act} {w : World} {ops : Array Oper} {fuel : Nat} {listed : Array Bool} {md : Region.Mode}
end split
section
variable {P : Program} {n : Nat} {w0 : World} {K : KL} {L : List Chunk} {ty : TypeId} {pos : String} {aft : Array Edge} {gd : Option (Nat × Bool)} {a : Act} {w : World} {Z : Act → World → Prop} {Q : Exit → Act → World → Prop} {d : Nat}
end
end Go.Ft
set_option linter.unusedVariables false
set_option linter.unusedSimpArgs false
namespace Go.Ft
open Go.RowKit
def ltM (a b : Dot) : Prop := a.node < b.node ∨ (a.node = b.node ∧ a.life < b.life)
def ltC (a b : Dot) : Prop := a.node < b.node ∨ (a.node = b.node ∧ (a.life < b.life ∨ (a.life = b.life ∧ a.count < b.count)))
theorem belowC_iff (a b : Dot) : belowD a b = true ↔ ltC a b := by
  simp only [belowD, ltC]
  split
  · simp; omega
  · split <;> simp <;> omega
structure Nf (C : Ctx) : Prop where
  marks : C.marks.Pairwise ltM
  cloud : C.cloud.Pairwise ltC
  mayM : ∀ x ∈ C.marks, mayD x = true
  mayC : ∀ x ∈ C.cloud, mayD x = true
  gap : ∀ x ∈ C.cloud, markOf C.marks x.node x.life + 1 < x.count
end Go.Ft
set_option linter.unusedVariables false
set_option linter.unusedSimpArgs false
namespace Go.Ft
open Go.RowKit
structure Ent where
  item : List UInt8
  dot : Dot
  qty : Int
  price : UInt64
deriving DecidableEq
abbrev Ent.enc (e : Ent) : List Value := [.string (bs e.item), .int .i64 e.dot.node, .int .i64 e.dot.life, .int .i64 e.dot.count, .int .i64 e.qty, .int .u64 (e.price.toNat : Int)]
structure Cart where
  ents : List Ent
  ctx : Ctx
deriving DecidableEq
abbrev Cart.zero : Cart := ⟨[], ⟨[], []⟩⟩
structure Line where
  item : List UInt8
  qty : Int
  price : UInt64
deriving DecidableEq
abbrev Line.enc (e : Line) : List Value := [.string (bs e.item), .int .i64 e.qty, .int .u64 (e.price.toNat : Int)]
def ltE (a b : Ent) : Prop := Op.bytesLess a.item b.item = true ∨ (a.item = b.item ∧ ltC a.dot b.dot)
instance (a b : Ent) : Decidable (ltE a b) := decidable_of_iff (Op.bytesLess a.item b.item = true ∨ (a.item = b.item ∧ belowD a.dot b.dot = true)) (by rw [belowC_iff]; rfl)
def clashE (a b : Cart) : Prop := ∃ x ∈ a.ents, ∃ y ∈ b.ents, x.dot = y.dot ∧ x ≠ y
instance (a b : Cart) : Decidable (clashE a b) := by unfold clashE; infer_instance
end Go.Ft
set_option linter.unusedVariables false
set_option linter.unusedSimpArgs false
set_option maxRecDepth 100000
namespace Go.Proofs.YtfblmkocmnbdcaaGreat
open Go.Fw Go.Proofs Go.RowKit Go.Proofs.Tryz
theorem c132 (w0 : World) (v1 : Value) (l : List Dot) (h : Sl Dot.enc 3 w0 w0.heap.size v1 l) (hn : l.length ≤ 4194304) :
    Rets Tryz.prog 132 #[v1] w0 fun v L => ∃ A c, v = .slice A l.length c ∧ L = [rowOf 122 3 Dot.enc A c l] := by
  have h0 := h
  obtain ⟨A, cap, rfl, hl, hcap, hA⟩ := h
  unfold Go.Fw.Rets
  refine enter1 func132 rfl ntmps132 rfl fun a S => sg S (.ac rfl <| .z) fun a w S => wp_seq_k fun _ hK1 => sg S (.mv rfl <| .yy (ys_sNil underlying34 (.t rfl) Ev.c) rfl <| .z) fun a w S => ?_
  refine st_cond S (.t rfl) (fun h1 => ?_) (fun h1 => ?_)
  refine sg S (.ac rfl <| .z) fun a w S => wp_ret (then_ret (st_ret S (results1 S results132 (Rv.tmp rfl)) ?_))
  rotate_left
  refine wp_skip (then_normal (hK1 _ _ (wp_seq_k fun _ hK1 => wp_region_lit (st_m (op_bslice0 S underlying34 sizeOf122 rfl fun g1 a w S => run S (.mv rfl <| .z) fun a w S => st_m (op_extend _ (S.nil_ 122 _ Go.Fw.Dot.enc _) underlying34 underlying34 (.inr ⟨_, rfl⟩) inf122 rfl (k := 0) rfl (.t rfl) (.t rfl) (Src.sl (Sl.old S.wd h0) (by decide) Go.Fw.Dot.enc_len Go.Fw.Dot.enc_one) (by first | omega | (simp only [List.length_append, List.length_cons, List.length_nil]; omega) | (simp; omega)) rfl rfl rfl fun A1 cap1 a w S => ?_))))))
  simp only [List.nil_append] at S
  refine run S (.as rfl <| .z) fun a w S => st_nil (then_normal (hK1 _ _ (wp_ret (st_ret S (results1 S results132 (Rv.tmp rfl)) ?_))))
  rotate_left
  · have hnil : l = [] := by
      refine List.eq_nil_of_length_eq_zero (Decidable.byContradiction fun hne => ?_)
      obtain ⟨g, o, rfl, _⟩ := hA (by omega)
      cases h1
    subst hnil
    exact ⟨_, _, rfl, (S.nil_ 122 3 Dot.enc none).wd.sub (by repeat (first | exact List.Sublist.refl _ | exact List.nil_sublist _ | refine .cons_cons _ ?_ | refine .cons _ ?_)), none, 0, rfl, rfl⟩
  · try simp only [List.nil_append] at S ⊢
    exact ⟨_, _, rfl, S.wd.sub (by repeat (first | exact List.Sublist.refl _ | exact List.nil_sublist _ | refine .cons_cons _ ?_ | refine .cons _ ?_)), _, _, rfl, rfl⟩
end Go.Proofs.YtfblmkocmnbdcaaGreat
set_option linter.unusedVariables false
set_option linter.unusedSimpArgs false
set_option maxRecDepth 100000
set_option maxHeartbeats 4000000
namespace Go.Proofs.YtfblmkocmnbdcaaGreat
open Go.Fw Go.Proofs Go.RowKit Go.Proofs.Tryz
theorem c68 (w0 : World) (v1 v2 : Value) (C : Ctx) (h : RdCtx w0 w0.heap.size v1 v2 C) (hn : C.marks.length ≤ 1048576) (hn' : C.cloud.length ≤ 1048576) :
    Rets Tryz.prog 68 #[.agg #[v1, v2]] w0 fun v L => ∃ A1 r1 A2 r2, v = .agg #[.slice A1 C.marks.length r1, .slice A2 C.cloud.length r2] ∧
      L = [rowOf 122 3 Dot.enc A1 r1 C.marks, rowOf 58 3 Dot.enc A2 r2 C.cloud] := by
  obtain ⟨h1, h2⟩ := id h
  obtain ⟨B1, q1, rfl, _⟩ := id h1
  obtain ⟨B2, q2, rfl, _⟩ := id h2
  unfold Go.Fw.Rets
  refine enter1 func68 rfl ntmps68 rfl fun a S => wp_seq_k fun _ hK1 => wp_region_lit (st_m (op_box S (.t rfl) rfl fun g1 a w S => st_m (op_alloc S zeroValue37 (cs := _) rfl rfl fun g2 a w S => st_nil (then_normal (hK1 _ _ (wp_seq_k fun _ hK1 => h_beginE S (by kernel_rfl) 0 fun a w S => hy 0 S rfl (ys_fieldN (FieldT.mk underlying37 rfl sizeOf34 rfl) (.t rfl) (i' := 0) rfl) rfl fun a w S => hy 1 S rfl (ys_ld ⟨isAgg34, sizeOf34⟩ (.t rfl) (k := 0) rfl rfl) rfl fun a w S => hy 3 S rfl (ys_fieldN (FieldT.mk underlying37 rfl sizeOf35 rfl) (.t rfl) (i' := 1) rfl) rfl fun a w S => ?_))))))
  refine hy 4 S rfl (ys_ld ⟨isAgg35, sizeOf35⟩ (.t rfl) (k := 0) rfl rfl) rfl fun a w S => ?_
  (refine h_m (i := 2) rfl (by kernel_rfl) (op_calls S call132 (.cons (.t rfl) .nil) (c132 _ _ _ (by exact .old S.wd (by assumption)) (by omega)) rfl ?_); clear S a w; rintro _ _ ⟨A1, c1, rfl, rfl⟩ a w S; refine h_n1 S ?_)
  (refine h_m (i := 5) rfl (by kernel_rfl) (op_calls S call133 (.cons (.t rfl) .nil) (c133 _ _ _ (by exact .old S.wd (by assumption)) (by omega)) rfl ?_); clear S a w; rintro _ _ ⟨A2, c2, rfl, rfl⟩ a w S; refine h_n1 S ?_)
  refine hy 6 S rfl (ys_bld (ps := [(0, Go.Operand.tmp 5), (1, Go.Operand.tmp 8)]) (us := [_, _]) bld37 (.cons (.t rfl) (.cons (.t rfl) .nil)) rfl) rfl fun a w S => ?_
  (refine h_m0 (i := 7) rfl (by kernel_rfl) (op_stW S sizeOf37 (.t rfl) (.t rfl) (k := 2) rfl rfl rfl (by simp [Value.oneCell']) ?_); clear S a w; intro a w S; refine h_n1 S ?_)
  refine h_done (by kernel_rfl) (then_normal (hK1 _ _ (wp_ret (st_ret S (results1 S results68 (Rv.cell (k := 2) ⟨isAgg37, sizeOf37⟩ rfl rfl rfl)) ?_))))
  (replace S := S.pull 1 rfl; try simp only [List.set_cons_zero, List.set_cons_succ, List.eraseIdx_cons_succ, List.eraseIdx_cons_zero] at S)
  exact ⟨_, _, rfl, S.wd.sub (by repeat (first | exact List.Sublist.refl _ | exact List.nil_sublist _ | refine .cons_cons _ ?_ | refine .cons _ ?_)), _, _, _, _, rfl, rfl⟩
end Go.Proofs.YtfblmkocmnbdcaaGreat
set_option linter.unusedVariables false
set_option linter.unusedSimpArgs false
set_option maxRecDepth 100000
set_option maxHeartbeats 4000000
namespace Go.Fw
theorem cart_same {X Y : Cart} : (decide (X.ents = Y.ents) && decide (X.ctx = Y.ctx)) = decide (X = Y) := by
  cases X; cases Y; simp
end Go.Fw
namespace Go.Proofs.YtfblmkocmnbdcaaGreat
open Go.Fw Go.Proofs Go.RowKit Go.Proofs.Tryz
theorem c20 (w0 : World) (v1 v2 v3 : Value) (X : Cart) (h : Sl Ent.enc 6 w0 w0.heap.size v1 X.ents) (hr : RdCtx w0 w0.heap.size v2 v3 X.ctx) (hl1 : X.ents.length ≤ 1048576) (hl2 : X.ctx.marks.length ≤ 1048576) (hl3 : X.ctx.cloud.length ≤ 1048576) :
    Rets Tryz.prog 20 #[.agg #[v1, v2, v3]] w0 fun v L => ∃ A1 r1 A2 r2 A3 r3, v = .agg #[.slice A1 X.ents.length r1, .slice A2 X.ctx.marks.length r2, .slice A3 X.ctx.cloud.length r3] ∧
      L = [rowOf 71 6 Ent.enc A1 r1 X.ents, rowOf 122 3 Dot.enc A2 r2 X.ctx.marks, rowOf 58 3 Dot.enc A3 r3 X.ctx.cloud] := by
  have hs := h
  have hrr := hr
  obtain ⟨A, cap, rfl, hl, hcap, hA⟩ := h
  obtain ⟨⟨A2, cap2, rfl, _⟩, ⟨A3, cap3, rfl, _⟩⟩ := hr
  unfold Go.Fw.Rets
  refine enter1 func20 rfl ntmps20 rfl fun a S => wp_seq_k fun _ hK1 => wp_region_lit (st_m (op_box S (.t rfl) rfl fun g1 a w S => st_m (op_alloc S zeroValue39 (cs := _) rfl rfl fun g2 a w S => st_nil (then_normal (hK1 _ _ (wp_seq_k fun _ hK1 => h_beginE S (by kernel_rfl) 0 fun a w S => hy 0 S rfl (ys_fieldN (FieldT.mk underlying39 rfl sizeOf33 rfl) (.t rfl) (i' := 0) rfl) rfl fun a w S => hy 1 S rfl (ys_ld ⟨isAgg33, sizeOf33⟩ (.t rfl) (k := 0) rfl rfl) rfl fun a w S => hy 3 S rfl (ys_fieldN (FieldT.mk underlying39 rfl sizeOf37 rfl) (.t rfl) (i' := 1) rfl) rfl fun a w S => ?_))))))
  refine hy 4 S rfl (ys_ldA ⟨isAgg37, sizeOf37⟩ (.t rfl) (k := 0) rfl rfl) rfl fun a w S => ?_
  (refine h_m (i := 2) rfl (by kernel_rfl) (op_calls S call67 (.cons (.t rfl) .nil) (c67 _ _ _ (by exact .old S.wd (by assumption)) (by omega)) rfl ?_); clear S a w; rintro _ _ ⟨A1, c1, rfl, rfl⟩ a w S; refine h_n1 S ?_)
  (refine h_m (i := 5) rfl (by kernel_rfl) (op_calls S call68 (.cons (.t rfl) .nil) (c68 _ _ _ _ (by exact .old S.wd (by assumption)) (by assumption) (by assumption)) rfl ?_); clear S a w; rintro _ _ ⟨A11, r11, A21, r21, rfl, rfl⟩ a w S; refine h_n1 S ?_)
  refine hy 6 S rfl (ys_bld (ps := [(0, Go.Operand.tmp 5), (1, Go.Operand.tmp 8)]) (us := [_, _, _]) bld39 (.cons (.t rfl) (.cons (.t rfl) .nil)) rfl) rfl fun a w S => ?_
  (refine h_m0 (i := 7) rfl (by kernel_rfl) (op_stW S sizeOf39 (.t rfl) (.t rfl) (k := 3) rfl rfl rfl (by simp [Value.oneCell']) ?_); clear S a w; intro a w S; refine h_n1 S ?_)
  refine h_done (by kernel_rfl) (then_normal (hK1 _ _ (wp_ret (st_ret S (results1 S results20 (Rv.cell (k := 3) ⟨isAgg39, sizeOf39⟩ rfl rfl rfl)) ?_))))
  exact ⟨_, _, rfl, S.wd.pk, _, _, _, _, _, _, rfl, rfl⟩
theorem c17 (w0 : World) (v1 v2 v3 v4 v5 v6 : Value) (X Y : Cart) (h : Sl Ent.enc 6 w0 w0.heap.size v1 X.ents) (hr : RdCtx w0 w0.heap.size v2 v3 X.ctx) (h' : Sl Ent.enc 6 w0 w0.heap.size v4 Y.ents) (hr' : RdCtx w0 w0.heap.size v5 v6 Y.ctx) :
    Calls Tryz.prog 17 #[.agg #[v1, v2, v3], .agg #[v4, v5, v6]] w0 fun e w' => e = .returned (.bool (decide (X = Y))) ∧ Bel w0.heap.size w0 w' := by
  have hs := h
  have hrr := hr
  have hs' := h'
  have hrr' := hr'
  obtain ⟨A, cap, rfl, hl, hcap, hA⟩ := h
  obtain ⟨⟨A2, cap2, rfl, _⟩, ⟨A3, cap3, rfl, _⟩⟩ := hr
  obtain ⟨B, capB, rfl, hlB, hcapB, hB⟩ := h'
  obtain ⟨⟨B2, capB2, rfl, _⟩, ⟨B3, capB3, rfl, _⟩⟩ := hr'
  refine enter2 func17 rfl ntmps17 rfl fun a S => wp_seq_k fun _ hK1 => wp_region_lit (st_m (op_box S (.t rfl) rfl fun g1 a w S => st_m (op_box S (.t rfl) rfl fun g2 a w S => run S (.ac rfl <| .z) fun a w S => st_nil (then_normal (hK1 _ _ (wp_seq_k fun _ hK1 => wp_region_lit (run S (.fa underlying39 sizeOf33 0 rfl rfl rfl <| .ld gt33 1 rfl rfl rfl <| .fa underlying39 sizeOf33 0 rfl rfl rfl <| .ld gt33 0 rfl rfl rfl <| .xx (ys_call call61 (.cons (.t rfl) (.cons (.t rfl) .nil)) (fun hp w W => c61 _ _ _ _ _ (by exact .old W (by assumption)) (by exact .old W (by assumption)))) rfl <| .mv rfl <| .z) fun a w S => st_yg S rfl rfl (Yr.ys (ys_fieldN (FieldT.mk underlying39 rfl sizeOf37 rfl) (.t rfl) (i' := 1) rfl)) rfl fun a w S => st_yg S rfl rfl (Yr.ys (ys_ldA ⟨isAgg37, sizeOf37⟩ (Ev.g rfl) (k := 1) rfl rfl)) rfl fun a w S => st_yg S rfl rfl (Yr.ys (ys_fieldN (FieldT.mk underlying39 rfl sizeOf37 rfl) (.t rfl) (i' := 1) rfl)) rfl fun a w S => st_yg S rfl rfl (Yr.ys (ys_ldA ⟨isAgg37, sizeOf37⟩ (Ev.g rfl) (k := 0) rfl rfl)) rfl fun a w S => st_yg S rfl rfl (ys_call call62 (.cons (Ev.g rfl) (.cons (Ev.g rfl) .nil)) (fun hp w W => c62 _ _ _ _ _ _ _ (by exact .old W (by assumption)) (by exact .old W (by assumption)))) rfl fun a w S => run S (.yy (ys_and (.t rfl) (Ev.g rfl) Ev.c) rfl <| .as rfl <| .z) fun a w S => st_nil (then_normal (hK1 _ _ (wp_ret ?_))))))))))
  refine st_ret S (results1 S results17 (Rv.tmp rfl)) ?_
  exact ⟨by rw [cart_same], S.wd.below⟩
end Go.Proofs.YtfblmkocmnbdcaaGreat
set_option linter.unusedVariables false
set_option linter.unusedSimpArgs false
namespace Go.Fw
open Go.RowKit
def SlIn {α : Type} (enc : α → List Value) (size : Nat) (w1 : World) (bs : List Nat) (v : Value) (l : List α) : Prop :=
  ∃ A cap, v = .slice A l.length cap ∧ l.length ≤ cap ∧ cap ≤ 9223372036854775807 ∧ (0 < l.length → ∃ g o, A = some ⟨g, o, none⟩ ∧ g ∈ bs ∧ ∀ k x, l[k]? = some x → ∀ j u, (enc x)[j]? = some u → w1.cell? ⟨g, o + k * size + j, none⟩ = some u)
def Chunk.blocks : Chunk → List Nat
  | .blk b _ => [b]
  | .row _ _ A _ cap _ => if cap = 0 then [] else (A.map (·.block)).toList
  | .ice _ bs => bs
section
variable {w0 w w1 : World} {L cs : List Chunk} {k e size : Nat} {bs bs' : List Nat}
variable {α : Type} {enc : α → List Value} {v : Value} {l : List α}
theorem ice_cell (W : Wd w0 L w) (hk : L[k]? = some (.ice w1 bs)) {g o : Nat} (hg : g ∈ bs) : w.cell? ⟨g, o, none⟩ = w1.cell? ⟨g, o, none⟩ := by
  have h := (W.get hk g hg).2.2
  simp only [World.cell?, h]
theorem SlIn.sl (h : SlIn enc size w1 bs v l) (W : Wd w0 L w) (hk : L[k]? = some (.ice w1 bs)) : Sl enc size w w.heap.size v l := by
  obtain ⟨A, cap, rfl, h1, h2, h3⟩ := h
  refine ⟨A, cap, rfl, h1, h2, fun hp => ?_⟩
  obtain ⟨g, o, rfl, hg, hc⟩ := h3 hp
  exact ⟨g, o, rfl, (W.get hk g hg).2.1, fun k x hx j u hu => (ice_cell W hk hg).trans (hc k x hx j u hu)⟩
theorem SlIn.row {A : Option Addr} {cap : Nat} (W : Wd w0 L w) (hk : L[k]? = some (rowOf e size enc A cap l)) (he : ∀ x, (enc x).length = size) (hb : ∀ b ∈ Chunk.blocks (rowOf e size enc A cap l), b ∈ bs') : SlIn enc size w bs' (.slice A l.length cap) l := by
  obtain ⟨A', cap', hv, h1, h2, h3⟩ := Sl.of_own W hk he
  cases hv
  refine ⟨A, cap, rfl, h1, h2, fun hp => ?_⟩
  obtain ⟨g, o, rfl, hg, hc⟩ := h3 hp
  exact ⟨g, o, rfl, hb g (by simp [Chunk.blocks, rowOf, show cap ≠ 0 by omega]), hc⟩
theorem SlIn.nil_ {c : Nat} : SlIn enc size w1 bs (.slice none 0 0) [] := ⟨none, 0, rfl, by simp, by simp, fun h => by simp at h⟩
end
structure Sls3 where
  a1 : Option Addr
  n1 : Nat
  c1 : Nat
  a2 : Option Addr
  n2 : Nat
  c2 : Nat
  a3 : Option Addr
  n3 : Nat
  c3 : Nat
abbrev SCart := Cart × Sls3
abbrev SUpd := Upd × Sls3
abbrev SCart.enc (p : SCart) : List Value := [.slice p.2.a1 p.2.n1 p.2.c1, .slice p.2.a2 p.2.n2 p.2.c2, .slice p.2.a3 p.2.n3 p.2.c3]
theorem SCart.enc_len (p : SCart) : (SCart.enc p).length = 3 := rfl
theorem SCart.enc_one (p : SCart) : ∀ u ∈ SCart.enc p, u.oneCell' = true := fun u hu => by simp [SCart.enc] at hu; rcases hu with rfl | rfl | rfl <;> rfl
abbrev SUpd.enc (p : SUpd) : List Value := Upd.enc p.1 (.slice p.2.a1 p.2.n1 p.2.c1) (.slice p.2.a2 p.2.n2 p.2.c2) (.slice p.2.a3 p.2.n3 p.2.c3)
theorem SUpd.enc_len (p : SUpd) : (SUpd.enc p).length = 10 := rfl
theorem SUpd.enc_one (p : SUpd) : ∀ u ∈ SUpd.enc p, u.oneCell' = true := fun u hu => by simp [SUpd.enc, Upd.enc] at hu; rcases hu with rfl | rfl | rfl | rfl | rfl | rfl | rfl | rfl | rfl | rfl <;> rfl
structure CartRd (w : World) (X : Cart) (s : Sls3) : Prop where
  ents : Sl Ent.enc 6 w w.heap.size (.slice s.a1 s.n1 s.c1) X.ents
  marks : Sl Dot.enc 3 w w.heap.size (.slice s.a2 s.n2 s.c2) X.ctx.marks
  cloud : Sl Dot.enc 3 w w.heap.size (.slice s.a3 s.n3 s.c3) X.ctx.cloud
section
variable {w0 w w1 : World} {L : List Chunk} {k : Nat} {bs bs' : List Nat} {X : Cart} {s : Sls3}
theorem CartRd.ctx (h : CartRd w X s) : RdCtx w w.heap.size (.slice s.a2 s.n2 s.c2) (.slice s.a3 s.n3 s.c3) X.ctx := ⟨h.marks, h.cloud⟩
end
end Go.Fw
set_option linter.unusedVariables false
set_option linter.unusedSimpArgs false
namespace Go.Fw
open Go.RowKit
structure Play where
  st : List Cart
  up : List Upd
  ct : List Int
def Play.start : Play := ⟨[], [], List.replicate 8 0⟩
end Go.Fw
set_option linter.unusedVariables false
set_option linter.unusedSimpArgs false
set_option maxRecDepth 100000
set_option maxHeartbeats 4000000
namespace Go.Fw
theorem encK_len {X : Cart} (h : CartOk X) : (encK X).length ≤ 16384 := by
  have h1 := ents_len h X.ents.length
  rw [List.take_length] at h1
  have h2 := h.len
  have hm := (can_nf h.ctx).mayM
  have hc := (can_nf h.ctx).mayC
  have h3 := dotsB_len (b := entsB [] X.ents) hm (can_len h.ctx).1
  have h4 := dotsB_len (b := dotsB (entsB [] X.ents) X.ctx.marks) hc (can_len h.ctx).2
  unfold encK encC
  unfold entsB at h3 h4 ⊢
  omega
end Go.Fw
namespace Go.Proofs.YtfblmkocmnbdcaaGreat
open Go.Fw Go.Proofs Go.RowKit Go.Proofs.Tryz
end Go.Proofs.YtfblmkocmnbdcaaGreat
set_option linter.unusedVariables false
set_option linter.unusedSimpArgs false
set_option maxRecDepth 100000
set_option maxHeartbeats 4000000
namespace Go.Fw
open Go.RowKit
def tokM (c : Cart) : List UInt8 × Int := if canE c = 0 then (letters (frameL (encK c)), 0) else ([], canE c)
theorem frame_le {l : List UInt8} (h : l.length ≤ 65536) : (frameL l).length ≤ 65600 := by
  have h1 := frame_len l
  have h2 := putL_len [] (n := (l.length : Int)) (by omega)
  simp only [List.length_nil] at h2
  omega
end Go.Fw
namespace Go.Proofs.YtfblmkocmnbdcaaGreat
open Go.Fw Go.Proofs Go.RowKit Go.Proofs.Tryz
theorem c24 (w0 : World) (v1 v2 v3 : Value) (X : Cart) (h : Sl Ent.enc 6 w0 w0.heap.size v1 X.ents) (hr : RdCtx w0 w0.heap.size v2 v3 X.ctx) :
    Calls Tryz.prog 24 #[.agg #[v1, v2, v3]] w0 fun e w' => e = .returned (.tuple #[.string (bs (tokM X).1), .int .i64 (tokM X).2]) ∧ Bel w0.heap.size w0 w' := by
  have hs := h
  have hrr := hr
  obtain ⟨A, cap, rfl, hl, hcap, hA⟩ := h
  obtain ⟨⟨A2, cap2, rfl, _⟩, ⟨A3, cap3, rfl, _⟩⟩ := hr
  by_cases h0 : canE X = 0
  · have ok := (canE_ok X).1 h0
    have hxl := encK_len ok
    have hfl := frame_le (l := encK X) (by omega)
    have rw_c := h0
    have rw_i : (if (0 : Int) = 0 then encK X else []) = encK X := if_pos rfl
    have ht : tokM X = (letters (frameL (encK X)), 0) := if_pos h0
    refine enter1 func24 rfl ntmps24 rfl fun a S => wp_seq_k fun _ hK1 => wp_region_lit (st_m (op_box S (.t rfl) rfl fun g1 a w S => run S (.ac rfl <| .ac rfl <| .z) fun a w S => st_nil (then_normal (hK1 _ _ (wp_seq_k fun _ hK1 => wp_region_lit (run S (.la gt39 0 rfl rfl rfl <| .z) fun a w S => ?_))))))
    (refine st_m (op_calls S call15 (.cons (.t rfl) .nil) (c15 _ _ _ _ _ (by exact .old S.wd (by assumption)) (by exact .old S.wd (by assumption))) rfl ?_); clear S a w; rintro _ _ ⟨A1, r1, rfl, rfl⟩ a w S)
    rw [rw_c] at S
    rw [rw_i] at S
    refine run S (.mv rfl <| .ex rfl rfl <| .ex rfl rfl <| .as rfl <| .as rfl <| .z) fun a w S => st_nil (then_normal (hK1 _ _ (wp_seq_k fun _ hK1 => sg S (.mv rfl <| .yy (ys_F (by omega) (ys_neq (.t rfl) Ev.c)) rfl <| .z) fun a w S => st_else S (.t rfl) (wp_skip (then_normal (hK1 _ _ (wp_seq_k fun _ hK1 => wp_region_lit (run S (.mv rfl <| .z) fun a w S => ?_))))))))
    (refine st_m (op_calls S call72 (.cons (.t rfl) .nil) (c72 _ _ _ (by exact Sl.of_own S.wd (k := 0) rfl (fun _ => rfl)) (by omega)) rfl ?_); clear S a w; rintro _ _ ⟨A4, r2, rfl, rfl⟩ a w S)
    refine run S (.mv rfl <| .ex rfl rfl <| .ex rfl rfl <| .as rfl <| .as rfl <| .z) fun a w S => st_nil (then_normal (hK1 _ _ (wp_seq_k fun _ hK1 => sg S (.mv rfl <| .yy (ys_F (by omega) (ys_neq (.t rfl) Ev.c)) rfl <| .z) fun a w S => st_else S (.t rfl) (wp_skip (then_normal (hK1 _ _ (sg S (.mv rfl <| .xx (ys_call call73 (.cons (.t rfl) .nil) (fun hp w W => c73 _ _ _ (by exact Sl.of_own W (k := 0) rfl (fun _ => rfl)) (by omega))) rfl <| .as rfl <| .ac rfl <| .z) fun a w S => wp_ret (st_ret S (results2 S results24 (Rv.tmp rfl) (Rv.tmp rfl)) ?_))))))))
    rw [ht]
    exact ⟨rfl, S.wd.below⟩
  · have rw_d : decide (canE X ≠ 0) = true := decide_eq_true h0
    have ht : tokM X = ([], canE X) := if_neg h0
    refine enter1 func24 rfl ntmps24 rfl fun a S => wp_seq_k fun _ hK1 => wp_region_lit (st_m (op_box S (.t rfl) rfl fun g1 a w S => run S (.ac rfl <| .ac rfl <| .z) fun a w S => st_nil (then_normal (hK1 _ _ (wp_seq_k fun _ hK1 => wp_region_lit (run S (.la gt39 0 rfl rfl rfl <| .z) fun a w S => ?_))))))
    (refine st_m (op_calls S call15 (.cons (.t rfl) .nil) (c15 _ _ _ _ _ (by exact .old S.wd (by assumption)) (by exact .old S.wd (by assumption))) rfl ?_); clear S a w; rintro _ _ ⟨A1, r1, rfl, rfl⟩ a w S)
    refine run S (.mv rfl <| .ex rfl rfl <| .ex rfl rfl <| .as rfl <| .as rfl <| .z) fun a w S => st_nil (then_normal (hK1 _ _ (wp_seq_k fun _ hK1 => sg S (.mv rfl <| .yy (ys_T (by omega) (ys_neq (.t rfl) Ev.c)) rfl <| .z) fun a w S => st_then S (.t rfl) (sg S (.mv rfl <| .ac rfl <| .as rfl <| .z) fun a w S => wp_ret (then_ret (st_ret S (results2 S results24 (Rv.tmp rfl) (Rv.tmp rfl)) ?_))))))
    rw [ht]
    exact ⟨rfl, S.wd.below⟩
theorem c25 (w0 : World) (v1 v2 v3 : Value) (X : Cart) (h : Sl Ent.enc 6 w0 w0.heap.size v1 X.ents) (hr : RdCtx w0 w0.heap.size v2 v3 X.ctx) :
    Calls Tryz.prog 25 #[.agg #[v1, v2, v3]] w0 fun e w' => e = .returned (.tuple #[.string (bs (tokM X).1), .int .i64 (tokM X).2]) ∧ Bel w0.heap.size w0 w' := by
  have hs := h
  have hrr := hr
  obtain ⟨A, cap, rfl, hl, hcap, hA⟩ := h
  obtain ⟨⟨A2, cap2, rfl, _⟩, ⟨A3, cap3, rfl, _⟩⟩ := hr
  by_cases h0 : canE X = 0
  · have ok := (canE_ok X).1 h0
    have hxl := encK_len ok
    have hfl := frame_le (l := encK X) (by omega)
    have rw_c := h0
    have rw_i : (if (0 : Int) = 0 then encK X else []) = encK X := if_pos rfl
    have rw_l := lettersR_eq (frameL (encK X))
    have ht : tokM X = (letters (frameL (encK X)), 0) := if_pos h0
    refine enter1 func25 rfl ntmps25 rfl fun a S => wp_seq_k fun _ hK1 => wp_region_lit (st_m (op_box S (.t rfl) rfl fun g1 a w S => run S (.ac rfl <| .ac rfl <| .z) fun a w S => st_nil (then_normal (hK1 _ _ (wp_seq_k fun _ hK1 => wp_region_lit (run S (.la gt39 0 rfl rfl rfl <| .z) fun a w S => ?_))))))
    (refine st_m (op_calls S call21 (.cons (.t rfl) .nil) (c21 _ _ _ _ _ (by exact .old S.wd (by assumption)) (by exact .old S.wd (by assumption))) rfl ?_); clear S a w; rintro _ _ ⟨A1, r1, rfl, rfl⟩ a w S)
    rw [rw_c] at S
    rw [rw_i] at S
    refine run S (.mv rfl <| .ex rfl rfl <| .ex rfl rfl <| .as rfl <| .as rfl <| .z) fun a w S => st_nil (then_normal (hK1 _ _ (wp_seq_k fun _ hK1 => sg S (.mv rfl <| .yy (ys_F (by omega) (ys_neq (.t rfl) Ev.c)) rfl <| .z) fun a w S => st_else S (.t rfl) (wp_skip (then_normal (hK1 _ _ (wp_seq_k fun _ hK1 => wp_region_lit (run S (.mv rfl <| .z) fun a w S => ?_))))))))
    (refine st_m (op_calls S call74 (.cons (.t rfl) .nil) (c74 _ _ _ (by exact Sl.of_own S.wd (k := 0) rfl (fun _ => rfl)) (by omega)) rfl ?_); clear S a w; rintro _ _ ⟨A4, r2, rfl, rfl⟩ a w S)
    refine run S (.mv rfl <| .ex rfl rfl <| .ex rfl rfl <| .as rfl <| .as rfl <| .z) fun a w S => st_nil (then_normal (hK1 _ _ (wp_seq_k fun _ hK1 => sg S (.mv rfl <| .yy (ys_F (by omega) (ys_neq (.t rfl) Ev.c)) rfl <| .z) fun a w S => st_else S (.t rfl) (wp_skip (then_normal (hK1 _ _ (wp_seq_k fun _ hK1 => wp_region_lit (run S (.mv rfl <| .xx (ys_call call75 (.cons (.t rfl) .nil) (fun hp w W => c75 _ _ _ (by exact Sl.of_own W (k := 0) rfl (fun _ => rfl)) (by omega))) rfl <| .z) fun a w S => ?_))))))))
    rw [rw_l] at S
    refine run S (.as rfl <| .ac rfl <| .z) fun a w S => st_nil (then_normal (hK1 _ _ (wp_ret (st_ret S (results2 S results25 (Rv.tmp rfl) (Rv.tmp rfl)) ?_))))
    rw [ht]
    exact ⟨rfl, S.wd.below⟩
  · have rw_d : decide (canE X ≠ 0) = true := decide_eq_true h0
    have ht : tokM X = ([], canE X) := if_neg h0
    refine enter1 func25 rfl ntmps25 rfl fun a S => wp_seq_k fun _ hK1 => wp_region_lit (st_m (op_box S (.t rfl) rfl fun g1 a w S => run S (.ac rfl <| .ac rfl <| .z) fun a w S => st_nil (then_normal (hK1 _ _ (wp_seq_k fun _ hK1 => wp_region_lit (run S (.la gt39 0 rfl rfl rfl <| .z) fun a w S => ?_))))))
    (refine st_m (op_calls S call21 (.cons (.t rfl) .nil) (c21 _ _ _ _ _ (by exact .old S.wd (by assumption)) (by exact .old S.wd (by assumption))) rfl ?_); clear S a w; rintro _ _ ⟨A1, r1, rfl, rfl⟩ a w S)
    refine run S (.mv rfl <| .ex rfl rfl <| .ex rfl rfl <| .as rfl <| .as rfl <| .z) fun a w S => st_nil (then_normal (hK1 _ _ (wp_seq_k fun _ hK1 => sg S (.mv rfl <| .yy (ys_T (by omega) (ys_neq (.t rfl) Ev.c)) rfl <| .z) fun a w S => st_then S (.t rfl) (sg S (.mv rfl <| .ac rfl <| .as rfl <| .z) fun a w S => wp_ret (then_ret (st_ret S (results2 S results25 (Rv.tmp rfl) (Rv.tmp rfl)) ?_))))))
    rw [ht]
    exact ⟨rfl, S.wd.below⟩
end Go.Proofs.YtfblmkocmnbdcaaGreat
set_option linter.unusedVariables false
set_option linter.unusedSimpArgs false
set_option maxRecDepth 100000
set_option maxHeartbeats 4000000
namespace Go.Fw
open Go.RowKit
theorem readT_nil : readT [] = (Cart.zero, 0) := rfl
theorem readT_none {s : List UInt8} (h0 : s ≠ []) (h : bytes64 s = none) : readT s = (Cart.zero, 150) := by
  unfold readT
  rw [if_neg h0, h]
theorem readT_some {s b : List UInt8} (h0 : s ≠ []) (h : bytes64 s = some b) : readT s = if (unframeL b).2.2 = 0 ∧ (unframeL b).2.1 = [] then (if (decK (unframeL b).1).2 = 0 then ((decK (unframeL b).1).1, 0) else (Cart.zero, 150)) else (Cart.zero, 150) := by
  unfold readT
  rw [if_neg h0, h]
theorem unframe_len (b : List UInt8) : (unframeL b).1.length ≤ b.length ∧ (unframeL b).2.1.length ≤ b.length := by
  by_cases h : (unframeL b).2.2 = 0
  · have h1 := (unframe_ok h).2
    have h2 := congrArg List.length h1
    rw [List.length_append, frame_len] at h2
    omega
  · have := unframe_bad h
    rw [this.1, this.2]
    simp
end Go.Fw
namespace Go.Proofs.YtfblmkocmnbdcaaGreat
open Go.Fw Go.Proofs Go.RowKit Go.Proofs.Tryz
theorem zeroRows {w0 w : World} {L : List Chunk} (W : Wd w0 L w) : Wd w0 [rowOf 71 6 Ent.enc none 0 [], rowOf 122 3 Dot.enc none 0 [], rowOf 58 3 Dot.enc none 0 []] w :=
  (((W.sub (List.nil_sublist _)).bare (c := rowOf 58 3 Dot.enc none 0 []) ⟨rfl, .inl ⟨rfl, rfl⟩⟩ (fun b h => h.1 rfl)).bare (c := rowOf 122 3 Dot.enc none 0 []) ⟨rfl, .inl ⟨rfl, rfl⟩⟩ (fun b h => h.1 rfl)).bare (c := rowOf 71 6 Ent.enc none 0 []) ⟨rfl, .inl ⟨rfl, rfl⟩⟩ (fun b h => h.1 rfl)
theorem c26 (w0 : World) (s : List UInt8) (hs : s.length ≤ 4194304) :
    Rets Tryz.prog 26 #[.string (bs s)] w0 fun v L => ∃ A1 r1 A2 r2 A3 r3, v = .tuple #[.agg #[.slice A1 (readT s).1.ents.length r1, .slice A2 (readT s).1.ctx.marks.length r2, .slice A3 (readT s).1.ctx.cloud.length r3], .int .i64 (readT s).2] ∧
      L = [rowOf 71 6 Ent.enc A1 r1 (readT s).1.ents, rowOf 122 3 Dot.enc A2 r2 (readT s).1.ctx.marks, rowOf 58 3 Dot.enc A3 r3 (readT s).1.ctx.cloud] := by
  by_cases h0 : s = []
  · subst h0
    unfold Go.Fw.Rets
    refine enter1 func26 rfl ntmps26 rfl fun a S => wp_seq_k fun _ hK1 => wp_region_lit (st_m (op_alloc S zeroValue39 (cs := _) rfl rfl fun g1 a w S => run S (.ac rfl <| .z) fun a w S => st_nil (then_normal (hK1 _ _ (wp_seq_k fun _ hK1 => sg S (.mv rfl <| .yy (ys_eqlStr (.t rfl) Ev.c) rfl <| .z) fun a w S => st_then S (.t rfl) (wp_seq_k fun _ hK2 => wp_region_lit (run S (.yy (ys_bld (ps := []) (us := [_, _, _]) bld39 .nil rfl) rfl <| .z) fun a w S => st_m (op_stW S sizeOf39 (.t rfl) (.t rfl) (k := 0) rfl rfl rfl (by simp [Value.oneCell']) fun a w S => run S (.ac rfl <| .z) fun a w S => st_nil (then_normal (hK2 _ _ (wp_ret (then_ret (st_ret S (results2 S results26 (Rv.cell (k := 0) ⟨isAgg39, sizeOf39⟩ rfl rfl rfl) (Rv.tmp rfl)) ?_)))))))))))))
    rw [readT_nil]
    exact ⟨_, _, rfl, zeroRows S.wd, _, _, _, _, _, _, rfl, rfl⟩
  have rw_0 : decide (bs s = ⟨#[]⟩) = false := decide_eq_false fun e => h0 (bs_inj.1 e)
  rcases hb : bytes64 s with _ | b
  · have hz := readT_none h0 hb
    have rw_b := hb
    have rw_b1 : (none : Option (List UInt8)).isSome = false := rfl
    have rw_b2 : (none : Option (List UInt8)).getD [] = [] := rfl
    unfold Go.Fw.Rets
    refine enter1 func26 rfl ntmps26 rfl fun a S => wp_seq_k fun _ hK1 => wp_region_lit (st_m (op_alloc S zeroValue39 (cs := _) rfl rfl fun g1 a w S => run S (.ac rfl <| .z) fun a w S => st_nil (then_normal (hK1 _ _ (wp_seq_k fun _ hK1 => sg S (.mv rfl <| .yy (ys_eqlStr (.t rfl) Ev.c) rfl <| .z) fun a w S => st_if S (.t rfl) (fun h1 => absurd h1 (by first | assumption | omega)) (fun _ => wp_skip (then_normal (hK1 _ _ (wp_seq_k fun _ hK1 => wp_region_lit (run S (.mv rfl <| .z) fun a w S => ?_))))))))))
    (refine st_m (op_calls S call76 (.cons (.t rfl) .nil) (c76 _ _ (by assumption)) rfl ?_); clear S a w; rintro _ _ ⟨A1, c1, rfl, rfl⟩ a w S)
    rw [rw_b] at S
    rw [rw_b1] at S
    rw [rw_b2] at S
    refine run S (.mv rfl <| .ex rfl rfl <| .ex rfl rfl <| .as rfl <| .as rfl <| .z) fun a w S => st_nil (then_normal (hK1 _ _ (wp_seq_k fun _ hK1 => sg S (.mv rfl <| .nt rfl <| .z) fun a w S => st_then S (.t rfl) (wp_seq_k fun _ hK2 => wp_region_lit (run S (.yy (ys_bld (ps := []) (us := [_, _, _]) bld39 .nil rfl) rfl <| .z) fun a w S => st_m (op_stW S sizeOf39 (.t rfl) (.t rfl) (k := 1) rfl rfl rfl (by simp [Value.oneCell']) fun a w S => run S (.ac rfl <| .z) fun a w S => st_nil (then_normal (hK2 _ _ (wp_ret (then_ret (st_ret S (results2 S results26 (Rv.cell (k := 1) ⟨isAgg39, sizeOf39⟩ rfl rfl rfl) (Rv.tmp rfl)) ?_)))))))))))
    rw [hz]
    exact ⟨_, _, rfl, zeroRows S.wd, _, _, _, _, _, _, rfl, rfl⟩
  have hbl := bytes64_len s b hb
  have hul := unframe_len b
  have hz := readT_some h0 hb
  have rw_b := hb
  have rw_b1 : (some b).isSome = true := rfl
  have rw_b2 : (some b).getD [] = b := rfl
  have hx : (decide ((unframeL b).2.2 ≠ 0) || decide ((0 : Int) < ((unframeL b).2.1.length : Int))) = true ↔ ¬ ((unframeL b).2.2 = 0 ∧ (unframeL b).2.1 = []) := by
    rw [Bool.or_eq_true, decide_eq_true_iff, decide_eq_true_iff, ← List.length_eq_zero_iff]
    omega
  unfold Go.Fw.Rets
  refine enter1 func26 rfl ntmps26 rfl fun a S => wp_seq_k fun _ hK1 => wp_region_lit (st_m (op_alloc S zeroValue39 (cs := _) rfl rfl fun g1 a w S => run S (.ac rfl <| .z) fun a w S => st_nil (then_normal (hK1 _ _ (wp_seq_k fun _ hK1 => sg S (.mv rfl <| .yy (ys_eqlStr (.t rfl) Ev.c) rfl <| .z) fun a w S => st_if S (.t rfl) (fun h1 => absurd h1 (by first | assumption | omega)) (fun _ => wp_skip (then_normal (hK1 _ _ (wp_seq_k fun _ hK1 => wp_region_lit (run S (.mv rfl <| .z) fun a w S => ?_))))))))))
  (refine st_m (op_calls S call76 (.cons (.t rfl) .nil) (c76 _ _ (by assumption)) rfl ?_); clear S a w; rintro _ _ ⟨A1, c1, rfl, rfl⟩ a w S)
  rw [rw_b] at S
  rw [rw_b1] at S
  rw [rw_b2] at S
  refine run S (.mv rfl <| .ex rfl rfl <| .ex rfl rfl <| .as rfl <| .as rfl <| .z) fun a w S => st_nil (then_normal (hK1 _ _ (wp_seq_k fun _ hK1 => sg S (.mv rfl <| .nt rfl <| .z) fun a w S => st_else S (.t rfl) (wp_skip (then_normal (hK1 _ _ (wp_seq_k fun _ hK1 => wp_region_lit (run S (.mv rfl <| .z) fun a w S => ?_))))))))
  (refine st_m (op_calls S call77 (.cons (.t rfl) .nil) (c77 _ _ _ (by exact Sl.of_own S.wd (k := 0) rfl (fun _ => rfl)) (by omega)) rfl ?_); clear S a w; rintro _ _ ⟨A2, r1, A'1, r'1, rfl, rfl⟩ a w S)
  refine run S (.mv rfl <| .ex rfl rfl <| .ex rfl rfl <| .ex rfl rfl <| .as rfl <| .as rfl <| .as rfl <| .z) fun a w S => st_nil (then_normal (hK1 _ _ (wp_seq_k fun _ hK1 => wp_seq_k fun _ hK2 => wp_region_lit (run S (.mv rfl <| .yy (ys_neq (.t rfl) Ev.c) rfl <| .mv rfl <| .z) fun a w S => st_yf S rfl rfl (Yr.ys (ys_move (.t rfl))) rfl fun a w S => st_yf S rfl rfl (Yr.ys (ys_lenS underlying28 (Ev.g rfl))) rfl fun a w S => st_yf S rfl rfl (Yr.ys (ys_gtr (Ev.g rfl) Ev.c)) rfl fun a w S => run S (.yy (ys_or (.t rfl) Ev.c (Ev.g rfl)) rfl <| .z) fun a w S => st_nil (then_normal (hK2 _ _ ?_))))))
  refine st_cond S (.t rfl) (fun h1 => ?_) (fun h1 => ?_)
  refine wp_seq_k fun _ hK2 => wp_region_lit (run S (.yy (ys_bld (ps := []) (us := [_, _, _]) bld39 .nil rfl) rfl <| .z) fun a w S => st_m (op_stW S sizeOf39 (.t rfl) (.t rfl) (k := 3) rfl rfl rfl (by simp [Value.oneCell']) fun a w S => run S (.ac rfl <| .z) fun a w S => st_nil (then_normal (hK2 _ _ (wp_ret (then_ret (st_ret S (results2 S results26 (Rv.cell (k := 3) ⟨isAgg39, sizeOf39⟩ rfl rfl rfl) (Rv.tmp rfl)) ?_)))))))
  rotate_left
  refine wp_skip (then_normal (hK1 _ _ (wp_seq_k fun _ hK1 => wp_region_lit (run S (.mv rfl <| .z) fun a w S => ?_))))
  (refine st_m (op_calls S call16 (.cons (.t rfl) .nil) (c16 _ _ _ (by exact Sl.of_own S.wd (k := 0) rfl (fun _ => rfl)) (by omega)) rfl ?_); clear S a w; rintro _ _ ⟨A11, r11, A21, r21, A31, r31, rfl, rfl⟩ a w S)
  refine run S (.mv rfl <| .ex rfl rfl <| .ex rfl rfl <| .z) fun a w S => st_m (op_alloc S zeroValue39 (cs := _) rfl rfl fun g2 a w S => st_m (op_stW S sizeOf39 (.t rfl) (.t rfl) (k := 0) rfl rfl rfl (by simp [Value.oneCell']) fun a w S => run S (.as rfl <| .z) fun a w S => st_nil (then_normal (hK1 _ _ (wp_seq_k fun _ hK1 => sg S (.mv rfl <| .yy (ys_neq (.t rfl) Ev.c) rfl <| .z) fun a w S => ?_)))))
  refine st_if S (.t rfl) (fun h2 => ?_) (fun h2 => ?_)
  refine wp_seq_k fun _ hK2 => wp_region_lit (run S (.yy (ys_bld (ps := []) (us := [_, _, _]) bld39 .nil rfl) rfl <| .z) fun a w S => st_m (op_stW S sizeOf39 (.t rfl) (.t rfl) (k := 7) rfl rfl rfl (by simp [Value.oneCell']) fun a w S => run S (.ac rfl <| .z) fun a w S => st_nil (then_normal (hK2 _ _ (wp_ret (then_ret (st_ret S (results2 S results26 (Rv.cell (k := 7) ⟨isAgg39, sizeOf39⟩ rfl rfl rfl) (Rv.tmp rfl)) ?_)))))))
  rotate_left
  refine wp_skip (then_normal (hK1 _ _ (wp_seq_k fun _ hK1 => wp_region_lit (run S (.la gt39 0 rfl rfl rfl <| .z) fun a w S => st_m (op_stW S sizeOf39 (.t rfl) (.t rfl) (k := 7) rfl rfl rfl (by simp [Value.oneCell']) fun a w S => run S (.ac rfl <| .z) fun a w S => st_nil (then_normal (hK1 _ _ (wp_ret (st_ret S (results2 S results26 (Rv.cell (k := 7) ⟨isAgg39, sizeOf39⟩ rfl rfl rfl) (Rv.tmp rfl)) ?_)))))))))
  rotate_left
  · rw [hz, if_neg (hx.1 h1)]
    exact ⟨_, _, rfl, zeroRows S.wd, _, _, _, _, _, _, rfl, rfl⟩
  · have h1' := Decidable.not_not.1 (mt hx.2 (by rw [h1]; decide))
    rw [hz, if_pos h1', if_neg h2]
    exact ⟨_, _, rfl, zeroRows S.wd, _, _, _, _, _, _, rfl, rfl⟩
  · have h1' := Decidable.not_not.1 (mt hx.2 (by rw [h1]; decide))
    rw [hz, if_pos h1', if_pos (Decidable.not_not.1 h2)]
    exact ⟨_, _, rfl, S.wd.pk, _, _, _, _, _, _, rfl, rfl⟩
theorem c27 (w0 : World) (s : List UInt8) (hs : s.length ≤ 4194304) :
    Rets Tryz.prog 27 #[.string (bs s)] w0 fun v L => ∃ A1 r1 A2 r2 A3 r3, v = .tuple #[.agg #[.slice A1 (readT s).1.ents.length r1, .slice A2 (readT s).1.ctx.marks.length r2, .slice A3 (readT s).1.ctx.cloud.length r3], .int .i64 (readT s).2] ∧
      L = [rowOf 71 6 Ent.enc A1 r1 (readT s).1.ents, rowOf 122 3 Dot.enc A2 r2 (readT s).1.ctx.marks, rowOf 58 3 Dot.enc A3 r3 (readT s).1.ctx.cloud] := by
  by_cases h0 : s = []
  · subst h0
    unfold Go.Fw.Rets
    refine enter1 func27 rfl ntmps27 rfl fun a S => wp_seq_k fun _ hK1 => wp_region_lit (st_m (op_alloc S zeroValue39 (cs := _) rfl rfl fun g1 a w S => run S (.ac rfl <| .z) fun a w S => st_nil (then_normal (hK1 _ _ (wp_seq_k fun _ hK1 => sg S (.mv rfl <| .yy (ys_eqlStr (.t rfl) Ev.c) rfl <| .z) fun a w S => st_then S (.t rfl) (wp_seq_k fun _ hK2 => wp_region_lit (run S (.yy (ys_bld (ps := []) (us := [_, _, _]) bld39 .nil rfl) rfl <| .z) fun a w S => st_m (op_stW S sizeOf39 (.t rfl) (.t rfl) (k := 0) rfl rfl rfl (by simp [Value.oneCell']) fun a w S => run S (.ac rfl <| .z) fun a w S => st_nil (then_normal (hK2 _ _ (wp_ret (then_ret (st_ret S (results2 S results27 (Rv.cell (k := 0) ⟨isAgg39, sizeOf39⟩ rfl rfl rfl) (Rv.tmp rfl)) ?_)))))))))))))
    rw [readT_nil]
    exact ⟨_, _, rfl, zeroRows S.wd, _, _, _, _, _, _, rfl, rfl⟩
  have rw_0 : decide (bs s = ⟨#[]⟩) = false := decide_eq_false fun e => h0 (bs_inj.1 e)
  have rw_r := bytesR_eq s
  rcases hb : bytes64 s with _ | b
  · have hz := readT_none h0 hb
    have rw_b := hb
    have rw_b1 : (none : Option (List UInt8)).isSome = false := rfl
    have rw_b2 : (none : Option (List UInt8)).getD [] = [] := rfl
    unfold Go.Fw.Rets
    refine enter1 func27 rfl ntmps27 rfl fun a S => wp_seq_k fun _ hK1 => wp_region_lit (st_m (op_alloc S zeroValue39 (cs := _) rfl rfl fun g1 a w S => run S (.ac rfl <| .z) fun a w S => st_nil (then_normal (hK1 _ _ (wp_seq_k fun _ hK1 => sg S (.mv rfl <| .yy (ys_eqlStr (.t rfl) Ev.c) rfl <| .z) fun a w S => st_if S (.t rfl) (fun h1 => absurd h1 (by first | assumption | omega)) (fun _ => wp_skip (then_normal (hK1 _ _ (wp_seq_k fun _ hK1 => wp_region_lit (run S (.mv rfl <| .z) fun a w S => ?_))))))))))
    (refine st_m (op_calls S call78 (.cons (.t rfl) .nil) (c78 _ _ (by assumption)) rfl ?_); clear S a w; rintro _ _ ⟨A1, c1, rfl, rfl⟩ a w S)
    rw [rw_r] at S
    rw [rw_b] at S
    rw [rw_b1] at S
    rw [rw_b2] at S
    refine run S (.mv rfl <| .ex rfl rfl <| .ex rfl rfl <| .as rfl <| .as rfl <| .z) fun a w S => st_nil (then_normal (hK1 _ _ (wp_seq_k fun _ hK1 => sg S (.mv rfl <| .nt rfl <| .z) fun a w S => st_then S (.t rfl) (wp_seq_k fun _ hK2 => wp_region_lit (run S (.yy (ys_bld (ps := []) (us := [_, _, _]) bld39 .nil rfl) rfl <| .z) fun a w S => st_m (op_stW S sizeOf39 (.t rfl) (.t rfl) (k := 1) rfl rfl rfl (by simp [Value.oneCell']) fun a w S => run S (.ac rfl <| .z) fun a w S => st_nil (then_normal (hK2 _ _ (wp_ret (then_ret (st_ret S (results2 S results27 (Rv.cell (k := 1) ⟨isAgg39, sizeOf39⟩ rfl rfl rfl) (Rv.tmp rfl)) ?_)))))))))))
    rw [hz]
    exact ⟨_, _, rfl, zeroRows S.wd, _, _, _, _, _, _, rfl, rfl⟩
  have hbl := bytes64_len s b hb
  have hul := unframe_len b
  have hz := readT_some h0 hb
  have rw_b := hb
  have rw_b1 : (some b).isSome = true := rfl
  have rw_b2 : (some b).getD [] = b := rfl
  have hx : (decide ((unframeL b).2.2 ≠ 0) || decide ((0 : Int) < ((unframeL b).2.1.length : Int))) = true ↔ ¬ ((unframeL b).2.2 = 0 ∧ (unframeL b).2.1 = []) := by
    rw [Bool.or_eq_true, decide_eq_true_iff, decide_eq_true_iff, ← List.length_eq_zero_iff]
    omega
  unfold Go.Fw.Rets
  refine enter1 func27 rfl ntmps27 rfl fun a S => wp_seq_k fun _ hK1 => wp_region_lit (st_m (op_alloc S zeroValue39 (cs := _) rfl rfl fun g1 a w S => run S (.ac rfl <| .z) fun a w S => st_nil (then_normal (hK1 _ _ (wp_seq_k fun _ hK1 => sg S (.mv rfl <| .yy (ys_eqlStr (.t rfl) Ev.c) rfl <| .z) fun a w S => st_if S (.t rfl) (fun h1 => absurd h1 (by first | assumption | omega)) (fun _ => wp_skip (then_normal (hK1 _ _ (wp_seq_k fun _ hK1 => wp_region_lit (run S (.mv rfl <| .z) fun a w S => ?_))))))))))
  (refine st_m (op_calls S call78 (.cons (.t rfl) .nil) (c78 _ _ (by assumption)) rfl ?_); clear S a w; rintro _ _ ⟨A1, c1, rfl, rfl⟩ a w S)
  rw [rw_r] at S
  rw [rw_b] at S
  rw [rw_b1] at S
  rw [rw_b2] at S
  refine run S (.mv rfl <| .ex rfl rfl <| .ex rfl rfl <| .as rfl <| .as rfl <| .z) fun a w S => st_nil (then_normal (hK1 _ _ (wp_seq_k fun _ hK1 => sg S (.mv rfl <| .nt rfl <| .z) fun a w S => st_else S (.t rfl) (wp_skip (then_normal (hK1 _ _ (wp_seq_k fun _ hK1 => wp_region_lit (run S (.mv rfl <| .z) fun a w S => ?_))))))))
  (refine st_m (op_calls S call79 (.cons (.t rfl) .nil) (c79 _ _ _ (by exact Sl.of_own S.wd (k := 0) rfl (fun _ => rfl)) (by omega)) rfl ?_); clear S a w; rintro _ _ ⟨A2, r1, A'1, r'1, rfl, rfl⟩ a w S)
  refine run S (.mv rfl <| .ex rfl rfl <| .ex rfl rfl <| .ex rfl rfl <| .as rfl <| .as rfl <| .as rfl <| .z) fun a w S => st_nil (then_normal (hK1 _ _ (wp_seq_k fun _ hK1 => wp_seq_k fun _ hK2 => wp_region_lit (run S (.mv rfl <| .yy (ys_neq (.t rfl) Ev.c) rfl <| .mv rfl <| .z) fun a w S => st_yf S rfl rfl (Yr.ys (ys_move (.t rfl))) rfl fun a w S => st_yf S rfl rfl (Yr.ys (ys_lenS underlying28 (Ev.g rfl))) rfl fun a w S => st_yf S rfl rfl (Yr.ys (ys_gtr (Ev.g rfl) Ev.c)) rfl fun a w S => run S (.yy (ys_or (.t rfl) Ev.c (Ev.g rfl)) rfl <| .z) fun a w S => st_nil (then_normal (hK2 _ _ ?_))))))
  refine st_cond S (.t rfl) (fun h1 => ?_) (fun h1 => ?_)
  refine wp_seq_k fun _ hK2 => wp_region_lit (run S (.yy (ys_bld (ps := []) (us := [_, _, _]) bld39 .nil rfl) rfl <| .z) fun a w S => st_m (op_stW S sizeOf39 (.t rfl) (.t rfl) (k := 3) rfl rfl rfl (by simp [Value.oneCell']) fun a w S => run S (.ac rfl <| .z) fun a w S => st_nil (then_normal (hK2 _ _ (wp_ret (then_ret (st_ret S (results2 S results27 (Rv.cell (k := 3) ⟨isAgg39, sizeOf39⟩ rfl rfl rfl) (Rv.tmp rfl)) ?_)))))))
  rotate_left
  refine wp_skip (then_normal (hK1 _ _ (wp_seq_k fun _ hK1 => wp_region_lit (run S (.mv rfl <| .z) fun a w S => ?_))))
  (refine st_m (op_calls S call18 (.cons (.t rfl) .nil) (c18 _ _ _ (by exact Sl.of_own S.wd (k := 0) rfl (fun _ => rfl)) (by omega)) rfl ?_); clear S a w; rintro _ _ ⟨A11, r11, A21, r21, A31, r31, rfl, rfl⟩ a w S)
  refine run S (.mv rfl <| .ex rfl rfl <| .ex rfl rfl <| .z) fun a w S => st_m (op_alloc S zeroValue39 (cs := _) rfl rfl fun g2 a w S => st_m (op_stW S sizeOf39 (.t rfl) (.t rfl) (k := 0) rfl rfl rfl (by simp [Value.oneCell']) fun a w S => run S (.as rfl <| .z) fun a w S => st_nil (then_normal (hK1 _ _ (wp_seq_k fun _ hK1 => sg S (.mv rfl <| .yy (ys_neq (.t rfl) Ev.c) rfl <| .z) fun a w S => ?_)))))
  refine st_if S (.t rfl) (fun h2 => ?_) (fun h2 => ?_)
  refine wp_seq_k fun _ hK2 => wp_region_lit (run S (.yy (ys_bld (ps := []) (us := [_, _, _]) bld39 .nil rfl) rfl <| .z) fun a w S => st_m (op_stW S sizeOf39 (.t rfl) (.t rfl) (k := 7) rfl rfl rfl (by simp [Value.oneCell']) fun a w S => run S (.ac rfl <| .z) fun a w S => st_nil (then_normal (hK2 _ _ (wp_ret (then_ret (st_ret S (results2 S results27 (Rv.cell (k := 7) ⟨isAgg39, sizeOf39⟩ rfl rfl rfl) (Rv.tmp rfl)) ?_)))))))
  rotate_left
  refine wp_skip (then_normal (hK1 _ _ (wp_seq_k fun _ hK1 => wp_region_lit (run S (.la gt39 0 rfl rfl rfl <| .z) fun a w S => st_m (op_stW S sizeOf39 (.t rfl) (.t rfl) (k := 7) rfl rfl rfl (by simp [Value.oneCell']) fun a w S => run S (.ac rfl <| .z) fun a w S => st_nil (then_normal (hK1 _ _ (wp_ret (st_ret S (results2 S results27 (Rv.cell (k := 7) ⟨isAgg39, sizeOf39⟩ rfl rfl rfl) (Rv.tmp rfl)) ?_)))))))))
  rotate_left
  · rw [hz, if_neg (hx.1 h1)]
    exact ⟨_, _, rfl, zeroRows S.wd, _, _, _, _, _, _, rfl, rfl⟩
  · have h1' := Decidable.not_not.1 (mt hx.2 (by rw [h1]; decide))
    rw [hz, if_pos h1', if_neg h2]
    exact ⟨_, _, rfl, zeroRows S.wd, _, _, _, _, _, _, rfl, rfl⟩
  · have h1' := Decidable.not_not.1 (mt hx.2 (by rw [h1]; decide))
    rw [hz, if_pos h1', if_pos (Decidable.not_not.1 h2)]
    exact ⟨_, _, rfl, S.wd.pk, _, _, _, _, _, _, rfl, rfl⟩
end Go.Proofs.YtfblmkocmnbdcaaGreat
set_option linter.unusedVariables false
set_option linter.unusedSimpArgs false
namespace Go.Fw
open Go.RowKit
theorem tokM_ok {X : Cart} (h : CartOk X) : tokM X = (letters (frameL (encK X)), 0) := if_pos ((canE_ok X).2 h)
theorem letters_nil {b : List UInt8} (h : letters b = []) : b = [] := by
  have h1 := bytes_letters b
  rw [h] at h1
  simp [bytes64] at h1
  exact h1
theorem frame_pos (p : List UInt8) : frameL p ≠ [] := fun h => by
  have := frame_len p
  rw [h] at this
  simp at this
theorem tok_pos (p : List UInt8) : letters (frameL p) ≠ [] := fun h => frame_pos p (letters_nil h)
theorem read_make {X : Cart} (h : CartOk X) : readT (letters (frameL (encK X))) = (X, 0) := by
  have hu := unframe_frame (encK X) (by have := encK_len h; omega)
  rw [readT_some (tok_pos _) (bytes_letters _), hu]
  dsimp only
  rw [if_pos ⟨rfl, rfl⟩, dec_enc h, if_pos rfl]
theorem read_ok {s : List UInt8} (h0 : s ≠ []) (h : (readT s).2 = 0) : ∃ b, bytes64 s = some b ∧ (unframeL b).2.2 = 0 ∧ (unframeL b).2.1 = [] ∧ (decK (unframeL b).1).2 = 0 ∧ (readT s).1 = (decK (unframeL b).1).1 := by
  rcases hb : bytes64 s with _ | b
  · rw [readT_none h0 hb] at h
    simp at h
  have hz := readT_some h0 hb
  rw [hz] at h
  refine ⟨b, rfl, ?_⟩
  split at h
  · rename_i h1
    rw [if_pos h1] at hz
    split at h
    · rename_i h2
      rw [if_pos h2] at hz
      exact ⟨h1.1, h1.2, h2, by rw [hz]⟩
    · simp at h
  · simp at h
theorem make_read {s : List UInt8} (h0 : s ≠ []) (h : (readT s).2 = 0) : tokM (readT s).1 = (s, 0) := by
  obtain ⟨b, hb, h1, h2, h3, h4⟩ := read_ok h0 h
  obtain ⟨q1, q2⟩ := enc_dec h3
  obtain ⟨u1, u2⟩ := unframe_ok h1
  rw [h2, List.append_nil] at u2
  rw [h4, tokM_ok q1, q2, ← u2, letters_bytes s b hb]
theorem read_bad {s : List UInt8} (h : (readT s).2 ≠ 0 ∨ s = []) : (readT s).1 = Cart.zero := by
  by_cases h0 : s = []
  · subst h0; rfl
  rcases h with h | h
  rotate_left
  · exact absurd h h0
  rcases hb : bytes64 s with _ | b
  · rw [readT_none h0 hb]
  have hz := readT_some h0 hb
  rw [hz] at h ⊢
  split
  · rename_i h1
    rw [if_pos h1] at h
    split
    · rename_i h2
      rw [if_pos h2] at h
      exact absurd rfl h
    · rfl
  · rfl
end Go.Fw
set_option linter.unusedVariables false
set_option linter.unusedSimpArgs false
set_option maxRecDepth 100000
set_option maxHeartbeats 4000000
namespace Go.Proofs.YtfblmkocmnbdcaaGreat
open Go.Fw Go.Proofs Go.RowKit Go.Proofs.Tryz
theorem c5 (w0 : World) (v1 v2 v3 : Value) (X : Cart) (s : List UInt8) (h : Sl Ent.enc 6 w0 w0.heap.size v1 X.ents) (hr : RdCtx w0 w0.heap.size v2 v3 X.ctx) (hl1 : X.ents.length ≤ 1048576) (hl2 : X.ctx.marks.length ≤ 1048576) (hl3 : X.ctx.cloud.length ≤ 1048576) (hs : s.length ≤ 1048576) :
    Calls Tryz.prog 5 #[.agg #[v1, v2, v3], .string (bs s)] w0 fun e w' => e = .returned (.bool true) ∧ Bel w0.heap.size w0 w' := by
  have hc := h
  have hrr := hr
  obtain ⟨A, cap, rfl, hl, hcap, hA⟩ := h
  obtain ⟨⟨A2, cap2, rfl, _⟩, ⟨A3, cap3, rfl, _⟩⟩ := hr
  have rw_s : ∀ a : ByteArray, decide (a = a) = true := fun a => decide_eq_true rfl
  have rw_d : ∀ c : Cart, decide (c = c) = true := fun c => decide_eq_true rfl
  have rw_n : ∀ i : Int, decide (i = i) = true := fun i => decide_eq_true rfl
  have hs4 : s.length ≤ 4194304 := by omega
  refine enter2 func5 rfl ntmps5 rfl fun a S => wp_seq_k fun _ hK1 => wp_region_lit (st_m (op_box S (.t rfl) rfl fun g1 a w S => run S (.ac rfl <| .z) fun a w S => st_nil (then_normal (hK1 _ _ (wp_seq_k fun _ hK1 => wp_region_lit (run S (.la gt39 0 rfl rfl rfl <| .z) fun a w S => ?_))))))
  (refine st_m (op_calls S call20 (.cons (.t rfl) .nil) (c20 _ _ _ _ _ (by exact .old S.wd (by assumption)) (by exact .old S.wd (by assumption)) (by assumption) (by assumption) (by assumption)) rfl ?_); clear S a w; rintro _ _ ⟨A11, r11, A21, r21, A31, r31, rfl, rfl⟩ a w S)
  refine st_m (op_alloc S zeroValue39 (cs := _) rfl rfl fun g2 a w S => st_m (op_stW S sizeOf39 (.t rfl) (.t rfl) (k := 0) rfl rfl rfl (by simp [Value.oneCell']) fun a w S => st_nil (then_normal (hK1 _ _ (sg S (.la gt39 0 rfl rfl rfl <| .xx (ys_call call24 (.cons (.t rfl) .nil) (fun hp w W => c24 _ _ _ _ _ (by exact Sl.of_own W (k := 1) rfl (fun _ => rfl)) (by exact ⟨(by exact Sl.of_own W (k := 2) rfl (fun _ => rfl)), (by exact Sl.of_own W (k := 3) rfl (fun _ => rfl))⟩))) rfl <| .mv rfl <| .ex rfl rfl <| .ex rfl rfl <| .as rfl <| .as rfl <| .z) fun a w S => sg S (.la gt39 4 rfl rfl rfl <| .xx (ys_call call25 (.cons (.t rfl) .nil) (fun hp w W => c25 _ _ _ _ _ (by exact .old W (by assumption)) (by exact .old W (by assumption)))) rfl <| .mv rfl <| .ex rfl rfl <| .ex rfl rfl <| .as rfl <| .as rfl <| .z) fun a w S => wp_seq_k fun _ hK1 => wp_region_lit (run S (.mv rfl <| .z) fun a w S => ?_))))))
  (refine st_m (op_calls S call26 (.cons (.t rfl) .nil) (c26 _ _ (by assumption)) rfl ?_); clear S a w; rintro _ _ ⟨A12, r12, A22, r22, A32, r32, rfl, rfl⟩ a w S)
  refine run S (.mv rfl <| .ex rfl rfl <| .ex rfl rfl <| .z) fun a w S => st_m (op_alloc S zeroValue39 (cs := _) rfl rfl fun g3 a w S => st_m (op_stW S sizeOf39 (.t rfl) (.t rfl) (k := 0) rfl rfl rfl (by simp [Value.oneCell']) fun a w S => run S (.as rfl <| .z) fun a w S => st_nil (then_normal (hK1 _ _ (wp_seq_k fun _ hK1 => wp_region_lit (run S (.mv rfl <| .z) fun a w S => ?_))))))
  (refine st_m (op_calls S call27 (.cons (.t rfl) .nil) (c27 _ _ (by assumption)) rfl ?_); clear S a w; rintro _ _ ⟨A13, r13, A23, r23, A33, r33, rfl, rfl⟩ a w S)
  refine run S (.mv rfl <| .ex rfl rfl <| .ex rfl rfl <| .z) fun a w S => st_m (op_alloc S zeroValue39 (cs := _) rfl rfl fun g4 a w S => st_m (op_stW S sizeOf39 (.t rfl) (.t rfl) (k := 0) rfl rfl rfl (by simp [Value.oneCell']) fun a w S => run S (.as rfl <| .z) fun a w S => st_nil (then_normal (hK1 _ _ (wp_seq_k fun _ hK1 => wp_region_lit (run S (.mv rfl <| .mv rfl <| .yy (ys_eqlStr (.t rfl) (.t rfl)) rfl <| .mv rfl <| .z) fun a w S => st_yg S rfl rfl (Yr.ys (ys_move (.t rfl))) rfl fun a w S => st_yg S rfl rfl (Yr.ys (ys_move (.t rfl))) rfl fun a w S => st_yg S rfl rfl (Yr.ys (ys_T (by omega) (ys_eql (Ev.g rfl) (Ev.g rfl)))) rfl fun a w S => run S (.yy (ys_andT (.t rfl) (Ev.g rfl) Ev.c) rfl <| .mv rfl <| .z) fun a w S => st_yg S rfl rfl (Yr.ys (ys_ldA ⟨isAgg39, sizeOf39⟩ (.t rfl) (k := 8) rfl rfl)) rfl fun a w S => st_yg S rfl rfl (Yr.ys (ys_ldA ⟨isAgg39, sizeOf39⟩ (.t rfl) (k := 12) rfl rfl)) rfl fun a w S => st_yg S rfl rfl (ys_call call17 (.cons (Ev.g rfl) (.cons (Ev.g rfl) .nil)) (fun hp w W => c17 _ _ _ _ _ _ _ _ _ (by exact Sl.of_own W (k := 9) rfl (fun _ => rfl)) (by exact ⟨(by exact Sl.of_own W (k := 10) rfl (fun _ => rfl)), (by exact Sl.of_own W (k := 11) rfl (fun _ => rfl))⟩) (by exact .old W (by assumption)) (by exact .old W (by assumption)))) rfl fun a w S => ?_))))))
  simp only [List.nil_append] at S
  refine run S (.yy (ys_pickT (.t rfl) (Ev.g rfl)) rfl <| .mv rfl <| .gy rfl rfl (ys_move (.t rfl)) <| .gy rfl rfl (ys_move (.t rfl)) <| .gy rfl rfl (ys_T (by omega) (ys_eql (.t rfl) (.t rfl))) <| .yy (ys_pickT (.t rfl) (.t rfl)) rfl <| .mv rfl <| .gy rfl rfl (ys_ldA ⟨isAgg39, sizeOf39⟩ (.t rfl) (k := 4) rfl rfl) <| .gy rfl rfl (ys_ldA ⟨isAgg39, sizeOf39⟩ (.t rfl) (k := 0) rfl rfl) <| .gx rfl rfl (ys_call call17 (.cons (.t rfl) (.cons (.t rfl) .nil)) (fun hp w W => c17 _ _ _ _ _ _ _ _ _ (by exact Sl.of_own W (k := 5) rfl (fun _ => rfl)) (by exact ⟨(by exact Sl.of_own W (k := 6) rfl (fun _ => rfl)), (by exact Sl.of_own W (k := 7) rfl (fun _ => rfl))⟩) (by exact Sl.of_own W (k := 1) rfl (fun _ => rfl)) (by exact ⟨(by exact Sl.of_own W (k := 2) rfl (fun _ => rfl)), (by exact Sl.of_own W (k := 3) rfl (fun _ => rfl))⟩))) <| .z) fun a w S => ?_
  simp only [List.nil_append] at S
  refine run S (.yy (ys_pickT (.t rfl) (.t rfl)) rfl <| .as rfl <| .z) fun a w S => st_nil (then_normal (hK1 _ _ (wp_ret (st_ret S (results1 S results5 (Rv.tmp rfl)) ?_))))
  exact ⟨by rw [decide_eq_true True.intro], S.wd.below⟩
theorem c6 (w0 : World) (v1 v2 v3 : Value) (X : Cart) (s : List UInt8) (h : Sl Ent.enc 6 w0 w0.heap.size v1 X.ents) (hr : RdCtx w0 w0.heap.size v2 v3 X.ctx) (hl1 : X.ents.length ≤ 1048576) (hl2 : X.ctx.marks.length ≤ 1048576) (hl3 : X.ctx.cloud.length ≤ 1048576) (hs : s.length ≤ 1048576) :
    Calls Tryz.prog 6 #[.agg #[v1, v2, v3], .string (bs s)] w0 fun e w' => e = .returned (.bool true) ∧ Bel w0.heap.size w0 w' := by
  have hc := h
  have hrr := hr
  obtain ⟨A, cap, rfl, hl, hcap, hA⟩ := h
  obtain ⟨⟨A2, cap2, rfl, _⟩, ⟨A3, cap3, rfl, _⟩⟩ := hr
  have rw_s : ∀ a : ByteArray, decide (a = a) = true := fun a => decide_eq_true rfl
  have rw_d : ∀ c : Cart, decide (c = c) = true := fun c => decide_eq_true rfl
  have rw_n : ∀ i : Int, decide (i ≠ i) = false := fun i => decide_eq_false (by simp)
  have hs4 : s.length ≤ 4194304 := by omega
  have hx : (decide ((readT s).2 ≠ 0) || decide (s = [])) = true ↔ ((readT s).2 ≠ 0 ∨ s = []) := by
    rw [Bool.or_eq_true, decide_eq_true_iff, decide_eq_true_iff]
  by_cases h0 : canE X = 0
  · have ok := (canE_ok X).1 h0
    have ht := tokM_ok ok
    have hm := read_make ok
    have hp := tok_pos (encK X)
    have hxl := encK_len ok
    have hfl := frame_le (l := encK X) (by omega)
    have hll := letters_len (frameL (encK X))
    have rw_t1 : (tokM X).1 = letters (frameL (encK X)) := by rw [ht]
    have rw_t2 : (tokM X).2 = 0 := by rw [ht]
    generalize letters (frameL (encK X)) = t at *
    have htl : t.length ≤ 4194304 := by omega
    have rw_r1 : (readT t).1 = X := by rw [hm]
    have rw_r2 : (readT t).2 = 0 := by rw [hm]
    have rw_p : decide (bs t = ⟨#[]⟩) = false := decide_eq_false fun e => hp (bs_inj.1 e)
    refine enter2 func6 rfl ntmps6 rfl fun a S => wp_seq_k fun _ hK1 => wp_region_lit (st_m (op_box S (.t rfl) rfl fun g1 a w S => run S (.ac rfl <| .z) fun a w S => st_nil (then_normal (hK1 _ _ (wp_seq_k fun _ hK1 => wp_region_lit (run S (.la gt39 0 rfl rfl rfl <| .z) fun a w S => ?_))))))
    (refine st_m (op_calls S call20 (.cons (.t rfl) .nil) (c20 _ _ _ _ _ (by exact .old S.wd (by assumption)) (by exact .old S.wd (by assumption)) (by assumption) (by assumption) (by assumption)) rfl ?_); clear S a w; rintro _ _ ⟨A11, r11, A21, r21, A31, r31, rfl, rfl⟩ a w S)
    refine run S (.xx (ys_call call24 (.cons (.t rfl) .nil) (fun hp w W => c24 _ _ _ _ _ (by exact Sl.of_own W (k := 0) rfl (fun _ => rfl)) (by exact ⟨(by exact Sl.of_own W (k := 1) rfl (fun _ => rfl)), (by exact Sl.of_own W (k := 2) rfl (fun _ => rfl))⟩))) rfl <| .z) fun a w S => ?_
    rw [rw_t2] at S
    rw [rw_t1] at S
    refine run S (.mv rfl <| .ex rfl rfl <| .ex rfl rfl <| .as rfl <| .as rfl <| .z) fun a w S => st_nil (then_normal (hK1 _ _ (wp_seq_k fun _ hK1 => wp_region_lit (run S (.la gt39 3 rfl rfl rfl <| .xx (ys_call call25 (.cons (.t rfl) .nil) (fun hp w W => c25 _ _ _ _ _ (by exact .old W (by assumption)) (by exact .old W (by assumption)))) rfl <| .z) fun a w S => ?_))))
    rw [rw_t2] at S
    rw [rw_t1] at S
    refine run S (.mv rfl <| .ex rfl rfl <| .ex rfl rfl <| .as rfl <| .as rfl <| .z) fun a w S => st_nil (then_normal (hK1 _ _ (wp_seq_k fun _ hK1 => sg S (.mv rfl <| .mv rfl <| .yy (ys_F (by omega) (ys_neq (.t rfl) (.t rfl))) rfl <| .z) fun a w S => st_else S (.t rfl) (wp_skip (then_normal (hK1 _ _ (wp_seq_k fun _ hK1 => sg S (.mv rfl <| .yy (ys_T (by omega) (ys_eql (.t rfl) Ev.c)) rfl <| .z) fun a w S => st_then S (.t rfl) (wp_seq_k fun _ hK2 => wp_region_lit (run S (.mv rfl <| .z) fun a w S => ?_)))))))))
    (refine st_m (op_calls S call26 (.cons (.t rfl) .nil) (c26 _ _ (by assumption)) rfl ?_); clear S a w; rintro _ _ ⟨A12, r12, A22, r22, A32, r32, rfl, rfl⟩ a w S)
    rw [rw_r1] at S
    rw [rw_r2] at S
    refine run S (.mv rfl <| .ex rfl rfl <| .ex rfl rfl <| .z) fun a w S => st_m (op_alloc S zeroValue39 (cs := _) rfl rfl fun g2 a w S => st_m (op_stW S sizeOf39 (.t rfl) (.t rfl) (k := 0) rfl rfl rfl (by simp [Value.oneCell']) fun a w S => run S (.as rfl <| .z) fun a w S => st_nil (then_normal (hK2 _ _ (wp_seq_k fun _ hK2 => wp_region_lit (run S (.mv rfl <| .yy (ys_F (by omega) (ys_neq (.t rfl) Ev.c)) rfl <| .mv rfl <| .gy rfl rfl (ys_ldA ⟨isAgg39, sizeOf39⟩ (.t rfl) (k := 7) rfl rfl) <| .gy rfl rfl (ys_ldA ⟨isAgg39, sizeOf39⟩ (.t rfl) (k := 0) rfl rfl) <| .gx rfl rfl (ys_call call17 (.cons (.t rfl) (.cons (.t rfl) .nil)) (fun hp w W => c17 _ _ _ _ _ _ _ _ _ (by exact .old W (by assumption)) (by exact .old W (by assumption)) (by exact Sl.of_own W (k := 1) rfl (fun _ => rfl)) (by exact ⟨(by exact Sl.of_own W (k := 2) rfl (fun _ => rfl)), (by exact Sl.of_own W (k := 3) rfl (fun _ => rfl))⟩))) <| .z) fun a w S => ?_))))))
    simp only [List.nil_append] at S
    refine run S (.gy rfl rfl (ys_not (.t rfl)) <| .yy (ys_pickF (.t rfl) (.t rfl)) rfl <| .mv rfl <| .gy rfl rfl (ys_move (.t rfl)) <| .gy rfl rfl (ys_eqlStr (.t rfl) Ev.c) <| .yy (ys_pickF (.t rfl) (.t rfl)) rfl <| .z) fun a w S => st_nil (then_normal (hK2 _ _ (st_if S (.t rfl) (fun h1 => absurd h1 (by first | assumption | omega)) (fun _ => wp_skip (then_normal (hK1 _ _ (wp_seq_k fun _ hK1 => wp_region_lit (run S (.mv rfl <| .z) fun a w S => ?_))))))))
    (refine st_m (op_calls S call26 (.cons (.t rfl) .nil) (c26 _ _ (by assumption)) rfl ?_); clear S a w; rintro _ _ ⟨A13, r13, A23, r23, A33, r33, rfl, rfl⟩ a w S)
    refine run S (.mv rfl <| .ex rfl rfl <| .ex rfl rfl <| .z) fun a w S => st_m (op_alloc S zeroValue39 (cs := _) rfl rfl fun g3 a w S => st_m (op_stW S sizeOf39 (.t rfl) (.t rfl) (k := 0) rfl rfl rfl (by simp [Value.oneCell']) fun a w S => run S (.as rfl <| .z) fun a w S => st_nil (then_normal (hK1 _ _ (wp_seq_k fun _ hK1 => wp_seq_k fun _ hK2 => wp_region_lit (run S (.mv rfl <| .z) fun a w S => ?_))))))
    (refine st_m (op_calls S call27 (.cons (.t rfl) .nil) (c27 _ _ (by assumption)) rfl ?_); clear S a w; rintro _ _ ⟨A14, r14, A24, r24, A34, r34, rfl, rfl⟩ a w S)
    refine run S (.mv rfl <| .ex rfl rfl <| .ex rfl rfl <| .z) fun a w S => st_m (op_alloc S zeroValue39 (cs := _) rfl rfl fun g4 a w S => st_m (op_stW S sizeOf39 (.t rfl) (.t rfl) (k := 0) rfl rfl rfl (by simp [Value.oneCell']) fun a w S => run S (.as rfl <| .z) fun a w S => st_nil (then_normal (hK2 _ _ (sg S (.mv rfl <| .mv rfl <| .yy (ys_F (by omega) (ys_neq (.t rfl) (.t rfl))) rfl <| .z) fun a w S => st_else S (.t rfl) (wp_skip (then_normal (hK1 _ _ (wp_seq_k fun _ hK1 => wp_seq_k fun _ hK2 => wp_region_lit (run S (.mv rfl <| .yy (ys_neq (.t rfl) Ev.c) rfl <| .mv rfl <| .z) fun a w S => st_yf S rfl rfl (Yr.ys (ys_move (.t rfl))) rfl fun a w S => st_yf S rfl rfl (Yr.ys (ys_eqlStr (Ev.g rfl) Ev.c)) rfl fun a w S => run S (.yy (ys_or (.t rfl) Ev.c (Ev.g rfl)) rfl <| .z) fun a w S => st_nil (then_normal (hK2 _ _ ?_))))))))))))
    refine st_cond S (.t rfl) (fun h1 => ?_) (fun h1 => ?_)
    refine sg S (.fa underlying39 sizeOf33 0 rfl rfl rfl <| .ld gt33 4 rfl rfl rfl <| .ln underlying33 rfl <| .yy (ys_eql (.t rfl) Ev.c) rfl <| .as rfl <| .z) fun a w S => wp_ret (then_ret (st_ret S (results1 S results6 (Rv.tmp rfl)) ?_))
    rotate_left
    refine wp_skip (then_normal (hK1 _ _ (sg S (.la gt39 4 rfl rfl rfl <| .xx (ys_call call24 (.cons (.t rfl) .nil) (fun hp w W => c24 _ _ _ _ _ (by exact Sl.of_own W (k := 5) rfl (fun _ => rfl)) (by exact ⟨(by exact Sl.of_own W (k := 6) rfl (fun _ => rfl)), (by exact Sl.of_own W (k := 7) rfl (fun _ => rfl))⟩))) rfl <| .mv rfl <| .ex rfl rfl <| .ex rfl rfl <| .as rfl <| .as rfl <| .z) fun a w S => wp_seq_k fun _ hK1 => wp_region_lit (run S (.mv rfl <| .yy (ys_eql (.t rfl) Ev.c) rfl <| .mv rfl <| .z) fun a w S => st_yg S rfl rfl (Yr.ys (ys_move (.t rfl))) rfl fun a w S => st_yg S rfl rfl (Yr.ys (ys_move (.t rfl))) rfl fun a w S => st_yg S rfl rfl (Yr.ys (ys_eqlStr (Ev.g rfl) (Ev.g rfl))) rfl fun a w S => run S (.yy (ys_and (.t rfl) (Ev.g rfl) Ev.c) rfl <| .as rfl <| .z) fun a w S => st_nil (then_normal (hK1 _ _ (wp_ret (st_ret S (results1 S results6 (Rv.tmp rfl)) ?_))))))))
    rotate_left
    · have hz := read_bad (hx.1 h1)
      exact ⟨by rw [hz]; rfl, S.wd.below⟩
    · have hy : ¬ ((readT s).2 ≠ 0 ∨ s = []) := mt hx.2 (by rw [h1]; decide)
      rw [not_or, Decidable.not_not] at hy
      have hz := make_read hy.2 hy.1
      exact ⟨by rw [hz]; simp, S.wd.below⟩
  · have rw_e : (tokM X) = ([], canE X) := if_neg h0
    refine enter2 func6 rfl ntmps6 rfl fun a S => wp_seq_k fun _ hK1 => wp_region_lit (st_m (op_box S (.t rfl) rfl fun g1 a w S => run S (.ac rfl <| .z) fun a w S => st_nil (then_normal (hK1 _ _ (wp_seq_k fun _ hK1 => wp_region_lit (run S (.la gt39 0 rfl rfl rfl <| .z) fun a w S => ?_))))))
    (refine st_m (op_calls S call20 (.cons (.t rfl) .nil) (c20 _ _ _ _ _ (by exact .old S.wd (by assumption)) (by exact .old S.wd (by assumption)) (by assumption) (by assumption) (by assumption)) rfl ?_); clear S a w; rintro _ _ ⟨A11, r11, A21, r21, A31, r31, rfl, rfl⟩ a w S)
    refine run S (.xx (ys_call call24 (.cons (.t rfl) .nil) (fun hp w W => c24 _ _ _ _ _ (by exact Sl.of_own W (k := 0) rfl (fun _ => rfl)) (by exact ⟨(by exact Sl.of_own W (k := 1) rfl (fun _ => rfl)), (by exact Sl.of_own W (k := 2) rfl (fun _ => rfl))⟩))) rfl <| .z) fun a w S => ?_
    rw [rw_e] at S
    refine run S (.mv rfl <| .ex rfl rfl <| .ex rfl rfl <| .as rfl <| .as rfl <| .z) fun a w S => st_nil (then_normal (hK1 _ _ (wp_seq_k fun _ hK1 => wp_region_lit (run S (.la gt39 3 rfl rfl rfl <| .xx (ys_call call25 (.cons (.t rfl) .nil) (fun hp w W => c25 _ _ _ _ _ (by exact .old W (by assumption)) (by exact .old W (by assumption)))) rfl <| .z) fun a w S => ?_))))
    simp only [List.nil_append] at S
    rw [rw_e] at S
    refine run S (.mv rfl <| .ex rfl rfl <| .ex rfl rfl <| .as rfl <| .as rfl <| .z) fun a w S => st_nil (then_normal (hK1 _ _ (wp_seq_k fun _ hK1 => sg S (.mv rfl <| .mv rfl <| .yy (ys_F (by omega) (ys_neq (.t rfl) (.t rfl))) rfl <| .z) fun a w S => st_else S (.t rfl) (wp_skip (then_normal (hK1 _ _ (wp_seq_k fun _ hK1 => sg S (.mv rfl <| .yy (ys_F (by omega) (ys_eql (.t rfl) Ev.c)) rfl <| .z) fun a w S => st_else S (.t rfl) (wp_skip (then_normal (hK1 _ _ (wp_seq_k fun _ hK1 => wp_region_lit (run S (.mv rfl <| .z) fun a w S => ?_))))))))))))
    (refine st_m (op_calls S call26 (.cons (.t rfl) .nil) (c26 _ _ (by assumption)) rfl ?_); clear S a w; rintro _ _ ⟨A12, r12, A22, r22, A32, r32, rfl, rfl⟩ a w S)
    simp only [List.nil_append] at S
    refine run S (.mv rfl <| .ex rfl rfl <| .ex rfl rfl <| .z) fun a w S => st_m (op_alloc S zeroValue39 (cs := _) rfl rfl fun g2 a w S => st_m (op_stW S sizeOf39 (.t rfl) (.t rfl) (k := 0) rfl rfl rfl (by simp [Value.oneCell']) fun a w S => run S (.as rfl <| .z) fun a w S => st_nil (then_normal (hK1 _ _ (wp_seq_k fun _ hK1 => wp_seq_k fun _ hK2 => wp_region_lit (run S (.mv rfl <| .z) fun a w S => ?_))))))
    (refine st_m (op_calls S call27 (.cons (.t rfl) .nil) (c27 _ _ (by assumption)) rfl ?_); clear S a w; rintro _ _ ⟨A13, r13, A23, r23, A33, r33, rfl, rfl⟩ a w S)
    refine run S (.mv rfl <| .ex rfl rfl <| .ex rfl rfl <| .z) fun a w S => st_m (op_alloc S zeroValue39 (cs := _) rfl rfl fun g3 a w S => st_m (op_stW S sizeOf39 (.t rfl) (.t rfl) (k := 0) rfl rfl rfl (by simp [Value.oneCell']) fun a w S => run S (.as rfl <| .z) fun a w S => st_nil (then_normal (hK2 _ _ (sg S (.mv rfl <| .mv rfl <| .yy (ys_F (by omega) (ys_neq (.t rfl) (.t rfl))) rfl <| .z) fun a w S => st_else S (.t rfl) (wp_skip (then_normal (hK1 _ _ (wp_seq_k fun _ hK1 => wp_seq_k fun _ hK2 => wp_region_lit (run S (.mv rfl <| .yy (ys_neq (.t rfl) Ev.c) rfl <| .mv rfl <| .z) fun a w S => st_yf S rfl rfl (Yr.ys (ys_move (.t rfl))) rfl fun a w S => st_yf S rfl rfl (Yr.ys (ys_eqlStr (Ev.g rfl) Ev.c)) rfl fun a w S => run S (.yy (ys_or (.t rfl) Ev.c (Ev.g rfl)) rfl <| .z) fun a w S => st_nil (then_normal (hK2 _ _ ?_))))))))))))
    refine st_cond S (.t rfl) (fun h1 => ?_) (fun h1 => ?_)
    refine sg S (.fa underlying39 sizeOf33 0 rfl rfl rfl <| .ld gt33 4 rfl rfl rfl <| .ln underlying33 rfl <| .yy (ys_eql (.t rfl) Ev.c) rfl <| .as rfl <| .z) fun a w S => wp_ret (then_ret (st_ret S (results1 S results6 (Rv.tmp rfl)) ?_))
    rotate_left
    refine wp_skip (then_normal (hK1 _ _ (sg S (.la gt39 4 rfl rfl rfl <| .xx (ys_call call24 (.cons (.t rfl) .nil) (fun hp w W => c24 _ _ _ _ _ (by exact Sl.of_own W (k := 5) rfl (fun _ => rfl)) (by exact ⟨(by exact Sl.of_own W (k := 6) rfl (fun _ => rfl)), (by exact Sl.of_own W (k := 7) rfl (fun _ => rfl))⟩))) rfl <| .mv rfl <| .ex rfl rfl <| .ex rfl rfl <| .as rfl <| .as rfl <| .z) fun a w S => wp_seq_k fun _ hK1 => wp_region_lit (run S (.mv rfl <| .yy (ys_eql (.t rfl) Ev.c) rfl <| .mv rfl <| .z) fun a w S => st_yg S rfl rfl (Yr.ys (ys_move (.t rfl))) rfl fun a w S => st_yg S rfl rfl (Yr.ys (ys_move (.t rfl))) rfl fun a w S => st_yg S rfl rfl (Yr.ys (ys_eqlStr (Ev.g rfl) (Ev.g rfl))) rfl fun a w S => run S (.yy (ys_and (.t rfl) (Ev.g rfl) Ev.c) rfl <| .as rfl <| .z) fun a w S => st_nil (then_normal (hK1 _ _ (wp_ret (st_ret S (results1 S results6 (Rv.tmp rfl)) ?_))))))))
    rotate_left
    · have hz := read_bad (hx.1 h1)
      exact ⟨by rw [hz]; rfl, S.wd.below⟩
    · have hy : ¬ ((readT s).2 ≠ 0 ∨ s = []) := mt hx.2 (by rw [h1]; decide)
      rw [not_or, Decidable.not_not] at hy
      have hz := make_read hy.2 hy.1
      exact ⟨by rw [hz]; simp, S.wd.below⟩
end Go.Proofs.YtfblmkocmnbdcaaGreat
