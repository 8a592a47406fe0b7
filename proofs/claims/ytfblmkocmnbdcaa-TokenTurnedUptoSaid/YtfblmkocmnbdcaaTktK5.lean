/- Contracts and laws that the statement Tkt leans on, part 5. -/
import Derived.Test.YtfblmkocmnbdcaaTktK4
import Derived.ScopeJumps
import Derived.LoopN
set_option linter.unusedVariables false
set_option linter.unusedSimpArgs false
set_option maxRecDepth 100000
set_option maxHeartbeats 4000000
namespace Go.Proofs.Ytfblmkocmnbdcaa
open Go.Fw Go.Proofs Go.RowKit Go.Proofs.Try
theorem le_four (c : Nat) : [b8 (c : Int), b8 ((c : Int) / 256), b8 ((c : Int) / 65536), b8 ((c : Int) / 16777216)] = leN c 4 := by
  have e : ∀ (i : Nat), b8 ((c / 256 ^ i : Nat) : Int) = UInt8.ofNat (c / 256 ^ i % 256) := fun i => by
    have h := b8_val ((c / 256 ^ i : Nat) : Int)
    refine UInt8.toNat_inj.1 ?_
    rw [UInt8.toNat_ofNat']
    omega
  have e0 := e 0
  have e1 := e 1
  have e2 := e 2
  have e3 := e 3
  simp only [Nat.pow_zero, Nat.div_one, Nat.reducePow, Nat.pow_one] at e0 e1 e2 e3
  have d1 : (c : Int) / 256 = ((c / 256 : Nat) : Int) := by omega
  have d2 : (c : Int) / 65536 = ((c / 65536 : Nat) : Int) := by omega
  have d3 : (c : Int) / 16777216 = ((c / 16777216 : Nat) : Int) := by omega
  rw [d1, d2, d3, e0, e1, e2, e3]
  simp [leN]
theorem c38 (w0 : World) (v1 : Value) (l : List UInt8) (h : Sl encB 1 w0 w0.heap.size v1 l) (hl : l.length ≤ 65536) :
    Rets Try.prog 38 #[v1] w0 fun v L => ∃ A r, v = .tuple #[.slice A (frameL l).length r, .int .i64 0] ∧ L = [rowOf 5 1 encB A r (frameL l)] := by
  obtain ⟨A, cap, rfl, _⟩ := id h
  have hpl : (putL [] (l.length : Int)).length ≤ 9 := by have := putL_len [] (n := (l.length : Int)) (by omega); simpa using this
  have hcl := crcL_lt l
  unfold Go.Fw.Rets
  refine enter1 func38 rfl ntmps38 rfl fun a S => sg S (.ac rfl <| .ac rfl <| .z) fun a w S => wp_seq_k fun _ hK1 => sg S (.mv rfl <| .ln underlying57 rfl <| .yy (ys_F (by omega) (ys_gtr (.t rfl) Ev.c)) rfl <| .z) fun a w S => st_else S (.t rfl) (wp_skip (then_normal (hK1 _ _ (sg S (.mv rfl <| .xx (ys_call call80 (.cons (.t rfl) .nil) (fun hp w W => c80 _ _ _ (by exact .old W (by assumption)))) rfl <| .as rfl <| .z) fun a w S => wp_seq_k fun _ hK1 => wp_region_lit (run S (.mv rfl <| .ln underlying57 rfl <| .z) fun a w S => ?_)))))
  (refine st_m (op_calls S call77 (.cons Ev.c (.cons (.t rfl) .nil)) (c77 _ _ _ _ (by exact Sl.nil_) (by (simp; done)) (by omega)) rfl ?_); clear S a w; rintro _ _ ⟨A1, c1, rfl, rfl⟩ a w S)
  refine run S (.mv rfl <| .z) fun a w S => st_m (op_extend _ S underlying57 underlying57 (.inr ⟨_, rfl⟩) inf5 rfl (k := 0) rfl (.t rfl) (.t rfl) (Src.sl (Sl.old S.wd h) (by decide) Go.Fw.encB_len Go.Fw.encB_one) (by first | omega | (simp only [List.length_append, List.length_cons, List.length_nil]; omega) | (simp; omega)) rfl rfl rfl fun A2 cap1 a w S => run S (.as rfl <| .z) fun a w S => st_nil (then_normal (hK1 _ _ (wp_seq_k fun _ hK1 => wp_region_lit (run S (.mv rfl <| .mv rfl <| .yy (ys_cvB underlying3 underlying5 (.t rfl)) rfl <| .mv rfl <| .yy (ys_shrC (m := 8) (c := 256) (.t rfl) Ev.c rfl rfl) rfl <| .yy (ys_cvB underlying3 underlying5 (.t rfl)) rfl <| .mv rfl <| .yy (ys_shrC (m := 16) (c := 65536) (.t rfl) Ev.c rfl rfl) rfl <| .yy (ys_cvB underlying3 underlying5 (.t rfl)) rfl <| .mv rfl <| .yy (ys_shrC (m := 24) (c := 16777216) (.t rfl) Ev.c rfl rfl) rfl <| .yy (ys_cvB underlying3 underlying5 (.t rfl)) rfl <| .z) fun a w S => st_m (op_bsliceZ (ps := [(0, Go.Operand.tmp 18), (1, Go.Operand.tmp 21), (2, Go.Operand.tmp 24), (3, Go.Operand.tmp 27)]) (us := [_, _, _, _]) S underlying57 sizeOf5 zeroValue5 rfl rfl (.cons (.t rfl) (.cons (.t rfl) (.cons (.t rfl) (.cons (.t rfl) .nil)))) rfl rfl fun g1 a w S => ?_))))))
  refine st_m (op_extend [b8 (crcL l : Int), b8 ((crcL l : Int) / 256), b8 ((crcL l : Int) / 65536), b8 ((crcL l : Int) / 16777216)] S underlying57 underlying57 (.inr ⟨_, rfl⟩) inf5 rfl (k := 1) rfl (.t rfl) (.t rfl)
      (Src.blkN S.wd (k := 0) rfl rfl (by simp) (by simp [Value.oneCell'])) (by simp; omega) rfl rfl rfl ?_)
  clear S
  intro B cB a w S
  have e : putL [] (l.length : Int) ++ l ++ [b8 (crcL l : Int), b8 ((crcL l : Int) / 256), b8 ((crcL l : Int) / 65536), b8 ((crcL l : Int) / 16777216)] = frameL l := by rw [le_four]; rfl
  rw [e] at S
  refine run S (.as rfl <| .ac rfl <| .z) fun a w S => st_nil (then_normal (hK1 _ _ (wp_ret (st_ret S (results2 S results38 (Rv.tmp rfl) (Rv.tmp rfl)) ?_))))
  exact ⟨_, _, rfl, S.wd.pk, _, _, rfl, rfl⟩
theorem c43 (w0 : World) (v1 : Value) (l : List UInt8) (h : Sl encB 1 w0 w0.heap.size v1 l) (hl : l.length ≤ 65536) :
    Rets Try.prog 43 #[v1] w0 fun v L => ∃ A r, v = .tuple #[.slice A (frameL l).length r, .int .i64 0] ∧ L = [rowOf 5 1 encB A r (frameL l)] := by
  obtain ⟨A, cap, rfl, _⟩ := id h
  have hpl : (putL [] (l.length : Int)).length ≤ 9 := by have := putL_len [] (n := (l.length : Int)) (by omega); simpa using this
  have hcl := crcL_lt l
  unfold Go.Fw.Rets
  refine enter1 func43 rfl ntmps43 rfl fun a S => sg S (.ac rfl <| .ac rfl <| .z) fun a w S => wp_seq_k fun _ hK1 => sg S (.mv rfl <| .ln underlying57 rfl <| .yy (ys_F (by omega) (ys_gtr (.t rfl) Ev.c)) rfl <| .z) fun a w S => st_else S (.t rfl) (wp_skip (then_normal (hK1 _ _ (wp_seq_k fun _ hK1 => wp_region_lit (run S (.mv rfl <| .ln underlying57 rfl <| .z) fun a w S => ?_)))))
  (refine st_m (op_calls S call83 (.cons Ev.c (.cons (.t rfl) .nil)) (c83 _ _ _ _ (by exact Sl.nil_) (by (simp; done)) (by omega)) rfl ?_); clear S a w; rintro _ _ ⟨A1, c1, rfl, rfl⟩ a w S)
  refine run S (.mv rfl <| .z) fun a w S => st_m (op_extend _ S underlying57 underlying57 (.inr ⟨_, rfl⟩) inf5 rfl (k := 0) rfl (.t rfl) (.t rfl) (Src.sl (Sl.old S.wd h) (by decide) Go.Fw.encB_len Go.Fw.encB_one) (by first | omega | (simp only [List.length_append, List.length_cons, List.length_nil]; omega) | (simp; omega)) rfl rfl rfl fun A2 cap1 a w S => run S (.as rfl <| .z) fun a w S => st_nil (then_normal (hK1 _ _ (sg S (.mv rfl <| .xx (ys_call call86 (.cons (.t rfl) .nil) (fun hp w W => c86 _ _ _ (by exact .old W (by assumption)))) rfl <| .as rfl <| .z) fun a w S => wp_seq_k fun _ hK1 => sg S (.mc rfl <| .z) fun a w S => wp_block ?_))))
  have hF : putL [] (l.length : Int) ++ l ++ leN (crcL l) 0 = putL [] (l.length : Int) ++ l := List.append_nil _
  have hc0 : (crcL l : Int) = ((crcL l / 256 ^ 0 : Nat) : Int) := by simp
  rw [← hF, hc0] at S
  refine st_lpM S [4, 5, 16] (X := Nat × Option Addr × Nat) (fun q => [(4, true, .slice q.2.1 (putL [] (l.length : Int) ++ l ++ leN (crcL l) q.1).length q.2.2), (5, true, .int .i64 ((crcL l / 256 ^ q.1 : Nat) : Int)), (16, true, .int .i64 (q.1 : Int))])
    (fun q => [rowOf 5 1 encB q.2.1 q.2.2 (putL [] (l.length : Int) ++ l ++ leN (crcL l) q.1)]) (fun q => q.1 ≤ 4) (fun q => 4 - q.1) (0, _, _) (Nat.zero_le _) ?_
  clear S
  rintro ⟨i, F, cF⟩ a w hi S
  dsimp only at hi S
  have hll : (putL [] (l.length : Int) ++ l ++ leN (crcL l) i).length = (putL [] (l.length : Int)).length + l.length + i := by rw [List.length_append, leN_len, List.length_append]
  have hdv : crcL l / 256 ^ i ≤ crcL l := Nat.div_le_self _ _
  by_cases hi4 : i < 4
  · have hst : crcL l / 256 ^ (i + 1) = crcL l / 256 ^ i / 256 := by rw [Nat.pow_succ, Nat.div_div_eq_div_mul]
    generalize hd : crcL l / 256 ^ i = d at S hst hdv
    have rw_i : (i : Int) + 1 = ((i + 1 : Nat) : Int) := rfl
    have rw_d : (d : Int) / 256 = ((d / 256 : Nat) : Int) := by omega
    have rw_m : (d : Int) % 256 = ((d % 256 : Nat) : Int) := by omega
    refine sg S (.yy (ys_T (by omega) (ys_lss (.t rfl) Ev.c)) rfl <| .z) fun a w S => wp_seq_k fun _ hK2 => st_then S (.t rfl) (wp_skip (then_normal (hK2 _ _ (wp_seq_k fun _ hK2 => wp_block (wp_seq_k fun _ hK3 => wp_region_lit (run S (.mv rfl <| .mv rfl <| .yy (ys_remE (.t rfl) Ev.c (fun _ => by omega)) rfl <| .z) fun a w S => ?_))))))
    rw [rw_m] at S
    refine run S (.yy (ys_cvB underlying3 underlying5 (.t rfl)) rfl <| .z) fun a w S => st_m (op_bslice1 S underlying57 inf5 rfl rfl rfl (.t rfl) rfl rfl rfl fun g1 a w S => st_m (op_push S underlying57 inf5 rfl (k := 1) (j := 0) rfl (.t rfl) (.t rfl) rfl rfl rfl rfl (by first | omega | (simp only [List.length_append, List.length_cons, List.length_nil]; omega)) rfl rfl rfl fun A3 cap2 a w S => run S (.as rfl <| .z) fun a w S => st_nil (then_normal (hK3 _ _ (wp_region_lit (run S (.mv rfl <| .yy (ys_quoE (.t rfl) Ev.c (fun _ => by omega)) rfl <| .z) fun a w S => ?_))))))
    rw [rw_d] at S
    refine run S (.as rfl <| .z) fun a w S => st_nil (in_normal (then_normal (hK2 _ _ (wp_region_lit (run S (.ad (by unfold I64; omega) rfl <| .z) fun a w S => ?_)))))
    rw [rw_i] at S
    refine run S (.mv rfl <| .z) fun a w S => st_nil (then_normal ?_)
    have eb : b8 ((d % 256 : Nat) : Int) = UInt8.ofNat (crcL l / 256 ^ i % 256) := by
      rw [hd]
      refine UInt8.toNat_inj.1 ?_
      have := b8_val ((d % 256 : Nat) : Int)
      rw [UInt8.toNat_ofNat']
      omega
    rw [eb, List.append_assoc (putL [] (l.length : Int) ++ l), show leN (crcL l) i ++ [UInt8.ofNat (crcL l / 256 ^ i % 256)] = leN (crcL l) (i + 1) from rfl, ← hst] at S
    exact ⟨(i + 1, A3, cap2), by dsimp only; omega, by dsimp only; omega, S.pk⟩
  obtain rfl : i = 4 := by omega
  have e : putL [] (l.length : Int) ++ l ++ leN (crcL l) 4 = frameL l := rfl
  rw [e] at S
  refine sg S (.yy (ys_F (by omega) (ys_lss (.t rfl) Ev.c)) rfl <| .z) fun a w S => wp_seq_k fun _ hK2 => st_else S (.t rfl) (wp_exit (then_exit (then_exit (in_here (then_normal (hK1 _ _ (sg S (.mv rfl <| .as rfl <| .ac rfl <| .z) fun a w S => wp_ret (st_ret S (results2 S results43 (Rv.tmp rfl) (Rv.tmp rfl)) ?_))))))))
  exact ⟨_, _, rfl, S.wd.pk, _, _, rfl, rfl⟩
end Go.Proofs.Ytfblmkocmnbdcaa
set_option linter.unusedVariables false
set_option linter.unusedSimpArgs false
set_option maxRecDepth 100000
set_option maxHeartbeats 4000000
namespace Go.Proofs.Ytfblmkocmnbdcaa
open Go.Fw Go.Proofs Go.RowKit Go.Proofs.Try
theorem c137 {w0 w : World} {L : List Chunk} {g cap k : Nat} {A : Option Addr} {b : List UInt8} (W : Wd w0 (rdr g A cap b k L) w) (hk : k ≤ b.length) (hb : b.length ≤ 16777216) :
    RetsO Try.prog 137 #[.pointer (some ⟨g, 0, none⟩), .int .i64 64] w0 w (fun v L' => ∃ B c, v = .tuple #[.slice B (listAt b k).1.length c, .int .i64 (listAt b k).2.2] ∧ L' = rdr g A cap b (listAt b k).2.1 (rowOf 62 3 Dot.enc B c (listAt b k).1 :: L)) := by
  have hv := numAt_val b k
  have hp := numAt_le hk
  by_cases he : (numAt b k).2.2 = 0
  · by_cases h64 : 64 < (numAt b k).1
    · unfold Go.Fw.RetsO
      refine enterW2 W func137 rfl ntmps137 rfl fun a S => sg S (.ac rfl <| .ac rfl <| .z) fun a w S => wp_seq_k fun _ hK1 => wp_region_lit (run S (.mv rfl <| .z) fun a w S => ?_)
      (refine st_m (op_callO S call95 (.cons (.t rfl) .nil) (c95 S.wd (by first | assumption | omega | (dsimp only; omega) | exact Sl.nil_ | exact .old S.wd (by assumption) | exact Sl.of_own S.wd (k := 0) rfl (fun _ => rfl) | exact Sl.of_own S.wd (k := 1) rfl (fun _ => rfl) | (simp at *; omega)) (by first | assumption | omega | (dsimp only; omega) | exact Sl.nil_ | exact .old S.wd (by assumption) | exact Sl.of_own S.wd (k := 0) rfl (fun _ => rfl) | exact Sl.of_own S.wd (k := 1) rfl (fun _ => rfl) | (simp at *; omega))) rfl ?_) <;> clear S a w)
      rintro _ _ ⟨rfl, rfl⟩ a w S
      refine run S (.mv rfl <| .ex rfl rfl <| .ex rfl rfl <| .as rfl <| .as rfl <| .z) fun a w S => st_nil (then_normal (hK1 _ _ (wp_seq_k fun _ hK1 => sg S (.mv rfl <| .yy (ys_F (by omega) (ys_neq (.t rfl) Ev.c)) rfl <| .z) fun a w S => st_else S (.t rfl) (wp_skip (then_normal (hK1 _ _ (wp_seq_k fun _ hK1 => sg S (.mv rfl <| .mv rfl <| .yy (ys_T (by omega) (ys_gtr (.t rfl) (.t rfl))) rfl <| .z) fun a w S => st_then S (.t rfl) (sg S (.ac rfl <| .ac rfl <| .z) fun a w S => wp_ret (then_ret (st_ret S (results2 S results137 (Rv.tmp rfl) (Rv.tmp rfl)) ?_))))))))))
      rw [show listAt b k = ([], (numAt b k).2.1, 4) by unfold listAt; rw [bindR_ok he, if_pos h64]]
      exact ⟨_, _, rfl, (S.nil_ 62 3 Dot.enc none).wd.pk, none, 0, rfl, rfl⟩
    · obtain ⟨n, hn⟩ : ∃ n : Nat, (numAt b k).1 = (n : Int) := ⟨(numAt b k).1.toNat, by omega⟩
      have hla : listAt b k = dotsAt b n [] (numAt b k).2.1 := by unfold listAt; rw [bindR_ok he, if_neg h64, hn]; rfl
      have hn64 : n ≤ 64 := by omega
      have rw_n := hn
      unfold Go.Fw.RetsO
      refine enterW2 W func137 rfl ntmps137 rfl fun a S => sg S (.ac rfl <| .ac rfl <| .z) fun a w S => wp_seq_k fun _ hK1 => wp_region_lit (run S (.mv rfl <| .z) fun a w S => ?_)
      (refine st_m (op_callO S call95 (.cons (.t rfl) .nil) (c95 S.wd (by first | assumption | omega | (dsimp only; omega) | exact Sl.nil_ | exact .old S.wd (by assumption) | exact Sl.of_own S.wd (k := 0) rfl (fun _ => rfl) | exact Sl.of_own S.wd (k := 1) rfl (fun _ => rfl) | (simp at *; omega)) (by first | assumption | omega | (dsimp only; omega) | exact Sl.nil_ | exact .old S.wd (by assumption) | exact Sl.of_own S.wd (k := 0) rfl (fun _ => rfl) | exact Sl.of_own S.wd (k := 1) rfl (fun _ => rfl) | (simp at *; omega))) rfl ?_) <;> clear S a w)
      rintro _ _ ⟨rfl, rfl⟩ a w S
      rw [rw_n] at S
      refine run S (.mv rfl <| .ex rfl rfl <| .ex rfl rfl <| .as rfl <| .as rfl <| .z) fun a w S => st_nil (then_normal (hK1 _ _ (wp_seq_k fun _ hK1 => sg S (.mv rfl <| .yy (ys_F (by omega) (ys_neq (.t rfl) Ev.c)) rfl <| .z) fun a w S => st_else S (.t rfl) (wp_skip (then_normal (hK1 _ _ (wp_seq_k fun _ hK1 => sg S (.mv rfl <| .mv rfl <| .yy (ys_F (by omega) (ys_gtr (.t rfl) (.t rfl))) rfl <| .z) fun a w S => st_else S (.t rfl) (wp_skip (then_normal (hK1 _ _ (sg S (.ac rfl <| .z) fun a w S => wp_seq_k fun _ hK1 => sg S (.mv rfl <| .mc rfl <| .z) fun a w S => wp_block ?_)))))))))))
      refine st_lpM (S.nil_ 62 3 Dot.enc none) [7] (X := Nat × Nat × List Dot × Option Addr × Nat) (fun q => [(24, true, .int .i64 (q.1 : Int)), (8, true, .slice q.2.2.2.1 q.2.2.1.length q.2.2.2.2)]) (fun q => rowOf 62 3 Dot.enc q.2.2.2.1 q.2.2.2.2 q.2.2.1 :: rdr g A cap b q.2.1 L)
        (fun q => q.1 ≤ n ∧ q.2.1 ≤ b.length ∧ q.2.2.1.length = q.1 ∧ dotsAt b (n - q.1) q.2.2.1 q.2.1 = dotsAt b n [] (numAt b k).2.1) (fun q => n - q.1) (0, (numAt b k).2.1, [], none, 0) ⟨Nat.zero_le _, hp.2, rfl, rfl⟩ ?_
      clear S
      intro ⟨i, k', acc, D, cD⟩ a w ⟨hi, hk', hlen, hno⟩ S
      dsimp only at hi hk' hlen hno S
      by_cases hlt : i < n
      · rw [show n - i = (n - (i + 1)) + 1 by omega, dotsAt] at hno
        refine sg S (.lt (by omega) rfl rfl <| .z) fun a w S => wp_seq_k fun _ hK2 => st_then S (.t rfl) (wp_skip (then_normal (hK2 _ _ (wp_seq_k fun _ hK2 => wp_block (wp_seq_k fun _ hK3 => wp_region_lit (st_m (op_alloc S zeroValue62 (cs := _) rfl rfl fun g1 a w S => st_nil (then_normal (hK3 _ _ (wp_seq_k fun _ hK3 => wp_seq_k fun _ hK4 => wp_region_lit (run S (.fa underlying62 sizeOf3 0 rfl rfl rfl <| .fa underlying62 sizeOf3 1 rfl rfl rfl <| .fa underlying62 sizeOf3 2 rfl rfl rfl <| .z) fun a w S => st_m (op_bsliceZ (ps := [(0, Go.Operand.tmp 26), (1, Go.Operand.tmp 27), (2, Go.Operand.tmp 28)]) (us := [_, _, _]) S underlying165 sizeOf164 zeroValue164 rfl rfl (.cons (.t rfl) (.cons (.t rfl) (.cons (.t rfl) .nil))) rfl rfl fun g2 a w S => run S (.ln underlying165 rfl <| .mc rfl <| .z) fun a w S => st_nil (then_normal (hK4 _ _ (wp_block ?_)))))))))))))))
        have hp1 := numAt_le hk'
        by_cases e1 : (numAt b k').2.2 = 0
        · refine st_rounds 4 (st_round (sg S (.lt (by omega) rfl rfl <| .z) fun a w S => wp_seq_k fun _ hK4 => st_then S (.t rfl) (wp_skip (then_normal (hK4 _ _ (wp_seq_k fun _ hK4 => wp_block (sg S (.yy (ys_ixS (j := 0) underlying165 sizeOf164 (.t rfl) (.t rfl) (fun _ => by omega)) rfl <| .ld gt164 0 rfl rfl rfl <| .as rfl <| .z) fun a w S => wp_seq_k fun _ hK5 => wp_region_lit (run S (.mv rfl <| .mv rfl <| .z) fun a w S => ?_))))))))
          (replace S := S.pull 4 rfl; try simp only [List.set_cons_zero, List.set_cons_succ, List.eraseIdx_cons_succ, List.eraseIdx_cons_zero] at S; replace S := S.pull 4 rfl; try simp only [List.set_cons_zero, List.set_cons_succ, List.eraseIdx_cons_succ, List.eraseIdx_cons_zero] at S; refine st_m (op_callO S call95 (.cons (.t rfl) .nil) (c95 S.wd (by first | assumption | omega | (dsimp only; omega) | exact Sl.nil_ | exact .old S.wd (by assumption) | exact Sl.of_own S.wd (k := 0) rfl (fun _ => rfl) | exact Sl.of_own S.wd (k := 1) rfl (fun _ => rfl) | exact Sl.of_own S.wd (k := 2) rfl (fun _ => rfl) | exact Sl.of_own S.wd (k := 3) rfl (fun _ => rfl) | exact Sl.of_own S.wd (k := 4) rfl (fun _ => rfl) | (simp at *; omega)) (by first | assumption | omega | (dsimp only; omega) | exact Sl.nil_ | exact .old S.wd (by assumption) | exact Sl.of_own S.wd (k := 0) rfl (fun _ => rfl) | exact Sl.of_own S.wd (k := 1) rfl (fun _ => rfl) | exact Sl.of_own S.wd (k := 2) rfl (fun _ => rfl) | exact Sl.of_own S.wd (k := 3) rfl (fun _ => rfl) | exact Sl.of_own S.wd (k := 4) rfl (fun _ => rfl) | (simp at *; omega))) rfl ?_) <;> clear S a w)
          rintro _ _ ⟨rfl, rfl⟩ a w S
          refine run S (.mv rfl <| .ex rfl rfl <| .ex rfl rfl <| .yy (ys_nilc (.t rfl)) rfl <| .z) fun a w S => st_m (op_st S sizeOf3 (.t rfl) (.t rfl) (k := 3) rfl rfl (by simp) fun a w S => run S (.as rfl <| .z) fun a w S => st_nil (then_normal (hK5 _ _ (sg S (.mv rfl <| .yy (ys_F (by omega) (ys_neq (.t rfl) Ev.c)) rfl <| .z) fun a w S => st_else S (.t rfl) (wp_skip (in_normal (then_normal (hK4 _ _ (wp_region_lit (run S (.ad (by unfold I64; omega) rfl <| .mv rfl <| .z) fun a w S => st_nil (then_normal (st_round ?_))))))))))))
          have hp2 := numAt_le hp1.2
          by_cases e2 : (numAt b (numAt b k').2.1).2.2 = 0
          · refine sg S (.lt (by omega) rfl rfl <| .z) fun a w S => wp_seq_k fun _ hK4 => st_then S (.t rfl) (wp_skip (then_normal (hK4 _ _ (wp_seq_k fun _ hK4 => wp_block (sg S (.yy (ys_ixS (j := 1) underlying165 sizeOf164 (.t rfl) (.t rfl) (fun _ => by omega)) rfl <| .ld gt164 2 rfl rfl rfl <| .as rfl <| .z) fun a w S => wp_seq_k fun _ hK5 => wp_region_lit (run S (.mv rfl <| .mv rfl <| .z) fun a w S => ?_))))))
            (refine st_m (op_callO S call95 (.cons (.t rfl) .nil) (c95 S.wd (by first | assumption | omega | (dsimp only; omega) | exact Sl.nil_ | exact .old S.wd (by assumption) | exact Sl.of_own S.wd (k := 0) rfl (fun _ => rfl) | exact Sl.of_own S.wd (k := 1) rfl (fun _ => rfl) | exact Sl.of_own S.wd (k := 2) rfl (fun _ => rfl) | exact Sl.of_own S.wd (k := 3) rfl (fun _ => rfl) | exact Sl.of_own S.wd (k := 4) rfl (fun _ => rfl) | (simp at *; omega)) (by first | assumption | omega | (dsimp only; omega) | exact Sl.nil_ | exact .old S.wd (by assumption) | exact Sl.of_own S.wd (k := 0) rfl (fun _ => rfl) | exact Sl.of_own S.wd (k := 1) rfl (fun _ => rfl) | exact Sl.of_own S.wd (k := 2) rfl (fun _ => rfl) | exact Sl.of_own S.wd (k := 3) rfl (fun _ => rfl) | exact Sl.of_own S.wd (k := 4) rfl (fun _ => rfl) | (simp at *; omega))) rfl ?_) <;> clear S a w)
            rintro _ _ ⟨rfl, rfl⟩ a w S
            refine run S (.mv rfl <| .ex rfl rfl <| .ex rfl rfl <| .yy (ys_nilc (.t rfl)) rfl <| .z) fun a w S => st_m (op_st S sizeOf3 (.t rfl) (.t rfl) (k := 3) rfl rfl (by simp) fun a w S => run S (.as rfl <| .z) fun a w S => st_nil (then_normal (hK5 _ _ (sg S (.mv rfl <| .yy (ys_F (by omega) (ys_neq (.t rfl) Ev.c)) rfl <| .z) fun a w S => st_else S (.t rfl) (wp_skip (in_normal (then_normal (hK4 _ _ (wp_region_lit (run S (.ad (by unfold I64; omega) rfl <| .mv rfl <| .z) fun a w S => st_nil (then_normal (st_round ?_))))))))))))
            have hp3 := numAt_le hp2.2
            by_cases e3 : (numAt b (numAt b (numAt b k').2.1).2.1).2.2 = 0
            · refine sg S (.lt (by omega) rfl rfl <| .z) fun a w S => wp_seq_k fun _ hK4 => st_then S (.t rfl) (wp_skip (then_normal (hK4 _ _ (wp_seq_k fun _ hK4 => wp_block (sg S (.yy (ys_ixS (j := 2) underlying165 sizeOf164 (.t rfl) (.t rfl) (fun _ => by omega)) rfl <| .ld gt164 2 rfl rfl rfl <| .as rfl <| .z) fun a w S => wp_seq_k fun _ hK5 => wp_region_lit (run S (.mv rfl <| .mv rfl <| .z) fun a w S => ?_))))))
              (refine st_m (op_callO S call95 (.cons (.t rfl) .nil) (c95 S.wd (by first | assumption | omega | (dsimp only; omega) | exact Sl.nil_ | exact .old S.wd (by assumption) | exact Sl.of_own S.wd (k := 0) rfl (fun _ => rfl) | exact Sl.of_own S.wd (k := 1) rfl (fun _ => rfl) | exact Sl.of_own S.wd (k := 2) rfl (fun _ => rfl) | exact Sl.of_own S.wd (k := 3) rfl (fun _ => rfl) | exact Sl.of_own S.wd (k := 4) rfl (fun _ => rfl) | (simp at *; omega)) (by first | assumption | omega | (dsimp only; omega) | exact Sl.nil_ | exact .old S.wd (by assumption) | exact Sl.of_own S.wd (k := 0) rfl (fun _ => rfl) | exact Sl.of_own S.wd (k := 1) rfl (fun _ => rfl) | exact Sl.of_own S.wd (k := 2) rfl (fun _ => rfl) | exact Sl.of_own S.wd (k := 3) rfl (fun _ => rfl) | exact Sl.of_own S.wd (k := 4) rfl (fun _ => rfl) | (simp at *; omega))) rfl ?_) <;> clear S a w)
              rintro _ _ ⟨rfl, rfl⟩ a w S
              refine run S (.mv rfl <| .ex rfl rfl <| .ex rfl rfl <| .yy (ys_nilc (.t rfl)) rfl <| .z) fun a w S => st_m (op_st S sizeOf3 (.t rfl) (.t rfl) (k := 3) rfl rfl (by simp) fun a w S => run S (.as rfl <| .z) fun a w S => st_nil (then_normal (hK5 _ _ (sg S (.mv rfl <| .yy (ys_F (by omega) (ys_neq (.t rfl) Ev.c)) rfl <| .z) fun a w S => st_else S (.t rfl) (wp_skip (in_normal (then_normal (hK4 _ _ (wp_region_lit (run S (.ad (by unfold I64; omega) rfl <| .mv rfl <| .z) fun a w S => st_nil (then_normal (st_round ?_))))))))))))
              have hd : dotAt b k' = (⟨(numAt b k').1, (numAt b (numAt b k').2.1).1, (numAt b (numAt b (numAt b k').2.1).2.1).1⟩, (numAt b (numAt b (numAt b k').2.1).2.1).2.1, 0) := by unfold dotAt; rw [bindR_ok e1, bindR_ok e2, bindR_ok e3]
              rw [hd, bindR_ok rfl] at hno
              refine sg S (.ge (by omega) rfl rfl <| .z) fun a w S => wp_seq_k fun _ hK4 => st_else S (.t rfl) (wp_exit (then_exit (then_exit (in_here (then_normal (hK3 _ _ (wp_region_lit (run S (.mv rfl <| .la gt62 3 rfl rfl rfl <| .z) fun a w S => st_m (op_bslice1 S underlying36 inf62 rfl rfl rfl (.t rfl) rfl rfl rfl fun g3 a w S => st_m (op_push S underlying36 inf62 rfl (k := 5) (j := 0) rfl (.t rfl) (.t rfl) rfl Go.Fw.Dot.mkEnc rfl rfl (by first | omega | (simp only [List.length_append, List.length_cons, List.length_nil]; omega)) rfl rfl rfl fun A1 cap1 a w S => run S (.as rfl <| .z) fun a w S => st_nil (in_normal (then_normal (hK2 _ _ (wp_region_lit (run S (.ad (by unfold I64; omega) rfl <| .mv rfl <| .z) fun a w S => st_nil (then_normal ?_))))))))))))))))
              exact ⟨(i + 1, (numAt b (numAt b (numAt b k').2.1).2.1).2.1, acc ++ [⟨(numAt b k').1, (numAt b (numAt b k').2.1).1, (numAt b (numAt b (numAt b k').2.1).2.1).1⟩], A1, cap1), ⟨by dsimp only; omega, hp3.2, by simp [hlen], hno⟩, by dsimp only; omega, S.pk⟩
            · have hd : dotAt b k' = (⟨0, 0, 0⟩, (numAt b (numAt b (numAt b k').2.1).2.1).2.1, (numAt b (numAt b (numAt b k').2.1).2.1).2.2) := by unfold dotAt; rw [bindR_ok e1, bindR_ok e2, bindR_bad e3]
              rw [hd, bindR_bad' e3] at hno
              refine sg S (.lt (by omega) rfl rfl <| .z) fun a w S => wp_seq_k fun _ hK4 => st_then S (.t rfl) (wp_skip (then_normal (hK4 _ _ (wp_seq_k fun _ hK4 => wp_block (sg S (.yy (ys_ixS (j := 2) underlying165 sizeOf164 (.t rfl) (.t rfl) (fun _ => by omega)) rfl <| .ld gt164 2 rfl rfl rfl <| .as rfl <| .z) fun a w S => wp_seq_k fun _ hK5 => wp_region_lit (run S (.mv rfl <| .mv rfl <| .z) fun a w S => ?_))))))
              (refine st_m (op_callO S call95 (.cons (.t rfl) .nil) (c95 S.wd (by first | assumption | omega | (dsimp only; omega) | exact Sl.nil_ | exact .old S.wd (by assumption) | exact Sl.of_own S.wd (k := 0) rfl (fun _ => rfl) | exact Sl.of_own S.wd (k := 1) rfl (fun _ => rfl) | exact Sl.of_own S.wd (k := 2) rfl (fun _ => rfl) | exact Sl.of_own S.wd (k := 3) rfl (fun _ => rfl) | exact Sl.of_own S.wd (k := 4) rfl (fun _ => rfl) | (simp at *; omega)) (by first | assumption | omega | (dsimp only; omega) | exact Sl.nil_ | exact .old S.wd (by assumption) | exact Sl.of_own S.wd (k := 0) rfl (fun _ => rfl) | exact Sl.of_own S.wd (k := 1) rfl (fun _ => rfl) | exact Sl.of_own S.wd (k := 2) rfl (fun _ => rfl) | exact Sl.of_own S.wd (k := 3) rfl (fun _ => rfl) | exact Sl.of_own S.wd (k := 4) rfl (fun _ => rfl) | (simp at *; omega))) rfl ?_) <;> clear S a w)
              rintro _ _ ⟨rfl, rfl⟩ a w S
              refine run S (.mv rfl <| .ex rfl rfl <| .ex rfl rfl <| .yy (ys_nilc (.t rfl)) rfl <| .z) fun a w S => st_m (op_st S sizeOf3 (.t rfl) (.t rfl) (k := 3) rfl rfl (by simp) fun a w S => run S (.as rfl <| .z) fun a w S => st_nil (then_normal (hK5 _ _ (sg S (.mv rfl <| .yy (ys_T (by omega) (ys_neq (.t rfl) Ev.c)) rfl <| .z) fun a w S => st_then S (.t rfl) (sg S (.mv rfl <| .ac rfl <| .as rfl <| .z) fun a w S => wp_ret (in_ret (then_ret (then_ret (in_ret (then_ret (in_ret (then_ret (then_ret (in_ret (then_ret (st_ret S (results2 S results137 (Rv.tmp rfl) (Rv.tmp rfl)) ?_))))))))))))))))
              rw [hla, ← hno]
              exact ⟨_, _, rfl, (S.nil_ 62 3 Dot.enc none).wd.pk, none, 0, rfl, rfl⟩
          · have hd : dotAt b k' = (⟨0, 0, 0⟩, (numAt b (numAt b k').2.1).2.1, (numAt b (numAt b k').2.1).2.2) := by unfold dotAt; rw [bindR_ok e1, bindR_bad e2]
            rw [hd, bindR_bad' e2] at hno
            refine sg S (.lt (by omega) rfl rfl <| .z) fun a w S => wp_seq_k fun _ hK4 => st_then S (.t rfl) (wp_skip (then_normal (hK4 _ _ (wp_seq_k fun _ hK4 => wp_block (sg S (.yy (ys_ixS (j := 1) underlying165 sizeOf164 (.t rfl) (.t rfl) (fun _ => by omega)) rfl <| .ld gt164 2 rfl rfl rfl <| .as rfl <| .z) fun a w S => wp_seq_k fun _ hK5 => wp_region_lit (run S (.mv rfl <| .mv rfl <| .z) fun a w S => ?_))))))
            (refine st_m (op_callO S call95 (.cons (.t rfl) .nil) (c95 S.wd (by first | assumption | omega | (dsimp only; omega) | exact Sl.nil_ | exact .old S.wd (by assumption) | exact Sl.of_own S.wd (k := 0) rfl (fun _ => rfl) | exact Sl.of_own S.wd (k := 1) rfl (fun _ => rfl) | exact Sl.of_own S.wd (k := 2) rfl (fun _ => rfl) | exact Sl.of_own S.wd (k := 3) rfl (fun _ => rfl) | exact Sl.of_own S.wd (k := 4) rfl (fun _ => rfl) | (simp at *; omega)) (by first | assumption | omega | (dsimp only; omega) | exact Sl.nil_ | exact .old S.wd (by assumption) | exact Sl.of_own S.wd (k := 0) rfl (fun _ => rfl) | exact Sl.of_own S.wd (k := 1) rfl (fun _ => rfl) | exact Sl.of_own S.wd (k := 2) rfl (fun _ => rfl) | exact Sl.of_own S.wd (k := 3) rfl (fun _ => rfl) | exact Sl.of_own S.wd (k := 4) rfl (fun _ => rfl) | (simp at *; omega))) rfl ?_) <;> clear S a w)
            rintro _ _ ⟨rfl, rfl⟩ a w S
            refine run S (.mv rfl <| .ex rfl rfl <| .ex rfl rfl <| .yy (ys_nilc (.t rfl)) rfl <| .z) fun a w S => st_m (op_st S sizeOf3 (.t rfl) (.t rfl) (k := 3) rfl rfl (by simp) fun a w S => run S (.as rfl <| .z) fun a w S => st_nil (then_normal (hK5 _ _ (sg S (.mv rfl <| .yy (ys_T (by omega) (ys_neq (.t rfl) Ev.c)) rfl <| .z) fun a w S => st_then S (.t rfl) (sg S (.mv rfl <| .ac rfl <| .as rfl <| .z) fun a w S => wp_ret (in_ret (then_ret (then_ret (in_ret (then_ret (in_ret (then_ret (then_ret (in_ret (then_ret (st_ret S (results2 S results137 (Rv.tmp rfl) (Rv.tmp rfl)) ?_))))))))))))))))
            rw [hla, ← hno]
            exact ⟨_, _, rfl, (S.nil_ 62 3 Dot.enc none).wd.pk, none, 0, rfl, rfl⟩
        · refine st_rounds 4 (st_round ?_)
          have hd : dotAt b k' = (⟨0, 0, 0⟩, (numAt b k').2.1, (numAt b k').2.2) := by unfold dotAt; rw [bindR_bad e1]
          rw [hd, bindR_bad' e1] at hno
          refine sg S (.lt (by omega) rfl rfl <| .z) fun a w S => wp_seq_k fun _ hK4 => st_then S (.t rfl) (wp_skip (then_normal (hK4 _ _ (wp_seq_k fun _ hK4 => wp_block (sg S (.yy (ys_ixS (j := 0) underlying165 sizeOf164 (.t rfl) (.t rfl) (fun _ => by omega)) rfl <| .ld gt164 0 rfl rfl rfl <| .as rfl <| .z) fun a w S => wp_seq_k fun _ hK5 => wp_region_lit (run S (.mv rfl <| .mv rfl <| .z) fun a w S => ?_))))))
          (replace S := S.pull 4 rfl; try simp only [List.set_cons_zero, List.set_cons_succ, List.eraseIdx_cons_succ, List.eraseIdx_cons_zero] at S; replace S := S.pull 4 rfl; try simp only [List.set_cons_zero, List.set_cons_succ, List.eraseIdx_cons_succ, List.eraseIdx_cons_zero] at S; refine st_m (op_callO S call95 (.cons (.t rfl) .nil) (c95 S.wd (by first | assumption | omega | (dsimp only; omega) | exact Sl.nil_ | exact .old S.wd (by assumption) | exact Sl.of_own S.wd (k := 0) rfl (fun _ => rfl) | exact Sl.of_own S.wd (k := 1) rfl (fun _ => rfl) | exact Sl.of_own S.wd (k := 2) rfl (fun _ => rfl) | exact Sl.of_own S.wd (k := 3) rfl (fun _ => rfl) | exact Sl.of_own S.wd (k := 4) rfl (fun _ => rfl) | (simp at *; omega)) (by first | assumption | omega | (dsimp only; omega) | exact Sl.nil_ | exact .old S.wd (by assumption) | exact Sl.of_own S.wd (k := 0) rfl (fun _ => rfl) | exact Sl.of_own S.wd (k := 1) rfl (fun _ => rfl) | exact Sl.of_own S.wd (k := 2) rfl (fun _ => rfl) | exact Sl.of_own S.wd (k := 3) rfl (fun _ => rfl) | exact Sl.of_own S.wd (k := 4) rfl (fun _ => rfl) | (simp at *; omega))) rfl ?_) <;> clear S a w)
          rintro _ _ ⟨rfl, rfl⟩ a w S
          refine run S (.mv rfl <| .ex rfl rfl <| .ex rfl rfl <| .yy (ys_nilc (.t rfl)) rfl <| .z) fun a w S => st_m (op_st S sizeOf3 (.t rfl) (.t rfl) (k := 3) rfl rfl (by simp) fun a w S => run S (.as rfl <| .z) fun a w S => st_nil (then_normal (hK5 _ _ (sg S (.mv rfl <| .yy (ys_T (by omega) (ys_neq (.t rfl) Ev.c)) rfl <| .z) fun a w S => st_then S (.t rfl) (sg S (.mv rfl <| .ac rfl <| .as rfl <| .z) fun a w S => wp_ret (in_ret (then_ret (then_ret (in_ret (then_ret (in_ret (then_ret (then_ret (in_ret (then_ret (st_ret S (results2 S results137 (Rv.tmp rfl) (Rv.tmp rfl)) ?_))))))))))))))))
          rw [hla, ← hno]
          exact ⟨_, _, rfl, (S.nil_ 62 3 Dot.enc none).wd.pk, none, 0, rfl, rfl⟩
      · rw [show n - i = 0 by omega, dotsAt] at hno
        refine sg S (.ge (by omega) rfl rfl <| .z) fun a w S => wp_seq_k fun _ hK2 => st_else S (.t rfl) (wp_exit (then_exit (then_exit (in_here (then_normal (hK1 _ _ (sg S (.mv rfl <| .as rfl <| .ac rfl <| .z) fun a w S => wp_ret (st_ret S (results2 S results137 (Rv.tmp rfl) (Rv.tmp rfl)) ?_))))))))
        rw [hla, ← hno]
        exact ⟨_, _, rfl, S.wd.pk, D, cD, rfl, rfl⟩
  · unfold Go.Fw.RetsO
    refine enterW2 W func137 rfl ntmps137 rfl fun a S => sg S (.ac rfl <| .ac rfl <| .z) fun a w S => wp_seq_k fun _ hK1 => wp_region_lit (run S (.mv rfl <| .z) fun a w S => ?_)
    (refine st_m (op_callO S call95 (.cons (.t rfl) .nil) (c95 S.wd (by first | assumption | omega | (dsimp only; omega) | exact Sl.nil_ | exact .old S.wd (by assumption) | exact Sl.of_own S.wd (k := 0) rfl (fun _ => rfl) | exact Sl.of_own S.wd (k := 1) rfl (fun _ => rfl) | (simp at *; omega)) (by first | assumption | omega | (dsimp only; omega) | exact Sl.nil_ | exact .old S.wd (by assumption) | exact Sl.of_own S.wd (k := 0) rfl (fun _ => rfl) | exact Sl.of_own S.wd (k := 1) rfl (fun _ => rfl) | (simp at *; omega))) rfl ?_) <;> clear S a w)
    rintro _ _ ⟨rfl, rfl⟩ a w S
    refine run S (.mv rfl <| .ex rfl rfl <| .ex rfl rfl <| .as rfl <| .as rfl <| .z) fun a w S => st_nil (then_normal (hK1 _ _ (wp_seq_k fun _ hK1 => sg S (.mv rfl <| .yy (ys_T (by omega) (ys_neq (.t rfl) Ev.c)) rfl <| .z) fun a w S => st_then S (.t rfl) (sg S (.mv rfl <| .ac rfl <| .as rfl <| .z) fun a w S => wp_ret (then_ret (st_ret S (results2 S results137 (Rv.tmp rfl) (Rv.tmp rfl)) ?_))))))
    rw [show listAt b k = ([], (numAt b k).2.1, (numAt b k).2.2) by unfold listAt; rw [bindR_bad he]]
    exact ⟨_, _, rfl, (S.nil_ 62 3 Dot.enc none).wd.pk, none, 0, rfl, rfl⟩
theorem c122 {w0 w : World} {L : List Chunk} {g cap k : Nat} {A : Option Addr} {b : List UInt8} (W : Wd w0 (rdr g A cap b k L) w) (hk : k ≤ b.length) (hb : b.length ≤ 16777216) :
    RetsO Try.prog 122 #[.pointer (some ⟨g, 0, none⟩)] w0 w (fun v L' => ∃ B c B' c', v = .tuple #[.agg #[.slice B (ctxAt b k).1.marks.length c, .slice B' (ctxAt b k).1.cloud.length c'], .int .i64 (ctxAt b k).2.2] ∧ L' = rdr g A cap b (ctxAt b k).2.1 (rowOf 110 3 Dot.enc B c (ctxAt b k).1.marks :: rowOf 62 3 Dot.enc B' c' (ctxAt b k).1.cloud :: L)) := by
  have hp1 := listAt_le hk
  have hl1 := listAt_len b k
  by_cases e1 : (listAt b k).2.2 = 0
  · have hp2 := listAt_le hp1.2
    have hl2 := listAt_len b (listAt b k).2.1
    by_cases e2 : (listAt b (listAt b k).2.1).2.2 = 0
    · generalize hl : (listAt b k).1 = l at hl1
      generalize hm : (listAt b (listAt b k).2.1).1 = m at hl2
      have hc : ctxAt b k = if canL ⟨l, m⟩ then (⟨l, m⟩, (listAt b (listAt b k).2.1).2.1, 0) else (⟨[], []⟩, (listAt b (listAt b k).2.1).2.1, 30) := by unfold ctxAt; rw [bindR_ok e1, bindR_ok e2, hl, hm]
      have rw_l := hl
      have rw_m := hm
      unfold Go.Fw.RetsO
      refine enterW1 W func122 rfl ntmps122 rfl fun a S => wp_seq_k fun _ hK1 => wp_region_lit (st_m (op_alloc S zeroValue38 (cs := _) rfl rfl fun g1 a w S => run S (.ac rfl <| .z) fun a w S => st_nil (then_normal (hK1 _ _ (wp_seq_k fun _ hK1 => wp_region_lit (run S (.mv rfl <| .z) fun a w S => ?_))))))
      (replace S := S.pull 2 rfl; try simp only [List.set_cons_zero, List.set_cons_succ, List.eraseIdx_cons_succ, List.eraseIdx_cons_zero] at S; replace S := S.pull 2 rfl; try simp only [List.set_cons_zero, List.set_cons_succ, List.eraseIdx_cons_succ, List.eraseIdx_cons_zero] at S; refine st_m (op_callO S call137 (.cons (.t rfl) (.cons Ev.c .nil)) (c137 S.wd (by first | assumption | omega | (dsimp only; omega) | exact Sl.nil_ | exact .old S.wd (by assumption) | exact Sl.of_own S.wd (k := 0) rfl (fun _ => rfl) | exact Sl.of_own S.wd (k := 1) rfl (fun _ => rfl) | exact Sl.of_own S.wd (k := 2) rfl (fun _ => rfl) | (simp at *; omega)) (by first | assumption | omega | (dsimp only; omega) | exact Sl.nil_ | exact .old S.wd (by assumption) | exact Sl.of_own S.wd (k := 0) rfl (fun _ => rfl) | exact Sl.of_own S.wd (k := 1) rfl (fun _ => rfl) | exact Sl.of_own S.wd (k := 2) rfl (fun _ => rfl) | (simp at *; omega))) rfl ?_) <;> clear S a w)
      rintro _ _ ⟨B1, c1, rfl, rfl⟩ a w S
      rw [rw_l] at S
      refine run S (.mv rfl <| .ex rfl rfl <| .ex rfl rfl <| .as rfl <| .as rfl <| .z) fun a w S => st_nil (then_normal (hK1 _ _ (wp_seq_k fun _ hK1 => sg S (.mv rfl <| .yy (ys_F (by omega) (ys_neq (.t rfl) Ev.c)) rfl <| .z) fun a w S => st_else S (.t rfl) (wp_skip (then_normal (hK1 _ _ (wp_seq_k fun _ hK1 => wp_region_lit (run S (.mv rfl <| .z) fun a w S => ?_))))))))
      (refine st_m (op_callO S call137 (.cons (.t rfl) (.cons Ev.c .nil)) (c137 S.wd (by first | assumption | omega | (dsimp only; omega) | exact Sl.nil_ | exact .old S.wd (by assumption) | exact Sl.of_own S.wd (k := 0) rfl (fun _ => rfl) | exact Sl.of_own S.wd (k := 1) rfl (fun _ => rfl) | exact Sl.of_own S.wd (k := 2) rfl (fun _ => rfl) | exact Sl.of_own S.wd (k := 3) rfl (fun _ => rfl) | (simp at *; omega)) (by first | assumption | omega | (dsimp only; omega) | exact Sl.nil_ | exact .old S.wd (by assumption) | exact Sl.of_own S.wd (k := 0) rfl (fun _ => rfl) | exact Sl.of_own S.wd (k := 1) rfl (fun _ => rfl) | exact Sl.of_own S.wd (k := 2) rfl (fun _ => rfl) | exact Sl.of_own S.wd (k := 3) rfl (fun _ => rfl) | (simp at *; omega))) rfl ?_) <;> clear S a w)
      rintro _ _ ⟨B2, c2, rfl, rfl⟩ a w S
      rw [rw_m] at S
      refine run S (.mv rfl <| .ex rfl rfl <| .ex rfl rfl <| .as rfl <| .as rfl <| .z) fun a w S => st_nil (then_normal (hK1 _ _ (wp_seq_k fun _ hK1 => sg S (.mv rfl <| .yy (ys_F (by omega) (ys_neq (.t rfl) Ev.c)) rfl <| .z) fun a w S => st_else S (.t rfl) (wp_skip (then_normal (hK1 _ _ (wp_seq_k fun _ hK1 => wp_region_lit (run S (.mv rfl <| .yy (ys_bld (ps := [(1, Go.Operand.tmp 28)]) (us := [_, _]) bld38 (.cons (.t rfl) .nil) rfl) rfl <| .z) fun a w S => st_m (op_alloc S zeroValue38 (cs := _) rfl rfl fun g2 a w S => st_m (op_stW S sizeOf38 (.t rfl) (.t rfl) (k := 0) rfl rfl rfl (by simp [Value.oneCell']) fun a w S => st_nil (then_normal (hK1 _ _ (wp_seq_k fun _ hK1 => sg S (.mv rfl <| .ln underlying36 rfl <| .mc rfl <| .z) fun a w S => wp_block ?_)))))))))))))
      refine st_lpM (S.nil_ 110 3 Dot.enc none) [32] (X := Nat × Option Addr × Nat) (fun q => [(32, true, .int .i64 (q.1 : Int))])
        (fun q => rowOf 110 3 Dot.enc q.2.1 q.2.2 (l.take q.1) :: .blk g2 (.cells #[.slice q.2.1 (l.take q.1).length q.2.2, .slice B2 m.length c2] 38) :: rowOf 62 3 Dot.enc B1 c1 l :: rowOf 62 3 Dot.enc B2 c2 m :: .blk g1 (.cells #[.slice none 0 0, .slice none 0 0] 38) :: rdr g A cap b (listAt b (listAt b k).2.1).2.1 L)
        (fun q => q.1 ≤ l.length) (fun q => l.length - q.1) (0, none, 0) (Nat.zero_le _) ?_
      clear S
      intro ⟨i, D, cD⟩ a w hi S
      dsimp only at hi S
      by_cases hlt : i < l.length
      · obtain ⟨ga, rfl⟩ := S.wd.row_at (k := 2) rfl (by have := (S.wd.room (k := 2) rfl).1; omega)
        obtain ⟨x, hx⟩ : ∃ x, l[i]? = some x := ⟨l[i], by simp⟩
        have hlk : (l.take i).length ≤ 64 := by rw [List.length_take]; omega
        have et : l.take (i + 1) = l.take i ++ [x] := by rw [List.take_add_one, hx]; rfl
        refine sg S (.lt (by omega) rfl rfl <| .z) fun a w S => wp_seq_k fun _ hK2 => st_then S (.t rfl) (wp_skip (then_normal (hK2 _ _ (wp_seq_k fun _ hK2 => wp_block (wp_seq_k fun _ hK3 => wp_region_lit (run S (.ix underlying36 sizeOf62 (by omega) rfl rfl <| .yy (ys_ldWA ⟨isAgg62, sizeOf62⟩ (.t rfl) (k := 2) rfl hx (fun _ => rfl)) rfl <| .z) fun a w S => st_m (op_alloc S zeroValue62 (cs := _) rfl rfl fun g3 a w S => st_m (op_stW S sizeOf62 (.t rfl) (.t rfl) (k := 0) rfl rfl rfl (by simp [Value.oneCell']) fun a w S => st_nil (then_normal (hK3 _ _ (wp_region_lit (run S (.fa underlying38 sizeOf35 0 rfl rfl rfl <| .ld gt35 2 rfl rfl rfl <| .la gt62 0 rfl rfl rfl <| .z) fun a w S => st_m (op_bslice1 S underlying35 inf110 rfl rfl rfl (.t rfl) rfl rfl rfl fun g4 a w S => st_m (op_push S underlying35 inf110 rfl (k := 2) (j := 0) rfl (.t rfl) (.t rfl) rfl rfl rfl rfl (by first | omega | (simp only [List.length_append, List.length_cons, List.length_nil]; omega)) rfl rfl rfl fun A1 cap1 a w S => run S (.fa underlying38 sizeOf35 0 rfl rfl rfl <| .z) fun a w S => st_m (op_st S sizeOf35 (.t rfl) (.t rfl) (k := 3) rfl rfl (by simp) fun a w S => st_nil (in_normal (then_normal (hK2 _ _ (wp_region_lit (run S (.ad (by unfold I64; omega) rfl <| .mv rfl <| .z) fun a w S => st_nil (then_normal ?_)))))))))))))))))))))
        rw [← et] at S
        exact ⟨(i + 1, A1, cap1), by dsimp only; omega, by dsimp only; omega, S.pk⟩
      · have hend : i = l.length := by omega
        subst hend
        rw [List.take_length] at S
        cases hcn : canL ⟨l, m⟩ with
        | true =>
          have rw_c := hcn
          rw [hcn, if_pos rfl] at hc
          refine sg S (.ge (by omega) rfl rfl <| .z) fun a w S => wp_seq_k fun _ hK2 => st_else S (.t rfl) (wp_exit (then_exit (then_exit (in_here (then_normal (hK1 _ _ (wp_seq_k fun _ hK1 => wp_seq_k fun _ hK3 => wp_region_lit (run S (.la gt38 1 rfl rfl rfl <| .xx (ys_call call27 (.cons (.t rfl) .nil) (fun hp w W => c27 _ _ _ _ (by exact RdCtx.mk' (by exact Sl.of_own W (k := 0) rfl (fun _ => rfl)) (by exact Sl.of_own W (k := 3) rfl (fun _ => rfl))))) rfl <| .z) fun a w S => ?_))))))))
          rw [rw_c] at S
          refine run S (.nt rfl <| .z) fun a w S => st_nil (then_normal (hK3 _ _ (st_else S (.t rfl) (wp_skip (then_normal (hK1 _ _ (wp_seq_k fun _ hK1 => wp_region_lit (run S (.la gt38 1 rfl rfl rfl <| .z) fun a w S => st_m (op_stW S sizeOf38 (.t rfl) (.t rfl) (k := 4) rfl rfl rfl (by simp [Value.oneCell']) fun a w S => run S (.ac rfl <| .z) fun a w S => st_nil (then_normal (hK1 _ _ (wp_ret (st_ret S (results2 S results122 (Rv.cell (k := 4) ⟨isAgg38, sizeOf38⟩ rfl rfl rfl) (Rv.tmp rfl)) ?_)))))))))))))
          rw [hc]
          exact ⟨_, _, rfl, S.wd.pk, D, cD, B2, c2, rfl, rfl⟩
        | false =>
          have rw_c := hcn
          rw [hcn] at hc
          simp only [Bool.false_eq_true, if_false] at hc
          refine sg S (.ge (by omega) rfl rfl <| .z) fun a w S => wp_seq_k fun _ hK2 => st_else S (.t rfl) (wp_exit (then_exit (then_exit (in_here (then_normal (hK1 _ _ (wp_seq_k fun _ hK1 => wp_seq_k fun _ hK3 => wp_region_lit (run S (.la gt38 1 rfl rfl rfl <| .xx (ys_call call27 (.cons (.t rfl) .nil) (fun hp w W => c27 _ _ _ _ (by exact RdCtx.mk' (by exact Sl.of_own W (k := 0) rfl (fun _ => rfl)) (by exact Sl.of_own W (k := 3) rfl (fun _ => rfl))))) rfl <| .z) fun a w S => ?_))))))))
          rw [rw_c] at S
          refine run S (.nt rfl <| .z) fun a w S => st_nil (then_normal (hK3 _ _ (st_then S (.t rfl) (wp_seq_k fun _ hK3 => wp_region_lit (run S (.yy (ys_bld (ps := []) (us := [_, _]) bld38 .nil rfl) rfl <| .z) fun a w S => st_m (op_stW S sizeOf38 (.t rfl) (.t rfl) (k := 4) rfl rfl rfl (by simp [Value.oneCell']) fun a w S => run S (.ac rfl <| .z) fun a w S => st_nil (then_normal (hK3 _ _ (wp_ret (then_ret (st_ret S (results2 S results122 (Rv.cell (k := 4) ⟨isAgg38, sizeOf38⟩ rfl rfl rfl) (Rv.tmp rfl)) ?_)))))))))))
          rw [hc]
          exact ⟨_, _, rfl, ((S.nil_ 62 3 Dot.enc none).nil_ 110 3 Dot.enc none).wd.pk, none, 0, none, 0, rfl, rfl⟩
    · have hc : ctxAt b k = (⟨[], []⟩, (listAt b (listAt b k).2.1).2.1, (listAt b (listAt b k).2.1).2.2) := by unfold ctxAt; rw [bindR_ok e1, bindR_bad e2]
      unfold Go.Fw.RetsO
      refine enterW1 W func122 rfl ntmps122 rfl fun a S => wp_seq_k fun _ hK1 => wp_region_lit (st_m (op_alloc S zeroValue38 (cs := _) rfl rfl fun g1 a w S => run S (.ac rfl <| .z) fun a w S => st_nil (then_normal (hK1 _ _ (wp_seq_k fun _ hK1 => wp_region_lit (run S (.mv rfl <| .z) fun a w S => ?_))))))
      (replace S := S.pull 2 rfl; try simp only [List.set_cons_zero, List.set_cons_succ, List.eraseIdx_cons_succ, List.eraseIdx_cons_zero] at S; replace S := S.pull 2 rfl; try simp only [List.set_cons_zero, List.set_cons_succ, List.eraseIdx_cons_succ, List.eraseIdx_cons_zero] at S; refine st_m (op_callO S call137 (.cons (.t rfl) (.cons Ev.c .nil)) (c137 S.wd (by first | assumption | omega | (dsimp only; omega) | exact Sl.nil_ | exact .old S.wd (by assumption) | exact Sl.of_own S.wd (k := 0) rfl (fun _ => rfl) | exact Sl.of_own S.wd (k := 1) rfl (fun _ => rfl) | exact Sl.of_own S.wd (k := 2) rfl (fun _ => rfl) | (simp at *; omega)) (by first | assumption | omega | (dsimp only; omega) | exact Sl.nil_ | exact .old S.wd (by assumption) | exact Sl.of_own S.wd (k := 0) rfl (fun _ => rfl) | exact Sl.of_own S.wd (k := 1) rfl (fun _ => rfl) | exact Sl.of_own S.wd (k := 2) rfl (fun _ => rfl) | (simp at *; omega))) rfl ?_) <;> clear S a w)
      rintro _ _ ⟨B1, c1, rfl, rfl⟩ a w S
      refine run S (.mv rfl <| .ex rfl rfl <| .ex rfl rfl <| .as rfl <| .as rfl <| .z) fun a w S => st_nil (then_normal (hK1 _ _ (wp_seq_k fun _ hK1 => sg S (.mv rfl <| .yy (ys_F (by omega) (ys_neq (.t rfl) Ev.c)) rfl <| .z) fun a w S => st_else S (.t rfl) (wp_skip (then_normal (hK1 _ _ (wp_seq_k fun _ hK1 => wp_region_lit (run S (.mv rfl <| .z) fun a w S => ?_))))))))
      (refine st_m (op_callO S call137 (.cons (.t rfl) (.cons Ev.c .nil)) (c137 S.wd (by first | assumption | omega | (dsimp only; omega) | exact Sl.nil_ | exact .old S.wd (by assumption) | exact Sl.of_own S.wd (k := 0) rfl (fun _ => rfl) | exact Sl.of_own S.wd (k := 1) rfl (fun _ => rfl) | exact Sl.of_own S.wd (k := 2) rfl (fun _ => rfl) | exact Sl.of_own S.wd (k := 3) rfl (fun _ => rfl) | (simp at *; omega)) (by first | assumption | omega | (dsimp only; omega) | exact Sl.nil_ | exact .old S.wd (by assumption) | exact Sl.of_own S.wd (k := 0) rfl (fun _ => rfl) | exact Sl.of_own S.wd (k := 1) rfl (fun _ => rfl) | exact Sl.of_own S.wd (k := 2) rfl (fun _ => rfl) | exact Sl.of_own S.wd (k := 3) rfl (fun _ => rfl) | (simp at *; omega))) rfl ?_) <;> clear S a w)
      rintro _ _ ⟨B2, c2, rfl, rfl⟩ a w S
      refine run S (.mv rfl <| .ex rfl rfl <| .ex rfl rfl <| .as rfl <| .as rfl <| .z) fun a w S => st_nil (then_normal (hK1 _ _ (wp_seq_k fun _ hK1 => sg S (.mv rfl <| .yy (ys_T (by omega) (ys_neq (.t rfl) Ev.c)) rfl <| .z) fun a w S => st_then S (.t rfl) (wp_seq_k fun _ hK2 => wp_region_lit (run S (.yy (ys_bld (ps := []) (us := [_, _]) bld38 .nil rfl) rfl <| .mv rfl <| .z) fun a w S => st_m (op_stW S sizeOf38 (.t rfl) (.t rfl) (k := 4) rfl rfl rfl (by simp [Value.oneCell']) fun a w S => run S (.as rfl <| .z) fun a w S => st_nil (then_normal (hK2 _ _ (wp_ret (then_ret (st_ret S (results2 S results122 (Rv.cell (k := 4) ⟨isAgg38, sizeOf38⟩ rfl rfl rfl) (Rv.tmp rfl)) ?_)))))))))))
      rw [hc]
      exact ⟨_, _, rfl, ((S.nil_ 62 3 Dot.enc none).nil_ 110 3 Dot.enc none).wd.pk, none, 0, none, 0, rfl, rfl⟩
  · have hc : ctxAt b k = (⟨[], []⟩, (listAt b k).2.1, (listAt b k).2.2) := by unfold ctxAt; rw [bindR_bad e1]
    unfold Go.Fw.RetsO
    refine enterW1 W func122 rfl ntmps122 rfl fun a S => wp_seq_k fun _ hK1 => wp_region_lit (st_m (op_alloc S zeroValue38 (cs := _) rfl rfl fun g1 a w S => run S (.ac rfl <| .z) fun a w S => st_nil (then_normal (hK1 _ _ (wp_seq_k fun _ hK1 => wp_region_lit (run S (.mv rfl <| .z) fun a w S => ?_))))))
    (replace S := S.pull 2 rfl; try simp only [List.set_cons_zero, List.set_cons_succ, List.eraseIdx_cons_succ, List.eraseIdx_cons_zero] at S; replace S := S.pull 2 rfl; try simp only [List.set_cons_zero, List.set_cons_succ, List.eraseIdx_cons_succ, List.eraseIdx_cons_zero] at S; refine st_m (op_callO S call137 (.cons (.t rfl) (.cons Ev.c .nil)) (c137 S.wd (by first | assumption | omega | (dsimp only; omega) | exact Sl.nil_ | exact .old S.wd (by assumption) | exact Sl.of_own S.wd (k := 0) rfl (fun _ => rfl) | exact Sl.of_own S.wd (k := 1) rfl (fun _ => rfl) | exact Sl.of_own S.wd (k := 2) rfl (fun _ => rfl) | (simp at *; omega)) (by first | assumption | omega | (dsimp only; omega) | exact Sl.nil_ | exact .old S.wd (by assumption) | exact Sl.of_own S.wd (k := 0) rfl (fun _ => rfl) | exact Sl.of_own S.wd (k := 1) rfl (fun _ => rfl) | exact Sl.of_own S.wd (k := 2) rfl (fun _ => rfl) | (simp at *; omega))) rfl ?_) <;> clear S a w)
    rintro _ _ ⟨B1, c1, rfl, rfl⟩ a w S
    refine run S (.mv rfl <| .ex rfl rfl <| .ex rfl rfl <| .as rfl <| .as rfl <| .z) fun a w S => st_nil (then_normal (hK1 _ _ (wp_seq_k fun _ hK1 => sg S (.mv rfl <| .yy (ys_T (by omega) (ys_neq (.t rfl) Ev.c)) rfl <| .z) fun a w S => st_then S (.t rfl) (wp_seq_k fun _ hK2 => wp_region_lit (run S (.yy (ys_bld (ps := []) (us := [_, _]) bld38 .nil rfl) rfl <| .mv rfl <| .z) fun a w S => st_m (op_stW S sizeOf38 (.t rfl) (.t rfl) (k := 3) rfl rfl rfl (by simp [Value.oneCell']) fun a w S => run S (.as rfl <| .z) fun a w S => st_nil (then_normal (hK2 _ _ (wp_ret (then_ret (st_ret S (results2 S results122 (Rv.cell (k := 3) ⟨isAgg38, sizeOf38⟩ rfl rfl rfl) (Rv.tmp rfl)) ?_)))))))))))
    rw [hc]
    exact ⟨_, _, rfl, ((S.nil_ 62 3 Dot.enc none).nil_ 110 3 Dot.enc none).wd.pk, none, 0, none, 0, rfl, rfl⟩
theorem c97 {w0 w : World} {L : List Chunk} {g cap k : Nat} {A : Option Addr} {b : List UInt8} (W : Wd w0 (rdr g A cap b k L) w) (hk : k ≤ b.length) (hb : b.length ≤ 16777216) :
    RetsO Try.prog 97 #[.pointer (some ⟨g, 0, none⟩)] w0 w (fun v L' => ∃ B c B' c', v = .tuple #[.agg #[.slice B (decAt b k).1.marks.length c, .slice B' (decAt b k).1.cloud.length c'], .int .i64 (decAt b k).2.2] ∧ L' = rdr g A cap b (decAt b k).2.1 (rowOf 110 3 Dot.enc B c (decAt b k).1.marks :: rowOf 62 3 Dot.enc B' c' (decAt b k).1.cloud :: L)) := by
  by_cases e : (ctxAt b k).2.2 = 0
  · have hc : decAt b k = ctxAt b k := by unfold decAt; rw [if_pos e]
    unfold Go.Fw.RetsO
    refine enterW1 W func97 rfl ntmps97 rfl fun a S => wp_seq_k fun _ hK1 => wp_region_lit (st_m (op_alloc S zeroValue38 (cs := _) rfl rfl fun g1 a w S => run S (.ac rfl <| .z) fun a w S => st_nil (then_normal (hK1 _ _ (wp_seq_k fun _ hK1 => sg S (.mv rfl <| .yy (ys_pNilS underlying133 (.t rfl) Ev.c) rfl <| .z) fun a w S => st_else S (.t rfl) (wp_skip (then_normal (hK1 _ _ (wp_seq_k fun _ hK1 => wp_region_lit (run S (.mv rfl <| .yy (ys_nilc (.t rfl)) rfl <| .la gt160 1 rfl rfl rfl <| .z) fun a w S => st_m (op_alloc S zeroValue160 (cs := _) rfl rfl fun g2 a w S => st_m (op_stW S sizeOf160 (.t rfl) (.t rfl) (k := 0) rfl rfl rfl (by simp [Value.oneCell']) fun a w S => st_nil (then_normal (hK1 _ _ (wp_seq_k fun _ hK1 => wp_region_lit (run S (.mv rfl <| .z) fun a w S => ?_))))))))))))))))
    (replace S := S.pull 3 rfl; try simp only [List.set_cons_zero, List.set_cons_succ, List.eraseIdx_cons_succ, List.eraseIdx_cons_zero] at S; replace S := S.pull 3 rfl; try simp only [List.set_cons_zero, List.set_cons_succ, List.eraseIdx_cons_succ, List.eraseIdx_cons_zero] at S; refine st_m (op_callO S call122 (.cons (.t rfl) .nil) (c122 S.wd (by first | assumption | omega | (dsimp only; omega) | exact Sl.nil_ | exact .old S.wd (by assumption) | exact Sl.of_own S.wd (k := 0) rfl (fun _ => rfl) | exact Sl.of_own S.wd (k := 1) rfl (fun _ => rfl) | exact Sl.of_own S.wd (k := 2) rfl (fun _ => rfl) | exact Sl.of_own S.wd (k := 3) rfl (fun _ => rfl) | (simp at *; omega)) (by first | assumption | omega | (dsimp only; omega) | exact Sl.nil_ | exact .old S.wd (by assumption) | exact Sl.of_own S.wd (k := 0) rfl (fun _ => rfl) | exact Sl.of_own S.wd (k := 1) rfl (fun _ => rfl) | exact Sl.of_own S.wd (k := 2) rfl (fun _ => rfl) | exact Sl.of_own S.wd (k := 3) rfl (fun _ => rfl) | (simp at *; omega))) rfl ?_) <;> clear S a w)
    rintro _ _ ⟨B1, c1, B'1, c'1, rfl, rfl⟩ a w S
    refine run S (.mv rfl <| .ex rfl rfl <| .ex rfl rfl <| .z) fun a w S => st_m (op_alloc S zeroValue38 (cs := _) rfl rfl fun g3 a w S => st_m (op_stW S sizeOf38 (.t rfl) (.t rfl) (k := 0) rfl rfl rfl (by simp [Value.oneCell']) fun a w S => run S (.as rfl <| .z) fun a w S => st_nil (then_normal (hK1 _ _ (wp_seq_k fun _ hK1 => sg S (.mv rfl <| .yy (ys_F (by omega) (ys_neq (.t rfl) Ev.c)) rfl <| .z) fun a w S => st_else S (.t rfl) (wp_skip (then_normal (hK1 _ _ (wp_seq_k fun _ hK1 => wp_region_lit (run S (.la gt38 0 rfl rfl rfl <| .z) fun a w S => st_m (op_stW S sizeOf38 (.t rfl) (.t rfl) (k := 6) rfl rfl rfl (by simp [Value.oneCell']) fun a w S => run S (.ac rfl <| .z) fun a w S => st_nil (then_normal (hK1 _ _ (wp_ret (st_ret S (results2 S results97 (Rv.cell (k := 6) ⟨isAgg38, sizeOf38⟩ rfl rfl rfl) (Rv.tmp rfl)) ?_)))))))))))))))
    rw [hc, e]
    exact ⟨_, _, rfl, S.wd.pk, _, _, _, _, rfl, rfl⟩
  · have hc : decAt b k = (⟨[], []⟩, k, (ctxAt b k).2.2) := by unfold decAt; rw [if_neg e]
    unfold Go.Fw.RetsO
    refine enterW1 W func97 rfl ntmps97 rfl fun a S => wp_seq_k fun _ hK1 => wp_region_lit (st_m (op_alloc S zeroValue38 (cs := _) rfl rfl fun g1 a w S => run S (.ac rfl <| .z) fun a w S => st_nil (then_normal (hK1 _ _ (wp_seq_k fun _ hK1 => sg S (.mv rfl <| .yy (ys_pNilS underlying133 (.t rfl) Ev.c) rfl <| .z) fun a w S => st_else S (.t rfl) (wp_skip (then_normal (hK1 _ _ (wp_seq_k fun _ hK1 => wp_region_lit (run S (.mv rfl <| .yy (ys_nilc (.t rfl)) rfl <| .la gt160 1 rfl rfl rfl <| .z) fun a w S => st_m (op_alloc S zeroValue160 (cs := _) rfl rfl fun g2 a w S => st_m (op_stW S sizeOf160 (.t rfl) (.t rfl) (k := 0) rfl rfl rfl (by simp [Value.oneCell']) fun a w S => st_nil (then_normal (hK1 _ _ (wp_seq_k fun _ hK1 => wp_region_lit (run S (.mv rfl <| .z) fun a w S => ?_))))))))))))))))
    (replace S := S.pull 3 rfl; try simp only [List.set_cons_zero, List.set_cons_succ, List.eraseIdx_cons_succ, List.eraseIdx_cons_zero] at S; replace S := S.pull 3 rfl; try simp only [List.set_cons_zero, List.set_cons_succ, List.eraseIdx_cons_succ, List.eraseIdx_cons_zero] at S; refine st_m (op_callO S call122 (.cons (.t rfl) .nil) (c122 S.wd (by first | assumption | omega | (dsimp only; omega) | exact Sl.nil_ | exact .old S.wd (by assumption) | exact Sl.of_own S.wd (k := 0) rfl (fun _ => rfl) | exact Sl.of_own S.wd (k := 1) rfl (fun _ => rfl) | exact Sl.of_own S.wd (k := 2) rfl (fun _ => rfl) | exact Sl.of_own S.wd (k := 3) rfl (fun _ => rfl) | (simp at *; omega)) (by first | assumption | omega | (dsimp only; omega) | exact Sl.nil_ | exact .old S.wd (by assumption) | exact Sl.of_own S.wd (k := 0) rfl (fun _ => rfl) | exact Sl.of_own S.wd (k := 1) rfl (fun _ => rfl) | exact Sl.of_own S.wd (k := 2) rfl (fun _ => rfl) | exact Sl.of_own S.wd (k := 3) rfl (fun _ => rfl) | (simp at *; omega))) rfl ?_) <;> clear S a w)
    rintro _ _ ⟨B1, c1, B'1, c'1, rfl, rfl⟩ a w S
    refine run S (.mv rfl <| .ex rfl rfl <| .ex rfl rfl <| .z) fun a w S => st_m (op_alloc S zeroValue38 (cs := _) rfl rfl fun g3 a w S => st_m (op_stW S sizeOf38 (.t rfl) (.t rfl) (k := 0) rfl rfl rfl (by simp [Value.oneCell']) fun a w S => run S (.as rfl <| .z) fun a w S => st_nil (then_normal (hK1 _ _ (wp_seq_k fun _ hK1 => sg S (.mv rfl <| .yy (ys_T (by omega) (ys_neq (.t rfl) Ev.c)) rfl <| .z) fun a w S => st_then S (.t rfl) (wp_seq_k fun _ hK2 => wp_region_lit (run S (.mv rfl <| .la gt160 5 rfl rfl rfl <| .yy (ys_nilc (.t rfl)) rfl <| .z) fun a w S => st_m (op_stW S sizeOf160 (.t rfl) (.t rfl) (k := 1) rfl rfl rfl (by simp [Value.oneCell']) fun a w S => st_nil (then_normal (hK2 _ _ (wp_seq_k fun _ hK2 => wp_region_lit (run S (.yy (ys_bld (ps := []) (us := [_, _]) bld38 .nil rfl) rfl <| .mv rfl <| .z) fun a w S => st_m (op_stW S sizeOf38 (.t rfl) (.t rfl) (k := 6) rfl rfl rfl (by simp [Value.oneCell']) fun a w S => run S (.as rfl <| .z) fun a w S => st_nil (then_normal (hK2 _ _ (wp_ret (then_ret (st_ret S (results2 S results97 (Rv.cell (k := 6) ⟨isAgg38, sizeOf38⟩ rfl rfl rfl) (Rv.tmp rfl)) ?_))))))))))))))))))
    rw [hc]
    exact ⟨_, _, rfl, ((S.nil_ 62 3 Dot.enc none).nil_ 110 3 Dot.enc none).wd.pk, none, 0, none, 0, rfl, rfl⟩
end Go.Proofs.Ytfblmkocmnbdcaa
set_option linter.unusedVariables false
set_option linter.unusedSimpArgs false
set_option maxRecDepth 100000
set_option maxHeartbeats 4000000
namespace Go.Fw
theorem wrap_u64n {n : Nat} (h : n < 18446744073709551616) : IntKind.u64.wrap (n : Int) = (n : Int) := by
  simp only [IntKind.wrap, IntKind.signed, IntKind.bits]
  simp
  omega
theorem pow_le8 {y i : Nat} (hy : y < 256) (hi : i < 8) : y * 256 ^ i < 18446744073709551616 := by
  have h1 : 256 ^ i ≤ 256 ^ 7 := Nat.pow_le_pow_right (by omega) (by omega)
  have h2 : y * 256 ^ i ≤ 255 * 256 ^ 7 := Nat.mul_le_mul (by omega) h1
  have h3 : 255 * 256 ^ 7 < 18446744073709551616 := by decide
  omega
theorem pow_28 (i : Nat) : (2 : Int) ^ (8 * i) = ((256 ^ i : Nat) : Int) := by
  rw [Int.pow_mul]; simp
theorem shl_le {y i : Nat} (hy : y < 256) (hi : i < 8) : IntKind.u64.wrap ((y : Int) * 2 ^ (8 * i)) = ((y * 256 ^ i : Nat) : Int) := by
  rw [pow_28, ← Int.natCast_mul]
  exact wrap_u64n (pow_le8 hy hi)
theorem or_le {m y i : Nat} (hm : m < 256 ^ i) (hy : y < 256) (hi : i < 8) : orK .u64 (m : Int) ((y * 256 ^ i : Nat) : Int) = ((m + y * 256 ^ i : Nat) : Int) := by
  have h1 := pow_le8 hy hi
  have h2 : 256 ^ i ≤ 256 ^ 7 := Nat.pow_le_pow_right (by omega) (by omega)
  have h3 : (256 : Nat) ^ 7 < 18446744073709551616 := by decide
  have e : m ||| y * 256 ^ i = m + y * 256 ^ i := by
    have hp : (256 : Nat) ^ i = 2 ^ (8 * i) := by rw [Nat.pow_mul]
    rw [hp] at hm ⊢
    have := Nat.shiftLeft_add_eq_or_of_lt (a := y) hm
    rw [Nat.shiftLeft_eq] at this
    rw [Nat.or_comm, ← this, Nat.add_comm]
  have h4 : m + y * 256 ^ i < 18446744073709551616 := by
    have h5 : (y + 1) * 256 ^ i ≤ 256 * 256 ^ 7 := Nat.mul_le_mul (by omega) h2
    have h6 : (256 : Nat) * 256 ^ 7 = 18446744073709551616 := by decide
    rw [Nat.add_mul, Nat.one_mul] at h5
    omega
  unfold orK
  rw [ofInt_nat, ofInt_nat, BitVec.toNat_or, BitVec.toNat_ofNat, BitVec.toNat_ofNat, show IntKind.u64.bits = 64 from rfl, Nat.mod_eq_of_lt (by omega), Nat.mod_eq_of_lt (by omega), e]
  exact wrap_u64n h4
end Go.Fw
namespace Go.Proofs.Ytfblmkocmnbdcaa
open Go.Fw Go.Proofs Go.RowKit Go.Proofs.Try
def EntRd (b : List UInt8) (k : Nat) (x : Ent) (k' : Nat) : Prop := k' ≤ b.length ∧ ((entAt b k).2.2 = 0 → x = (entAt b k).1 ∧ k' = (entAt b k).2.1)
theorem c96 {w0 w : World} {L : List Chunk} {g cap k : Nat} {A : Option Addr} {b : List UInt8} (W : Wd w0 (rdr g A cap b k L) w) (hk : k ≤ b.length) (hb : b.length ≤ 16777216) :
    RetsO Try.prog 96 #[.pointer (some ⟨g, 0, none⟩)] w0 w (fun v L' => ∃ x k', v = .tuple #[.agg (Ent.enc x).toArray, .int .i64 (entAt b k).2.2] ∧ L' = rdr g A cap b k' L ∧ EntRd b k x k') := by
  have t1 := textR_le (most := 32) hk
  obtain ⟨s, k1, e, hT⟩ : ∃ s k1 e, textR b k 32 = (s, k1, e) := ⟨_, _, _, rfl⟩
  have rw_T1 : (textR b k 32).1 = s := by rw [hT]
  have rw_T2 : (textR b k 32).2.1 = k1 := by rw [hT]
  have rw_T3 : (textR b k 32).2.2 = e := by rw [hT]
  rw [rw_T2] at t1
  by_cases e0 : e = 0
  rotate_left
  · have rw_d : decide (e ≠ 0) = true := decide_eq_true e0
    unfold Go.Fw.RetsO
    refine enterW1 W Try.func96 rfl Try.ntmps96 rfl fun a S => ?_
    refine wp_seq_k fun _ hK1 => ?_
    refine wp_region_lit ?_
    (refine st_m (op_alloc S Try.zeroValue74 (cs := _) rfl rfl ?_); clear S a; intro g1 a w S)
    (refine st_y S (Yr.ys (ys_assign Ev.c)) rfl ?_; clear S a w; intro a w S)
    refine st_nil ?_
    (refine (then_normal (hK1 _ _ ?_)); clear hK1)
    refine wp_seq_k fun _ hK1 => ?_
    refine wp_region_lit ?_
    (refine st_m (op_alloc S Try.zeroValue74 (cs := _) rfl rfl ?_); clear S a w; intro g2 a w S)
    refine st_nil ?_
    (refine (then_normal (hK1 _ _ ?_)); clear hK1)
    refine wp_seq_k fun _ hK1 => ?_
    refine wp_region_lit ?_
    (refine st_y S (Yr.ys (ys_move (Ev.t rfl))) rfl ?_; clear S a w; intro a w S)
    (replace S := S.pull 3 rfl; try simp only [List.set_cons_zero, List.set_cons_succ, List.eraseIdx_cons_succ, List.eraseIdx_cons_zero] at S; replace S := S.pull 3 rfl; try simp only [List.set_cons_zero, List.set_cons_succ, List.eraseIdx_cons_succ, List.eraseIdx_cons_zero] at S; refine st_m (op_callO S Try.call120 (EvL.cons (Ev.t rfl) (EvL.cons Ev.c EvL.nil)) (c120 S.wd (by first | assumption | omega | (dsimp only; omega) | exact Sl.nil_ | exact .old S.wd (by assumption) | exact Sl.of_own S.wd (k := 0) rfl (fun _ => rfl) | exact Sl.of_own S.wd (k := 1) rfl (fun _ => rfl) | exact Sl.of_own S.wd (k := 2) rfl (fun _ => rfl) | exact Sl.of_own S.wd (k := 3) rfl (fun _ => rfl) | (simp at *; omega)) (by first | assumption | omega | (dsimp only; omega) | exact Sl.nil_ | exact .old S.wd (by assumption) | exact Sl.of_own S.wd (k := 0) rfl (fun _ => rfl) | exact Sl.of_own S.wd (k := 1) rfl (fun _ => rfl) | exact Sl.of_own S.wd (k := 2) rfl (fun _ => rfl) | exact Sl.of_own S.wd (k := 3) rfl (fun _ => rfl) | (simp at *; omega))) rfl ?_) <;> clear S a w)
    rintro _ _ ⟨rfl, rfl⟩ a w S
    rw [rw_T1] at S
    rw [rw_T2] at S
    rw [rw_T3] at S
    (refine st_y S (Yr.ys (ys_move (Ev.t rfl))) rfl ?_; clear S a w; intro a w S)
    (refine st_y S (Yr.ys (ys_ext (Ev.t rfl) rfl)) rfl ?_; clear S a w; intro a w S)
    (refine st_y S (Yr.ys (ys_ext (Ev.t rfl) rfl)) rfl ?_; clear S a w; intro a w S)
    (refine st_y S (Yr.ys (ys_assign (Ev.t rfl))) rfl ?_; clear S a w; intro a w S)
    (refine st_y S (Yr.ys (ys_assign (Ev.t rfl))) rfl ?_; clear S a w; intro a w S)
    refine st_nil ?_
    (refine (then_normal (hK1 _ _ ?_)); clear hK1)
    refine wp_seq_k fun _ hK1 => ?_
    refine wp_seq_k fun _ hK2 => ?_
    refine wp_region_lit ?_
    (refine st_y S (Yr.ys (ys_move (Ev.t rfl))) rfl ?_; clear S a w; intro a w S)
    (refine st_y S (Yr.ys (ys_T (by omega) (ys_neq (Ev.t rfl) Ev.c))) rfl ?_; clear S a w; intro a w S)
    refine st_nil ?_
    (refine (then_normal (hK2 _ _ ?_)); clear hK2)
    refine st_then S (Ev.t rfl) ?_
    refine wp_seq_k fun _ hK2 => ?_
    refine wp_region_lit ?_
    (refine st_y S (Yr.ys (ys_ldA ⟨Try.isAgg74, Try.sizeOf74⟩ (Ev.t rfl) (k := 2) rfl rfl)) rfl ?_; clear S a w; intro a w S)
    (refine st_y S (Yr.ys (ys_move (Ev.t rfl))) rfl ?_; clear S a w; intro a w S)
    (refine st_m (op_stW S Try.sizeOf74 (Ev.t rfl) (Ev.t rfl) (k := 3) rfl rfl rfl (by simp [Value.oneCell']) ?_); clear S a w; intro a w S)
    (refine st_y S (Yr.ys (ys_assign (Ev.t rfl))) rfl ?_; clear S a w; intro a w S)
    refine st_nil ?_
    (refine (then_normal (hK2 _ _ ?_)); clear hK2)
    refine wp_ret ?_
    refine (then_ret ?_)
    refine st_ret S (results2 S Try.results96 (Rv.cell (k := 3) ⟨Try.isAgg74, Try.sizeOf74⟩ rfl rfl rfl) (Rv.tmp rfl)) ?_
    refine ⟨_, _, rfl, S.wd.picks (L' := rdr g A cap b k1 L) (by repeat (first | exact Picks.nil | (refine Picks.rest ?_; (repeat (first | exact List.Sublist.refl _ | refine List.Sublist.cons_cons _ ?_ | refine List.Sublist.cons _ ?_)); done) | refine Picks.take 0 rfl ?_ | refine Picks.take 1 rfl ?_ | refine Picks.take 2 rfl ?_ | refine Picks.take 3 rfl ?_ | refine Picks.take 4 rfl ?_ | refine Picks.take 5 rfl ?_ | refine Picks.take 6 rfl ?_ | refine Picks.take 7 rfl ?_ | refine Picks.take 8 rfl ?_ | refine Picks.take 9 rfl ?_ | refine Picks.take 10 rfl ?_ | refine Picks.take 11 rfl ?_)), ⟨[], ⟨0, 0, 0⟩, 0, 0⟩, k1, ?_, rfl, t1.2, fun h => absurd h ?_⟩
    · unfold entAt; rw [bindR_bad (by rw [rw_T3]; exact e0), rw_T3]; rfl
    · unfold entAt; rw [bindR_bad (by rw [rw_T3]; exact e0), rw_T3]; exact e0
  subst e0
  obtain ⟨x1, k2, e1, hN1⟩ : ∃ x k e, numAt b k1 = (x, k, e) := ⟨_, _, _, rfl⟩
  have t2 := numAt_le (b := b) (k := k1) (by omega)
  have rw_N1a : (numAt b k1).1 = x1 := by rw [hN1]
  have rw_N1b : (numAt b k1).2.1 = k2 := by rw [hN1]
  have rw_N1c : (numAt b k1).2.2 = e1 := by rw [hN1]
  rw [rw_N1b] at t2
  have he1 : e1 ≠ 0 → (entAt b k).2.2 = e1 := fun h => by
    unfold entAt
    rw [hT, bindR_ok rfl]
    dsimp only
    rw [hN1, bindR_bad (by exact h)]
  by_cases h1 : e1 = 0
  rotate_left
  · have rw_d : decide (e1 ≠ 0) = true := decide_eq_true h1
    unfold Go.Fw.RetsO
    refine enterW1 W Try.func96 rfl Try.ntmps96 rfl fun a S => ?_
    refine wp_seq_k fun _ hK1 => ?_
    refine wp_region_lit ?_
    (refine st_m (op_alloc S Try.zeroValue74 (cs := _) rfl rfl ?_); clear S a; intro g1 a w S)
    (refine st_y S (Yr.ys (ys_assign Ev.c)) rfl ?_; clear S a w; intro a w S)
    refine st_nil ?_
    (refine (then_normal (hK1 _ _ ?_)); clear hK1)
    refine wp_seq_k fun _ hK1 => ?_
    refine wp_region_lit ?_
    (refine st_m (op_alloc S Try.zeroValue74 (cs := _) rfl rfl ?_); clear S a w; intro g2 a w S)
    refine st_nil ?_
    (refine (then_normal (hK1 _ _ ?_)); clear hK1)
    refine wp_seq_k fun _ hK1 => ?_
    refine wp_region_lit ?_
    (refine st_y S (Yr.ys (ys_move (Ev.t rfl))) rfl ?_; clear S a w; intro a w S)
    (replace S := S.pull 3 rfl; try simp only [List.set_cons_zero, List.set_cons_succ, List.eraseIdx_cons_succ, List.eraseIdx_cons_zero] at S; replace S := S.pull 3 rfl; try simp only [List.set_cons_zero, List.set_cons_succ, List.eraseIdx_cons_succ, List.eraseIdx_cons_zero] at S; refine st_m (op_callO S Try.call120 (EvL.cons (Ev.t rfl) (EvL.cons Ev.c EvL.nil)) (c120 S.wd (by first | assumption | omega | (dsimp only; omega) | exact Sl.nil_ | exact .old S.wd (by assumption) | exact Sl.of_own S.wd (k := 0) rfl (fun _ => rfl) | exact Sl.of_own S.wd (k := 1) rfl (fun _ => rfl) | exact Sl.of_own S.wd (k := 2) rfl (fun _ => rfl) | exact Sl.of_own S.wd (k := 3) rfl (fun _ => rfl) | (simp at *; omega)) (by first | assumption | omega | (dsimp only; omega) | exact Sl.nil_ | exact .old S.wd (by assumption) | exact Sl.of_own S.wd (k := 0) rfl (fun _ => rfl) | exact Sl.of_own S.wd (k := 1) rfl (fun _ => rfl) | exact Sl.of_own S.wd (k := 2) rfl (fun _ => rfl) | exact Sl.of_own S.wd (k := 3) rfl (fun _ => rfl) | (simp at *; omega))) rfl ?_) <;> clear S a w)
    rintro _ _ ⟨rfl, rfl⟩ a w S
    rw [rw_T1] at S
    rw [rw_T2] at S
    rw [rw_T3] at S
    (refine st_y S (Yr.ys (ys_move (Ev.t rfl))) rfl ?_; clear S a w; intro a w S)
    (refine st_y S (Yr.ys (ys_ext (Ev.t rfl) rfl)) rfl ?_; clear S a w; intro a w S)
    (refine st_y S (Yr.ys (ys_ext (Ev.t rfl) rfl)) rfl ?_; clear S a w; intro a w S)
    (refine st_y S (Yr.ys (ys_assign (Ev.t rfl))) rfl ?_; clear S a w; intro a w S)
    (refine st_y S (Yr.ys (ys_assign (Ev.t rfl))) rfl ?_; clear S a w; intro a w S)
    refine st_nil ?_
    (refine (then_normal (hK1 _ _ ?_)); clear hK1)
    refine wp_seq_k fun _ hK1 => ?_
    refine wp_seq_k fun _ hK2 => ?_
    refine wp_region_lit ?_
    (refine st_y S (Yr.ys (ys_move (Ev.t rfl))) rfl ?_; clear S a w; intro a w S)
    (refine st_y S (Yr.ys (ys_F (by omega) (ys_neq (Ev.t rfl) Ev.c))) rfl ?_; clear S a w; intro a w S)
    refine st_nil ?_
    (refine (then_normal (hK2 _ _ ?_)); clear hK2)
    refine st_else S (Ev.t rfl) ?_
    refine wp_skip ?_
    (refine (then_normal (hK1 _ _ ?_)); clear hK1)
    refine wp_seq_k fun _ hK1 => ?_
    refine wp_region_lit ?_
    (refine st_y S (Yr.ys (ys_move (Ev.t rfl))) rfl ?_; clear S a w; intro a w S)
    (refine st_y S (Yr.ys (ys_fieldN (FieldT.mk Try.underlying74 rfl Try.sizeOf9 rfl) (Ev.t rfl) (i' := 0) rfl)) rfl ?_; clear S a w; intro a w S)
    (refine st_m (op_st S Try.sizeOf9 (Ev.t rfl) (Ev.t rfl) (k := 2) rfl rfl (by simp) ?_); clear S a w; intro a w S)
    refine st_nil ?_
    (refine (then_normal (hK1 _ _ ?_)); clear hK1)
    refine wp_seq_k fun _ hK1 => ?_
    refine wp_seq_k fun _ hK2 => ?_
    refine wp_region_lit ?_
    (refine st_y S (Yr.ys (ys_fieldN (FieldT.mk Try.underlying74 rfl Try.sizeOf62 rfl) (Ev.t rfl) (i' := 1) rfl)) rfl ?_; clear S a w; intro a w S)
    (refine st_y S (Yr.ys (ys_fieldN (FieldT.mk Try.underlying62 rfl Try.sizeOf3 rfl) (Ev.t rfl) (i' := 1) rfl)) rfl ?_; clear S a w; intro a w S)
    (refine st_y S (Yr.ys (ys_fieldN (FieldT.mk Try.underlying74 rfl Try.sizeOf62 rfl) (Ev.t rfl) (i' := 1) rfl)) rfl ?_; clear S a w; intro a w S)
    (refine st_y S (Yr.ys (ys_fieldN (FieldT.mk Try.underlying62 rfl Try.sizeOf3 rfl) (Ev.t rfl) (i' := 2) rfl)) rfl ?_; clear S a w; intro a w S)
    (refine st_y S (Yr.ys (ys_fieldN (FieldT.mk Try.underlying74 rfl Try.sizeOf62 rfl) (Ev.t rfl) (i' := 1) rfl)) rfl ?_; clear S a w; intro a w S)
    (refine st_y S (Yr.ys (ys_fieldN (FieldT.mk Try.underlying62 rfl Try.sizeOf3 rfl) (Ev.t rfl) (i' := 3) rfl)) rfl ?_; clear S a w; intro a w S)
    (refine st_y S (Yr.ys (ys_fieldN (FieldT.mk Try.underlying74 rfl Try.sizeOf3 rfl) (Ev.t rfl) (i' := 4) rfl)) rfl ?_; clear S a w; intro a w S)
    (refine st_m (op_bsliceZ (ps := [(0, Go.Operand.tmp 24), (1, Go.Operand.tmp 26), (2, Go.Operand.tmp 28), (3, Go.Operand.tmp 29)]) (us := [_, _, _, _]) S Try.underlying165 Try.sizeOf164 Try.zeroValue164 rfl rfl (EvL.cons (Ev.t rfl) (EvL.cons (Ev.t rfl) (EvL.cons (Ev.t rfl) (EvL.cons (Ev.t rfl) EvL.nil)))) rfl rfl ?_); clear S a w; intro g3 a w S)
    (refine st_y S (Yr.ys (ys_lenS Try.underlying165 (Ev.t rfl))) rfl ?_; clear S a w; intro a w S)
    (refine st_y S (Yr.ys (ys_move Ev.c)) rfl ?_; clear S a w; intro a w S)
    refine st_nil ?_
    (refine (then_normal (hK2 _ _ ?_)); clear hK2)
    refine wp_block ?_
    refine st_rounds 5 (st_round ?_)
    refine wp_seq_k fun _ hK2 => ?_
    refine wp_region_lit ?_
    (refine st_y S (Yr.ys (ys_T (by omega) (ys_lss (Ev.t rfl) (Ev.t rfl)))) rfl ?_; clear S a w; intro a w S)
    refine st_nil ?_
    (refine (then_normal (hK2 _ _ ?_)); clear hK2)
    refine wp_seq_k fun _ hK2 => ?_
    refine st_then S (Ev.t rfl) ?_
    refine wp_skip ?_
    (refine (then_normal (hK2 _ _ ?_)); clear hK2)
    refine wp_seq_k fun _ hK2 => ?_
    refine wp_block ?_
    refine wp_seq_k fun _ hK3 => ?_
    refine wp_region_lit ?_
    (refine st_y S (Yr.ys (ys_ixS (j := 0) Try.underlying165 Try.sizeOf164 (Ev.t rfl) (Ev.t rfl) (fun _ => by omega))) rfl ?_; clear S a w; intro a w S)
    (refine st_y S (Yr.ys (ys_ld ⟨Try.isAgg164, Try.sizeOf164⟩ (Ev.t rfl) (k := 0) rfl rfl)) rfl ?_; clear S a w; intro a w S)
    (refine st_y S (Yr.ys (ys_assign (Ev.t rfl))) rfl ?_; clear S a w; intro a w S)
    refine st_nil ?_
    (refine (then_normal (hK3 _ _ ?_)); clear hK3)
    refine wp_seq_k fun _ hK3 => ?_
    refine wp_region_lit ?_
    (refine st_y S (Yr.ys (ys_move (Ev.t rfl))) rfl ?_; clear S a w; intro a w S)
    (refine st_y S (Yr.ys (ys_move (Ev.t rfl))) rfl ?_; clear S a w; intro a w S)
    (replace S := S.pull 2 rfl; try simp only [List.set_cons_zero, List.set_cons_succ, List.eraseIdx_cons_succ, List.eraseIdx_cons_zero] at S; replace S := S.pull 2 rfl; try simp only [List.set_cons_zero, List.set_cons_succ, List.eraseIdx_cons_succ, List.eraseIdx_cons_zero] at S; refine st_m (op_callO S Try.call95 (EvL.cons (Ev.t rfl) EvL.nil) (c95 S.wd (by first | assumption | omega | (dsimp only; omega) | exact Sl.nil_ | exact .old S.wd (by assumption) | exact Sl.of_own S.wd (k := 0) rfl (fun _ => rfl) | exact Sl.of_own S.wd (k := 1) rfl (fun _ => rfl) | exact Sl.of_own S.wd (k := 2) rfl (fun _ => rfl) | exact Sl.of_own S.wd (k := 3) rfl (fun _ => rfl) | exact Sl.of_own S.wd (k := 4) rfl (fun _ => rfl) | (simp at *; omega)) (by first | assumption | omega | (dsimp only; omega) | exact Sl.nil_ | exact .old S.wd (by assumption) | exact Sl.of_own S.wd (k := 0) rfl (fun _ => rfl) | exact Sl.of_own S.wd (k := 1) rfl (fun _ => rfl) | exact Sl.of_own S.wd (k := 2) rfl (fun _ => rfl) | exact Sl.of_own S.wd (k := 3) rfl (fun _ => rfl) | exact Sl.of_own S.wd (k := 4) rfl (fun _ => rfl) | (simp at *; omega))) rfl ?_) <;> clear S a w)
    rintro _ _ ⟨rfl, rfl⟩ a w S
    rw [rw_N1a] at S
    rw [rw_N1b] at S
    rw [rw_N1c] at S
    (refine st_y S (Yr.ys (ys_move (Ev.t rfl))) rfl ?_; clear S a w; intro a w S)
    (refine st_y S (Yr.ys (ys_ext (Ev.t rfl) rfl)) rfl ?_; clear S a w; intro a w S)
    (refine st_y S (Yr.ys (ys_ext (Ev.t rfl) rfl)) rfl ?_; clear S a w; intro a w S)
    (refine st_y S (Yr.ys (ys_nilc (Ev.t rfl))) rfl ?_; clear S a w; intro a w S)
    (refine st_m (op_st S Try.sizeOf3 (Ev.t rfl) (Ev.t rfl) (k := 3) rfl rfl (by simp) ?_); clear S a w; intro a w S)
    (refine st_y S (Yr.ys (ys_assign (Ev.t rfl))) rfl ?_; clear S a w; intro a w S)
    refine st_nil ?_
    (refine (then_normal (hK3 _ _ ?_)); clear hK3)
    refine wp_seq_k fun _ hK3 => ?_
    refine wp_region_lit ?_
    (refine st_y S (Yr.ys (ys_move (Ev.t rfl))) rfl ?_; clear S a w; intro a w S)
    (refine st_y S (Yr.ys (ys_T (by omega) (ys_neq (Ev.t rfl) Ev.c))) rfl ?_; clear S a w; intro a w S)
    refine st_nil ?_
    (refine (then_normal (hK3 _ _ ?_)); clear hK3)
    refine st_then S (Ev.t rfl) ?_
    refine wp_seq_k fun _ hK3 => ?_
    refine wp_region_lit ?_
    (refine st_y S (Yr.ys (ys_ldA ⟨Try.isAgg74, Try.sizeOf74⟩ (Ev.t rfl) (k := 3) rfl rfl)) rfl ?_; clear S a w; intro a w S)
    (refine st_y S (Yr.ys (ys_move (Ev.t rfl))) rfl ?_; clear S a w; intro a w S)
    (refine st_m (op_stW S Try.sizeOf74 (Ev.t rfl) (Ev.t rfl) (k := 4) rfl rfl rfl (by simp [Value.oneCell']) ?_); clear S a w; intro a w S)
    (refine st_y S (Yr.ys (ys_assign (Ev.t rfl))) rfl ?_; clear S a w; intro a w S)
    refine st_nil ?_
    (refine (then_normal (hK3 _ _ ?_)); clear hK3)
    refine wp_ret ?_
    refine (in_ret (then_ret (then_ret (in_ret (then_ret ?_)))))
    refine st_ret S (results2 S Try.results96 (Rv.cell (k := 4) ⟨Try.isAgg74, Try.sizeOf74⟩ rfl rfl rfl) (Rv.tmp rfl)) ?_
    exact ⟨_, _, rfl, S.wd.picks (L' := rdr g A cap b k2 L) (by repeat (first | exact Picks.nil | (refine Picks.rest ?_; (repeat (first | exact List.Sublist.refl _ | refine List.Sublist.cons_cons _ ?_ | refine List.Sublist.cons _ ?_)); done) | refine Picks.take 0 rfl ?_ | refine Picks.take 1 rfl ?_ | refine Picks.take 2 rfl ?_ | refine Picks.take 3 rfl ?_ | refine Picks.take 4 rfl ?_ | refine Picks.take 5 rfl ?_ | refine Picks.take 6 rfl ?_ | refine Picks.take 7 rfl ?_ | refine Picks.take 8 rfl ?_ | refine Picks.take 9 rfl ?_ | refine Picks.take 10 rfl ?_ | refine Picks.take 11 rfl ?_)), ⟨s, ⟨x1, 0, 0⟩, 0, 0⟩, k2, by rw [he1 h1]; rfl, rfl, by omega, fun h => absurd ((he1 h1).symm.trans h) h1⟩
  subst h1
  unfold Go.Fw.RetsO
  refine enterW1 W Try.func96 rfl Try.ntmps96 rfl fun a S => ?_
  refine wp_seq_k fun _ hK1 => ?_
  refine wp_region_lit ?_
  (refine st_m (op_alloc S Try.zeroValue74 (cs := _) rfl rfl ?_); clear S a; intro g1 a w S)
  (refine st_y S (Yr.ys (ys_assign Ev.c)) rfl ?_; clear S a w; intro a w S)
  refine st_nil ?_
  (refine (then_normal (hK1 _ _ ?_)); clear hK1)
  refine wp_seq_k fun _ hK1 => ?_
  refine wp_region_lit ?_
  (refine st_m (op_alloc S Try.zeroValue74 (cs := _) rfl rfl ?_); clear S a w; intro g2 a w S)
  refine st_nil ?_
  (refine (then_normal (hK1 _ _ ?_)); clear hK1)
  refine wp_seq_k fun _ hK1 => ?_
  refine wp_region_lit ?_
  (refine st_y S (Yr.ys (ys_move (Ev.t rfl))) rfl ?_; clear S a w; intro a w S)
  (replace S := S.pull 3 rfl; try simp only [List.set_cons_zero, List.set_cons_succ, List.eraseIdx_cons_succ, List.eraseIdx_cons_zero] at S; replace S := S.pull 3 rfl; try simp only [List.set_cons_zero, List.set_cons_succ, List.eraseIdx_cons_succ, List.eraseIdx_cons_zero] at S; refine st_m (op_callO S Try.call120 (EvL.cons (Ev.t rfl) (EvL.cons Ev.c EvL.nil)) (c120 S.wd (by first | assumption | omega | (dsimp only; omega) | exact Sl.nil_ | exact .old S.wd (by assumption) | exact Sl.of_own S.wd (k := 0) rfl (fun _ => rfl) | exact Sl.of_own S.wd (k := 1) rfl (fun _ => rfl) | exact Sl.of_own S.wd (k := 2) rfl (fun _ => rfl) | exact Sl.of_own S.wd (k := 3) rfl (fun _ => rfl) | (simp at *; omega)) (by first | assumption | omega | (dsimp only; omega) | exact Sl.nil_ | exact .old S.wd (by assumption) | exact Sl.of_own S.wd (k := 0) rfl (fun _ => rfl) | exact Sl.of_own S.wd (k := 1) rfl (fun _ => rfl) | exact Sl.of_own S.wd (k := 2) rfl (fun _ => rfl) | exact Sl.of_own S.wd (k := 3) rfl (fun _ => rfl) | (simp at *; omega))) rfl ?_) <;> clear S a w)
  rintro _ _ ⟨rfl, rfl⟩ a w S
  rw [rw_T1] at S
  rw [rw_T2] at S
  rw [rw_T3] at S
  (refine st_y S (Yr.ys (ys_move (Ev.t rfl))) rfl ?_; clear S a w; intro a w S)
  (refine st_y S (Yr.ys (ys_ext (Ev.t rfl) rfl)) rfl ?_; clear S a w; intro a w S)
  (refine st_y S (Yr.ys (ys_ext (Ev.t rfl) rfl)) rfl ?_; clear S a w; intro a w S)
  (refine st_y S (Yr.ys (ys_assign (Ev.t rfl))) rfl ?_; clear S a w; intro a w S)
  (refine st_y S (Yr.ys (ys_assign (Ev.t rfl))) rfl ?_; clear S a w; intro a w S)
  refine st_nil ?_
  (refine (then_normal (hK1 _ _ ?_)); clear hK1)
  refine wp_seq_k fun _ hK1 => ?_
  refine wp_seq_k fun _ hK2 => ?_
  refine wp_region_lit ?_
  (refine st_y S (Yr.ys (ys_move (Ev.t rfl))) rfl ?_; clear S a w; intro a w S)
  (refine st_y S (Yr.ys (ys_F (by omega) (ys_neq (Ev.t rfl) Ev.c))) rfl ?_; clear S a w; intro a w S)
  refine st_nil ?_
  (refine (then_normal (hK2 _ _ ?_)); clear hK2)
  refine st_else S (Ev.t rfl) ?_
  refine wp_skip ?_
  (refine (then_normal (hK1 _ _ ?_)); clear hK1)
  refine wp_seq_k fun _ hK1 => ?_
  refine wp_region_lit ?_
  (refine st_y S (Yr.ys (ys_move (Ev.t rfl))) rfl ?_; clear S a w; intro a w S)
  (refine st_y S (Yr.ys (ys_fieldN (FieldT.mk Try.underlying74 rfl Try.sizeOf9 rfl) (Ev.t rfl) (i' := 0) rfl)) rfl ?_; clear S a w; intro a w S)
  (refine st_m (op_st S Try.sizeOf9 (Ev.t rfl) (Ev.t rfl) (k := 2) rfl rfl (by simp) ?_); clear S a w; intro a w S)
  refine st_nil ?_
  (refine (then_normal (hK1 _ _ ?_)); clear hK1)
  refine wp_seq_k fun _ hK1 => ?_
  refine wp_seq_k fun _ hK2 => ?_
  refine wp_region_lit ?_
  (refine st_y S (Yr.ys (ys_fieldN (FieldT.mk Try.underlying74 rfl Try.sizeOf62 rfl) (Ev.t rfl) (i' := 1) rfl)) rfl ?_; clear S a w; intro a w S)
  (refine st_y S (Yr.ys (ys_fieldN (FieldT.mk Try.underlying62 rfl Try.sizeOf3 rfl) (Ev.t rfl) (i' := 1) rfl)) rfl ?_; clear S a w; intro a w S)
  (refine st_y S (Yr.ys (ys_fieldN (FieldT.mk Try.underlying74 rfl Try.sizeOf62 rfl) (Ev.t rfl) (i' := 1) rfl)) rfl ?_; clear S a w; intro a w S)
  (refine st_y S (Yr.ys (ys_fieldN (FieldT.mk Try.underlying62 rfl Try.sizeOf3 rfl) (Ev.t rfl) (i' := 2) rfl)) rfl ?_; clear S a w; intro a w S)
  (refine st_y S (Yr.ys (ys_fieldN (FieldT.mk Try.underlying74 rfl Try.sizeOf62 rfl) (Ev.t rfl) (i' := 1) rfl)) rfl ?_; clear S a w; intro a w S)
  (refine st_y S (Yr.ys (ys_fieldN (FieldT.mk Try.underlying62 rfl Try.sizeOf3 rfl) (Ev.t rfl) (i' := 3) rfl)) rfl ?_; clear S a w; intro a w S)
  (refine st_y S (Yr.ys (ys_fieldN (FieldT.mk Try.underlying74 rfl Try.sizeOf3 rfl) (Ev.t rfl) (i' := 4) rfl)) rfl ?_; clear S a w; intro a w S)
  (refine st_m (op_bsliceZ (ps := [(0, Go.Operand.tmp 24), (1, Go.Operand.tmp 26), (2, Go.Operand.tmp 28), (3, Go.Operand.tmp 29)]) (us := [_, _, _, _]) S Try.underlying165 Try.sizeOf164 Try.zeroValue164 rfl rfl (EvL.cons (Ev.t rfl) (EvL.cons (Ev.t rfl) (EvL.cons (Ev.t rfl) (EvL.cons (Ev.t rfl) EvL.nil)))) rfl rfl ?_); clear S a w; intro g3 a w S)
  (refine st_y S (Yr.ys (ys_lenS Try.underlying165 (Ev.t rfl))) rfl ?_; clear S a w; intro a w S)
  (refine st_y S (Yr.ys (ys_move Ev.c)) rfl ?_; clear S a w; intro a w S)
  refine st_nil ?_
  (refine (then_normal (hK2 _ _ ?_)); clear hK2)
  refine wp_block ?_
  refine st_rounds 5 (st_round ?_)
  refine wp_seq_k fun _ hK2 => ?_
  refine wp_region_lit ?_
  (refine st_y S (Yr.ys (ys_T (by omega) (ys_lss (Ev.t rfl) (Ev.t rfl)))) rfl ?_; clear S a w; intro a w S)
  refine st_nil ?_
  (refine (then_normal (hK2 _ _ ?_)); clear hK2)
  refine wp_seq_k fun _ hK2 => ?_
  refine st_then S (Ev.t rfl) ?_
  refine wp_skip ?_
  (refine (then_normal (hK2 _ _ ?_)); clear hK2)
  refine wp_seq_k fun _ hK2 => ?_
  refine wp_block ?_
  refine wp_seq_k fun _ hK3 => ?_
  refine wp_region_lit ?_
  (refine st_y S (Yr.ys (ys_ixS (j := 0) Try.underlying165 Try.sizeOf164 (Ev.t rfl) (Ev.t rfl) (fun _ => by omega))) rfl ?_; clear S a w; intro a w S)
  (refine st_y S (Yr.ys (ys_ld ⟨Try.isAgg164, Try.sizeOf164⟩ (Ev.t rfl) (k := 0) rfl rfl)) rfl ?_; clear S a w; intro a w S)
  (refine st_y S (Yr.ys (ys_assign (Ev.t rfl))) rfl ?_; clear S a w; intro a w S)
  refine st_nil ?_
  (refine (then_normal (hK3 _ _ ?_)); clear hK3)
  refine wp_seq_k fun _ hK3 => ?_
  refine wp_region_lit ?_
  (refine st_y S (Yr.ys (ys_move (Ev.t rfl))) rfl ?_; clear S a w; intro a w S)
  (refine st_y S (Yr.ys (ys_move (Ev.t rfl))) rfl ?_; clear S a w; intro a w S)
  (replace S := S.pull 2 rfl; try simp only [List.set_cons_zero, List.set_cons_succ, List.eraseIdx_cons_succ, List.eraseIdx_cons_zero] at S; replace S := S.pull 2 rfl; try simp only [List.set_cons_zero, List.set_cons_succ, List.eraseIdx_cons_succ, List.eraseIdx_cons_zero] at S; refine st_m (op_callO S Try.call95 (EvL.cons (Ev.t rfl) EvL.nil) (c95 S.wd (by first | assumption | omega | (dsimp only; omega) | exact Sl.nil_ | exact .old S.wd (by assumption) | exact Sl.of_own S.wd (k := 0) rfl (fun _ => rfl) | exact Sl.of_own S.wd (k := 1) rfl (fun _ => rfl) | exact Sl.of_own S.wd (k := 2) rfl (fun _ => rfl) | exact Sl.of_own S.wd (k := 3) rfl (fun _ => rfl) | exact Sl.of_own S.wd (k := 4) rfl (fun _ => rfl) | (simp at *; omega)) (by first | assumption | omega | (dsimp only; omega) | exact Sl.nil_ | exact .old S.wd (by assumption) | exact Sl.of_own S.wd (k := 0) rfl (fun _ => rfl) | exact Sl.of_own S.wd (k := 1) rfl (fun _ => rfl) | exact Sl.of_own S.wd (k := 2) rfl (fun _ => rfl) | exact Sl.of_own S.wd (k := 3) rfl (fun _ => rfl) | exact Sl.of_own S.wd (k := 4) rfl (fun _ => rfl) | (simp at *; omega))) rfl ?_) <;> clear S a w)
  rintro _ _ ⟨rfl, rfl⟩ a w S
  rw [rw_N1a] at S
  rw [rw_N1b] at S
  rw [rw_N1c] at S
  (refine st_y S (Yr.ys (ys_move (Ev.t rfl))) rfl ?_; clear S a w; intro a w S)
  (refine st_y S (Yr.ys (ys_ext (Ev.t rfl) rfl)) rfl ?_; clear S a w; intro a w S)
  (refine st_y S (Yr.ys (ys_ext (Ev.t rfl) rfl)) rfl ?_; clear S a w; intro a w S)
  (refine st_y S (Yr.ys (ys_nilc (Ev.t rfl))) rfl ?_; clear S a w; intro a w S)
  (refine st_m (op_st S Try.sizeOf3 (Ev.t rfl) (Ev.t rfl) (k := 3) rfl rfl (by simp) ?_); clear S a w; intro a w S)
  (refine st_y S (Yr.ys (ys_assign (Ev.t rfl))) rfl ?_; clear S a w; intro a w S)
  refine st_nil ?_
  (refine (then_normal (hK3 _ _ ?_)); clear hK3)
  refine wp_seq_k fun _ hK3 => ?_
  refine wp_region_lit ?_
  (refine st_y S (Yr.ys (ys_move (Ev.t rfl))) rfl ?_; clear S a w; intro a w S)
  (refine st_y S (Yr.ys (ys_F (by omega) (ys_neq (Ev.t rfl) Ev.c))) rfl ?_; clear S a w; intro a w S)
  refine st_nil ?_
  (refine (then_normal (hK3 _ _ ?_)); clear hK3)
  refine st_else S (Ev.t rfl) ?_
  refine wp_skip ?_
  (refine (in_normal (then_normal (hK2 _ _ ?_))); clear hK2)
  refine wp_region_lit ?_
  (refine st_y S (Yr.ys (ys_addI (Ev.t rfl) Ev.c (fun _ => by unfold I64; omega))) rfl ?_; clear S a w; intro a w S)
  (refine st_y S (Yr.ys (ys_move (Ev.t rfl))) rfl ?_; clear S a w; intro a w S)
  refine st_nil ?_
  refine (then_normal ?_)
  obtain ⟨x2, k3, e2, hN2⟩ : ∃ x k e, numAt b k2 = (x, k, e) := ⟨_, _, _, rfl⟩
  have t3 := numAt_le (b := b) (k := k2) (by omega)
  have rw_N2a : (numAt b k2).1 = x2 := by rw [hN2]
  have rw_N2b : (numAt b k2).2.1 = k3 := by rw [hN2]
  have rw_N2c : (numAt b k2).2.2 = e2 := by rw [hN2]
  rw [rw_N2b] at t3
  have he2 : e2 ≠ 0 → (entAt b k).2.2 = e2 := fun h => by
    unfold entAt
    rw [hT, bindR_ok rfl]
    dsimp only
    rw [hN1, bindR_ok rfl]
    dsimp only
    rw [hN2, bindR_bad (by exact h)]
  by_cases h2 : e2 = 0
  rotate_left
  · have rw_d : decide (e2 ≠ 0) = true := decide_eq_true h2
    refine st_round ?_
    refine wp_seq_k fun _ hK2 => ?_
    refine wp_region_lit ?_
    (refine st_y S (Yr.ys (ys_T (by omega) (ys_lss (Ev.t rfl) (Ev.t rfl)))) rfl ?_; clear S a w; intro a w S)
    refine st_nil ?_
    (refine (then_normal (hK2 _ _ ?_)); clear hK2)
    refine wp_seq_k fun _ hK2 => ?_
    refine st_then S (Ev.t rfl) ?_
    refine wp_skip ?_
    (refine (then_normal (hK2 _ _ ?_)); clear hK2)
    refine wp_seq_k fun _ hK2 => ?_
    refine wp_block ?_
    refine wp_seq_k fun _ hK3 => ?_
    refine wp_region_lit ?_
    (refine st_y S (Yr.ys (ys_ixS (j := 1) Try.underlying165 Try.sizeOf164 (Ev.t rfl) (Ev.t rfl) (fun _ => by omega))) rfl ?_; clear S a w; intro a w S)
    (refine st_y S (Yr.ys (ys_ld ⟨Try.isAgg164, Try.sizeOf164⟩ (Ev.t rfl) (k := 2) rfl rfl)) rfl ?_; clear S a w; intro a w S)
    (refine st_y S (Yr.ys (ys_assign (Ev.t rfl))) rfl ?_; clear S a w; intro a w S)
    refine st_nil ?_
    (refine (then_normal (hK3 _ _ ?_)); clear hK3)
    refine wp_seq_k fun _ hK3 => ?_
    refine wp_region_lit ?_
    (refine st_y S (Yr.ys (ys_move (Ev.t rfl))) rfl ?_; clear S a w; intro a w S)
    (refine st_y S (Yr.ys (ys_move (Ev.t rfl))) rfl ?_; clear S a w; intro a w S)
    (refine st_m (op_callO S Try.call95 (EvL.cons (Ev.t rfl) EvL.nil) (c95 S.wd (by first | assumption | omega | (dsimp only; omega) | exact Sl.nil_ | exact .old S.wd (by assumption) | exact Sl.of_own S.wd (k := 0) rfl (fun _ => rfl) | exact Sl.of_own S.wd (k := 1) rfl (fun _ => rfl) | exact Sl.of_own S.wd (k := 2) rfl (fun _ => rfl) | exact Sl.of_own S.wd (k := 3) rfl (fun _ => rfl) | exact Sl.of_own S.wd (k := 4) rfl (fun _ => rfl) | (simp at *; omega)) (by first | assumption | omega | (dsimp only; omega) | exact Sl.nil_ | exact .old S.wd (by assumption) | exact Sl.of_own S.wd (k := 0) rfl (fun _ => rfl) | exact Sl.of_own S.wd (k := 1) rfl (fun _ => rfl) | exact Sl.of_own S.wd (k := 2) rfl (fun _ => rfl) | exact Sl.of_own S.wd (k := 3) rfl (fun _ => rfl) | exact Sl.of_own S.wd (k := 4) rfl (fun _ => rfl) | (simp at *; omega))) rfl ?_) <;> clear S a w)
    rintro _ _ ⟨rfl, rfl⟩ a w S
    rw [rw_N2a] at S
    rw [rw_N2b] at S
    rw [rw_N2c] at S
    (refine st_y S (Yr.ys (ys_move (Ev.t rfl))) rfl ?_; clear S a w; intro a w S)
    (refine st_y S (Yr.ys (ys_ext (Ev.t rfl) rfl)) rfl ?_; clear S a w; intro a w S)
    (refine st_y S (Yr.ys (ys_ext (Ev.t rfl) rfl)) rfl ?_; clear S a w; intro a w S)
    (refine st_y S (Yr.ys (ys_nilc (Ev.t rfl))) rfl ?_; clear S a w; intro a w S)
    (refine st_m (op_st S Try.sizeOf3 (Ev.t rfl) (Ev.t rfl) (k := 3) rfl rfl (by simp) ?_); clear S a w; intro a w S)
    (refine st_y S (Yr.ys (ys_assign (Ev.t rfl))) rfl ?_; clear S a w; intro a w S)
    refine st_nil ?_
    (refine (then_normal (hK3 _ _ ?_)); clear hK3)
    refine wp_seq_k fun _ hK3 => ?_
    refine wp_region_lit ?_
    (refine st_y S (Yr.ys (ys_move (Ev.t rfl))) rfl ?_; clear S a w; intro a w S)
    (refine st_y S (Yr.ys (ys_T (by omega) (ys_neq (Ev.t rfl) Ev.c))) rfl ?_; clear S a w; intro a w S)
    refine st_nil ?_
    (refine (then_normal (hK3 _ _ ?_)); clear hK3)
    refine st_then S (Ev.t rfl) ?_
    refine wp_seq_k fun _ hK3 => ?_
    refine wp_region_lit ?_
    (refine st_y S (Yr.ys (ys_ldA ⟨Try.isAgg74, Try.sizeOf74⟩ (Ev.t rfl) (k := 3) rfl rfl)) rfl ?_; clear S a w; intro a w S)
    (refine st_y S (Yr.ys (ys_move (Ev.t rfl))) rfl ?_; clear S a w; intro a w S)
    (refine st_m (op_stW S Try.sizeOf74 (Ev.t rfl) (Ev.t rfl) (k := 4) rfl rfl rfl (by simp [Value.oneCell']) ?_); clear S a w; intro a w S)
    (refine st_y S (Yr.ys (ys_assign (Ev.t rfl))) rfl ?_; clear S a w; intro a w S)
    refine st_nil ?_
    (refine (then_normal (hK3 _ _ ?_)); clear hK3)
    refine wp_ret ?_
    refine (in_ret (then_ret (then_ret (in_ret (then_ret ?_)))))
    refine st_ret S (results2 S Try.results96 (Rv.cell (k := 4) ⟨Try.isAgg74, Try.sizeOf74⟩ rfl rfl rfl) (Rv.tmp rfl)) ?_
    exact ⟨_, _, rfl, S.wd.picks (L' := rdr g A cap b k3 L) (by repeat (first | exact Picks.nil | (refine Picks.rest ?_; (repeat (first | exact List.Sublist.refl _ | refine List.Sublist.cons_cons _ ?_ | refine List.Sublist.cons _ ?_)); done) | refine Picks.take 0 rfl ?_ | refine Picks.take 1 rfl ?_ | refine Picks.take 2 rfl ?_ | refine Picks.take 3 rfl ?_ | refine Picks.take 4 rfl ?_ | refine Picks.take 5 rfl ?_ | refine Picks.take 6 rfl ?_ | refine Picks.take 7 rfl ?_ | refine Picks.take 8 rfl ?_ | refine Picks.take 9 rfl ?_ | refine Picks.take 10 rfl ?_ | refine Picks.take 11 rfl ?_)), ⟨s, ⟨x1, x2, 0⟩, 0, 0⟩, k3, by rw [he2 h2]; rfl, rfl, by omega, fun h => absurd ((he2 h2).symm.trans h) h2⟩
  subst h2
  refine st_round ?_
  refine wp_seq_k fun _ hK2 => ?_
  refine wp_region_lit ?_
  (refine st_y S (Yr.ys (ys_T (by omega) (ys_lss (Ev.t rfl) (Ev.t rfl)))) rfl ?_; clear S a w; intro a w S)
  refine st_nil ?_
  (refine (then_normal (hK2 _ _ ?_)); clear hK2)
  refine wp_seq_k fun _ hK2 => ?_
  refine st_then S (Ev.t rfl) ?_
  refine wp_skip ?_
  (refine (then_normal (hK2 _ _ ?_)); clear hK2)
  refine wp_seq_k fun _ hK2 => ?_
  refine wp_block ?_
  refine wp_seq_k fun _ hK3 => ?_
  refine wp_region_lit ?_
  (refine st_y S (Yr.ys (ys_ixS (j := 1) Try.underlying165 Try.sizeOf164 (Ev.t rfl) (Ev.t rfl) (fun _ => by omega))) rfl ?_; clear S a w; intro a w S)
  (refine st_y S (Yr.ys (ys_ld ⟨Try.isAgg164, Try.sizeOf164⟩ (Ev.t rfl) (k := 2) rfl rfl)) rfl ?_; clear S a w; intro a w S)
  (refine st_y S (Yr.ys (ys_assign (Ev.t rfl))) rfl ?_; clear S a w; intro a w S)
  refine st_nil ?_
  (refine (then_normal (hK3 _ _ ?_)); clear hK3)
  refine wp_seq_k fun _ hK3 => ?_
  refine wp_region_lit ?_
  (refine st_y S (Yr.ys (ys_move (Ev.t rfl))) rfl ?_; clear S a w; intro a w S)
  (refine st_y S (Yr.ys (ys_move (Ev.t rfl))) rfl ?_; clear S a w; intro a w S)
  (refine st_m (op_callO S Try.call95 (EvL.cons (Ev.t rfl) EvL.nil) (c95 S.wd (by first | assumption | omega | (dsimp only; omega) | exact Sl.nil_ | exact .old S.wd (by assumption) | exact Sl.of_own S.wd (k := 0) rfl (fun _ => rfl) | exact Sl.of_own S.wd (k := 1) rfl (fun _ => rfl) | exact Sl.of_own S.wd (k := 2) rfl (fun _ => rfl) | exact Sl.of_own S.wd (k := 3) rfl (fun _ => rfl) | exact Sl.of_own S.wd (k := 4) rfl (fun _ => rfl) | (simp at *; omega)) (by first | assumption | omega | (dsimp only; omega) | exact Sl.nil_ | exact .old S.wd (by assumption) | exact Sl.of_own S.wd (k := 0) rfl (fun _ => rfl) | exact Sl.of_own S.wd (k := 1) rfl (fun _ => rfl) | exact Sl.of_own S.wd (k := 2) rfl (fun _ => rfl) | exact Sl.of_own S.wd (k := 3) rfl (fun _ => rfl) | exact Sl.of_own S.wd (k := 4) rfl (fun _ => rfl) | (simp at *; omega))) rfl ?_) <;> clear S a w)
  rintro _ _ ⟨rfl, rfl⟩ a w S
  rw [rw_N2a] at S
  rw [rw_N2b] at S
  rw [rw_N2c] at S
  (refine st_y S (Yr.ys (ys_move (Ev.t rfl))) rfl ?_; clear S a w; intro a w S)
  (refine st_y S (Yr.ys (ys_ext (Ev.t rfl) rfl)) rfl ?_; clear S a w; intro a w S)
  (refine st_y S (Yr.ys (ys_ext (Ev.t rfl) rfl)) rfl ?_; clear S a w; intro a w S)
  (refine st_y S (Yr.ys (ys_nilc (Ev.t rfl))) rfl ?_; clear S a w; intro a w S)
  (refine st_m (op_st S Try.sizeOf3 (Ev.t rfl) (Ev.t rfl) (k := 3) rfl rfl (by simp) ?_); clear S a w; intro a w S)
  (refine st_y S (Yr.ys (ys_assign (Ev.t rfl))) rfl ?_; clear S a w; intro a w S)
  refine st_nil ?_
  (refine (then_normal (hK3 _ _ ?_)); clear hK3)
  refine wp_seq_k fun _ hK3 => ?_
  refine wp_region_lit ?_
  (refine st_y S (Yr.ys (ys_move (Ev.t rfl))) rfl ?_; clear S a w; intro a w S)
  (refine st_y S (Yr.ys (ys_F (by omega) (ys_neq (Ev.t rfl) Ev.c))) rfl ?_; clear S a w; intro a w S)
  refine st_nil ?_
  (refine (then_normal (hK3 _ _ ?_)); clear hK3)
  refine st_else S (Ev.t rfl) ?_
  refine wp_skip ?_
  (refine (in_normal (then_normal (hK2 _ _ ?_))); clear hK2)
  refine wp_region_lit ?_
  (refine st_y S (Yr.ys (ys_addI (Ev.t rfl) Ev.c (fun _ => by unfold I64; omega))) rfl ?_; clear S a w; intro a w S)
  (refine st_y S (Yr.ys (ys_move (Ev.t rfl))) rfl ?_; clear S a w; intro a w S)
  refine st_nil ?_
  refine (then_normal ?_)
  obtain ⟨x3, k4, e3, hN3⟩ : ∃ x k e, numAt b k3 = (x, k, e) := ⟨_, _, _, rfl⟩
  have t4 := numAt_le (b := b) (k := k3) (by omega)
  have rw_N3a : (numAt b k3).1 = x3 := by rw [hN3]
  have rw_N3b : (numAt b k3).2.1 = k4 := by rw [hN3]
  have rw_N3c : (numAt b k3).2.2 = e3 := by rw [hN3]
  rw [rw_N3b] at t4
  have he3 : e3 ≠ 0 → (entAt b k).2.2 = e3 := fun h => by
    unfold entAt
    rw [hT, bindR_ok rfl]
    dsimp only
    rw [hN1, bindR_ok rfl]
    dsimp only
    rw [hN2, bindR_ok rfl]
    dsimp only
    rw [hN3, bindR_bad (by exact h)]
  by_cases h3 : e3 = 0
  rotate_left
  · have rw_d : decide (e3 ≠ 0) = true := decide_eq_true h3
    refine st_round ?_
    refine wp_seq_k fun _ hK2 => ?_
    refine wp_region_lit ?_
    (refine st_y S (Yr.ys (ys_T (by omega) (ys_lss (Ev.t rfl) (Ev.t rfl)))) rfl ?_; clear S a w; intro a w S)
    refine st_nil ?_
    (refine (then_normal (hK2 _ _ ?_)); clear hK2)
    refine wp_seq_k fun _ hK2 => ?_
    refine st_then S (Ev.t rfl) ?_
    refine wp_skip ?_
    (refine (then_normal (hK2 _ _ ?_)); clear hK2)
    refine wp_seq_k fun _ hK2 => ?_
    refine wp_block ?_
    refine wp_seq_k fun _ hK3 => ?_
    refine wp_region_lit ?_
    (refine st_y S (Yr.ys (ys_ixS (j := 2) Try.underlying165 Try.sizeOf164 (Ev.t rfl) (Ev.t rfl) (fun _ => by omega))) rfl ?_; clear S a w; intro a w S)
    (refine st_y S (Yr.ys (ys_ld ⟨Try.isAgg164, Try.sizeOf164⟩ (Ev.t rfl) (k := 2) rfl rfl)) rfl ?_; clear S a w; intro a w S)
    (refine st_y S (Yr.ys (ys_assign (Ev.t rfl))) rfl ?_; clear S a w; intro a w S)
    refine st_nil ?_
    (refine (then_normal (hK3 _ _ ?_)); clear hK3)
    refine wp_seq_k fun _ hK3 => ?_
    refine wp_region_lit ?_
    (refine st_y S (Yr.ys (ys_move (Ev.t rfl))) rfl ?_; clear S a w; intro a w S)
    (refine st_y S (Yr.ys (ys_move (Ev.t rfl))) rfl ?_; clear S a w; intro a w S)
    (refine st_m (op_callO S Try.call95 (EvL.cons (Ev.t rfl) EvL.nil) (c95 S.wd (by first | assumption | omega | (dsimp only; omega) | exact Sl.nil_ | exact .old S.wd (by assumption) | exact Sl.of_own S.wd (k := 0) rfl (fun _ => rfl) | exact Sl.of_own S.wd (k := 1) rfl (fun _ => rfl) | exact Sl.of_own S.wd (k := 2) rfl (fun _ => rfl) | exact Sl.of_own S.wd (k := 3) rfl (fun _ => rfl) | exact Sl.of_own S.wd (k := 4) rfl (fun _ => rfl) | (simp at *; omega)) (by first | assumption | omega | (dsimp only; omega) | exact Sl.nil_ | exact .old S.wd (by assumption) | exact Sl.of_own S.wd (k := 0) rfl (fun _ => rfl) | exact Sl.of_own S.wd (k := 1) rfl (fun _ => rfl) | exact Sl.of_own S.wd (k := 2) rfl (fun _ => rfl) | exact Sl.of_own S.wd (k := 3) rfl (fun _ => rfl) | exact Sl.of_own S.wd (k := 4) rfl (fun _ => rfl) | (simp at *; omega))) rfl ?_) <;> clear S a w)
    rintro _ _ ⟨rfl, rfl⟩ a w S
    rw [rw_N3a] at S
    rw [rw_N3b] at S
    rw [rw_N3c] at S
    (refine st_y S (Yr.ys (ys_move (Ev.t rfl))) rfl ?_; clear S a w; intro a w S)
    (refine st_y S (Yr.ys (ys_ext (Ev.t rfl) rfl)) rfl ?_; clear S a w; intro a w S)
    (refine st_y S (Yr.ys (ys_ext (Ev.t rfl) rfl)) rfl ?_; clear S a w; intro a w S)
    (refine st_y S (Yr.ys (ys_nilc (Ev.t rfl))) rfl ?_; clear S a w; intro a w S)
    (refine st_m (op_st S Try.sizeOf3 (Ev.t rfl) (Ev.t rfl) (k := 3) rfl rfl (by simp) ?_); clear S a w; intro a w S)
    (refine st_y S (Yr.ys (ys_assign (Ev.t rfl))) rfl ?_; clear S a w; intro a w S)
    refine st_nil ?_
    (refine (then_normal (hK3 _ _ ?_)); clear hK3)
    refine wp_seq_k fun _ hK3 => ?_
    refine wp_region_lit ?_
    (refine st_y S (Yr.ys (ys_move (Ev.t rfl))) rfl ?_; clear S a w; intro a w S)
    (refine st_y S (Yr.ys (ys_T (by omega) (ys_neq (Ev.t rfl) Ev.c))) rfl ?_; clear S a w; intro a w S)
    refine st_nil ?_
    (refine (then_normal (hK3 _ _ ?_)); clear hK3)
    refine st_then S (Ev.t rfl) ?_
    refine wp_seq_k fun _ hK3 => ?_
    refine wp_region_lit ?_
    (refine st_y S (Yr.ys (ys_ldA ⟨Try.isAgg74, Try.sizeOf74⟩ (Ev.t rfl) (k := 3) rfl rfl)) rfl ?_; clear S a w; intro a w S)
    (refine st_y S (Yr.ys (ys_move (Ev.t rfl))) rfl ?_; clear S a w; intro a w S)
    (refine st_m (op_stW S Try.sizeOf74 (Ev.t rfl) (Ev.t rfl) (k := 4) rfl rfl rfl (by simp [Value.oneCell']) ?_); clear S a w; intro a w S)
    (refine st_y S (Yr.ys (ys_assign (Ev.t rfl))) rfl ?_; clear S a w; intro a w S)
    refine st_nil ?_
    (refine (then_normal (hK3 _ _ ?_)); clear hK3)
    refine wp_ret ?_
    refine (in_ret (then_ret (then_ret (in_ret (then_ret ?_)))))
    refine st_ret S (results2 S Try.results96 (Rv.cell (k := 4) ⟨Try.isAgg74, Try.sizeOf74⟩ rfl rfl rfl) (Rv.tmp rfl)) ?_
    exact ⟨_, _, rfl, S.wd.picks (L' := rdr g A cap b k4 L) (by repeat (first | exact Picks.nil | (refine Picks.rest ?_; (repeat (first | exact List.Sublist.refl _ | refine List.Sublist.cons_cons _ ?_ | refine List.Sublist.cons _ ?_)); done) | refine Picks.take 0 rfl ?_ | refine Picks.take 1 rfl ?_ | refine Picks.take 2 rfl ?_ | refine Picks.take 3 rfl ?_ | refine Picks.take 4 rfl ?_ | refine Picks.take 5 rfl ?_ | refine Picks.take 6 rfl ?_ | refine Picks.take 7 rfl ?_ | refine Picks.take 8 rfl ?_ | refine Picks.take 9 rfl ?_ | refine Picks.take 10 rfl ?_ | refine Picks.take 11 rfl ?_)), ⟨s, ⟨x1, x2, x3⟩, 0, 0⟩, k4, by rw [he3 h3]; rfl, rfl, by omega, fun h => absurd ((he3 h3).symm.trans h) h3⟩
  subst h3
  refine st_round ?_
  refine wp_seq_k fun _ hK2 => ?_
  refine wp_region_lit ?_
  (refine st_y S (Yr.ys (ys_T (by omega) (ys_lss (Ev.t rfl) (Ev.t rfl)))) rfl ?_; clear S a w; intro a w S)
  refine st_nil ?_
  (refine (then_normal (hK2 _ _ ?_)); clear hK2)
  refine wp_seq_k fun _ hK2 => ?_
  refine st_then S (Ev.t rfl) ?_
  refine wp_skip ?_
  (refine (then_normal (hK2 _ _ ?_)); clear hK2)
  refine wp_seq_k fun _ hK2 => ?_
  refine wp_block ?_
  refine wp_seq_k fun _ hK3 => ?_
  refine wp_region_lit ?_
  (refine st_y S (Yr.ys (ys_ixS (j := 2) Try.underlying165 Try.sizeOf164 (Ev.t rfl) (Ev.t rfl) (fun _ => by omega))) rfl ?_; clear S a w; intro a w S)
  (refine st_y S (Yr.ys (ys_ld ⟨Try.isAgg164, Try.sizeOf164⟩ (Ev.t rfl) (k := 2) rfl rfl)) rfl ?_; clear S a w; intro a w S)
  (refine st_y S (Yr.ys (ys_assign (Ev.t rfl))) rfl ?_; clear S a w; intro a w S)
  refine st_nil ?_
  (refine (then_normal (hK3 _ _ ?_)); clear hK3)
  refine wp_seq_k fun _ hK3 => ?_
  refine wp_region_lit ?_
  (refine st_y S (Yr.ys (ys_move (Ev.t rfl))) rfl ?_; clear S a w; intro a w S)
  (refine st_y S (Yr.ys (ys_move (Ev.t rfl))) rfl ?_; clear S a w; intro a w S)
  (refine st_m (op_callO S Try.call95 (EvL.cons (Ev.t rfl) EvL.nil) (c95 S.wd (by first | assumption | omega | (dsimp only; omega) | exact Sl.nil_ | exact .old S.wd (by assumption) | exact Sl.of_own S.wd (k := 0) rfl (fun _ => rfl) | exact Sl.of_own S.wd (k := 1) rfl (fun _ => rfl) | exact Sl.of_own S.wd (k := 2) rfl (fun _ => rfl) | exact Sl.of_own S.wd (k := 3) rfl (fun _ => rfl) | exact Sl.of_own S.wd (k := 4) rfl (fun _ => rfl) | (simp at *; omega)) (by first | assumption | omega | (dsimp only; omega) | exact Sl.nil_ | exact .old S.wd (by assumption) | exact Sl.of_own S.wd (k := 0) rfl (fun _ => rfl) | exact Sl.of_own S.wd (k := 1) rfl (fun _ => rfl) | exact Sl.of_own S.wd (k := 2) rfl (fun _ => rfl) | exact Sl.of_own S.wd (k := 3) rfl (fun _ => rfl) | exact Sl.of_own S.wd (k := 4) rfl (fun _ => rfl) | (simp at *; omega))) rfl ?_) <;> clear S a w)
  rintro _ _ ⟨rfl, rfl⟩ a w S
  rw [rw_N3a] at S
  rw [rw_N3b] at S
  rw [rw_N3c] at S
  (refine st_y S (Yr.ys (ys_move (Ev.t rfl))) rfl ?_; clear S a w; intro a w S)
  (refine st_y S (Yr.ys (ys_ext (Ev.t rfl) rfl)) rfl ?_; clear S a w; intro a w S)
  (refine st_y S (Yr.ys (ys_ext (Ev.t rfl) rfl)) rfl ?_; clear S a w; intro a w S)
  (refine st_y S (Yr.ys (ys_nilc (Ev.t rfl))) rfl ?_; clear S a w; intro a w S)
  (refine st_m (op_st S Try.sizeOf3 (Ev.t rfl) (Ev.t rfl) (k := 3) rfl rfl (by simp) ?_); clear S a w; intro a w S)
  (refine st_y S (Yr.ys (ys_assign (Ev.t rfl))) rfl ?_; clear S a w; intro a w S)
  refine st_nil ?_
  (refine (then_normal (hK3 _ _ ?_)); clear hK3)
  refine wp_seq_k fun _ hK3 => ?_
  refine wp_region_lit ?_
  (refine st_y S (Yr.ys (ys_move (Ev.t rfl))) rfl ?_; clear S a w; intro a w S)
  (refine st_y S (Yr.ys (ys_F (by omega) (ys_neq (Ev.t rfl) Ev.c))) rfl ?_; clear S a w; intro a w S)
  refine st_nil ?_
  (refine (then_normal (hK3 _ _ ?_)); clear hK3)
  refine st_else S (Ev.t rfl) ?_
  refine wp_skip ?_
  (refine (in_normal (then_normal (hK2 _ _ ?_))); clear hK2)
  refine wp_region_lit ?_
  (refine st_y S (Yr.ys (ys_addI (Ev.t rfl) Ev.c (fun _ => by unfold I64; omega))) rfl ?_; clear S a w; intro a w S)
  (refine st_y S (Yr.ys (ys_move (Ev.t rfl))) rfl ?_; clear S a w; intro a w S)
  refine st_nil ?_
  refine (then_normal ?_)
  obtain ⟨x4, k5, e4, hN4⟩ : ∃ x k e, numAt b k4 = (x, k, e) := ⟨_, _, _, rfl⟩
  have t5 := numAt_le (b := b) (k := k4) (by omega)
  have rw_N4a : (numAt b k4).1 = x4 := by rw [hN4]
  have rw_N4b : (numAt b k4).2.1 = k5 := by rw [hN4]
  have rw_N4c : (numAt b k4).2.2 = e4 := by rw [hN4]
  rw [rw_N4b] at t5
  have he4 : e4 ≠ 0 → (entAt b k).2.2 = e4 := fun h => by
    unfold entAt
    rw [hT, bindR_ok rfl]
    dsimp only
    rw [hN1, bindR_ok rfl]
    dsimp only
    rw [hN2, bindR_ok rfl]
    dsimp only
    rw [hN3, bindR_ok rfl]
    dsimp only
    rw [hN4, bindR_bad (by exact h)]
  by_cases h4 : e4 = 0
  rotate_left
  · have rw_d : decide (e4 ≠ 0) = true := decide_eq_true h4
    refine st_round ?_
    refine wp_seq_k fun _ hK2 => ?_
    refine wp_region_lit ?_
    (refine st_y S (Yr.ys (ys_T (by omega) (ys_lss (Ev.t rfl) (Ev.t rfl)))) rfl ?_; clear S a w; intro a w S)
    refine st_nil ?_
    (refine (then_normal (hK2 _ _ ?_)); clear hK2)
    refine wp_seq_k fun _ hK2 => ?_
    refine st_then S (Ev.t rfl) ?_
    refine wp_skip ?_
    (refine (then_normal (hK2 _ _ ?_)); clear hK2)
    refine wp_seq_k fun _ hK2 => ?_
    refine wp_block ?_
    refine wp_seq_k fun _ hK3 => ?_
    refine wp_region_lit ?_
    (refine st_y S (Yr.ys (ys_ixS (j := 3) Try.underlying165 Try.sizeOf164 (Ev.t rfl) (Ev.t rfl) (fun _ => by omega))) rfl ?_; clear S a w; intro a w S)
    (refine st_y S (Yr.ys (ys_ld ⟨Try.isAgg164, Try.sizeOf164⟩ (Ev.t rfl) (k := 2) rfl rfl)) rfl ?_; clear S a w; intro a w S)
    (refine st_y S (Yr.ys (ys_assign (Ev.t rfl))) rfl ?_; clear S a w; intro a w S)
    refine st_nil ?_
    (refine (then_normal (hK3 _ _ ?_)); clear hK3)
    refine wp_seq_k fun _ hK3 => ?_
    refine wp_region_lit ?_
    (refine st_y S (Yr.ys (ys_move (Ev.t rfl))) rfl ?_; clear S a w; intro a w S)
    (refine st_y S (Yr.ys (ys_move (Ev.t rfl))) rfl ?_; clear S a w; intro a w S)
    (refine st_m (op_callO S Try.call95 (EvL.cons (Ev.t rfl) EvL.nil) (c95 S.wd (by first | assumption | omega | (dsimp only; omega) | exact Sl.nil_ | exact .old S.wd (by assumption) | exact Sl.of_own S.wd (k := 0) rfl (fun _ => rfl) | exact Sl.of_own S.wd (k := 1) rfl (fun _ => rfl) | exact Sl.of_own S.wd (k := 2) rfl (fun _ => rfl) | exact Sl.of_own S.wd (k := 3) rfl (fun _ => rfl) | exact Sl.of_own S.wd (k := 4) rfl (fun _ => rfl) | (simp at *; omega)) (by first | assumption | omega | (dsimp only; omega) | exact Sl.nil_ | exact .old S.wd (by assumption) | exact Sl.of_own S.wd (k := 0) rfl (fun _ => rfl) | exact Sl.of_own S.wd (k := 1) rfl (fun _ => rfl) | exact Sl.of_own S.wd (k := 2) rfl (fun _ => rfl) | exact Sl.of_own S.wd (k := 3) rfl (fun _ => rfl) | exact Sl.of_own S.wd (k := 4) rfl (fun _ => rfl) | (simp at *; omega))) rfl ?_) <;> clear S a w)
    rintro _ _ ⟨rfl, rfl⟩ a w S
    rw [rw_N4a] at S
    rw [rw_N4b] at S
    rw [rw_N4c] at S
    (refine st_y S (Yr.ys (ys_move (Ev.t rfl))) rfl ?_; clear S a w; intro a w S)
    (refine st_y S (Yr.ys (ys_ext (Ev.t rfl) rfl)) rfl ?_; clear S a w; intro a w S)
    (refine st_y S (Yr.ys (ys_ext (Ev.t rfl) rfl)) rfl ?_; clear S a w; intro a w S)
    (refine st_y S (Yr.ys (ys_nilc (Ev.t rfl))) rfl ?_; clear S a w; intro a w S)
    (refine st_m (op_st S Try.sizeOf3 (Ev.t rfl) (Ev.t rfl) (k := 3) rfl rfl (by simp) ?_); clear S a w; intro a w S)
    (refine st_y S (Yr.ys (ys_assign (Ev.t rfl))) rfl ?_; clear S a w; intro a w S)
    refine st_nil ?_
    (refine (then_normal (hK3 _ _ ?_)); clear hK3)
    refine wp_seq_k fun _ hK3 => ?_
    refine wp_region_lit ?_
    (refine st_y S (Yr.ys (ys_move (Ev.t rfl))) rfl ?_; clear S a w; intro a w S)
    (refine st_y S (Yr.ys (ys_T (by omega) (ys_neq (Ev.t rfl) Ev.c))) rfl ?_; clear S a w; intro a w S)
    refine st_nil ?_
    (refine (then_normal (hK3 _ _ ?_)); clear hK3)
    refine st_then S (Ev.t rfl) ?_
    refine wp_seq_k fun _ hK3 => ?_
    refine wp_region_lit ?_
    (refine st_y S (Yr.ys (ys_ldA ⟨Try.isAgg74, Try.sizeOf74⟩ (Ev.t rfl) (k := 3) rfl rfl)) rfl ?_; clear S a w; intro a w S)
    (refine st_y S (Yr.ys (ys_move (Ev.t rfl))) rfl ?_; clear S a w; intro a w S)
    (refine st_m (op_stW S Try.sizeOf74 (Ev.t rfl) (Ev.t rfl) (k := 4) rfl rfl rfl (by simp [Value.oneCell']) ?_); clear S a w; intro a w S)
    (refine st_y S (Yr.ys (ys_assign (Ev.t rfl))) rfl ?_; clear S a w; intro a w S)
    refine st_nil ?_
    (refine (then_normal (hK3 _ _ ?_)); clear hK3)
    refine wp_ret ?_
    refine (in_ret (then_ret (then_ret (in_ret (then_ret ?_)))))
    refine st_ret S (results2 S Try.results96 (Rv.cell (k := 4) ⟨Try.isAgg74, Try.sizeOf74⟩ rfl rfl rfl) (Rv.tmp rfl)) ?_
    exact ⟨_, _, rfl, S.wd.picks (L' := rdr g A cap b k5 L) (by repeat (first | exact Picks.nil | (refine Picks.rest ?_; (repeat (first | exact List.Sublist.refl _ | refine List.Sublist.cons_cons _ ?_ | refine List.Sublist.cons _ ?_)); done) | refine Picks.take 0 rfl ?_ | refine Picks.take 1 rfl ?_ | refine Picks.take 2 rfl ?_ | refine Picks.take 3 rfl ?_ | refine Picks.take 4 rfl ?_ | refine Picks.take 5 rfl ?_ | refine Picks.take 6 rfl ?_ | refine Picks.take 7 rfl ?_ | refine Picks.take 8 rfl ?_ | refine Picks.take 9 rfl ?_ | refine Picks.take 10 rfl ?_ | refine Picks.take 11 rfl ?_)), ⟨s, ⟨x1, x2, x3⟩, x4, 0⟩, k5, by rw [he4 h4]; rfl, rfl, by omega, fun h => absurd ((he4 h4).symm.trans h) h4⟩
  subst h4
  refine st_round ?_
  refine wp_seq_k fun _ hK2 => ?_
  refine wp_region_lit ?_
  (refine st_y S (Yr.ys (ys_T (by omega) (ys_lss (Ev.t rfl) (Ev.t rfl)))) rfl ?_; clear S a w; intro a w S)
  refine st_nil ?_
  (refine (then_normal (hK2 _ _ ?_)); clear hK2)
  refine wp_seq_k fun _ hK2 => ?_
  refine st_then S (Ev.t rfl) ?_
  refine wp_skip ?_
  (refine (then_normal (hK2 _ _ ?_)); clear hK2)
  refine wp_seq_k fun _ hK2 => ?_
  refine wp_block ?_
  refine wp_seq_k fun _ hK3 => ?_
  refine wp_region_lit ?_
  (refine st_y S (Yr.ys (ys_ixS (j := 3) Try.underlying165 Try.sizeOf164 (Ev.t rfl) (Ev.t rfl) (fun _ => by omega))) rfl ?_; clear S a w; intro a w S)
  (refine st_y S (Yr.ys (ys_ld ⟨Try.isAgg164, Try.sizeOf164⟩ (Ev.t rfl) (k := 2) rfl rfl)) rfl ?_; clear S a w; intro a w S)
  (refine st_y S (Yr.ys (ys_assign (Ev.t rfl))) rfl ?_; clear S a w; intro a w S)
  refine st_nil ?_
  (refine (then_normal (hK3 _ _ ?_)); clear hK3)
  refine wp_seq_k fun _ hK3 => ?_
  refine wp_region_lit ?_
  (refine st_y S (Yr.ys (ys_move (Ev.t rfl))) rfl ?_; clear S a w; intro a w S)
  (refine st_y S (Yr.ys (ys_move (Ev.t rfl))) rfl ?_; clear S a w; intro a w S)
  (refine st_m (op_callO S Try.call95 (EvL.cons (Ev.t rfl) EvL.nil) (c95 S.wd (by first | assumption | omega | (dsimp only; omega) | exact Sl.nil_ | exact .old S.wd (by assumption) | exact Sl.of_own S.wd (k := 0) rfl (fun _ => rfl) | exact Sl.of_own S.wd (k := 1) rfl (fun _ => rfl) | exact Sl.of_own S.wd (k := 2) rfl (fun _ => rfl) | exact Sl.of_own S.wd (k := 3) rfl (fun _ => rfl) | exact Sl.of_own S.wd (k := 4) rfl (fun _ => rfl) | (simp at *; omega)) (by first | assumption | omega | (dsimp only; omega) | exact Sl.nil_ | exact .old S.wd (by assumption) | exact Sl.of_own S.wd (k := 0) rfl (fun _ => rfl) | exact Sl.of_own S.wd (k := 1) rfl (fun _ => rfl) | exact Sl.of_own S.wd (k := 2) rfl (fun _ => rfl) | exact Sl.of_own S.wd (k := 3) rfl (fun _ => rfl) | exact Sl.of_own S.wd (k := 4) rfl (fun _ => rfl) | (simp at *; omega))) rfl ?_) <;> clear S a w)
  rintro _ _ ⟨rfl, rfl⟩ a w S
  rw [rw_N4a] at S
  rw [rw_N4b] at S
  rw [rw_N4c] at S
  (refine st_y S (Yr.ys (ys_move (Ev.t rfl))) rfl ?_; clear S a w; intro a w S)
  (refine st_y S (Yr.ys (ys_ext (Ev.t rfl) rfl)) rfl ?_; clear S a w; intro a w S)
  (refine st_y S (Yr.ys (ys_ext (Ev.t rfl) rfl)) rfl ?_; clear S a w; intro a w S)
  (refine st_y S (Yr.ys (ys_nilc (Ev.t rfl))) rfl ?_; clear S a w; intro a w S)
  (refine st_m (op_st S Try.sizeOf3 (Ev.t rfl) (Ev.t rfl) (k := 3) rfl rfl (by simp) ?_); clear S a w; intro a w S)
  (refine st_y S (Yr.ys (ys_assign (Ev.t rfl))) rfl ?_; clear S a w; intro a w S)
  refine st_nil ?_
  (refine (then_normal (hK3 _ _ ?_)); clear hK3)
  refine wp_seq_k fun _ hK3 => ?_
  refine wp_region_lit ?_
  (refine st_y S (Yr.ys (ys_move (Ev.t rfl))) rfl ?_; clear S a w; intro a w S)
  (refine st_y S (Yr.ys (ys_F (by omega) (ys_neq (Ev.t rfl) Ev.c))) rfl ?_; clear S a w; intro a w S)
  refine st_nil ?_
  (refine (then_normal (hK3 _ _ ?_)); clear hK3)
  refine st_else S (Ev.t rfl) ?_
  refine wp_skip ?_
  (refine (in_normal (then_normal (hK2 _ _ ?_))); clear hK2)
  refine wp_region_lit ?_
  (refine st_y S (Yr.ys (ys_addI (Ev.t rfl) Ev.c (fun _ => by unfold I64; omega))) rfl ?_; clear S a w; intro a w S)
  (refine st_y S (Yr.ys (ys_move (Ev.t rfl))) rfl ?_; clear S a w; intro a w S)
  refine st_nil ?_
  refine (then_normal ?_)
  refine st_round ?_
  refine wp_seq_k fun _ hK2 => ?_
  refine wp_region_lit ?_
  (refine st_y S (Yr.ys (ys_F (by omega) (ys_lss (Ev.t rfl) (Ev.t rfl)))) rfl ?_; clear S a w; intro a w S)
  refine st_nil ?_
  (refine (then_normal (hK2 _ _ ?_)); clear hK2)
  refine wp_seq_k fun _ hK2 => ?_
  refine st_else S (Ev.t rfl) ?_
  refine wp_exit ?_
  (refine (then_exit (then_exit (in_here (then_normal (hK1 _ _ ?_))))); clear hK1)
  refine wp_seq_k fun _ hK1 => ?_
  refine wp_seq_k fun _ hK3 => ?_
  refine wp_region_lit ?_
  (refine st_y S (Yr.ys (ys_move Ev.c)) rfl ?_; clear S a w; intro a w S)
  refine st_nil ?_
  (refine (then_normal (hK3 _ _ ?_)); clear hK3)
  refine wp_block ?_
  have t6 : u64R b k5 = if k5 + 8 ≤ b.length then (leV b k5 8, k5 + 8, 0) else (0, b.length, 2) := rfl
  have hE : entAt b k = bindR (u64R b k5) Ent.none fun p k6 => (⟨s, ⟨x1, x2, x3⟩, x4, UInt64.ofNat p⟩, k6, 0) := by
    unfold entAt
    rw [hT, bindR_ok rfl]
    dsimp only
    rw [hN1, bindR_ok rfl]
    dsimp only
    rw [hN2, bindR_ok rfl]
    dsimp only
    rw [hN3, bindR_ok rfl]
    dsimp only
    rw [hN4, bindR_ok rfl]
  refine st_loopM S [48] (X := Nat) (fun i => [(48, true, .int .i64 (i : Int))]) (fun i => rdr g A cap b (k5 + i) (.blk g2 (.cells #[.string (Fw.bs s), .int .i64 x1, .int .i64 x2, .int .i64 x3, .int .i64 x4, .int .u64 (leV b k5 i : Int)] 74) :: .blk g1 (.cells #[.string ⟨#[]⟩, .int .i64 0, .int .i64 0, .int .i64 0, .int .i64 0, .int .u64 0] 74) :: L))
    (fun i => i ≤ 8 ∧ k5 + i ≤ b.length) (fun i => 8 - i) 0 ⟨Nat.zero_le _, t5.2⟩ (by repeat (first | exact Fits.nil | refine Fits.skip rfl ?_ | refine Fits.cons rfl ?_)) (by repeat (first | exact Picks.nil | (refine Picks.rest ?_; (repeat (first | exact List.Sublist.refl _ | refine List.Sublist.cons_cons _ ?_ | refine List.Sublist.cons _ ?_)); done) | refine Picks.take 0 rfl ?_ | refine Picks.take 1 rfl ?_ | refine Picks.take 2 rfl ?_ | refine Picks.take 3 rfl ?_ | refine Picks.take 4 rfl ?_ | refine Picks.take 5 rfl ?_ | refine Picks.take 6 rfl ?_ | refine Picks.take 7 rfl ?_ | refine Picks.take 8 rfl ?_ | refine Picks.take 9 rfl ?_ | refine Picks.take 10 rfl ?_ | refine Picks.take 11 rfl ?_)) ?_
  clear S
  intro i a w ⟨hi, hki⟩ S
  by_cases hlt : i < 8
  · by_cases hb8 : k5 + i < b.length
    · obtain ⟨y, hy⟩ : ∃ y, b[k5 + i]? = some y := ⟨_, List.getElem?_eq_getElem hb8⟩
      have hy8 : y.toNat < 256 := y.toNat_lt
      have rw_b1 : (byteR b (k5 + i)).1 = (y.toNat : Int) := by rw [byteR_some hy]
      have rw_b2 : (byteR b (k5 + i)).2.1 = 1 := by rw [byteR_some hy]
      have rw_b3 : (byteR b (k5 + i)).2.2 = 0 := by rw [byteR_some hy]
      have rw_i : (i : Int) + 1 = ((i + 1 : Nat) : Int) := rfl
      have rw_8 : 8 * (i : Int) = ((8 * i : Nat) : Int) := rfl
      have rw_s := shl_le hy8 hlt
      have rw_o : orK .u64 (leV b k5 i : Int) ((y.toNat * 256 ^ i : Nat) : Int) = (leV b k5 (i + 1) : Int) := by
        rw [or_le (leV_lt b k5 i) hy8 hlt, leV, List.getD_eq_getElem?_getD, hy]
        rfl
      refine wp_seq_k fun _ hK3 => ?_
      refine wp_region_lit ?_
      (refine st_y S (Yr.ys (ys_T (by omega) (ys_lss (Ev.t rfl) Ev.c))) rfl ?_; clear S a w; intro a w S)
      refine st_nil ?_
      (refine (then_normal (hK3 _ _ ?_)); clear hK3)
      refine wp_seq_k fun _ hK3 => ?_
      refine st_then S (Ev.t rfl) ?_
      refine wp_skip ?_
      (refine (then_normal (hK3 _ _ ?_)); clear hK3)
      refine wp_seq_k fun _ hK3 => ?_
      refine wp_block ?_
      refine wp_seq_k fun _ hK4 => ?_
      refine wp_region_lit ?_
      (refine st_y S (Yr.ys (ys_move (Ev.t rfl))) rfl ?_; clear S a w; intro a w S)
      (refine st_y S (Yr.ys (ys_assign (Ev.t rfl))) rfl ?_; clear S a w; intro a w S)
      refine st_nil ?_
      (refine (then_normal (hK4 _ _ ?_)); clear hK4)
      refine wp_seq_k fun _ hK4 => ?_
      refine wp_region_lit ?_
      (refine st_y S (Yr.ys (ys_move (Ev.t rfl))) rfl ?_; clear S a w; intro a w S)
      (refine st_m (op_callO S Try.call121 (EvL.cons (Ev.t rfl) EvL.nil) (c121 S.wd (by first | assumption | omega | (dsimp only; omega) | exact Sl.nil_ | exact .old S.wd (by assumption) | exact Sl.of_own S.wd (k := 0) rfl (fun _ => rfl) | exact Sl.of_own S.wd (k := 1) rfl (fun _ => rfl) | exact Sl.of_own S.wd (k := 2) rfl (fun _ => rfl) | exact Sl.of_own S.wd (k := 3) rfl (fun _ => rfl) | (simp at *; omega)) (by first | assumption | omega | (dsimp only; omega) | exact Sl.nil_ | exact .old S.wd (by assumption) | exact Sl.of_own S.wd (k := 0) rfl (fun _ => rfl) | exact Sl.of_own S.wd (k := 1) rfl (fun _ => rfl) | exact Sl.of_own S.wd (k := 2) rfl (fun _ => rfl) | exact Sl.of_own S.wd (k := 3) rfl (fun _ => rfl) | (simp at *; omega))) rfl ?_) <;> clear S a w)
      rintro _ _ ⟨rfl, rfl⟩ a w S
      rw [rw_b1] at S
      rw [rw_b2] at S
      rw [rw_b3] at S
      (refine st_y S (Yr.ys (ys_move (Ev.t rfl))) rfl ?_; clear S a w; intro a w S)
      (refine st_y S (Yr.ys (ys_ext (Ev.t rfl) rfl)) rfl ?_; clear S a w; intro a w S)
      (refine st_y S (Yr.ys (ys_ext (Ev.t rfl) rfl)) rfl ?_; clear S a w; intro a w S)
      (refine st_y S (Yr.ys (ys_assign (Ev.t rfl))) rfl ?_; clear S a w; intro a w S)
      (refine st_y S (Yr.ys (ys_assign (Ev.t rfl))) rfl ?_; clear S a w; intro a w S)
      refine st_nil ?_
      (refine (then_normal (hK4 _ _ ?_)); clear hK4)
      refine wp_seq_k fun _ hK4 => ?_
      refine wp_seq_k fun _ hK5 => ?_
      refine wp_region_lit ?_
      (refine st_y S (Yr.ys (ys_move (Ev.t rfl))) rfl ?_; clear S a w; intro a w S)
      (refine st_y S (Yr.ys (ys_F (by omega) (ys_neq (Ev.t rfl) Ev.c))) rfl ?_; clear S a w; intro a w S)
      refine st_nil ?_
      (refine (then_normal (hK5 _ _ ?_)); clear hK5)
      refine st_else S (Ev.t rfl) ?_
      refine wp_skip ?_
      (refine (then_normal (hK4 _ _ ?_)); clear hK4)
      (refine h_beginE S (by kernel_rfl) 2 ?_; clear S a w; intro a w S)
      (refine h_y (i := 0) S (by repeat (first | exact List.Sublist.refl _ | exact List.nil_sublist _ | refine .cons_cons _ ?_ | refine .cons _ ?_)) rfl (by kernel_rfl) (by kernel_rfl) (by kernel_rfl) (fun _ _ _ _ h => h) (ys_fieldN (FieldT.mk Try.underlying74 rfl Try.sizeOf27 rfl) (Ev.t rfl) (i' := 5) rfl) rfl ?_; clear S a w; intro a w S)
      (refine h_y (i := 2) S (by repeat (first | exact List.Sublist.refl _ | exact List.nil_sublist _ | refine .cons_cons _ ?_ | refine .cons _ ?_)) rfl (by kernel_rfl) (by kernel_rfl) (by kernel_rfl) (fun _ _ _ _ h => h) (ys_move (Ev.t rfl)) rfl ?_; clear S a w; intro a w S)
      (refine h_y (i := 3) S (by repeat (first | exact List.Sublist.refl _ | exact List.nil_sublist _ | refine .cons_cons _ ?_ | refine .cons _ ?_)) rfl (by kernel_rfl) (by kernel_rfl) (by kernel_rfl) (fun _ _ _ _ h => h) (ys_cvU Try.underlying3 Try.underlying27 (Ev.t rfl) (fun _ => by omega)) rfl ?_; clear S a w; intro a w S)
      (refine h_y (i := 4) S (by repeat (first | exact List.Sublist.refl _ | exact List.nil_sublist _ | refine .cons_cons _ ?_ | refine .cons _ ?_)) rfl (by kernel_rfl) (by kernel_rfl) (by kernel_rfl) (fun _ _ _ _ h => h) (ys_move (Ev.t rfl)) rfl ?_; clear S a w; intro a w S)
      (refine h_y (i := 5) S (by repeat (first | exact List.Sublist.refl _ | exact List.nil_sublist _ | refine .cons_cons _ ?_ | refine .cons _ ?_)) rfl (by kernel_rfl) (by kernel_rfl) (by kernel_rfl) (fun _ _ _ _ h => h) (ys_mulI Ev.c (Ev.t rfl) (fun _ => by unfold I64; omega)) rfl ?_; clear S a w; intro a w S)
      rw [rw_8] at S
      (refine h_y (i := 6) S (by repeat (first | exact List.Sublist.refl _ | exact List.nil_sublist _ | refine .cons_cons _ ?_ | refine .cons _ ?_)) rfl (by kernel_rfl) (by kernel_rfl) (by kernel_rfl) (fun _ _ _ _ h => h) (ys_shl (Ev.t rfl) (Ev.t rfl) (Nat.ble_eq_true_of_le (by show _ ≤ 64; omega))) rfl ?_; clear S a w; intro a w S)
      rw [rw_s] at S
      (refine h_q (i := 1) S (by repeat (first | exact List.Sublist.refl _ | exact List.nil_sublist _ | refine .cons_cons _ ?_ | refine .cons _ ?_)) rfl (by kernel_rfl) (Yr.ys (ys_ld ⟨Try.isAgg27, Try.sizeOf27⟩ (Ev.t rfl) (k := 2) rfl rfl)) rfl ?_; clear S a w; intro a w S)
      (refine h_y (i := 7) S (by repeat (first | exact List.Sublist.refl _ | exact List.nil_sublist _ | refine .cons_cons _ ?_ | refine .cons _ ?_)) rfl (by kernel_rfl) (by kernel_rfl) (by kernel_rfl) (fun _ _ _ _ h => h) (ys_bor (Ev.t rfl) (Ev.t rfl)) rfl ?_; clear S a w; intro a w S)
      rw [rw_o] at S
      (refine h_y (i := 8) S (by repeat (first | exact List.Sublist.refl _ | exact List.nil_sublist _ | refine .cons_cons _ ?_ | refine .cons _ ?_)) rfl (by kernel_rfl) (by kernel_rfl) (by kernel_rfl) (fun _ _ _ _ h => h) (ys_fieldN (FieldT.mk Try.underlying74 rfl Try.sizeOf27 rfl) (Ev.t rfl) (i' := 5) rfl) rfl ?_; clear S a w; intro a w S)
      (refine h_m0 (i := 9) rfl (by kernel_rfl) (op_st S Try.sizeOf27 (Ev.t rfl) (Ev.t rfl) (k := 2) rfl rfl (by simp) ?_); clear S a w; intro a w S; refine h_on S _ (List.Sublist.refl _) (by repeat (first | exact List.Sublist.refl _ | exact List.nil_sublist _ | refine .cons_cons _ ?_ | refine .cons _ ?_)) ?_)
      refine h_done (by kernel_rfl) ?_
      (refine (in_normal (then_normal (hK3 _ _ ?_))); clear hK3)
      refine wp_region_lit ?_
      (refine st_y S (Yr.ys (ys_addI (Ev.t rfl) Ev.c (fun _ => by unfold I64; omega))) rfl ?_; clear S a w; intro a w S)
      rw [rw_i] at S
      (refine st_y S (Yr.ys (ys_move (Ev.t rfl))) rfl ?_; clear S a w; intro a w S)
      refine st_nil ?_
      refine (then_normal ?_)
      exact ⟨i + 1, ⟨by omega, by omega⟩, by omega, S.picks (by repeat (first | exact Fits.nil | refine Fits.skip rfl ?_ | refine Fits.cons rfl ?_)) (by repeat (first | exact Picks.nil | (refine Picks.rest ?_; (repeat (first | exact List.Sublist.refl _ | refine List.Sublist.cons_cons _ ?_ | refine List.Sublist.cons _ ?_)); done) | refine Picks.take 0 rfl ?_ | refine Picks.take 1 rfl ?_ | refine Picks.take 2 rfl ?_ | refine Picks.take 3 rfl ?_ | refine Picks.take 4 rfl ?_ | refine Picks.take 5 rfl ?_ | refine Picks.take 6 rfl ?_ | refine Picks.take 7 rfl ?_ | refine Picks.take 8 rfl ?_ | refine Picks.take 9 rfl ?_ | refine Picks.take 10 rfl ?_ | refine Picks.take 11 rfl ?_))⟩
    · have rw_b1 : (byteR b (k5 + i)).1 = 0 := by rw [byteR_none (by omega)]
      have rw_b2 : (byteR b (k5 + i)).2.1 = 0 := by rw [byteR_none (by omega)]
      have rw_b3 : (byteR b (k5 + i)).2.2 = 2 := by rw [byteR_none (by omega)]
      have he : (entAt b k).2.2 = 2 := by rw [hE, t6, if_neg (by omega)]; rfl
      refine wp_seq_k fun _ hK3 => ?_
      refine wp_region_lit ?_
      (refine st_y S (Yr.ys (ys_T (by omega) (ys_lss (Ev.t rfl) Ev.c))) rfl ?_; clear S a w; intro a w S)
      refine st_nil ?_
      (refine (then_normal (hK3 _ _ ?_)); clear hK3)
      refine wp_seq_k fun _ hK3 => ?_
      refine st_then S (Ev.t rfl) ?_
      refine wp_skip ?_
      (refine (then_normal (hK3 _ _ ?_)); clear hK3)
      refine wp_seq_k fun _ hK3 => ?_
      refine wp_block ?_
      refine wp_seq_k fun _ hK4 => ?_
      refine wp_region_lit ?_
      (refine st_y S (Yr.ys (ys_move (Ev.t rfl))) rfl ?_; clear S a w; intro a w S)
      (refine st_y S (Yr.ys (ys_assign (Ev.t rfl))) rfl ?_; clear S a w; intro a w S)
      refine st_nil ?_
      (refine (then_normal (hK4 _ _ ?_)); clear hK4)
      refine wp_seq_k fun _ hK4 => ?_
      refine wp_region_lit ?_
      (refine st_y S (Yr.ys (ys_move (Ev.t rfl))) rfl ?_; clear S a w; intro a w S)
      (refine st_m (op_callO S Try.call121 (EvL.cons (Ev.t rfl) EvL.nil) (c121 S.wd (by first | assumption | omega | (dsimp only; omega) | exact Sl.nil_ | exact .old S.wd (by assumption) | exact Sl.of_own S.wd (k := 0) rfl (fun _ => rfl) | exact Sl.of_own S.wd (k := 1) rfl (fun _ => rfl) | exact Sl.of_own S.wd (k := 2) rfl (fun _ => rfl) | exact Sl.of_own S.wd (k := 3) rfl (fun _ => rfl) | (simp at *; omega)) (by first | assumption | omega | (dsimp only; omega) | exact Sl.nil_ | exact .old S.wd (by assumption) | exact Sl.of_own S.wd (k := 0) rfl (fun _ => rfl) | exact Sl.of_own S.wd (k := 1) rfl (fun _ => rfl) | exact Sl.of_own S.wd (k := 2) rfl (fun _ => rfl) | exact Sl.of_own S.wd (k := 3) rfl (fun _ => rfl) | (simp at *; omega))) rfl ?_) <;> clear S a w)
      rintro _ _ ⟨rfl, rfl⟩ a w S
      rw [rw_b1] at S
      rw [rw_b2] at S
      rw [rw_b3] at S
      (refine st_y S (Yr.ys (ys_move (Ev.t rfl))) rfl ?_; clear S a w; intro a w S)
      (refine st_y S (Yr.ys (ys_ext (Ev.t rfl) rfl)) rfl ?_; clear S a w; intro a w S)
      (refine st_y S (Yr.ys (ys_ext (Ev.t rfl) rfl)) rfl ?_; clear S a w; intro a w S)
      (refine st_y S (Yr.ys (ys_assign (Ev.t rfl))) rfl ?_; clear S a w; intro a w S)
      (refine st_y S (Yr.ys (ys_assign (Ev.t rfl))) rfl ?_; clear S a w; intro a w S)
      refine st_nil ?_
      (refine (then_normal (hK4 _ _ ?_)); clear hK4)
      refine wp_seq_k fun _ hK4 => ?_
      refine wp_seq_k fun _ hK5 => ?_
      refine wp_region_lit ?_
      (refine st_y S (Yr.ys (ys_move (Ev.t rfl))) rfl ?_; clear S a w; intro a w S)
      (refine st_y S (Yr.ys (ys_T (by omega) (ys_neq (Ev.t rfl) Ev.c))) rfl ?_; clear S a w; intro a w S)
      refine st_nil ?_
      (refine (then_normal (hK5 _ _ ?_)); clear hK5)
      refine st_then S (Ev.t rfl) ?_
      refine wp_seq_k fun _ hK5 => ?_
      refine wp_region_lit ?_
      (refine st_y S (Yr.ys (ys_ldA ⟨Try.isAgg74, Try.sizeOf74⟩ (Ev.t rfl) (k := 2) rfl rfl)) rfl ?_; clear S a w; intro a w S)
      (refine st_y S (Yr.ys (ys_move (Ev.t rfl))) rfl ?_; clear S a w; intro a w S)
      (refine st_m (op_stW S Try.sizeOf74 (Ev.t rfl) (Ev.t rfl) (k := 3) rfl rfl rfl (by simp [Value.oneCell']) ?_); clear S a w; intro a w S)
      (refine st_y S (Yr.ys (ys_assign (Ev.t rfl))) rfl ?_; clear S a w; intro a w S)
      refine st_nil ?_
      (refine (then_normal (hK5 _ _ ?_)); clear hK5)
      refine wp_ret ?_
      refine (then_ret (in_ret (then_ret (then_ret (in_ret (then_ret ?_))))))
      refine st_ret S (results2 S Try.results96 (Rv.cell (k := 3) ⟨Try.isAgg74, Try.sizeOf74⟩ rfl rfl rfl) (Rv.tmp rfl)) ?_
      have hv : (UInt64.ofNat (leV b k5 i)).toNat = leV b k5 i := by
        rw [UInt64.toNat_ofNat']
        exact Nat.mod_eq_of_lt (Nat.lt_of_lt_of_le (leV_lt b k5 i) (Nat.pow_le_pow_right (n := 256) (by omega) (show i ≤ 8 by omega)))
      refine ⟨_, _, rfl, S.wd.picks (L' := rdr g A cap b (k5 + i) L) (by repeat (first | exact Picks.nil | (refine Picks.rest ?_; (repeat (first | exact List.Sublist.refl _ | refine List.Sublist.cons_cons _ ?_ | refine List.Sublist.cons _ ?_)); done) | refine Picks.take 0 rfl ?_ | refine Picks.take 1 rfl ?_ | refine Picks.take 2 rfl ?_ | refine Picks.take 3 rfl ?_ | refine Picks.take 4 rfl ?_ | refine Picks.take 5 rfl ?_ | refine Picks.take 6 rfl ?_ | refine Picks.take 7 rfl ?_ | refine Picks.take 8 rfl ?_ | refine Picks.take 9 rfl ?_ | refine Picks.take 10 rfl ?_ | refine Picks.take 11 rfl ?_)), ⟨s, ⟨x1, x2, x3⟩, x4, UInt64.ofNat (leV b k5 i)⟩, k5 + i, ?_, rfl, hki, fun h => absurd (he.symm.trans h) (by decide)⟩
      rw [he]
      dsimp only [Ent.enc]
      rw [hv]
  obtain rfl : i = 8 := by omega
  refine wp_seq_k fun _ hK3 => ?_
  refine wp_region_lit ?_
  (refine st_y S (Yr.ys (ys_F (by omega) (ys_lss (Ev.t rfl) Ev.c))) rfl ?_; clear S a w; intro a w S)
  refine st_nil ?_
  (refine (then_normal (hK3 _ _ ?_)); clear hK3)
  refine wp_seq_k fun _ hK3 => ?_
  refine st_else S (Ev.t rfl) ?_
  refine wp_exit ?_
  (refine (then_exit (then_exit (in_here (then_normal (hK1 _ _ ?_))))); clear hK1)
  refine wp_seq_k fun _ hK1 => ?_
  refine wp_region_lit ?_
  (refine st_y S (Yr.ys (ys_ldA ⟨Try.isAgg74, Try.sizeOf74⟩ (Ev.t rfl) (k := 2) rfl rfl)) rfl ?_; clear S a w; intro a w S)
  (refine st_m (op_stW S Try.sizeOf74 (Ev.t rfl) (Ev.t rfl) (k := 3) rfl rfl rfl (by simp [Value.oneCell']) ?_); clear S a w; intro a w S)
  (refine st_y S (Yr.ys (ys_assign Ev.c)) rfl ?_; clear S a w; intro a w S)
  refine st_nil ?_
  (refine (then_normal (hK1 _ _ ?_)); clear hK1)
  refine wp_ret ?_
  refine st_ret S (results2 S Try.results96 (Rv.cell (k := 3) ⟨Try.isAgg74, Try.sizeOf74⟩ rfl rfl rfl) (Rv.tmp rfl)) ?_
  have he : entAt b k = (⟨s, ⟨x1, x2, x3⟩, x4, UInt64.ofNat (leV b k5 8)⟩, k5 + 8, 0) := by rw [hE, t6, if_pos (by omega), bindR_ok rfl]
  have hv : (UInt64.ofNat (leV b k5 8)).toNat = leV b k5 8 := by rw [UInt64.toNat_ofNat']; exact Nat.mod_eq_of_lt (leV_lt b k5 8)
  refine ⟨_, _, rfl, S.wd.picks (L' := rdr g A cap b (k5 + 8) L) (by repeat (first | exact Picks.nil | (refine Picks.rest ?_; (repeat (first | exact List.Sublist.refl _ | refine List.Sublist.cons_cons _ ?_ | refine List.Sublist.cons _ ?_)); done) | refine Picks.take 0 rfl ?_ | refine Picks.take 1 rfl ?_ | refine Picks.take 2 rfl ?_ | refine Picks.take 3 rfl ?_ | refine Picks.take 4 rfl ?_ | refine Picks.take 5 rfl ?_ | refine Picks.take 6 rfl ?_ | refine Picks.take 7 rfl ?_ | refine Picks.take 8 rfl ?_ | refine Picks.take 9 rfl ?_ | refine Picks.take 10 rfl ?_ | refine Picks.take 11 rfl ?_)), (entAt b k).1, k5 + 8, ?_, rfl, hki, fun _ => ⟨rfl, by rw [he]⟩⟩
  rw [he]
  dsimp only [Ent.enc]
  rw [hv]
end Go.Proofs.Ytfblmkocmnbdcaa
set_option linter.unusedVariables false
set_option linter.unusedSimpArgs false
set_option maxRecDepth 100000
set_option maxHeartbeats 4000000
namespace Go.Fw
theorem pow_le4 {y i : Nat} (hy : y < 256) (hi : i < 4) : y * 256 ^ i < 4294967296 := by
  have h1 : 256 ^ i ≤ 256 ^ 3 := Nat.pow_le_pow_right (by omega) (by omega)
  have h2 : y * 256 ^ i ≤ 255 * 256 ^ 3 := Nat.mul_le_mul (by omega) h1
  have h3 : 255 * 256 ^ 3 < 4294967296 := by decide
  omega
theorem leV_lt4 (b : List UInt8) (k : Nat) {i : Nat} (hi : i ≤ 4) : leV b k i < 4294967296 := by
  have h1 : 256 ^ i ≤ 256 ^ 4 := Nat.pow_le_pow_right (by omega) hi
  have h3 : (256 : Nat) ^ 4 = 4294967296 := by decide
  have := leV_lt b k i
  omega
theorem shl_le4 {y i : Nat} (hy : y < 256) (hi : i < 4) : IntKind.i64.wrap ((y : Int) * 2 ^ (8 * i)) = ((y * 256 ^ i : Nat) : Int) := by
  rw [pow_28, ← Int.natCast_mul]
  exact wrap_i64n (by have := pow_le4 hy hi; omega)
theorem or_le4 {m y i : Nat} (hm : m < 256 ^ i) (hy : y < 256) (hi : i < 4) : orK .i64 (m : Int) ((y * 256 ^ i : Nat) : Int) = ((m + y * 256 ^ i : Nat) : Int) := by
  have h1 := pow_le4 hy hi
  have h2 : 256 ^ i ≤ 256 ^ 3 := Nat.pow_le_pow_right (by omega) (by omega)
  have h3 : (256 : Nat) ^ 3 < 4294967296 := by decide
  have e : m ||| y * 256 ^ i = m + y * 256 ^ i := by
    have hp : (256 : Nat) ^ i = 2 ^ (8 * i) := by rw [Nat.pow_mul]
    rw [hp] at hm ⊢
    have := Nat.shiftLeft_add_eq_or_of_lt (a := y) hm
    rw [Nat.shiftLeft_eq] at this
    rw [Nat.or_comm, ← this, Nat.add_comm]
  unfold orK
  rw [ofInt_nat, ofInt_nat, BitVec.toNat_or, BitVec.toNat_ofNat, BitVec.toNat_ofNat, show IntKind.i64.bits = 64 from rfl, Nat.mod_eq_of_lt (by omega), Nat.mod_eq_of_lt (by omega), e]
  exact wrap_i64n (by omega)
end Go.Fw
namespace Go.Proofs.Ytfblmkocmnbdcaa
open Go.Fw Go.Proofs Go.RowKit Go.Proofs.Try
end Go.Proofs.Ytfblmkocmnbdcaa
set_option linter.unusedVariables false
set_option linter.unusedSimpArgs false
set_option maxRecDepth 100000
set_option maxHeartbeats 4000000
namespace Go.Proofs.Ytfblmkocmnbdcaa
open Go.Fw Go.Proofs Go.RowKit Go.Proofs.Try
theorem q90 {w0 w : World} {L : List Chunk} {g g1 g2 g3 cap : Nat} {A : Option Addr} {b : List UInt8} (W : Wd w0 (rdr g A cap b 0 (.blk g1 (.cells #[.pointer (some ⟨g, 0, none⟩)] 133) :: .blk g2 (.cells #[.slice none 0 0] 57) :: .blk g3 (.cells #[.slice none 0 0] 57) :: L)) w) (hb : b.length ≤ 16777216) :
    RetsP Try.prog 90 #[.pointer (some ⟨g1, 0, none⟩), .pointer (some ⟨g2, 0, none⟩), .pointer (some ⟨g3, 0, none⟩)] 43 w0 w (fun v L' => (unframeL b).2.2 = 0 ∧ v = .tuple #[] ∧ ∃ P r Q s, L' = .blk g2 (.cells #[.slice P (unframeL b).1.length r] 57) :: .blk g3 (.cells #[.slice Q (unframeL b).2.1.length s] 57) :: rowOf 5 1 encB P r (unframeL b).1 :: rowOf 5 1 encB Q s (unframeL b).2.1 :: L)
      (fun x L' => x = (unframeL b).2.2 ∧ x ≠ 0 ∧ L' = L) := by
  have hk : 0 ≤ b.length := Nat.zero_le _
  have hnl := numAt_le (b := b) (k := 0) hk
  have hnv := numAt_val b 0
  have hun : unframeL b = if (numAt b 0).2.2 = 0 then (if 65536 < (numAt b 0).1 then ([], [], 4) else if ((b.length - (numAt b 0).2.1 : Nat) : Int) < (numAt b 0).1 + 4 then ([], [], 2) else if leV b ((numAt b 0).2.1 + (numAt b 0).1.toNat) 4 ≠ crcL ((b.drop (numAt b 0).2.1).take (numAt b 0).1.toNat) then ([], [], 11) else ((b.drop (numAt b 0).2.1).take (numAt b 0).1.toNat, b.drop ((numAt b 0).2.1 + (numAt b 0).1.toNat + 4), 0)) else ([], [], (numAt b 0).2.2) := rfl
  obtain ⟨k1, rw_k⟩ : ∃ k1, 0 + (numR 0 0 (b.drop 0)).2.1 = k1 := ⟨_, rfl⟩
  have hk1 : (numAt b 0).2.1 = k1 := rw_k
  rw [hk1] at hnl hun
  by_cases he : (numAt b 0).2.2 = 0
  rotate_left
  · rw [if_neg he] at hun
    have he' : (numR 0 0 (b.drop 0)).2.2 ≠ 0 := he
    unfold Go.Fw.RetsP
    refine enterW3 W func90 rfl ntmps90 rfl fun a S => wp_seq_k fun _ hK1 => wp_region_lit (run S (.ld gt133 2 rfl rfl rfl <| .z) fun a w S => ?_)
    (refine st_m (op_callRP S call91 (.cons (.t rfl) .nil) (c91 S.wd (by first | assumption | omega | (dsimp only; omega) | exact Sl.nil_ | exact .old S.wd (by assumption) | exact Sl.of_own S.wd (k := 0) rfl (fun _ => rfl) | exact Sl.of_own S.wd (k := 1) rfl (fun _ => rfl) | exact Sl.of_own S.wd (k := 2) rfl (fun _ => rfl) | exact Sl.of_own S.wd (k := 3) rfl (fun _ => rfl) | exact Sl.of_own S.wd (k := 4) rfl (fun _ => rfl) | (simp at *; omega)) (by first | assumption | omega | (dsimp only; omega) | exact Sl.nil_ | exact .old S.wd (by assumption) | exact Sl.of_own S.wd (k := 0) rfl (fun _ => rfl) | exact Sl.of_own S.wd (k := 1) rfl (fun _ => rfl) | exact Sl.of_own S.wd (k := 2) rfl (fun _ => rfl) | exact Sl.of_own S.wd (k := 3) rfl (fun _ => rfl) | exact Sl.of_own S.wd (k := 4) rfl (fun _ => rfl) | (simp at *; omega))) rfl ?_ ?_) <;> clear S a w)
    rintro _ _ ⟨hr1, rfl, rfl⟩ a w S
    rw [rw_k] at S
    refine run S (.as rfl <| .z) fun a w S => st_nil (then_normal (hK1 _ _ (wp_seq_k fun _ hK1 => sg S (.mv rfl <| .yy (ys_T (by omega) (ys_gtr (.t rfl) Ev.c)) rfl <| .z) fun a w S => st_then S (.t rfl) (wp_region_lit ?_))))
    (refine st_m (op_callRP S call92 (.cons Ev.c .nil) (c92 S.wd _) rfl ?_ ?_) <;> clear S a w)
    (intro _ _ h; exact h.elim)
    rintro _ _ ⟨rfl, rfl⟩ a w S
    refine then_panic ?_
    refine post_panic S ?_
    rotate_left
    rintro _ _ ⟨rfl, hr1, rfl⟩ a w S
    refine then_panic ?_
    refine post_panic S ?_
    rotate_left
    · exact absurd hr1 he'
    · rw [hun]
      exact .inr ⟨_, _, rfl, S.wd.picks (L' := L) (by repeat (first | exact Picks.nil | (refine Picks.rest ?_; (repeat (first | exact List.Sublist.refl _ | refine List.Sublist.cons_cons _ ?_ | refine List.Sublist.cons _ ?_)); done) | refine Picks.take 0 rfl ?_ | refine Picks.take 1 rfl ?_ | refine Picks.take 2 rfl ?_ | refine Picks.take 3 rfl ?_ | refine Picks.take 4 rfl ?_ | refine Picks.take 5 rfl ?_ | refine Picks.take 6 rfl ?_ | refine Picks.take 7 rfl ?_ | refine Picks.take 8 rfl ?_ | refine Picks.take 9 rfl ?_ | refine Picks.take 10 rfl ?_ | refine Picks.take 11 rfl ?_)), rfl, hr1, rfl⟩
  rw [if_pos he] at hun
  have he' : (numR 0 0 (b.drop 0)).2.2 = 0 := he
  obtain ⟨m, hm⟩ := Int.eq_ofNat_of_zero_le hnv.1
  have rw_m : (numR 0 0 (b.drop 0)).1 = (m : Int) := hm
  rw [hm, Int.toNat_natCast] at hun
  rw [hm] at hnv
  by_cases h1 : 65536 < (m : Int)
  · have rw_1 : decide (65536 < (m : Int)) = true := decide_eq_true h1
    rw [if_pos h1] at hun
    unfold Go.Fw.RetsP
    refine enterW3 W func90 rfl ntmps90 rfl fun a S => wp_seq_k fun _ hK1 => wp_region_lit (run S (.ld gt133 2 rfl rfl rfl <| .z) fun a w S => ?_)
    (refine st_m (op_callRP S call91 (.cons (.t rfl) .nil) (c91 S.wd (by first | assumption | omega | (dsimp only; omega) | exact Sl.nil_ | exact .old S.wd (by assumption) | exact Sl.of_own S.wd (k := 0) rfl (fun _ => rfl) | exact Sl.of_own S.wd (k := 1) rfl (fun _ => rfl) | exact Sl.of_own S.wd (k := 2) rfl (fun _ => rfl) | exact Sl.of_own S.wd (k := 3) rfl (fun _ => rfl) | exact Sl.of_own S.wd (k := 4) rfl (fun _ => rfl) | (simp at *; omega)) (by first | assumption | omega | (dsimp only; omega) | exact Sl.nil_ | exact .old S.wd (by assumption) | exact Sl.of_own S.wd (k := 0) rfl (fun _ => rfl) | exact Sl.of_own S.wd (k := 1) rfl (fun _ => rfl) | exact Sl.of_own S.wd (k := 2) rfl (fun _ => rfl) | exact Sl.of_own S.wd (k := 3) rfl (fun _ => rfl) | exact Sl.of_own S.wd (k := 4) rfl (fun _ => rfl) | (simp at *; omega))) rfl ?_ ?_) <;> clear S a w)
    rintro _ _ ⟨hr1, rfl, rfl⟩ a w S
    rw [rw_k] at S
    rw [rw_m] at S
    refine run S (.as rfl <| .z) fun a w S => st_nil (then_normal (hK1 _ _ (wp_seq_k fun _ hK1 => sg S (.mv rfl <| .yy (ys_T (by omega) (ys_gtr (.t rfl) Ev.c)) rfl <| .z) fun a w S => st_then S (.t rfl) (wp_region_lit ?_))))
    (refine st_m (op_callRP S call92 (.cons Ev.c .nil) (c92 S.wd _) rfl ?_ ?_) <;> clear S a w)
    (intro _ _ h; exact h.elim)
    rintro _ _ ⟨rfl, rfl⟩ a w S
    refine then_panic ?_
    refine post_panic S ?_
    rotate_left
    rintro _ _ ⟨rfl, hr1, rfl⟩ a w S
    refine then_panic ?_
    refine post_panic S ?_
    rotate_left
    · rw [hun]
      exact .inr ⟨_, _, rfl, S.wd.picks (L' := L) (by repeat (first | exact Picks.nil | (refine Picks.rest ?_; (repeat (first | exact List.Sublist.refl _ | refine List.Sublist.cons_cons _ ?_ | refine List.Sublist.cons _ ?_)); done) | refine Picks.take 0 rfl ?_ | refine Picks.take 1 rfl ?_ | refine Picks.take 2 rfl ?_ | refine Picks.take 3 rfl ?_ | refine Picks.take 4 rfl ?_ | refine Picks.take 5 rfl ?_ | refine Picks.take 6 rfl ?_ | refine Picks.take 7 rfl ?_ | refine Picks.take 8 rfl ?_ | refine Picks.take 9 rfl ?_ | refine Picks.take 10 rfl ?_ | refine Picks.take 11 rfl ?_)), rfl, by decide, rfl⟩
    · exact absurd he' hr1
  have rw_1 : decide (65536 < (m : Int)) = false := decide_eq_false h1
  rw [if_neg h1] at hun
  by_cases h2 : ((b.length - k1 : Nat) : Int) < (m : Int) + 4
  · have rw_2 : decide (((b.length - k1 : Nat) : Int) < (m : Int) + 4) = true := decide_eq_true h2
    rw [if_pos h2] at hun
    unfold Go.Fw.RetsP
    refine enterW3 W func90 rfl ntmps90 rfl fun a S => wp_seq_k fun _ hK1 => wp_region_lit (run S (.ld gt133 2 rfl rfl rfl <| .z) fun a w S => ?_)
    (refine st_m (op_callRP S call91 (.cons (.t rfl) .nil) (c91 S.wd (by first | assumption | omega | (dsimp only; omega) | exact Sl.nil_ | exact .old S.wd (by assumption) | exact Sl.of_own S.wd (k := 0) rfl (fun _ => rfl) | exact Sl.of_own S.wd (k := 1) rfl (fun _ => rfl) | exact Sl.of_own S.wd (k := 2) rfl (fun _ => rfl) | exact Sl.of_own S.wd (k := 3) rfl (fun _ => rfl) | exact Sl.of_own S.wd (k := 4) rfl (fun _ => rfl) | (simp at *; omega)) (by first | assumption | omega | (dsimp only; omega) | exact Sl.nil_ | exact .old S.wd (by assumption) | exact Sl.of_own S.wd (k := 0) rfl (fun _ => rfl) | exact Sl.of_own S.wd (k := 1) rfl (fun _ => rfl) | exact Sl.of_own S.wd (k := 2) rfl (fun _ => rfl) | exact Sl.of_own S.wd (k := 3) rfl (fun _ => rfl) | exact Sl.of_own S.wd (k := 4) rfl (fun _ => rfl) | (simp at *; omega))) rfl ?_ ?_) <;> clear S a w)
    rintro _ _ ⟨hr1, rfl, rfl⟩ a w S
    rw [rw_k] at S
    rw [rw_m] at S
    refine run S (.as rfl <| .z) fun a w S => st_nil (then_normal (hK1 _ _ (wp_seq_k fun _ hK1 => sg S (.mv rfl <| .yy (ys_F (by omega) (ys_gtr (.t rfl) Ev.c)) rfl <| .z) fun a w S => st_else S (.t rfl) (wp_skip (then_normal (hK1 _ _ (wp_seq_k fun _ hK1 => sg S (.ld gt133 2 rfl rfl rfl <| .xx (ys_call call93 (.cons (.t rfl) .nil) (fun hp w W => c93 _ _ _ _ _ _ (by exact Wd.cell W (k := 0) rfl rfl) (by exact Wd.cell W (k := 0) rfl rfl) (by exact Wd.cell W (k := 0) rfl rfl) (by omega) (by assumption))) rfl <| .mv rfl <| .ad (by unfold I64; omega) rfl <| .lt (by omega) rfl rfl <| .z) fun a w S => st_then S (.t rfl) (wp_region_lit ?_))))))))
    (refine st_m (op_callRP S call92 (.cons Ev.c .nil) (c92 S.wd _) rfl ?_ ?_) <;> clear S a w)
    (intro _ _ h; exact h.elim)
    rintro _ _ ⟨rfl, rfl⟩ a w S
    refine then_panic ?_
    refine post_panic S ?_
    rotate_left
    rintro _ _ ⟨rfl, hr1, rfl⟩ a w S
    refine then_panic ?_
    refine post_panic S ?_
    rotate_left
    · rw [hun]
      exact .inr ⟨_, _, rfl, S.wd.picks (L' := L) (by repeat (first | exact Picks.nil | (refine Picks.rest ?_; (repeat (first | exact List.Sublist.refl _ | refine List.Sublist.cons_cons _ ?_ | refine List.Sublist.cons _ ?_)); done) | refine Picks.take 0 rfl ?_ | refine Picks.take 1 rfl ?_ | refine Picks.take 2 rfl ?_ | refine Picks.take 3 rfl ?_ | refine Picks.take 4 rfl ?_ | refine Picks.take 5 rfl ?_ | refine Picks.take 6 rfl ?_ | refine Picks.take 7 rfl ?_ | refine Picks.take 8 rfl ?_ | refine Picks.take 9 rfl ?_ | refine Picks.take 10 rfl ?_ | refine Picks.take 11 rfl ?_)), rfl, by decide, rfl⟩
    · exact absurd he' hr1
  have rw_2 : decide (((b.length - k1 : Nat) : Int) < (m : Int) + 4) = false := decide_eq_false h2
  rw [if_neg h2] at hun
  have hle : k1 + m + 4 ≤ b.length := by omega
  have ht4 : ((b.drop (k1 + m)).take 4).length = 4 := by rw [List.length_take, List.length_drop]; omega
  have hte : ∀ i, i < 4 → ((b.drop (k1 + m)).take 4)[i]? = b[k1 + m + i]? := fun i hi => by rw [List.getElem?_take_of_lt hi, List.getElem?_drop]
  obtain ⟨t4, rw_t⟩ : ∃ t4, (b.drop (k1 + m)).take 4 = t4 := ⟨_, rfl⟩
  have htl : ((b.drop k1).take m).length = m := by rw [List.length_take, List.length_drop]; omega
  obtain ⟨t, rw_u⟩ : ∃ t, (b.drop k1).take m = t := ⟨_, rfl⟩
  rw [rw_t] at ht4 hte
  rw [rw_u] at hun htl
  unfold Go.Fw.RetsP
  refine enterW3 W func90 rfl ntmps90 rfl fun a S => wp_seq_k fun _ hK1 => wp_region_lit (run S (.ld gt133 2 rfl rfl rfl <| .z) fun a w S => ?_)
  (refine st_m (op_callRP S call91 (.cons (.t rfl) .nil) (c91 S.wd (by first | assumption | omega | (dsimp only; omega) | exact Sl.nil_ | exact .old S.wd (by assumption) | exact Sl.of_own S.wd (k := 0) rfl (fun _ => rfl) | exact Sl.of_own S.wd (k := 1) rfl (fun _ => rfl) | exact Sl.of_own S.wd (k := 2) rfl (fun _ => rfl) | exact Sl.of_own S.wd (k := 3) rfl (fun _ => rfl) | exact Sl.of_own S.wd (k := 4) rfl (fun _ => rfl) | (simp at *; omega)) (by first | assumption | omega | (dsimp only; omega) | exact Sl.nil_ | exact .old S.wd (by assumption) | exact Sl.of_own S.wd (k := 0) rfl (fun _ => rfl) | exact Sl.of_own S.wd (k := 1) rfl (fun _ => rfl) | exact Sl.of_own S.wd (k := 2) rfl (fun _ => rfl) | exact Sl.of_own S.wd (k := 3) rfl (fun _ => rfl) | exact Sl.of_own S.wd (k := 4) rfl (fun _ => rfl) | (simp at *; omega))) rfl ?_ ?_) <;> clear S a w)
  rintro _ _ ⟨hr1, rfl, rfl⟩ a w S
  rw [rw_k] at S
  rw [rw_m] at S
  refine run S (.as rfl <| .z) fun a w S => st_nil (then_normal (hK1 _ _ (wp_seq_k fun _ hK1 => sg S (.mv rfl <| .yy (ys_F (by omega) (ys_gtr (.t rfl) Ev.c)) rfl <| .z) fun a w S => st_else S (.t rfl) (wp_skip (then_normal (hK1 _ _ (wp_seq_k fun _ hK1 => sg S (.ld gt133 2 rfl rfl rfl <| .xx (ys_call call93 (.cons (.t rfl) .nil) (fun hp w W => c93 _ _ _ _ _ _ (by exact Wd.cell W (k := 0) rfl rfl) (by exact Wd.cell W (k := 0) rfl rfl) (by exact Wd.cell W (k := 0) rfl rfl) (by omega) (by assumption))) rfl <| .mv rfl <| .ad (by unfold I64; omega) rfl <| .ge (by omega) rfl rfl <| .z) fun a w S => st_else S (.t rfl) (wp_skip (then_normal (hK1 _ _ (wp_seq_k fun _ hK1 => wp_region_lit (run S (.ld gt133 2 rfl rfl rfl <| .mv rfl <| .z) fun a w S => ?_))))))))))))
  (refine st_m (op_callO S call94 (.cons (.t rfl) (.cons (.t rfl) .nil)) (c94 S.wd _ (by first | assumption | omega | (dsimp only; omega) | exact Sl.nil_ | exact .old S.wd (by assumption) | exact Sl.of_own S.wd (k := 0) rfl (fun _ => rfl) | exact Sl.of_own S.wd (k := 1) rfl (fun _ => rfl) | exact Sl.of_own S.wd (k := 2) rfl (fun _ => rfl) | exact Sl.of_own S.wd (k := 3) rfl (fun _ => rfl) | exact Sl.of_own S.wd (k := 4) rfl (fun _ => rfl) | (simp at *; omega)) (by first | assumption | omega | (dsimp only; omega) | exact Sl.nil_ | exact .old S.wd (by assumption) | exact Sl.of_own S.wd (k := 0) rfl (fun _ => rfl) | exact Sl.of_own S.wd (k := 1) rfl (fun _ => rfl) | exact Sl.of_own S.wd (k := 2) rfl (fun _ => rfl) | exact Sl.of_own S.wd (k := 3) rfl (fun _ => rfl) | exact Sl.of_own S.wd (k := 4) rfl (fun _ => rfl) | (simp at *; omega))) rfl ?_) <;> clear S a w)
  rintro _ _ ⟨A11, c11, rfl, rfl⟩ a w S
  rw [rw_u] at S
  refine st_m (op_st S sizeOf57 (.t rfl) (.t rfl) (k := 4) rfl rfl (by simp) fun a w S => st_nil (then_normal (hK1 _ _ (sg S (.ac rfl <| .z) fun a w S => wp_seq_k fun _ hK1 => wp_seq_k fun _ hK2 => wp_region_lit (run S (.ld gt133 3 rfl rfl rfl <| .z) fun a w S => ?_)))))
  (refine st_m (op_callO S call94 (.cons (.t rfl) (.cons Ev.c .nil)) (c94 S.wd _ (by first | assumption | omega | (dsimp only; omega) | exact Sl.nil_ | exact .old S.wd (by assumption) | exact Sl.of_own S.wd (k := 0) rfl (fun _ => rfl) | exact Sl.of_own S.wd (k := 1) rfl (fun _ => rfl) | exact Sl.of_own S.wd (k := 2) rfl (fun _ => rfl) | exact Sl.of_own S.wd (k := 3) rfl (fun _ => rfl) | exact Sl.of_own S.wd (k := 4) rfl (fun _ => rfl) | exact Sl.of_own S.wd (k := 5) rfl (fun _ => rfl) | (simp at *; omega)) (by first | assumption | omega | (dsimp only; omega) | exact Sl.nil_ | exact .old S.wd (by assumption) | exact Sl.of_own S.wd (k := 0) rfl (fun _ => rfl) | exact Sl.of_own S.wd (k := 1) rfl (fun _ => rfl) | exact Sl.of_own S.wd (k := 2) rfl (fun _ => rfl) | exact Sl.of_own S.wd (k := 3) rfl (fun _ => rfl) | exact Sl.of_own S.wd (k := 4) rfl (fun _ => rfl) | exact Sl.of_own S.wd (k := 5) rfl (fun _ => rfl) | (simp at *; omega))) rfl ?_) <;> clear S a w)
  rintro _ _ ⟨A12, c12, rfl, rfl⟩ a w S
  rw [rw_t] at S
  refine run S (.ln underlying57 rfl <| .mc rfl <| .z) fun a w S => st_nil (then_normal (hK2 _ _ (wp_block ?_)))
  rotate_left
  rintro _ _ ⟨rfl, hr1, rfl⟩ a w S
  refine then_panic ?_
  refine post_panic S ?_
  rotate_left
  refine st_lpM S [4, 24] (X := Nat) (fun i => [(24, true, .int .i64 (i : Int)), (4, true, .int .i64 (leV b (k1 + m) i : Int))]) (fun _ => rdr g A cap b (k1 + m + 4) (rowOf 5 1 encB A12 c12 t4 :: rowOf 5 1 encB A11 c11 t :: .blk g1 (.cells #[.pointer (some ⟨g, 0, none⟩)] 133) :: .blk g2 (.cells #[.slice A11 t.length c11] 57) :: .blk g3 (.cells #[.slice none 0 0] 57) :: L)) (fun i => i ≤ 4) (fun i => 4 - i) 0 (Nat.zero_le _) ?_
  clear S
  intro i a w hi S
  have hlv := leV_lt4 b (k1 + m) hi
  by_cases hi4 : i < 4
  · obtain ⟨ga, rfl⟩ := S.wd.row_at (k := 2) rfl (by have := (S.wd.room (k := 2) rfl).1; omega)
    obtain ⟨y, hy⟩ : ∃ y, t4[i]? = some y := ⟨t4[i], by simp⟩
    have hyb : b[k1 + m + i]? = some y := by rw [← hte i hi4]; exact hy
    have hy8 : y.toNat < 256 := y.toNat_lt
    have rw_8 : 8 * (i : Int) = ((8 * i : Nat) : Int) := by omega
    have rw_9 : (i : Int) + 1 = ((i + 1 : Nat) : Int) := rfl
    have rw_h := shl_le4 hy8 hi4
    have hlw : leV b (k1 + m) (i + 1) = leV b (k1 + m) i + y.toNat * 256 ^ i := by rw [leV, List.getD_eq_getElem?_getD, hyb]; rfl
    have rw_o : orK .i64 (leV b (k1 + m) i : Int) ((y.toNat * 256 ^ i : Nat) : Int) = ((leV b (k1 + m) (i + 1) : Nat) : Int) := by
      rw [or_le4 (leV_lt b (k1 + m) i) hy8 hi4, hlw]
    have hpl := pow_le4 hy8 hi4
    refine sg S (.lt (by omega) rfl rfl <| .z) fun a w S => wp_seq_k fun _ hK2 => st_then S (.t rfl) (wp_skip (then_normal (hK2 _ _ (wp_seq_k fun _ hK2 => wp_block (sg S (.mv rfl <| .ix underlying57 sizeOf5 (by omega) rfl rfl <| .yy (ys_ldW0 ⟨isAgg5, sizeOf5⟩ (.t rfl) (k := 2) rfl hy (fun _ => rfl) rfl) rfl <| .as rfl <| .as rfl <| .z) fun a w S => wp_region_lit (run S (.mv rfl <| .mv rfl <| .yy (ys_cvI underlying5 underlying3 (.t rfl) (fun _ => by unfold I64; omega)) rfl <| .mv rfl <| .yy (ys_mulI Ev.c (.t rfl) (fun _ => by unfold I64; omega)) rfl <| .z) fun a w S => ?_))))))
    rw [rw_8] at S
    refine run S (.yy (ys_shl (.t rfl) (.t rfl) (Nat.ble_eq_true_of_le (by show _ ≤ 64; omega))) rfl <| .z) fun a w S => ?_
    rw [rw_h] at S
    refine run S (.yy (ys_bor (.t rfl) (.t rfl)) rfl <| .z) fun a w S => ?_
    rw [rw_o] at S
    refine run S (.as rfl <| .z) fun a w S => st_nil (in_normal (then_normal (hK2 _ _ (wp_region_lit (run S (.ad (by unfold I64; omega) rfl <| .z) fun a w S => ?_)))))
    rw [rw_9] at S
    refine run S (.mv rfl <| .z) fun a w S => st_nil (then_normal ?_)
    exact ⟨i + 1, by omega, by omega, S.pk⟩
  obtain rfl : i = 4 := by omega
  by_cases h3 : leV b (k1 + m) 4 = crcL t
  · have rw_3 : decide ((leV b (k1 + m) 4 : Int) ≠ (crcL t : Int)) = false := decide_eq_false (by omega)
    rw [if_neg (by simpa using h3)] at hun
    have rw_s : k1 + m + 4 + (b.length - (k1 + m + 4)) = b.length := by omega
    have htd : (b.drop (k1 + m + 4)).take (b.length - (k1 + m + 4)) = b.drop (k1 + m + 4) := List.take_of_length_le (by rw [List.length_drop]; exact Nat.le_refl _)
    have rw_d := htd
    refine sg S (.ge (by omega) rfl rfl <| .z) fun a w S => wp_seq_k fun _ hK2 => st_else S (.t rfl) (wp_exit (then_exit (then_exit (in_here (then_normal (hK1 _ _ (wp_seq_k fun _ hK1 => sg S (.mv rfl <| .ld gt57 5 rfl rfl rfl <| .xx (ys_call call80 (.cons (.t rfl) .nil) (fun hp w W => c80 _ _ _ (by exact Sl.of_own W (k := 3) rfl (fun _ => rfl)))) rfl <| .yy (ys_F (by omega) (ys_neq (.t rfl) (.t rfl))) rfl <| .z) fun a w S => st_else S (.t rfl) (wp_skip (then_normal (hK1 _ _ (h_begin S (by kernel_rfl) [rowOf 5 1 encB A cap b, rowOf 5 1 encB A11 c11 t, .blk g1 (.cells #[.pointer (some ⟨g, 0, none⟩)] 133)] ?_)))))))))))
    clear S
    intro a w S
    refine hy 0 S rfl (ys_ld ⟨isAgg133, sizeOf133⟩ (.t rfl) (k := 2) rfl rfl) rfl fun a w S => hy 1 S rfl (ys_ld ⟨isAgg133, sizeOf133⟩ (.t rfl) (k := 2) rfl rfl) rfl fun a w S => h_q (i := 2) S (by repeat (first | exact List.Sublist.refl _ | exact List.nil_sublist _ | refine .cons_cons _ ?_ | refine .cons _ ?_)) rfl (by kernel_rfl) (ys_call call93 (.cons (.t rfl) .nil) (fun hp w W => c93 _ _ _ _ _ _ (by exact Wd.cell W (k := 0) rfl rfl) (by exact Wd.cell W (k := 0) rfl rfl) (by exact Wd.cell W (k := 0) rfl rfl) (by assumption) (by assumption))) rfl fun a w S => h_m (i := 3) rfl (by kernel_rfl) (op_callO S call94 (.cons (.t rfl) (.cons (.t rfl) .nil)) (c94 S.wd (b.length - (k1 + m + 4)) (by omega) hb) rfl ?_)
    clear S
    rintro _ _ ⟨A13, c13, rfl, rfl⟩ a w S
    rw [rw_d, rw_s] at S
    refine h_n1 S ?_
    (refine h_m0 (i := 4) rfl (by kernel_rfl) (op_st S sizeOf57 (.t rfl) (.t rfl) (k := 7) rfl rfl (by simp) ?_); clear S a w; intro a w S; refine h_n1 S ?_)
    refine h_done (by kernel_rfl) (st_end S (results0 results90) ?_)
    rw [hun]
    exact .inl ⟨_, _, rfl, S.wd.picks (L' := .blk g2 (.cells #[.slice A11 t.length c11] 57) :: .blk g3 (.cells #[.slice A13 (b.drop (k1 + m + 4)).length c13] 57) :: rowOf 5 1 encB A11 c11 t :: rowOf 5 1 encB A13 c13 (b.drop (k1 + m + 4)) :: L) (by repeat (first | exact Picks.nil | (refine Picks.rest ?_; (repeat (first | exact List.Sublist.refl _ | refine List.Sublist.cons_cons _ ?_ | refine List.Sublist.cons _ ?_)); done) | refine Picks.take 0 rfl ?_ | refine Picks.take 1 rfl ?_ | refine Picks.take 2 rfl ?_ | refine Picks.take 3 rfl ?_ | refine Picks.take 4 rfl ?_ | refine Picks.take 5 rfl ?_ | refine Picks.take 6 rfl ?_ | refine Picks.take 7 rfl ?_ | refine Picks.take 8 rfl ?_ | refine Picks.take 9 rfl ?_ | refine Picks.take 10 rfl ?_ | refine Picks.take 11 rfl ?_)), rfl, rfl, _, _, _, _, rfl⟩
  · have rw_3 : decide ((leV b (k1 + m) 4 : Int) ≠ (crcL t : Int)) = true := decide_eq_true (by omega)
    rw [if_pos (by simpa using h3)] at hun
    refine sg S (.ge (by omega) rfl rfl <| .z) fun a w S => wp_seq_k fun _ hK2 => st_else S (.t rfl) (wp_exit (then_exit (then_exit (in_here (then_normal (hK1 _ _ (wp_seq_k fun _ hK1 => sg S (.mv rfl <| .ld gt57 5 rfl rfl rfl <| .xx (ys_call call80 (.cons (.t rfl) .nil) (fun hp w W => c80 _ _ _ (by exact Sl.of_own W (k := 3) rfl (fun _ => rfl)))) rfl <| .yy (ys_T (by omega) (ys_neq (.t rfl) (.t rfl))) rfl <| .z) fun a w S => st_then S (.t rfl) (wp_region_lit ?_))))))))
    (refine st_m (op_callRP S call92 (.cons Ev.c .nil) (c92 S.wd _) rfl ?_ ?_) <;> clear S a w)
    (intro _ _ h; exact h.elim)
    rintro _ _ ⟨rfl, rfl⟩ a w S
    refine then_panic ?_
    refine post_panic S ?_
    rw [hun]
    exact .inr ⟨_, _, rfl, S.wd.picks (L' := L) (by repeat (first | exact Picks.nil | (refine Picks.rest ?_; (repeat (first | exact List.Sublist.refl _ | refine List.Sublist.cons_cons _ ?_ | refine List.Sublist.cons _ ?_)); done) | refine Picks.take 0 rfl ?_ | refine Picks.take 1 rfl ?_ | refine Picks.take 2 rfl ?_ | refine Picks.take 3 rfl ?_ | refine Picks.take 4 rfl ?_ | refine Picks.take 5 rfl ?_ | refine Picks.take 6 rfl ?_ | refine Picks.take 7 rfl ?_ | refine Picks.take 8 rfl ?_ | refine Picks.take 9 rfl ?_ | refine Picks.take 10 rfl ?_ | refine Picks.take 11 rfl ?_)), rfl, by decide, rfl⟩
  exact absurd he' hr1
end Go.Proofs.Ytfblmkocmnbdcaa
set_option linter.unusedVariables false
set_option linter.unusedSimpArgs false
set_option maxRecDepth 100000
set_option maxHeartbeats 4000000
namespace Go.Fw
theorem unframe_bad {b : List UInt8} (h : (unframeL b).2.2 ≠ 0) : (unframeL b).1 = [] ∧ (unframeL b).2.1 = [] := by
  unfold unframeL at h ⊢
  repeat' split
  all_goals first | exact ⟨rfl, rfl⟩ | skip
  simp_all
end Go.Fw
namespace Go.Proofs.Ytfblmkocmnbdcaa
open Go.Fw Go.Proofs Go.RowKit Go.Proofs.Try
theorem c46 (w0 : World) (v1 : Value) (b : List UInt8) (h : Sl encB 1 w0 w0.heap.size v1 b) (hb : b.length ≤ 16777216) :
    Rets Try.prog 46 #[v1] w0 fun v L => ∃ A r A' r', v = .tuple #[.slice A (unframeL b).1.length r, .slice A' (unframeL b).2.1.length r', .int .i64 (unframeL b).2.2] ∧ L = [rowOf 5 1 encB A r (unframeL b).1, rowOf 5 1 encB A' r' (unframeL b).2.1] := by
  obtain ⟨A, cap, rfl, hlc, hcap, hA⟩ := id h
  unfold Go.Fw.Rets
  refine enter1 func46 rfl ntmps46 rfl fun a S => sg S (.ac rfl <| .ac rfl <| .ac rfl <| .z) fun a w S => wp_seq_k fun _ hK1 => wp_region_lit (run S (.mv rfl <| .z) fun a w S => ?_)
  (refine st_m (op_calls S call88 (.cons (.t rfl) .nil) (c88 _ _ _ (by exact .old S.wd (by assumption)) (by assumption)) rfl ?_); clear S a w; rintro _ _ ⟨g1, A1, c1, rfl, rfl⟩ a w S)
  refine st_m (op_alloc S zeroValue133 (cs := _) rfl rfl fun g2 a w S => st_m (op_st S sizeOf133 (.t rfl) (.t rfl) (k := 0) rfl rfl (by simp) fun a w S => st_nil (then_normal (hK1 _ _ (wp_seq_k fun _ hK1 => wp_region_lit (st_m (op_alloc S zeroValue57 (cs := _) rfl rfl fun g3 a w S => st_m (op_alloc S zeroValue57 (cs := _) rfl rfl fun g4 a w S => st_nil (then_normal (hK1 _ _ (wp_seq_k fun _ hK1 => wp_region_lit (run S (.yy (ys_mkFunc (.cons (.t rfl) (.cons (.t rfl) (.cons (.t rfl) .nil)))) rfl <| .z) fun a w S => ?_))))))))))))
  have W2 := S.wd.picks (L' := rdr g1 A1 c1 b 0 [.blk g2 (.cells #[.pointer (some ⟨g1, 0, none⟩)] 133), .blk g3 (.cells #[.slice none 0 0] 57), .blk g4 (.cells #[.slice none 0 0] 57)]) (by repeat (first | exact Picks.nil | (refine Picks.rest ?_; (repeat (first | exact List.Sublist.refl _ | refine List.Sublist.cons_cons _ ?_ | refine List.Sublist.cons _ ?_)); done) | refine Picks.take 0 rfl ?_ | refine Picks.take 1 rfl ?_ | refine Picks.take 2 rfl ?_ | refine Picks.take 3 rfl ?_ | refine Picks.take 4 rfl ?_ | refine Picks.take 5 rfl ?_ | refine Picks.take 6 rfl ?_ | refine Picks.take 7 rfl ?_ | refine Picks.take 8 rfl ?_ | refine Picks.take 9 rfl ?_ | refine Picks.take 10 rfl ?_ | refine Picks.take 11 rfl ?_))
  replace S := St.mk S.kn W2
  refine st_m (op_callO S call89 (.cons (.t rfl) .nil) (tryW (f := 90) (cs := [.pointer (some ⟨g2, 0, none⟩), .pointer (some ⟨g3, 0, none⟩), .pointer (some ⟨g4, 0, none⟩)])
    (R := fun x L' => (x = 0 ∧ (unframeL b).2.2 = 0 ∧ ∃ P r Q s, L' = [.blk g3 (.cells #[.slice P (unframeL b).1.length r] 57), .blk g4 (.cells #[.slice Q (unframeL b).2.1.length s] 57), rowOf 5 1 encB P r (unframeL b).1, rowOf 5 1 encB Q s (unframeL b).2.1]) ∨ (x ≠ 0 ∧ x = (unframeL b).2.2 ∧ L' = []))
    S.wd call90 fun C w1 W1 => Calls.mono (q90 (L := [C]) (W1.pk) hb) ?_) rfl ?_)
  · intro e w' h
    rcases h with ⟨v, L', rfl, hw, h1, rfl, P, r, Q, s, rfl⟩ | ⟨x, L', rfl, hw, rfl, h1, rfl⟩
    · exact .inl ⟨_, _, rfl, hw.picks (L' := C :: [.blk g3 (.cells #[.slice P (unframeL b).1.length r] 57), .blk g4 (.cells #[.slice Q (unframeL b).2.1.length s] 57), rowOf 5 1 encB P r (unframeL b).1, rowOf 5 1 encB Q s (unframeL b).2.1]) (by repeat (first | exact Picks.nil | (refine Picks.rest ?_; (repeat (first | exact List.Sublist.refl _ | refine List.Sublist.cons_cons _ ?_ | refine List.Sublist.cons _ ?_)); done) | refine Picks.take 0 rfl ?_ | refine Picks.take 1 rfl ?_ | refine Picks.take 2 rfl ?_ | refine Picks.take 3 rfl ?_ | refine Picks.take 4 rfl ?_ | refine Picks.take 5 rfl ?_ | refine Picks.take 6 rfl ?_ | refine Picks.take 7 rfl ?_ | refine Picks.take 8 rfl ?_ | refine Picks.take 9 rfl ?_ | refine Picks.take 10 rfl ?_ | refine Picks.take 11 rfl ?_)), _, rfl, rfl, .inl ⟨rfl, h1, P, r, Q, s, rfl⟩⟩
    · exact .inr ⟨_, _, rfl, hw, _, rfl, .inr ⟨h1, rfl, rfl⟩⟩
  clear S W2
  rintro _ _ ⟨x, rfl, h⟩ a w S
  rcases h with ⟨rfl, h1, P, r, Q, s, rfl⟩ | ⟨hx, rfl, rfl⟩
  · refine run S (.as rfl <| .z) fun a w S => st_nil (then_normal (hK1 _ _ (wp_seq_k fun _ hK1 => sg S (.mv rfl <| .yy (ys_F (by omega) (ys_neq (.t rfl) Ev.c)) rfl <| .z) fun a w S => st_else S (.t rfl) (wp_skip (then_normal (hK1 _ _ (wp_seq_k fun _ hK1 => st_quiet S (by kernel_rfl) (by kernel_rfl) fun a S => qrun S (.ld gt57 0 rfl rfl rfl <| .ld gt57 1 rfl rfl rfl <| .as rfl <| .as rfl <| .ac rfl <| .z) fun a S => ?_)))))))
    (refine q_nil ?_; intro w W; replace S := St.mk S W; clear W)
    refine then_normal (hK1 _ _ (wp_ret (st_ret S (results3 S results46 (Rv.tmp rfl) (Rv.tmp rfl) (Rv.tmp rfl)) ?_)))
    rw [h1]
    exact ⟨_, _, rfl, S.wd.picks (L' := [rowOf 5 1 encB P r (unframeL b).1, rowOf 5 1 encB Q s (unframeL b).2.1]) (by repeat (first | exact Picks.nil | (refine Picks.rest ?_; (repeat (first | exact List.Sublist.refl _ | refine List.Sublist.cons_cons _ ?_ | refine List.Sublist.cons _ ?_)); done) | refine Picks.take 0 rfl ?_ | refine Picks.take 1 rfl ?_ | refine Picks.take 2 rfl ?_ | refine Picks.take 3 rfl ?_ | refine Picks.take 4 rfl ?_ | refine Picks.take 5 rfl ?_ | refine Picks.take 6 rfl ?_ | refine Picks.take 7 rfl ?_ | refine Picks.take 8 rfl ?_ | refine Picks.take 9 rfl ?_ | refine Picks.take 10 rfl ?_ | refine Picks.take 11 rfl ?_)), _, _, _, _, rfl, rfl⟩
  · have hz := unframe_bad hx
    have rw_d : decide ((unframeL b).2.2 ≠ 0) = true := decide_eq_true hx
    refine run S (.as rfl <| .z) fun a w S => st_nil (then_normal (hK1 _ _ (wp_seq_k fun _ hK1 => sg S (.mv rfl <| .yy (ys_T (by omega) (ys_neq (.t rfl) Ev.c)) rfl <| .z) fun a w S => st_then S (.t rfl) (sg S (.mv rfl <| .ac rfl <| .ac rfl <| .as rfl <| .z) fun a w S => wp_ret (then_ret (st_ret S (results3 S results46 (Rv.tmp rfl) (Rv.tmp rfl) (Rv.tmp rfl)) ?_))))))
    rw [hz.1, hz.2]
    exact ⟨_, _, rfl, ((S.nil_ 5 1 encB none).nil_ 5 1 encB none).wd, _, _, _, _, rfl, rfl⟩
end Go.Proofs.Ytfblmkocmnbdcaa
set_option linter.unusedVariables false
set_option linter.unusedSimpArgs false
set_option maxRecDepth 100000
set_option maxHeartbeats 4000000
namespace Go.Fw
theorem decR_num {b : List UInt8} {x : Int} {k1 : Nat} {e : Int} (h : numAt b 0 = (x, k1, e)) (he : e ≠ 0) : decK b = (Cart.zero, e) := by
  unfold decK decR
  rw [h, bindR_bad (by exact he)]
theorem decR_long {b : List UInt8} {x : Int} {k1 : Nat} (h : numAt b 0 = (x, k1, 0)) (hx : 64 < x) : decK b = (Cart.zero, 4) := by
  unfold decK decR
  rw [h, bindR_ok rfl]
  dsimp only
  rw [if_pos hx]
theorem decR_ents {b : List UInt8} {x : Int} {k1 : Nat} (h : numAt b 0 = (x, k1, 0)) (hx : ¬ 64 < x) (he : (entsAt b x.toNat [] k1).2.2 ≠ 0) : decK b = (Cart.zero, (entsAt b x.toNat [] k1).2.2) := by
  unfold decK decR
  rw [h, bindR_ok rfl]
  dsimp only
  rw [if_neg hx, bindR_bad he]
theorem decR_ctx {b : List UInt8} {x : Int} {k1 k2 : Nat} {l : List Ent} (h : numAt b 0 = (x, k1, 0)) (hx : ¬ 64 < x) (he : entsAt b x.toNat [] k1 = (l, k2, 0)) (hc : (decAt b k2).2.2 ≠ 0) : decK b = (Cart.zero, (decAt b k2).2.2) := by
  unfold decK decR
  rw [h, bindR_ok rfl]
  dsimp only
  rw [if_neg hx, he, bindR_ok rfl]
  dsimp only
  rw [bindR_bad hc]
theorem decR_last {b : List UInt8} {x : Int} {k1 k2 : Nat} {l : List Ent} (h : numAt b 0 = (x, k1, 0)) (hx : ¬ 64 < x) (he : entsAt b x.toNat [] k1 = (l, k2, 0)) (hc : (decAt b k2).2.2 = 0) : decK b = ((lastK b ⟨l, (decAt b k2).1⟩ (decAt b k2).2.1).1, (lastK b ⟨l, (decAt b k2).1⟩ (decAt b k2).2.1).2.2) := by
  unfold decK decR
  rw [h, bindR_ok rfl]
  dsimp only
  rw [if_neg hx, he, bindR_ok rfl]
  dsimp only
  rw [bindR_ok hc]
theorem lastK_more {b : List UInt8} {c : Cart} {k : Nat} (h : k < b.length) : lastK b c k = (Cart.zero, k, 3) := if_pos h
theorem lastK_bad {b : List UInt8} {c : Cart} {k : Nat} (h : ¬ k < b.length) (hc : canE c ≠ 0) : lastK b c k = (Cart.zero, k, canE c) := by unfold lastK; rw [if_neg h, if_neg hc]
theorem lastK_ok {b : List UInt8} {c : Cart} {k : Nat} (h : ¬ k < b.length) (hc : canE c = 0) : lastK b c k = (c, k, 0) := by unfold lastK; rw [if_neg h, if_pos hc]
end Go.Fw
namespace Go.Proofs.Ytfblmkocmnbdcaa
open Go.Fw Go.Proofs Go.RowKit Go.Proofs.Try
theorem c47 (w0 : World) (v1 : Value) (b : List UInt8) (h : Sl encB 1 w0 w0.heap.size v1 b) (hb : b.length ≤ 4194304) :
    Rets Try.prog 47 #[v1] w0 fun v L => ∃ A1 r1 A2 r2 A3 r3, v = .tuple #[.agg #[.slice A1 (decK b).1.ents.length r1, .slice A2 (decK b).1.ctx.marks.length r2, .slice A3 (decK b).1.ctx.cloud.length r3], .int .i64 (decK b).2] ∧
      L = [rowOf 74 6 Ent.enc A1 r1 (decK b).1.ents, rowOf 110 3 Dot.enc A2 r2 (decK b).1.ctx.marks, rowOf 62 3 Dot.enc A3 r3 (decK b).1.ctx.cloud] := by
  have hs := h
  obtain ⟨A, cap, rfl, hl, hcap, hA⟩ := h
  have hv := numAt_val b 0
  have t1 := numAt_le (b := b) (k := 0) (Nat.zero_le _)
  obtain ⟨x0, k1, e, hN⟩ : ∃ x k e, numAt b 0 = (x, k, e) := ⟨_, _, _, rfl⟩
  have rw_Na : (numAt b 0).1 = x0 := by rw [hN]
  have rw_Nb : (numAt b 0).2.1 = k1 := by rw [hN]
  have rw_Nc : (numAt b 0).2.2 = e := by rw [hN]
  rw [rw_Na] at hv
  rw [rw_Nb] at t1
  by_cases he : e = 0
  rotate_left
  · have rw_d : decide (e ≠ 0) = true := decide_eq_true he
    have hD := decR_num hN he
    unfold Go.Fw.Rets
    refine enter1 func47 rfl ntmps47 rfl fun a S => wp_seq_k fun _ hK1 => wp_region_lit (st_m (op_alloc S zeroValue40 (cs := _) rfl rfl fun g1 a w S => run S (.ac rfl <| .z) fun a w S => st_nil (then_normal (hK1 _ _ (wp_seq_k fun _ hK1 => wp_region_lit (run S (.mv rfl <| .z) fun a w S => ?_))))))
    (refine st_m (op_calls S call88 (.cons (.t rfl) .nil) (c88 _ _ _ (by exact .old S.wd (by assumption)) (by omega)) rfl ?_); clear S a w; rintro _ _ ⟨g2, A1, c1, rfl, rfl⟩ a w S)
    refine run S (.as rfl <| .z) fun a w S => st_nil (then_normal (hK1 _ _ (wp_seq_k fun _ hK1 => wp_region_lit (run S (.mv rfl <| .z) fun a w S => ?_))))
    (refine st_m (op_callO S call95 (.cons (.t rfl) .nil) (c95 S.wd (by first | assumption | omega | (dsimp only; omega) | exact Sl.nil_ | exact .old S.wd (by assumption) | exact Sl.of_own S.wd (k := 0) rfl (fun _ => rfl) | exact Sl.of_own S.wd (k := 1) rfl (fun _ => rfl) | exact Sl.of_own S.wd (k := 2) rfl (fun _ => rfl) | (simp at *; omega)) (by first | assumption | omega | (dsimp only; omega) | exact Sl.nil_ | exact .old S.wd (by assumption) | exact Sl.of_own S.wd (k := 0) rfl (fun _ => rfl) | exact Sl.of_own S.wd (k := 1) rfl (fun _ => rfl) | exact Sl.of_own S.wd (k := 2) rfl (fun _ => rfl) | (simp at *; omega))) rfl ?_) <;> clear S a w)
    rintro _ _ ⟨rfl, rfl⟩ a w S
    rw [rw_Na] at S
    rw [rw_Nb] at S
    rw [rw_Nc] at S
    refine run S (.mv rfl <| .ex rfl rfl <| .ex rfl rfl <| .as rfl <| .as rfl <| .z) fun a w S => st_nil (then_normal (hK1 _ _ (wp_seq_k fun _ hK1 => sg S (.mv rfl <| .yy (ys_T (by omega) (ys_neq (.t rfl) Ev.c)) rfl <| .z) fun a w S => st_then S (.t rfl) (wp_seq_k fun _ hK2 => wp_region_lit (run S (.yy (ys_bld (ps := []) (us := [_, _, _]) bld40 .nil rfl) rfl <| .mv rfl <| .z) fun a w S => st_m (op_stW S sizeOf40 (.t rfl) (.t rfl) (k := 2) rfl rfl rfl (by simp [Value.oneCell']) fun a w S => run S (.as rfl <| .z) fun a w S => st_nil (then_normal (hK2 _ _ (wp_ret (then_ret (st_ret S (results2 S results47 (Rv.cell (k := 2) ⟨isAgg40, sizeOf40⟩ rfl rfl rfl) (Rv.tmp rfl)) ?_)))))))))))
    refine ⟨_, [rowOf 74 6 Ent.enc none 0 [], rowOf 110 3 Dot.enc none 0 [], rowOf 62 3 Dot.enc none 0 []], rfl, (((S.nil_ 62 3 Dot.enc none).nil_ 110 3 Dot.enc none).nil_ 74 6 Ent.enc none).wd.pk, none, 0, none, 0, none, 0, ?_, ?_⟩ <;> rw [hD] <;> rfl
  subst he
  by_cases h64 : 64 < x0
  · have hD := decR_long hN h64
    unfold Go.Fw.Rets
    refine enter1 func47 rfl ntmps47 rfl fun a S => wp_seq_k fun _ hK1 => wp_region_lit (st_m (op_alloc S zeroValue40 (cs := _) rfl rfl fun g1 a w S => run S (.ac rfl <| .z) fun a w S => st_nil (then_normal (hK1 _ _ (wp_seq_k fun _ hK1 => wp_region_lit (run S (.mv rfl <| .z) fun a w S => ?_))))))
    (refine st_m (op_calls S call88 (.cons (.t rfl) .nil) (c88 _ _ _ (by exact .old S.wd (by assumption)) (by omega)) rfl ?_); clear S a w; rintro _ _ ⟨g2, A1, c1, rfl, rfl⟩ a w S)
    refine run S (.as rfl <| .z) fun a w S => st_nil (then_normal (hK1 _ _ (wp_seq_k fun _ hK1 => wp_region_lit (run S (.mv rfl <| .z) fun a w S => ?_))))
    (refine st_m (op_callO S call95 (.cons (.t rfl) .nil) (c95 S.wd (by first | assumption | omega | (dsimp only; omega) | exact Sl.nil_ | exact .old S.wd (by assumption) | exact Sl.of_own S.wd (k := 0) rfl (fun _ => rfl) | exact Sl.of_own S.wd (k := 1) rfl (fun _ => rfl) | exact Sl.of_own S.wd (k := 2) rfl (fun _ => rfl) | (simp at *; omega)) (by first | assumption | omega | (dsimp only; omega) | exact Sl.nil_ | exact .old S.wd (by assumption) | exact Sl.of_own S.wd (k := 0) rfl (fun _ => rfl) | exact Sl.of_own S.wd (k := 1) rfl (fun _ => rfl) | exact Sl.of_own S.wd (k := 2) rfl (fun _ => rfl) | (simp at *; omega))) rfl ?_) <;> clear S a w)
    rintro _ _ ⟨rfl, rfl⟩ a w S
    rw [rw_Na] at S
    rw [rw_Nb] at S
    rw [rw_Nc] at S
    refine run S (.mv rfl <| .ex rfl rfl <| .ex rfl rfl <| .as rfl <| .as rfl <| .z) fun a w S => st_nil (then_normal (hK1 _ _ (wp_seq_k fun _ hK1 => sg S (.mv rfl <| .yy (ys_F (by omega) (ys_neq (.t rfl) Ev.c)) rfl <| .z) fun a w S => st_else S (.t rfl) (wp_skip (then_normal (hK1 _ _ (wp_seq_k fun _ hK1 => sg S (.mv rfl <| .yy (ys_T (by omega) (ys_gtr (.t rfl) Ev.c)) rfl <| .z) fun a w S => st_then S (.t rfl) (wp_seq_k fun _ hK2 => wp_region_lit (run S (.yy (ys_bld (ps := []) (us := [_, _, _]) bld40 .nil rfl) rfl <| .z) fun a w S => st_m (op_stW S sizeOf40 (.t rfl) (.t rfl) (k := 2) rfl rfl rfl (by simp [Value.oneCell']) fun a w S => run S (.ac rfl <| .z) fun a w S => st_nil (then_normal (hK2 _ _ (wp_ret (then_ret (st_ret S (results2 S results47 (Rv.cell (k := 2) ⟨isAgg40, sizeOf40⟩ rfl rfl rfl) (Rv.tmp rfl)) ?_)))))))))))))))
    refine ⟨_, [rowOf 74 6 Ent.enc none 0 [], rowOf 110 3 Dot.enc none 0 [], rowOf 62 3 Dot.enc none 0 []], rfl, (((S.nil_ 62 3 Dot.enc none).nil_ 110 3 Dot.enc none).nil_ 74 6 Ent.enc none).wd.pk, none, 0, none, 0, none, 0, ?_, ?_⟩ <;> rw [hD] <;> rfl
  obtain ⟨n, rfl⟩ : ∃ n : Nat, x0 = (n : Int) := ⟨x0.toNat, by omega⟩
  unfold Go.Fw.Rets
  refine enter1 func47 rfl ntmps47 rfl fun a S => wp_seq_k fun _ hK1 => wp_region_lit (st_m (op_alloc S zeroValue40 (cs := _) rfl rfl fun g1 a w S => run S (.ac rfl <| .z) fun a w S => st_nil (then_normal (hK1 _ _ (wp_seq_k fun _ hK1 => wp_region_lit (run S (.mv rfl <| .z) fun a w S => ?_))))))
  (refine st_m (op_calls S call88 (.cons (.t rfl) .nil) (c88 _ _ _ (by exact .old S.wd (by assumption)) (by omega)) rfl ?_); clear S a w; rintro _ _ ⟨g2, A1, c1, rfl, rfl⟩ a w S)
  refine run S (.as rfl <| .z) fun a w S => st_nil (then_normal (hK1 _ _ (wp_seq_k fun _ hK1 => wp_region_lit (run S (.mv rfl <| .z) fun a w S => ?_))))
  (refine st_m (op_callO S call95 (.cons (.t rfl) .nil) (c95 S.wd (by first | assumption | omega | (dsimp only; omega) | exact Sl.nil_ | exact .old S.wd (by assumption) | exact Sl.of_own S.wd (k := 0) rfl (fun _ => rfl) | exact Sl.of_own S.wd (k := 1) rfl (fun _ => rfl) | exact Sl.of_own S.wd (k := 2) rfl (fun _ => rfl) | (simp at *; omega)) (by first | assumption | omega | (dsimp only; omega) | exact Sl.nil_ | exact .old S.wd (by assumption) | exact Sl.of_own S.wd (k := 0) rfl (fun _ => rfl) | exact Sl.of_own S.wd (k := 1) rfl (fun _ => rfl) | exact Sl.of_own S.wd (k := 2) rfl (fun _ => rfl) | (simp at *; omega))) rfl ?_) <;> clear S a w)
  rintro _ _ ⟨rfl, rfl⟩ a w S
  rw [rw_Nb] at S
  rw [rw_Nc] at S
  rw [rw_Na] at S
  refine run S (.mv rfl <| .ex rfl rfl <| .ex rfl rfl <| .as rfl <| .as rfl <| .z) fun a w S => st_nil (then_normal (hK1 _ _ (wp_seq_k fun _ hK1 => sg S (.mv rfl <| .yy (ys_F (by omega) (ys_neq (.t rfl) Ev.c)) rfl <| .z) fun a w S => st_else S (.t rfl) (wp_skip (then_normal (hK1 _ _ (wp_seq_k fun _ hK1 => sg S (.mv rfl <| .yy (ys_F (by omega) (ys_gtr (.t rfl) Ev.c)) rfl <| .z) fun a w S => st_else S (.t rfl) (wp_skip (then_normal (hK1 _ _ (wp_seq_k fun _ hK1 => wp_region_lit (st_m (op_alloc S zeroValue40 (cs := _) rfl rfl fun g3 a w S => st_nil (then_normal (hK1 _ _ (wp_seq_k fun _ hK1 => sg S (.mv rfl <| .mc rfl <| .z) fun a w S => wp_block ?_))))))))))))))))
  have h64' : n ≤ 64 := by omega
  refine st_lpM (S.nil_ 74 6 Ent.enc none) [25] (X := Nat × Nat × List Ent × Option Addr × Nat) (fun q => [(25, true, .int .i64 (q.1 : Int))])
    (fun q => rowOf 74 6 Ent.enc q.2.2.2.1 q.2.2.2.2 q.2.2.1 :: .blk g3 (.cells #[.slice q.2.2.2.1 q.2.2.1.length q.2.2.2.2, .slice none 0 0, .slice none 0 0] 40) :: rdr g2 A1 c1 b q.2.1 [.blk g1 (.cells #[.slice none 0 0, .slice none 0 0, .slice none 0 0] 40)])
    (fun q => q.1 ≤ n ∧ q.2.1 ≤ b.length ∧ q.2.2.1.length = q.1 ∧ entsAt b (n - q.1) q.2.2.1 q.2.1 = entsAt b n [] k1) (fun q => n - q.1) (0, k1, [], none, 0) ⟨Nat.zero_le _, t1.2, rfl, rfl⟩ ?_
  clear S
  rintro ⟨i, k', acc, D, cD⟩ a w ⟨hi, hk', hlen, hno⟩ S
  dsimp only at hi hk' hlen hno S
  by_cases hlt : i < n
  · rw [show n - i = (n - (i + 1)) + 1 by omega, entsAt] at hno
    have rw_i : (i : Int) + 1 = ((i + 1 : Nat) : Int) := rfl
    by_cases hE : (entAt b k').2.2 = 0
    · rw [bindR_ok hE] at hno
      have rw_E := hE
      refine sg S (.lt (by omega) rfl rfl <| .z) fun a w S => wp_seq_k fun _ hK2 => st_then S (.t rfl) (wp_skip (then_normal (hK2 _ _ (wp_seq_k fun _ hK2 => wp_block (wp_seq_k fun _ hK3 => wp_region_lit (run S (.mv rfl <| .z) fun a w S => ?_))))))
      (replace S := S.pull 3 rfl; try simp only [List.set_cons_zero, List.set_cons_succ, List.eraseIdx_cons_succ, List.eraseIdx_cons_zero] at S; replace S := S.pull 3 rfl; try simp only [List.set_cons_zero, List.set_cons_succ, List.eraseIdx_cons_succ, List.eraseIdx_cons_zero] at S; refine st_m (op_callO S call96 (.cons (.t rfl) .nil) (c96 S.wd (by first | assumption | omega | (dsimp only; omega) | exact Sl.nil_ | exact .old S.wd (by assumption) | exact Sl.of_own S.wd (k := 0) rfl (fun _ => rfl) | exact Sl.of_own S.wd (k := 1) rfl (fun _ => rfl) | exact Sl.of_own S.wd (k := 2) rfl (fun _ => rfl) | exact Sl.of_own S.wd (k := 3) rfl (fun _ => rfl) | exact Sl.of_own S.wd (k := 4) rfl (fun _ => rfl) | (simp at *; omega)) (by first | assumption | omega | (dsimp only; omega) | exact Sl.nil_ | exact .old S.wd (by assumption) | exact Sl.of_own S.wd (k := 0) rfl (fun _ => rfl) | exact Sl.of_own S.wd (k := 1) rfl (fun _ => rfl) | exact Sl.of_own S.wd (k := 2) rfl (fun _ => rfl) | exact Sl.of_own S.wd (k := 3) rfl (fun _ => rfl) | exact Sl.of_own S.wd (k := 4) rfl (fun _ => rfl) | (simp at *; omega))) rfl ?_) <;> clear S a w)
      rintro _ _ ⟨x1, k'1, rfl, rfl, hr1⟩ a w S
      rw [rw_E] at S
      refine run S (.mv rfl <| .ex rfl rfl <| .ex rfl rfl <| .z) fun a w S => st_m (op_alloc S zeroValue74 (cs := _) rfl rfl fun g4 a w S => st_m (op_stW S sizeOf74 (.t rfl) (.t rfl) (k := 0) rfl rfl rfl (by simp [Value.oneCell']) fun a w S => run S (.as rfl <| .z) fun a w S => st_nil (then_normal (hK3 _ _ (wp_seq_k fun _ hK3 => sg S (.mv rfl <| .yy (ys_F (by omega) (ys_neq (.t rfl) Ev.c)) rfl <| .z) fun a w S => st_else S (.t rfl) (wp_skip (then_normal (hK3 _ _ (wp_region_lit (run S (.fa underlying40 sizeOf34 0 rfl rfl rfl <| .ld gt34 4 rfl rfl rfl <| .la gt74 0 rfl rfl rfl <| .z) fun a w S => st_m (op_bslice1 S underlying34 inf74 rfl rfl rfl (.t rfl) rfl rfl rfl fun g5 a w S => st_m (op_push S underlying34 inf74 rfl (k := 4) (j := 0) rfl (.t rfl) (.t rfl) rfl rfl rfl rfl (by first | omega | (simp only [List.length_append, List.length_cons, List.length_nil]; omega)) rfl rfl rfl fun A2 cap1 a w S => run S (.fa underlying40 sizeOf34 0 rfl rfl rfl <| .z) fun a w S => st_m (op_st S sizeOf34 (.t rfl) (.t rfl) (k := 5) rfl rfl (by simp) fun a w S => st_nil (in_normal (then_normal (hK2 _ _ (wp_region_lit (run S (.ad (by unfold I64; omega) rfl <| .z) fun a w S => ?_))))))))))))))))))
      rw [rw_i] at S
      refine run S (.mv rfl <| .z) fun a w S => st_nil (then_normal ?_)
      obtain ⟨q1, q2⟩ := hr1
      obtain ⟨q3, q4⟩ := q2 hE
      rw [← q3, ← q4] at hno
      exact ⟨(i + 1, k'1, acc ++ [x1], A2, cap1), ⟨by dsimp only; omega, q1, by simp [hlen], hno⟩, by dsimp only; omega, S.pk⟩
    · have hb2 : (entsAt b n [] k1).2.2 = (entAt b k').2.2 := by rw [← hno, bindR_bad hE]
      have hD : decK b = (Cart.zero, (entAt b k').2.2) := by
        rw [decR_ents hN h64 (by rw [Int.toNat_natCast, hb2]; exact hE), Int.toNat_natCast, hb2]
      have rw_d : decide ((entAt b k').2.2 ≠ 0) = true := decide_eq_true hE
      refine sg S (.lt (by omega) rfl rfl <| .z) fun a w S => wp_seq_k fun _ hK2 => st_then S (.t rfl) (wp_skip (then_normal (hK2 _ _ (wp_seq_k fun _ hK2 => wp_block (wp_seq_k fun _ hK3 => wp_region_lit (run S (.mv rfl <| .z) fun a w S => ?_))))))
      (replace S := S.pull 3 rfl; try simp only [List.set_cons_zero, List.set_cons_succ, List.eraseIdx_cons_succ, List.eraseIdx_cons_zero] at S; replace S := S.pull 3 rfl; try simp only [List.set_cons_zero, List.set_cons_succ, List.eraseIdx_cons_succ, List.eraseIdx_cons_zero] at S; refine st_m (op_callO S call96 (.cons (.t rfl) .nil) (c96 S.wd (by first | assumption | omega | (dsimp only; omega) | exact Sl.nil_ | exact .old S.wd (by assumption) | exact Sl.of_own S.wd (k := 0) rfl (fun _ => rfl) | exact Sl.of_own S.wd (k := 1) rfl (fun _ => rfl) | exact Sl.of_own S.wd (k := 2) rfl (fun _ => rfl) | exact Sl.of_own S.wd (k := 3) rfl (fun _ => rfl) | exact Sl.of_own S.wd (k := 4) rfl (fun _ => rfl) | (simp at *; omega)) (by first | assumption | omega | (dsimp only; omega) | exact Sl.nil_ | exact .old S.wd (by assumption) | exact Sl.of_own S.wd (k := 0) rfl (fun _ => rfl) | exact Sl.of_own S.wd (k := 1) rfl (fun _ => rfl) | exact Sl.of_own S.wd (k := 2) rfl (fun _ => rfl) | exact Sl.of_own S.wd (k := 3) rfl (fun _ => rfl) | exact Sl.of_own S.wd (k := 4) rfl (fun _ => rfl) | (simp at *; omega))) rfl ?_) <;> clear S a w)
      rintro _ _ ⟨x1, k'1, rfl, rfl, hr1⟩ a w S
      refine run S (.mv rfl <| .ex rfl rfl <| .ex rfl rfl <| .z) fun a w S => st_m (op_alloc S zeroValue74 (cs := _) rfl rfl fun g4 a w S => st_m (op_stW S sizeOf74 (.t rfl) (.t rfl) (k := 0) rfl rfl rfl (by simp [Value.oneCell']) fun a w S => run S (.as rfl <| .z) fun a w S => st_nil (then_normal (hK3 _ _ (wp_seq_k fun _ hK3 => sg S (.mv rfl <| .yy (ys_T (by omega) (ys_neq (.t rfl) Ev.c)) rfl <| .z) fun a w S => st_then S (.t rfl) (wp_seq_k fun _ hK4 => wp_region_lit (run S (.yy (ys_bld (ps := []) (us := [_, _, _]) bld40 .nil rfl) rfl <| .mv rfl <| .z) fun a w S => st_m (op_stW S sizeOf40 (.t rfl) (.t rfl) (k := 5) rfl rfl rfl (by simp [Value.oneCell']) fun a w S => run S (.as rfl <| .z) fun a w S => st_nil (then_normal (hK4 _ _ (wp_ret (then_ret (in_ret (then_ret (then_ret (in_ret (then_ret (st_ret S (results2 S results47 (Rv.cell (k := 5) ⟨isAgg40, sizeOf40⟩ rfl rfl rfl) (Rv.tmp rfl)) ?_))))))))))))))))))
      refine ⟨_, [rowOf 74 6 Ent.enc none 0 [], rowOf 110 3 Dot.enc none 0 [], rowOf 62 3 Dot.enc none 0 []], rfl, (((S.nil_ 62 3 Dot.enc none).nil_ 110 3 Dot.enc none).nil_ 74 6 Ent.enc none).wd.pk, none, 0, none, 0, none, 0, ?_, ?_⟩ <;> rw [hD] <;> rfl
  obtain rfl : i = n := by omega
  rw [Nat.sub_self, entsAt] at hno
  have hents : entsAt b (i : Int).toNat [] k1 = (acc, k', 0) := by rw [Int.toNat_natCast]; exact hno.symm
  have t3 := decAt_le hk'
  by_cases hC : (decAt b k').2.2 = 0
  rotate_left
  · have hD := decR_ctx hN h64 hents hC
    have rw_d : decide ((decAt b k').2.2 ≠ 0) = true := decide_eq_true hC
    have rw_d2 : decide ((decAt b k').2.2 = 0) = false := decide_eq_false hC
    refine sg S (.ge (by omega) rfl rfl <| .z) fun a w S => wp_seq_k fun _ hK2 => st_else S (.t rfl) (wp_exit (then_exit (then_exit (in_here (then_normal (hK1 _ _ (wp_seq_k fun _ hK1 => wp_region_lit (run S (.mv rfl <| .z) fun a w S => ?_))))))))
    (replace S := S.pull 3 rfl; try simp only [List.set_cons_zero, List.set_cons_succ, List.eraseIdx_cons_succ, List.eraseIdx_cons_zero] at S; replace S := S.pull 3 rfl; try simp only [List.set_cons_zero, List.set_cons_succ, List.eraseIdx_cons_succ, List.eraseIdx_cons_zero] at S; refine st_m (op_callO S call97 (.cons (.t rfl) .nil) (c97 S.wd (by first | assumption | omega | (dsimp only; omega) | exact Sl.nil_ | exact .old S.wd (by assumption) | exact Sl.of_own S.wd (k := 0) rfl (fun _ => rfl) | exact Sl.of_own S.wd (k := 1) rfl (fun _ => rfl) | exact Sl.of_own S.wd (k := 2) rfl (fun _ => rfl) | exact Sl.of_own S.wd (k := 3) rfl (fun _ => rfl) | exact Sl.of_own S.wd (k := 4) rfl (fun _ => rfl) | (simp at *; omega)) (by first | assumption | omega | (dsimp only; omega) | exact Sl.nil_ | exact .old S.wd (by assumption) | exact Sl.of_own S.wd (k := 0) rfl (fun _ => rfl) | exact Sl.of_own S.wd (k := 1) rfl (fun _ => rfl) | exact Sl.of_own S.wd (k := 2) rfl (fun _ => rfl) | exact Sl.of_own S.wd (k := 3) rfl (fun _ => rfl) | exact Sl.of_own S.wd (k := 4) rfl (fun _ => rfl) | (simp at *; omega))) rfl ?_) <;> clear S a w)
    rintro _ _ ⟨B1, c2, B'1, c'1, rfl, rfl⟩ a w S
    refine run S (.mv rfl <| .ex rfl rfl <| .ex rfl rfl <| .fa underlying40 sizeOf38 1 rfl rfl rfl <| .z) fun a w S => st_m (op_stA S sizeOf38 (.t rfl) (.t rfl) (k := 5) rfl rfl (by simp [Value.oneCell']) (by simp) fun a w S => run S (.as rfl <| .z) fun a w S => st_nil (then_normal (hK1 _ _ (wp_seq_k fun _ hK1 => sg S (.mv rfl <| .yy (ys_F (by omega) (ys_eql (.t rfl) Ev.c)) rfl <| .z) fun a w S => st_else S (.t rfl) (wp_skip (then_normal (hK1 _ _ (wp_seq_k fun _ hK1 => sg S (.mv rfl <| .yy (ys_F (by omega) (ys_eql (.t rfl) Ev.c)) rfl <| .z) fun a w S => st_else S (.t rfl) (wp_skip (then_normal (hK1 _ _ (wp_seq_k fun _ hK1 => sg S (.mv rfl <| .yy (ys_T (by omega) (ys_neq (.t rfl) Ev.c)) rfl <| .z) fun a w S => st_then S (.t rfl) (wp_seq_k fun _ hK3 => wp_region_lit (run S (.yy (ys_bld (ps := []) (us := [_, _, _]) bld40 .nil rfl) rfl <| .mv rfl <| .z) fun a w S => st_m (op_stW S sizeOf40 (.t rfl) (.t rfl) (k := 6) rfl rfl rfl (by simp [Value.oneCell']) fun a w S => run S (.as rfl <| .z) fun a w S => st_nil (then_normal (hK3 _ _ (wp_ret (then_ret (st_ret S (results2 S results47 (Rv.cell (k := 6) ⟨isAgg40, sizeOf40⟩ rfl rfl rfl) (Rv.tmp rfl)) ?_))))))))))))))))))))
    refine ⟨_, [rowOf 74 6 Ent.enc none 0 [], rowOf 110 3 Dot.enc none 0 [], rowOf 62 3 Dot.enc none 0 []], rfl, (((S.nil_ 62 3 Dot.enc none).nil_ 110 3 Dot.enc none).nil_ 74 6 Ent.enc none).wd.pk, none, 0, none, 0, none, 0, ?_, ?_⟩ <;> rw [hD] <;> rfl
  have hL := decR_last hN h64 hents hC
  obtain ⟨C, rw_C⟩ : ∃ C, (decAt b k').1 = C := ⟨_, rfl⟩
  obtain ⟨X, rfl, rfl⟩ : ∃ X : Cart, acc = X.ents ∧ C = X.ctx := ⟨⟨acc, C⟩, rfl, rfl⟩
  obtain ⟨k3, rw_k3⟩ : ∃ k3, (decAt b k').2.1 = k3 := ⟨_, rfl⟩
  have rw_c := hC
  rw [rw_C, rw_k3] at hL
  rw [rw_k3] at t3
  by_cases hm : k3 < b.length
  · have hD : decK b = (Cart.zero, 3) := by rw [hL, lastK_more hm]
    have rw_m : (if k3 < b.length then (3 : Int) else 0) = 3 := if_pos hm
    refine sg S (.ge (by omega) rfl rfl <| .z) fun a w S => wp_seq_k fun _ hK2 => st_else S (.t rfl) (wp_exit (then_exit (then_exit (in_here (then_normal (hK1 _ _ (wp_seq_k fun _ hK1 => wp_region_lit (run S (.mv rfl <| .z) fun a w S => ?_))))))))
    (replace S := S.pull 3 rfl; try simp only [List.set_cons_zero, List.set_cons_succ, List.eraseIdx_cons_succ, List.eraseIdx_cons_zero] at S; replace S := S.pull 3 rfl; try simp only [List.set_cons_zero, List.set_cons_succ, List.eraseIdx_cons_succ, List.eraseIdx_cons_zero] at S; refine st_m (op_callO S call97 (.cons (.t rfl) .nil) (c97 S.wd (by first | assumption | omega | (dsimp only; omega) | exact Sl.nil_ | exact .old S.wd (by assumption) | exact Sl.of_own S.wd (k := 0) rfl (fun _ => rfl) | exact Sl.of_own S.wd (k := 1) rfl (fun _ => rfl) | exact Sl.of_own S.wd (k := 2) rfl (fun _ => rfl) | exact Sl.of_own S.wd (k := 3) rfl (fun _ => rfl) | exact Sl.of_own S.wd (k := 4) rfl (fun _ => rfl) | (simp at *; omega)) (by first | assumption | omega | (dsimp only; omega) | exact Sl.nil_ | exact .old S.wd (by assumption) | exact Sl.of_own S.wd (k := 0) rfl (fun _ => rfl) | exact Sl.of_own S.wd (k := 1) rfl (fun _ => rfl) | exact Sl.of_own S.wd (k := 2) rfl (fun _ => rfl) | exact Sl.of_own S.wd (k := 3) rfl (fun _ => rfl) | exact Sl.of_own S.wd (k := 4) rfl (fun _ => rfl) | (simp at *; omega))) rfl ?_) <;> clear S a w)
    rintro _ _ ⟨B1, c2, B'1, c'1, rfl, rfl⟩ a w S
    rw [rw_C] at S
    rw [rw_k3] at S
    rw [rw_c] at S
    refine run S (.mv rfl <| .ex rfl rfl <| .ex rfl rfl <| .fa underlying40 sizeOf38 1 rfl rfl rfl <| .z) fun a w S => st_m (op_stA S sizeOf38 (.t rfl) (.t rfl) (k := 5) rfl rfl (by simp [Value.oneCell']) (by simp) fun a w S => run S (.as rfl <| .z) fun a w S => st_nil (then_normal (hK1 _ _ (wp_seq_k fun _ hK1 => sg S (.mv rfl <| .yy (ys_T (by omega) (ys_eql (.t rfl) Ev.c)) rfl <| .z) fun a w S => st_then S (.t rfl) (wp_region_lit (run S (.mv rfl <| .xx (ys_call call98 (.cons (.t rfl) .nil) (fun hp w W => c98 _ _ _ _ _ _ (by exact Wd.cell W (k := 0) rfl rfl) (by exact Wd.cell W (k := 0) rfl rfl) (by exact Wd.cell W (k := 0) rfl rfl) (by omega) (by omega))) rfl <| .z) fun a w S => ?_))))))
    rw [rw_m] at S
    refine run S (.as rfl <| .z) fun a w S => st_nil (then_normal (hK1 _ _ (wp_seq_k fun _ hK1 => sg S (.mv rfl <| .yy (ys_F (by omega) (ys_eql (.t rfl) Ev.c)) rfl <| .z) fun a w S => st_else S (.t rfl) (wp_skip (then_normal (hK1 _ _ (wp_seq_k fun _ hK1 => sg S (.mv rfl <| .yy (ys_T (by omega) (ys_neq (.t rfl) Ev.c)) rfl <| .z) fun a w S => st_then S (.t rfl) (wp_seq_k fun _ hK3 => wp_region_lit (run S (.yy (ys_bld (ps := []) (us := [_, _, _]) bld40 .nil rfl) rfl <| .mv rfl <| .z) fun a w S => st_m (op_stW S sizeOf40 (.t rfl) (.t rfl) (k := 6) rfl rfl rfl (by simp [Value.oneCell']) fun a w S => run S (.as rfl <| .z) fun a w S => st_nil (then_normal (hK3 _ _ (wp_ret (then_ret (st_ret S (results2 S results47 (Rv.cell (k := 6) ⟨isAgg40, sizeOf40⟩ rfl rfl rfl) (Rv.tmp rfl)) ?_)))))))))))))))
    refine ⟨_, [rowOf 74 6 Ent.enc none 0 [], rowOf 110 3 Dot.enc none 0 [], rowOf 62 3 Dot.enc none 0 []], rfl, (((S.nil_ 62 3 Dot.enc none).nil_ 110 3 Dot.enc none).nil_ 74 6 Ent.enc none).wd.pk, none, 0, none, 0, none, 0, ?_, ?_⟩ <;> rw [hD] <;> rfl
  have rw_m : (if k3 < b.length then (3 : Int) else 0) = 0 := if_neg hm
  by_cases hK : canE X = 0
  · have hD : decK b = (X, 0) := by rw [hL, lastK_ok hm hK]
    have rw_K := hK
    refine sg S (.ge (by omega) rfl rfl <| .z) fun a w S => wp_seq_k fun _ hK2 => st_else S (.t rfl) (wp_exit (then_exit (then_exit (in_here (then_normal (hK1 _ _ (wp_seq_k fun _ hK1 => wp_region_lit (run S (.mv rfl <| .z) fun a w S => ?_))))))))
    (replace S := S.pull 3 rfl; try simp only [List.set_cons_zero, List.set_cons_succ, List.eraseIdx_cons_succ, List.eraseIdx_cons_zero] at S; replace S := S.pull 3 rfl; try simp only [List.set_cons_zero, List.set_cons_succ, List.eraseIdx_cons_succ, List.eraseIdx_cons_zero] at S; refine st_m (op_callO S call97 (.cons (.t rfl) .nil) (c97 S.wd (by first | assumption | omega | (dsimp only; omega) | exact Sl.nil_ | exact .old S.wd (by assumption) | exact Sl.of_own S.wd (k := 0) rfl (fun _ => rfl) | exact Sl.of_own S.wd (k := 1) rfl (fun _ => rfl) | exact Sl.of_own S.wd (k := 2) rfl (fun _ => rfl) | exact Sl.of_own S.wd (k := 3) rfl (fun _ => rfl) | exact Sl.of_own S.wd (k := 4) rfl (fun _ => rfl) | (simp at *; omega)) (by first | assumption | omega | (dsimp only; omega) | exact Sl.nil_ | exact .old S.wd (by assumption) | exact Sl.of_own S.wd (k := 0) rfl (fun _ => rfl) | exact Sl.of_own S.wd (k := 1) rfl (fun _ => rfl) | exact Sl.of_own S.wd (k := 2) rfl (fun _ => rfl) | exact Sl.of_own S.wd (k := 3) rfl (fun _ => rfl) | exact Sl.of_own S.wd (k := 4) rfl (fun _ => rfl) | (simp at *; omega))) rfl ?_) <;> clear S a w)
    rintro _ _ ⟨B1, c2, B'1, c'1, rfl, rfl⟩ a w S
    rw [rw_C] at S
    rw [rw_k3] at S
    rw [rw_c] at S
    refine run S (.mv rfl <| .ex rfl rfl <| .ex rfl rfl <| .fa underlying40 sizeOf38 1 rfl rfl rfl <| .z) fun a w S => st_m (op_stA S sizeOf38 (.t rfl) (.t rfl) (k := 5) rfl rfl (by simp [Value.oneCell']) (by simp) fun a w S => run S (.as rfl <| .z) fun a w S => st_nil (then_normal (hK1 _ _ (wp_seq_k fun _ hK1 => sg S (.mv rfl <| .yy (ys_T (by omega) (ys_eql (.t rfl) Ev.c)) rfl <| .z) fun a w S => st_then S (.t rfl) (wp_region_lit (run S (.mv rfl <| .xx (ys_call call98 (.cons (.t rfl) .nil) (fun hp w W => c98 _ _ _ _ _ _ (by exact Wd.cell W (k := 0) rfl rfl) (by exact Wd.cell W (k := 0) rfl rfl) (by exact Wd.cell W (k := 0) rfl rfl) (by omega) (by omega))) rfl <| .z) fun a w S => ?_))))))
    rw [rw_m] at S
    refine run S (.as rfl <| .z) fun a w S => st_nil (then_normal (hK1 _ _ (wp_seq_k fun _ hK1 => sg S (.mv rfl <| .yy (ys_T (by omega) (ys_eql (.t rfl) Ev.c)) rfl <| .z) fun a w S => st_then S (.t rfl) (wp_region_lit (run S (.la gt40 5 rfl rfl rfl <| .xx (ys_call call9 (.cons (.t rfl) .nil) (fun hp w W => c9 _ _ _ _ _ (by exact Sl.of_own W (k := 4) rfl (fun _ => rfl)) (by exact ⟨(by exact Sl.of_own W (k := 2) rfl (fun _ => rfl)), (by exact Sl.of_own W (k := 3) rfl (fun _ => rfl))⟩))) rfl <| .z) fun a w S => ?_)))))
    rw [rw_K] at S
    refine run S (.as rfl <| .z) fun a w S => st_nil (then_normal (hK1 _ _ (wp_seq_k fun _ hK1 => sg S (.mv rfl <| .yy (ys_F (by omega) (ys_neq (.t rfl) Ev.c)) rfl <| .z) fun a w S => st_else S (.t rfl) (wp_skip (then_normal (hK1 _ _ (wp_seq_k fun _ hK1 => wp_region_lit (run S (.la gt40 5 rfl rfl rfl <| .z) fun a w S => st_m (op_stW S sizeOf40 (.t rfl) (.t rfl) (k := 6) rfl rfl rfl (by simp [Value.oneCell']) fun a w S => run S (.ac rfl <| .z) fun a w S => st_nil (then_normal (hK1 _ _ (wp_ret (st_ret S (results2 S results47 (Rv.cell (k := 6) ⟨isAgg40, sizeOf40⟩ rfl rfl rfl) (Rv.tmp rfl)) ?_)))))))))))))
    refine ⟨_, [rowOf 74 6 Ent.enc D cD X.ents, rowOf 110 3 Dot.enc B1 c2 X.ctx.marks, rowOf 62 3 Dot.enc B'1 c'1 X.ctx.cloud], rfl, S.wd.pk, D, cD, B1, c2, B'1, c'1, ?_, ?_⟩ <;> rw [hD]
  · have hD : decK b = (Cart.zero, canE X) := by rw [hL, lastK_bad hm hK]
    have rw_K : decide (canE X ≠ 0) = true := decide_eq_true hK
    refine sg S (.ge (by omega) rfl rfl <| .z) fun a w S => wp_seq_k fun _ hK2 => st_else S (.t rfl) (wp_exit (then_exit (then_exit (in_here (then_normal (hK1 _ _ (wp_seq_k fun _ hK1 => wp_region_lit (run S (.mv rfl <| .z) fun a w S => ?_))))))))
    (replace S := S.pull 3 rfl; try simp only [List.set_cons_zero, List.set_cons_succ, List.eraseIdx_cons_succ, List.eraseIdx_cons_zero] at S; replace S := S.pull 3 rfl; try simp only [List.set_cons_zero, List.set_cons_succ, List.eraseIdx_cons_succ, List.eraseIdx_cons_zero] at S; refine st_m (op_callO S call97 (.cons (.t rfl) .nil) (c97 S.wd (by first | assumption | omega | (dsimp only; omega) | exact Sl.nil_ | exact .old S.wd (by assumption) | exact Sl.of_own S.wd (k := 0) rfl (fun _ => rfl) | exact Sl.of_own S.wd (k := 1) rfl (fun _ => rfl) | exact Sl.of_own S.wd (k := 2) rfl (fun _ => rfl) | exact Sl.of_own S.wd (k := 3) rfl (fun _ => rfl) | exact Sl.of_own S.wd (k := 4) rfl (fun _ => rfl) | (simp at *; omega)) (by first | assumption | omega | (dsimp only; omega) | exact Sl.nil_ | exact .old S.wd (by assumption) | exact Sl.of_own S.wd (k := 0) rfl (fun _ => rfl) | exact Sl.of_own S.wd (k := 1) rfl (fun _ => rfl) | exact Sl.of_own S.wd (k := 2) rfl (fun _ => rfl) | exact Sl.of_own S.wd (k := 3) rfl (fun _ => rfl) | exact Sl.of_own S.wd (k := 4) rfl (fun _ => rfl) | (simp at *; omega))) rfl ?_) <;> clear S a w)
    rintro _ _ ⟨B1, c2, B'1, c'1, rfl, rfl⟩ a w S
    rw [rw_C] at S
    rw [rw_k3] at S
    rw [rw_c] at S
    refine run S (.mv rfl <| .ex rfl rfl <| .ex rfl rfl <| .fa underlying40 sizeOf38 1 rfl rfl rfl <| .z) fun a w S => st_m (op_stA S sizeOf38 (.t rfl) (.t rfl) (k := 5) rfl rfl (by simp [Value.oneCell']) (by simp) fun a w S => run S (.as rfl <| .z) fun a w S => st_nil (then_normal (hK1 _ _ (wp_seq_k fun _ hK1 => sg S (.mv rfl <| .yy (ys_T (by omega) (ys_eql (.t rfl) Ev.c)) rfl <| .z) fun a w S => st_then S (.t rfl) (wp_region_lit (run S (.mv rfl <| .xx (ys_call call98 (.cons (.t rfl) .nil) (fun hp w W => c98 _ _ _ _ _ _ (by exact Wd.cell W (k := 0) rfl rfl) (by exact Wd.cell W (k := 0) rfl rfl) (by exact Wd.cell W (k := 0) rfl rfl) (by omega) (by omega))) rfl <| .z) fun a w S => ?_))))))
    rw [rw_m] at S
    refine run S (.as rfl <| .z) fun a w S => st_nil (then_normal (hK1 _ _ (wp_seq_k fun _ hK1 => sg S (.mv rfl <| .yy (ys_T (by omega) (ys_eql (.t rfl) Ev.c)) rfl <| .z) fun a w S => st_then S (.t rfl) (rg S (.la gt40 5 rfl rfl rfl <| .xx (ys_call call9 (.cons (.t rfl) .nil) (fun hp w W => c9 _ _ _ _ _ (by exact Sl.of_own W (k := 4) rfl (fun _ => rfl)) (by exact ⟨(by exact Sl.of_own W (k := 2) rfl (fun _ => rfl)), (by exact Sl.of_own W (k := 3) rfl (fun _ => rfl))⟩))) rfl <| .as rfl <| .z) hK1 fun a w S => wp_seq_k fun _ hK1 => sg S (.mv rfl <| .yy (ys_T (by omega) (ys_neq (.t rfl) Ev.c)) rfl <| .z) fun a w S => st_then S (.t rfl) (wp_seq_k fun _ hK3 => wp_region_lit (run S (.yy (ys_bld (ps := []) (us := [_, _, _]) bld40 .nil rfl) rfl <| .mv rfl <| .z) fun a w S => st_m (op_stW S sizeOf40 (.t rfl) (.t rfl) (k := 6) rfl rfl rfl (by simp [Value.oneCell']) fun a w S => run S (.as rfl <| .z) fun a w S => st_nil (then_normal (hK3 _ _ (wp_ret (then_ret (st_ret S (results2 S results47 (Rv.cell (k := 6) ⟨isAgg40, sizeOf40⟩ rfl rfl rfl) (Rv.tmp rfl)) ?_))))))))))))
    refine ⟨_, [rowOf 74 6 Ent.enc none 0 [], rowOf 110 3 Dot.enc none 0 [], rowOf 62 3 Dot.enc none 0 []], rfl, (((S.nil_ 62 3 Dot.enc none).nil_ 110 3 Dot.enc none).nil_ 74 6 Ent.enc none).wd.pk, none, 0, none, 0, none, 0, ?_, ?_⟩ <;> rw [hD] <;> rfl
end Go.Proofs.Ytfblmkocmnbdcaa
set_option linter.unusedVariables false
set_option linter.unusedSimpArgs false
set_option maxRecDepth 100000
set_option maxHeartbeats 4000000
namespace Go.Fw
def shN (p : Nat) : Nat → Nat
  | 0 => p
  | i + 1 => shN p i / 256
theorem shN_eq (p : Nat) : ∀ i, shN p i = p / 256 ^ i
  | 0 => by simp [shN]
  | i + 1 => by rw [shN, shN_eq p i, Nat.div_div_eq_div_mul, Nat.pow_succ]
theorem shN_le (p i : Nat) : shN p i ≤ p := by rw [shN_eq]; exact Nat.div_le_self _ _
theorem shN_next {p : Nat} (hp : p < 18446744073709551616) (i : Nat) : IntKind.u64.wrap (((shN p i : Nat) : Int).tdiv 256) = ((shN p (i + 1) : Nat) : Int) := by
  have h := shN_le p i
  have e : ((shN p i : Nat) : Int).tdiv 256 = ((shN p i / 256 : Nat) : Int) := by
    rw [Int.tdiv_eq_ediv_of_nonneg (by omega)]; omega
  rw [e, shN]
  simp only [IntKind.wrap, IntKind.signed, IntKind.bits]
  simp
  omega
theorem shN_byte (p i : Nat) : b8 (((shN p i : Nat) : Int) % 256) = UInt8.ofNat (p / 256 ^ i % 256) := by
  rw [← shN_eq]
  unfold b8
  congr 1
  omega
end Go.Fw
namespace Go.Proofs.Ytfblmkocmnbdcaa
open Go.Fw Go.Proofs Go.RowKit Go.Proofs.Try
theorem c42 (w0 : World) (v1 v2 v3 : Value) (X : Cart) (h : Sl Ent.enc 6 w0 w0.heap.size v1 X.ents) (hr : RdCtx w0 w0.heap.size v2 v3 X.ctx) :
    Rets Try.prog 42 #[.agg #[v1, v2, v3]] w0 fun v L => ∃ A r, v = .tuple #[.slice A (if canE X = 0 then encK X else []).length r, .int .i64 (canE X)] ∧ L = [rowOf 5 1 encB A r (if canE X = 0 then encK X else [])] := by
  have hs := h
  have hrr := hr
  obtain ⟨A, cap, rfl, hl, hcap, hA⟩ := h
  obtain ⟨⟨A2, cap2, rfl, _⟩, ⟨A3, cap3, rfl, _⟩⟩ := hr
  by_cases he : canE X = 0
  rotate_left
  · have rw_e : decide (canE X ≠ 0) = true := decide_eq_true he
    unfold Go.Fw.Rets
    refine enter1 func42 rfl ntmps42 rfl fun a S => wp_seq_k fun _ hK1 => wp_region_lit (st_m (op_box S (.t rfl) rfl fun g1 a w S => run S (.ac rfl <| .ac rfl <| .z) fun a w S => st_nil (then_normal (hK1 _ _ (wp_seq_k fun _ hK1 => sg S (.la gt40 0 rfl rfl rfl <| .xx (ys_call call20 (.cons (.t rfl) .nil) (fun hp w W => c20 _ _ _ _ _ (by exact .old W (by assumption)) (by exact .old W (by assumption)))) rfl <| .as rfl <| .z) fun a w S => sg S (.mv rfl <| .yy (ys_T (by omega) (ys_neq (.t rfl) Ev.c)) rfl <| .z) fun a w S => st_then S (.t rfl) (sg S (.mv rfl <| .ac rfl <| .as rfl <| .z) fun a w S => wp_ret (then_ret (st_ret S (results2 S results42 (Rv.tmp rfl) (Rv.tmp rfl)) ?_))))))))
    rw [if_neg he]
    exact ⟨_, _, rfl, (S.nil_ 5 1 encB none).wd.pk, none, 0, rfl, rfl⟩
  have rw_e := he
  unfold Go.Fw.Rets
  refine enter1 func42 rfl ntmps42 rfl fun a S => wp_seq_k fun _ hK1 => wp_region_lit (st_m (op_box S (.t rfl) rfl fun g1 a w S => run S (.ac rfl <| .ac rfl <| .z) fun a w S => st_nil (then_normal (hK1 _ _ (wp_seq_k fun _ hK1 => wp_seq_k fun _ hK2 => wp_region_lit (run S (.la gt40 0 rfl rfl rfl <| .xx (ys_call call20 (.cons (.t rfl) .nil) (fun hp w W => c20 _ _ _ _ _ (by exact .old W (by assumption)) (by exact .old W (by assumption)))) rfl <| .z) fun a w S => ?_))))))
  rw [rw_e] at S
  refine run S (.as rfl <| .z) fun a w S => st_nil (then_normal (hK2 _ _ (sg S (.mv rfl <| .yy (ys_F (by omega) (ys_neq (.t rfl) Ev.c)) rfl <| .z) fun a w S => st_else S (.t rfl) (wp_skip (then_normal (hK1 _ _ (wp_seq_k fun _ hK1 => wp_region_lit (run S (.fa underlying40 sizeOf34 0 rfl rfl rfl <| .ld gt34 0 rfl rfl rfl <| .ln underlying34 rfl <| .z) fun a w S => ?_))))))))
  (refine st_m (op_calls S call83 (.cons Ev.c (.cons (.t rfl) .nil)) (c83 _ _ _ _ (by exact Sl.nil_) (by (simp; done)) (by omega)) rfl ?_); clear S a w; rintro _ _ ⟨A1, c1, rfl, rfl⟩ a w S)
  refine run S (.as rfl <| .z) fun a w S => st_nil (then_normal (hK1 _ _ (wp_seq_k fun _ hK1 => sg S (.fa underlying40 sizeOf34 0 rfl rfl rfl <| .ld gt34 1 rfl rfl rfl <| .ln underlying34 rfl <| .mc rfl <| .z) fun a w S => wp_block ?_)))
  have ok := (canE_ok X).1 he
  have lX := ok.len
  have hp0 := putL_len [] (n := (X.ents.length : Int)) (by omega)
  have e0 : putL [] (X.ents.length : Int) = (X.ents.take 0).foldl entB (putL [] (X.ents.length : Int)) := rfl
  rw [e0] at S
  refine st_lpM S [5, 23] (X := Nat × Option Addr × Nat) (fun q => [(5, true, .slice q.2.1 ((X.ents.take q.1).foldl entB (putL [] (X.ents.length : Int))).length q.2.2), (23, true, .int .i64 (q.1 : Int))])
    (fun q => [rowOf 5 1 encB q.2.1 q.2.2 ((X.ents.take q.1).foldl entB (putL [] (X.ents.length : Int))), .blk g1 (.cells #[.slice A X.ents.length cap, .slice A2 X.ctx.marks.length cap2, .slice A3 X.ctx.cloud.length cap3] 40)])
    (fun q => q.1 ≤ X.ents.length) (fun q => X.ents.length - q.1) (0, A1, c1) (Nat.zero_le _) ?_
  clear S
  rintro ⟨k, D, cD⟩ a w hk S
  dsimp only at hk S
  have hbl := ents_len ok k
  by_cases hlt : k < X.ents.length
  · obtain ⟨g, o, x, rfl, hx, hd, hc⟩ := row_at hA hlt
    have hxo := ok.each x (List.mem_of_getElem? hx)
    obtain ⟨hxi, hxq1, hxq2, hx1, hx2, hx3, hx4, hx5, hx6⟩ := ent_lim ok.ctx hxo
    have hst : (X.ents.take (k + 1)).foldl entB (putL [] (X.ents.length : Int)) = entB ((X.ents.take k).foldl entB (putL [] (X.ents.length : Int))) x := by
      rw [List.take_add_one, hx, Option.toList_some, List.foldl_append]; rfl
    generalize hO : (X.ents.take k).foldl entB (putL [] (X.ents.length : Int)) = O at *
    have hl1 := textL_len O x.item
    generalize rw_o1 : textL O x.item = O1 at *
    have hl2 := putL_len O1 (n := x.dot.node) (by omega)
    generalize rw_o2 : putL O1 x.dot.node = O2 at *
    have hl3 := putL_len O2 (n := x.dot.life) (by omega)
    generalize rw_o3 : putL O2 x.dot.life = O3 at *
    have hl4 := putL_len O3 (n := x.dot.count) (by omega)
    generalize rw_o4 : putL O3 x.dot.count = O4 at *
    have hl5 := putL_len O4 (n := x.qty) (by omega)
    generalize rw_o5 : putL O4 x.qty = O5 at *
    refine sg S (.lt (by omega) rfl rfl <| .z) fun a w S => wp_seq_k fun _ hK2 => st_then S (.t rfl) (wp_skip (then_normal (hK2 _ _ (wp_seq_k fun _ hK2 => wp_block (wp_seq_k fun _ hK3 => wp_region_lit (run S (.ix underlying34 sizeOf74 (by omega) rfl rfl <| .yy (ys_ldOA ⟨isAgg74, sizeOf74⟩ (.t rfl) (vs := [_, _, _, _, _, _]) rfl (fun _ => hc)) rfl <| .z) fun a w S => st_m (op_alloc S zeroValue74 (cs := _) rfl rfl fun g2 a w S => st_m (op_stW S sizeOf74 (.t rfl) (.t rfl) (k := 0) rfl rfl rfl (by simp [Value.oneCell']) fun a w S => st_nil (then_normal (hK3 _ _ (wp_seq_k fun _ hK3 => wp_region_lit (run S (.mv rfl <| .fa underlying74 sizeOf9 0 rfl rfl rfl <| .ld gt9 0 rfl rfl rfl <| .z) fun a w S => ?_))))))))))))
    (refine st_m (op_calls S call84 (.cons (.t rfl) (.cons (.t rfl) .nil)) (c84 _ _ _ _ (by exact Sl.of_own S.wd (k := 1) rfl (fun _ => rfl)) (by omega) (by omega)) rfl ?_); clear S a w; rintro _ _ ⟨A4, r1, rfl, rfl⟩ a w S)
    rw [rw_o1] at S
    refine run S (.as rfl <| .z) fun a w S => st_nil (then_normal (hK3 _ _ (wp_seq_k fun _ hK3 => wp_seq_k fun _ hK4 => wp_region_lit (run S (.fa underlying74 sizeOf62 1 rfl rfl rfl <| .fa underlying62 sizeOf3 1 rfl rfl rfl <| .ld gt3 1 rfl rfl rfl <| .fa underlying74 sizeOf62 1 rfl rfl rfl <| .fa underlying62 sizeOf3 2 rfl rfl rfl <| .ld gt3 1 rfl rfl rfl <| .fa underlying74 sizeOf62 1 rfl rfl rfl <| .fa underlying62 sizeOf3 3 rfl rfl rfl <| .ld gt3 1 rfl rfl rfl <| .fa underlying74 sizeOf3 4 rfl rfl rfl <| .ld gt3 1 rfl rfl rfl <| .z) fun a w S => st_m (op_bsliceZ (ps := [(0, Go.Operand.tmp 33), (1, Go.Operand.tmp 36), (2, Go.Operand.tmp 39), (3, Go.Operand.tmp 41)]) (us := [_, _, _, _]) S underlying23 sizeOf3 zeroValue3 rfl rfl (.cons (.t rfl) (.cons (.t rfl) (.cons (.t rfl) (.cons (.t rfl) .nil)))) rfl rfl fun g3 a w S => run S (.ln underlying23 rfl <| .mc rfl <| .z) fun a w S => st_nil (then_normal (hK4 _ _ (wp_block (st_rounds 5 (st_round (sg S (.lt (by omega) rfl rfl <| .z) fun a w S => wp_seq_k fun _ hK4 => st_then S (.t rfl) (wp_skip (then_normal (hK4 _ _ (wp_seq_k fun _ hK4 => wp_block (wp_seq_k fun _ hK5 => wp_region_lit (run S (.yy (ys_ixS (j := 0) underlying23 sizeOf3 (.t rfl) (.t rfl) (fun _ => by omega)) rfl <| .ld gt3 0 rfl rfl rfl <| .as rfl <| .z) fun a w S => st_nil ?_)))))))))))))))))
    refine then_normal (hK5 _ _ (wp_region_lit (run S (.mv rfl <| .mv rfl <| .z) fun a w S => ?_)))
    (refine st_m (op_calls S call83 (.cons (.t rfl) (.cons (.t rfl) .nil)) (c83 _ _ _ _ (by exact Sl.of_own S.wd (k := 1) rfl (fun _ => rfl)) (by omega) (by omega)) rfl ?_); clear S a w; rintro _ _ ⟨A5, c2, rfl, rfl⟩ a w S)
    rw [rw_o2] at S
    refine run S (.as rfl <| .z) fun a w S => st_nil (in_normal (then_normal (hK4 _ _ (wp_region_lit (run S (.ad (by unfold I64; omega) rfl <| .mv rfl <| .z) fun a w S => st_nil (then_normal (st_round (sg S (.lt (by omega) rfl rfl <| .z) fun a w S => wp_seq_k fun _ hK4 => st_then S (.t rfl) (wp_skip (then_normal (hK4 _ _ (wp_seq_k fun _ hK4 => wp_block (sg S (.yy (ys_ixS (j := 1) underlying23 sizeOf3 (.t rfl) (.t rfl) (fun _ => by omega)) rfl <| .ld gt3 1 rfl rfl rfl <| .as rfl <| .z) fun a w S => wp_region_lit (run S (.mv rfl <| .mv rfl <| .z) fun a w S => ?_))))))))))))))
    (refine st_m (op_calls S call83 (.cons (.t rfl) (.cons (.t rfl) .nil)) (c83 _ _ _ _ (by exact Sl.of_own S.wd (k := 0) rfl (fun _ => rfl)) (by omega) (by omega)) rfl ?_); clear S a w; rintro _ _ ⟨A6, c3, rfl, rfl⟩ a w S)
    rw [rw_o3] at S
    refine run S (.as rfl <| .z) fun a w S => st_nil (in_normal (then_normal (hK4 _ _ (wp_region_lit (run S (.ad (by unfold I64; omega) rfl <| .mv rfl <| .z) fun a w S => st_nil (then_normal (st_round (sg S (.lt (by omega) rfl rfl <| .z) fun a w S => wp_seq_k fun _ hK4 => st_then S (.t rfl) (wp_skip (then_normal (hK4 _ _ (wp_seq_k fun _ hK4 => wp_block (sg S (.yy (ys_ixS (j := 2) underlying23 sizeOf3 (.t rfl) (.t rfl) (fun _ => by omega)) rfl <| .ld gt3 2 rfl rfl rfl <| .as rfl <| .z) fun a w S => wp_region_lit (run S (.mv rfl <| .mv rfl <| .z) fun a w S => ?_))))))))))))))
    (refine st_m (op_calls S call83 (.cons (.t rfl) (.cons (.t rfl) .nil)) (c83 _ _ _ _ (by exact Sl.of_own S.wd (k := 0) rfl (fun _ => rfl)) (by omega) (by omega)) rfl ?_); clear S a w; rintro _ _ ⟨A7, c4, rfl, rfl⟩ a w S)
    rw [rw_o4] at S
    refine run S (.as rfl <| .z) fun a w S => st_nil (in_normal (then_normal (hK4 _ _ (wp_region_lit (run S (.ad (by unfold I64; omega) rfl <| .mv rfl <| .z) fun a w S => st_nil (then_normal (st_round (sg S (.lt (by omega) rfl rfl <| .z) fun a w S => wp_seq_k fun _ hK4 => st_then S (.t rfl) (wp_skip (then_normal (hK4 _ _ (wp_seq_k fun _ hK4 => wp_block (sg S (.yy (ys_ixS (j := 3) underlying23 sizeOf3 (.t rfl) (.t rfl) (fun _ => by omega)) rfl <| .ld gt3 3 rfl rfl rfl <| .as rfl <| .z) fun a w S => wp_region_lit (run S (.mv rfl <| .mv rfl <| .z) fun a w S => ?_))))))))))))))
    (refine st_m (op_calls S call83 (.cons (.t rfl) (.cons (.t rfl) .nil)) (c83 _ _ _ _ (by exact Sl.of_own S.wd (k := 0) rfl (fun _ => rfl)) (by omega) (by omega)) rfl ?_); clear S a w; rintro _ _ ⟨A8, c5, rfl, rfl⟩ a w S)
    rw [rw_o5] at S
    refine run S (.as rfl <| .z) fun a w S => st_nil (in_normal (then_normal (hK4 _ _ (wp_region_lit (run S (.ad (by unfold I64; omega) rfl <| .mv rfl <| .z) fun a w S => st_nil (then_normal (st_round (sg S (.ge (by omega) rfl rfl <| .z) fun a w S => wp_seq_k fun _ hK4 => st_else S (.t rfl) (wp_exit (then_exit (then_exit (in_here (then_normal (hK3 _ _ (sg S (.fa underlying74 sizeOf27 5 rfl rfl rfl <| .ld gt27 6 rfl rfl rfl <| .as rfl <| .z) fun a w S => sg S (.mc rfl <| .z) fun a w S => wp_block ?_)))))))))))))))
    have hpl := x.price.toNat_lt
    have rw_f : O5 ++ leN x.price.toNat 0 = O5 := List.append_nil _
    rw [← rw_f] at S
    clear rw_f
    refine st_lpM S [5, 10, 54] (X := Nat × Option Addr × Nat) (fun q => [(5, true, .slice q.2.1 (O5 ++ leN x.price.toNat q.1).length q.2.2), (10, true, .int .u64 ((shN x.price.toNat q.1 : Nat) : Int)), (54, true, .int .i64 (q.1 : Int))])
      (fun q => [rowOf 5 1 encB q.2.1 q.2.2 (O5 ++ leN x.price.toNat q.1), .blk g2 (.cells (Ent.enc x).toArray 74), .blk g1 (.cells #[.slice (some ⟨g, o, none⟩) X.ents.length cap, .slice A2 X.ctx.marks.length cap2, .slice A3 X.ctx.cloud.length cap3] 40)])
      (fun q => q.1 ≤ 8) (fun q => 8 - q.1) (0, _, _) (Nat.zero_le _) ?_
    clear S
    rintro ⟨i, F, cF⟩ a w hi S
    dsimp only at hi S
    have hll : (O5 ++ leN x.price.toNat i).length = O5.length + i := by rw [List.length_append, leN_len]
    have hpd := shN_le x.price.toNat i
    have rw_d := shN_next (p := x.price.toNat) hpl i
    by_cases hi8 : i < 8
    · refine sg S (.yy (ys_T (by omega) (ys_lss (.t rfl) Ev.c)) rfl <| .z) fun a w S => wp_seq_k fun _ hK3 => st_then S (.t rfl) (wp_skip (then_normal (hK3 _ _ (wp_seq_k fun _ hK3 => wp_block (wp_seq_k fun _ hK5 => wp_region_lit (run S (.mv rfl <| .mv rfl <| .yy (ys_remE (.t rfl) Ev.c (fun _ => by omega)) rfl <| .yy (ys_cvB underlying27 underlying5 (.t rfl)) rfl <| .z) fun a w S => st_m (op_bslice1 S underlying57 inf5 rfl rfl rfl (.t rfl) rfl rfl rfl fun g4 a w S => st_m (op_push S underlying57 inf5 rfl (k := 1) (j := 0) rfl (.t rfl) (.t rfl) rfl rfl rfl rfl (by first | omega | (simp only [List.length_append, List.length_cons, List.length_nil]; omega)) rfl rfl rfl fun A9 cap1 a w S => run S (.as rfl <| .z) fun a w S => st_nil (then_normal (hK5 _ _ (wp_region_lit (run S (.mv rfl <| .yy (ys_quo (.t rfl) Ev.c (fun _ => by omega)) rfl <| .z) fun a w S => ?_))))))))))))
      rw [rw_d] at S
      refine run S (.as rfl <| .z) fun a w S => st_nil (in_normal (then_normal (hK3 _ _ (wp_region_lit (run S (.ad (by unfold I64; omega) rfl <| .mv rfl <| .z) fun a w S => st_nil (then_normal ?_))))))
      rw [shN_byte, List.append_assoc, show leN x.price.toNat i ++ [UInt8.ofNat (x.price.toNat / 256 ^ i % 256)] = leN x.price.toNat (i + 1) from rfl] at S
      exact ⟨(i + 1, A9, cap1), by dsimp only; omega, by dsimp only; omega, S.pk⟩
    obtain rfl : i = 8 := by omega
    have he5 : entB O x = O5 ++ leN x.price.toNat 8 := by unfold entB; rw [rw_o1, rw_o2, rw_o3, rw_o4, rw_o5]
    refine sg S (.yy (ys_F (by omega) (ys_lss (.t rfl) Ev.c)) rfl <| .z) fun a w S => wp_seq_k fun _ hK3 => st_else S (.t rfl) (wp_exit (then_exit (then_exit (in_here (in_normal (then_normal (hK2 _ _ (wp_region_lit (run S (.ad (by unfold I64; omega) rfl <| .mv rfl <| .z) fun a w S => st_nil (then_normal ?_))))))))))
    exact ⟨(k + 1, F, cF), by dsimp only; omega, by dsimp only; omega, by dsimp only; rw [hst, he5]; exact S.pk⟩
  obtain rfl : k = X.ents.length := by omega
  rw [List.take_length] at S hbl
  have ee : X.ents.foldl entB (putL [] (X.ents.length : Int)) = entsB [] X.ents := rfl
  rw [ee] at S hbl
  have rw_1 : ∀ a b : List UInt8, (if canL X.ctx = true then a else b) = a := fun _ _ => if_pos ok.ctx
  have rw_2 : ∀ a b : Int, (if canL X.ctx = true then a else b) = a := fun _ _ => if_pos ok.ctx
  have rw_3 : encC (entsB [] X.ents) X.ctx = encK X := rfl
  refine sg S (.ge (by omega) rfl rfl <| .z) fun a w S => wp_seq_k fun _ hK2 => st_else S (.t rfl) (wp_exit (then_exit (then_exit (in_here (then_normal (hK1 _ _ (wp_seq_k fun _ hK1 => wp_region_lit (run S (.mv rfl <| .fa underlying40 sizeOf38 1 rfl rfl rfl <| .la gt38 1 rfl rfl rfl <| .z) fun a w S => ?_))))))))
  (refine st_m (op_calls S call85 (.cons (.t rfl) (.cons (.t rfl) .nil)) (c85 _ _ _ _ _ _ (by exact Sl.of_own S.wd (k := 0) rfl (fun _ => rfl)) (by exact .old S.wd (by assumption)) (by omega)) rfl ?_); clear S a w; rintro _ _ ⟨A4, c2, rfl, rfl⟩ a w S)
  rw [rw_1] at S
  rw [rw_2] at S
  rw [rw_3] at S
  refine run S (.ex rfl rfl <| .ex rfl rfl <| .as rfl <| .as rfl <| .z) fun a w S => st_nil (then_normal (hK1 _ _ (wp_ret (st_ret S (results2 S results42 (Rv.tmp rfl) (Rv.tmp rfl)) ?_))))
  rw [if_pos he, he]
  exact ⟨_, _, rfl, S.wd.pk, _, _, rfl, rfl⟩
end Go.Proofs.Ytfblmkocmnbdcaa
set_option linter.unusedVariables false
set_option linter.unusedSimpArgs false
namespace Go.Fw
open Go.RowKit Go.Sort Go.Proofs
abbrev MEnt := {e : Ent // mayD e.dot = true}
instance : Inhabited MEnt := ⟨⟨⟨[], ⟨0, 1, 1⟩, 0, 0⟩, rfl⟩⟩
abbrev MEnt.enc (e : MEnt) : List Value := Ent.enc e.1
end Go.Fw
set_option linter.unusedVariables false
set_option linter.unusedSimpArgs false
namespace Go.Ft
open Go.RowKit
abbrev bs (l : List UInt8) : ByteArray := ⟨l.toArray⟩
section ops
variable {P : Program} {n : Nat} {w0 : World} {K : KL} {L : List Chunk} {b : Bool} {dst : Option Tmp} {ty : TypeId} {pos : String} {aft : Array Edge} {gd : Option (Nat × Bool)}
end ops
section
variable {P : Program} {n : Nat} {w0 : World} {K : KL} {L : List Chunk} {ty : TypeId} {pos : String} {aft : Array Edge} {gd : Option (Nat × Bool)} {a : Act} {w : World} {Z : Act → World → Prop} {Q : Exit → Act → World → Prop} {d : Nat}
end
section
variable {P : Program} {n : Nat} {w0 : World} {K : KL} {L : List Chunk} {ty : TypeId} {pos : String} {aft : Array Edge} {gd : Option (Nat × Bool)} {a : Act} {w : World} {Z : Act → World → Prop} {Q : Exit → Act → World → Prop} {d : Nat}
end
section
variable {P : Program} {n : Nat} {w0 : World} {K : KL} {L : List Chunk} {ty : TypeId} {pos : String} {aft : Array Edge} {gd : Option (Nat × Bool)} {a : Act} {w : World} {Z : Act → World → Prop} {Q : Exit → Act → World → Prop} {d : Nat}
end
section
variable {P : Program} {Q : Exit → Act → World → Prop} {J : Act → World → Prop} {l i : Nat} {a : Act} {w : World}
end
section ops
variable {P : Program} {n : Nat} {w0 : World} {K : KL} {L : List Chunk} {b : Bool} {dst : Option Tmp} {ty : TypeId} {pos : String} {aft : Array Edge} {gd : Option (Nat × Bool)}
end ops
end Go.Ft
set_option linter.unusedVariables false
set_option linter.unusedSimpArgs false
namespace Go.Ft
open Go.RowKit
section ops
variable {P : Program} {n : Nat} {w0 : World} {K : KL} {L : List Chunk} {b : Bool} {dst : Option Tmp} {ty : TypeId} {pos : String} {aft : Array Edge} {gd : Option (Nat × Bool)}
end ops
section
variable {n : Nat} {w0 : World} {K : KL} {L : List Chunk} {a : Act} {w : World} {c : Chunk}
end
theorem Wd.cell {w0 w : World} {L : List Chunk} (W : Wd w0 L w) {k g i : Nat} {cs : List Value} {e : TypeId} {fr : Nat × Nat} {v : Value} (hk : L[k]? = some (.blk g (.cells cs.toArray e fr))) (hc : nth cs i = some v) : w.cell? ⟨g, i, none⟩ = some v := by
  rw [cell_of_row w g i _ e fr (W.get hk).2]
  rw [nth_eq] at hc
  simpa using hc
section split
variable {P : Program} {Q : Exit → Act → World → Prop} {n : Nat} {w0 : World} {K : KL} {L Lr : List Chunk} {a : Act} {w : World} {ops : Array Oper} {fuel : Nat} {listed : Array Bool} {md : Region.Mode}
end split
section
variable {P : Program} {n : Nat} {w0 : World} {K : KL} {L : List Chunk} {ty : TypeId} {pos : String} {aft : Array Edge} {gd : Option (Nat × Bool)} {a : Act} {w : World} {Z : Act → World → Prop} {Q : Exit → Act → World → Prop} {d : Nat}
end
end Go.Ft
set_option linter.unusedVariables false
set_option linter.unusedSimpArgs false
namespace Go.Ft
open Go.RowKit
def ltM (a b : Dot) : Prop := a.node < b.node ∨ (a.node = b.node ∧ a.life < b.life)
def ltC (a b : Dot) : Prop := a.node < b.node ∨ (a.node = b.node ∧ (a.life < b.life ∨ (a.life = b.life ∧ a.count < b.count)))
theorem belowC_iff (a b : Dot) : belowD a b = true ↔ ltC a b := by
  simp only [belowD, ltC]
  split
  · simp; omega
  · split <;> simp <;> omega
structure Nf (C : Ctx) : Prop where
  marks : C.marks.Pairwise ltM
  cloud : C.cloud.Pairwise ltC
  mayM : ∀ x ∈ C.marks, mayD x = true
  mayC : ∀ x ∈ C.cloud, mayD x = true
  gap : ∀ x ∈ C.cloud, markOf C.marks x.node x.life + 1 < x.count
end Go.Ft
set_option linter.unusedVariables false
set_option linter.unusedSimpArgs false
namespace Go.Ft
open Go.RowKit
structure Ent where
  item : List UInt8
  dot : Dot
  qty : Int
  price : UInt64
deriving DecidableEq
abbrev Ent.enc (e : Ent) : List Value := [.string (bs e.item), .int .i64 e.dot.node, .int .i64 e.dot.life, .int .i64 e.dot.count, .int .i64 e.qty, .int .u64 (e.price.toNat : Int)]
structure Cart where
  ents : List Ent
  ctx : Ctx
deriving DecidableEq
abbrev Cart.zero : Cart := ⟨[], ⟨[], []⟩⟩
structure Line where
  item : List UInt8
  qty : Int
  price : UInt64
deriving DecidableEq
abbrev Line.enc (e : Line) : List Value := [.string (bs e.item), .int .i64 e.qty, .int .u64 (e.price.toNat : Int)]
def ltE (a b : Ent) : Prop := Op.bytesLess a.item b.item = true ∨ (a.item = b.item ∧ ltC a.dot b.dot)
instance (a b : Ent) : Decidable (ltE a b) := decidable_of_iff (Op.bytesLess a.item b.item = true ∨ (a.item = b.item ∧ belowD a.dot b.dot = true)) (by rw [belowC_iff]; rfl)
def clashE (a b : Cart) : Prop := ∃ x ∈ a.ents, ∃ y ∈ b.ents, x.dot = y.dot ∧ x ≠ y
instance (a b : Cart) : Decidable (clashE a b) := by unfold clashE; infer_instance
end Go.Ft
set_option linter.unusedVariables false
set_option linter.unusedSimpArgs false
set_option maxRecDepth 100000
namespace Go.Proofs.Ytfblmkocmnbdcaa
open Go.Fw Go.Proofs Go.RowKit Go.Proofs.Try
theorem c81 (w0 : World) (v1 : Value) (l : List Dot) (h : Sl Dot.enc 3 w0 w0.heap.size v1 l) (hn : l.length ≤ 4194304) :
    Rets Try.prog 81 #[v1] w0 fun v L => ∃ A c, v = .slice A l.length c ∧ L = [rowOf 110 3 Dot.enc A c l] := by
  have h0 := h
  obtain ⟨A, cap, rfl, hl, hcap, hA⟩ := h
  unfold Go.Fw.Rets
  refine enter1 func81 rfl ntmps81 rfl fun a S => sg S (.ac rfl <| .z) fun a w S => wp_seq_k fun _ hK1 => sg S (.mv rfl <| .yy (ys_sNil underlying35 (.t rfl) Ev.c) rfl <| .z) fun a w S => ?_
  refine st_cond S (.t rfl) (fun h1 => ?_) (fun h1 => ?_)
  refine sg S (.ac rfl <| .z) fun a w S => wp_ret (then_ret (st_ret S (results1 S results81 (Rv.tmp rfl)) ?_))
  rotate_left
  refine wp_skip (then_normal (hK1 _ _ (wp_seq_k fun _ hK1 => wp_region_lit (st_m (op_bslice0 S underlying35 sizeOf110 rfl fun g1 a w S => run S (.mv rfl <| .z) fun a w S => st_m (op_extend _ (S.nil_ 110 _ Go.Fw.Dot.enc _) underlying35 underlying35 (.inr ⟨_, rfl⟩) inf110 rfl (k := 0) rfl (.t rfl) (.t rfl) (Src.sl (Sl.old S.wd h0) (by decide) Go.Fw.Dot.enc_len Go.Fw.Dot.enc_one) (by first | omega | (simp only [List.length_append, List.length_cons, List.length_nil]; omega) | (simp; omega)) rfl rfl rfl fun A1 cap1 a w S => ?_))))))
  simp only [List.nil_append] at S
  refine run S (.as rfl <| .z) fun a w S => st_nil (then_normal (hK1 _ _ (wp_ret (st_ret S (results1 S results81 (Rv.tmp rfl)) ?_))))
  rotate_left
  · have hnil : l = [] := by
      refine List.eq_nil_of_length_eq_zero (Decidable.byContradiction fun hne => ?_)
      obtain ⟨g, o, rfl, _⟩ := hA (by omega)
      cases h1
    subst hnil
    exact ⟨_, _, rfl, (S.nil_ 110 3 Dot.enc none).wd.sub (by repeat (first | exact List.Sublist.refl _ | exact List.nil_sublist _ | refine .cons_cons _ ?_ | refine .cons _ ?_)), none, 0, rfl, rfl⟩
  · try simp only [List.nil_append] at S ⊢
    exact ⟨_, _, rfl, S.wd.sub (by repeat (first | exact List.Sublist.refl _ | exact List.nil_sublist _ | refine .cons_cons _ ?_ | refine .cons _ ?_)), _, _, rfl, rfl⟩
end Go.Proofs.Ytfblmkocmnbdcaa
set_option linter.unusedVariables false
set_option linter.unusedSimpArgs false
set_option maxRecDepth 100000
set_option maxHeartbeats 4000000
namespace Go.Proofs.Ytfblmkocmnbdcaa
open Go.Fw Go.Proofs Go.RowKit Go.Proofs.Try
theorem c41 (w0 : World) (v1 v2 : Value) (C : Ctx) (h : RdCtx w0 w0.heap.size v1 v2 C) (hn : C.marks.length ≤ 1048576) (hn' : C.cloud.length ≤ 1048576) :
    Rets Try.prog 41 #[.agg #[v1, v2]] w0 fun v L => ∃ A1 r1 A2 r2, v = .agg #[.slice A1 C.marks.length r1, .slice A2 C.cloud.length r2] ∧
      L = [rowOf 110 3 Dot.enc A1 r1 C.marks, rowOf 62 3 Dot.enc A2 r2 C.cloud] := by
  obtain ⟨h1, h2⟩ := id h
  obtain ⟨B1, q1, rfl, _⟩ := id h1
  obtain ⟨B2, q2, rfl, _⟩ := id h2
  unfold Go.Fw.Rets
  refine enter1 func41 rfl ntmps41 rfl fun a S => wp_seq_k fun _ hK1 => wp_region_lit (st_m (op_box S (.t rfl) rfl fun g1 a w S => st_m (op_alloc S zeroValue38 (cs := _) rfl rfl fun g2 a w S => st_nil (then_normal (hK1 _ _ (wp_seq_k fun _ hK1 => h_beginE S (by kernel_rfl) 0 fun a w S => hy 0 S rfl (ys_fieldN (FieldT.mk underlying38 rfl sizeOf35 rfl) (.t rfl) (i' := 0) rfl) rfl fun a w S => hy 1 S rfl (ys_ld ⟨isAgg35, sizeOf35⟩ (.t rfl) (k := 0) rfl rfl) rfl fun a w S => hy 3 S rfl (ys_fieldN (FieldT.mk underlying38 rfl sizeOf36 rfl) (.t rfl) (i' := 1) rfl) rfl fun a w S => ?_))))))
  refine hy 4 S rfl (ys_ld ⟨isAgg36, sizeOf36⟩ (.t rfl) (k := 0) rfl rfl) rfl fun a w S => ?_
  (refine h_m (i := 2) rfl (by kernel_rfl) (op_calls S call81 (.cons (.t rfl) .nil) (c81 _ _ _ (by exact .old S.wd (by assumption)) (by omega)) rfl ?_); clear S a w; rintro _ _ ⟨A1, c1, rfl, rfl⟩ a w S; refine h_n1 S ?_)
  (refine h_m (i := 5) rfl (by kernel_rfl) (op_calls S call82 (.cons (.t rfl) .nil) (c82 _ _ _ (by exact .old S.wd (by assumption)) (by omega)) rfl ?_); clear S a w; rintro _ _ ⟨A2, c2, rfl, rfl⟩ a w S; refine h_n1 S ?_)
  refine hy 6 S rfl (ys_bld (ps := [(0, Go.Operand.tmp 5), (1, Go.Operand.tmp 8)]) (us := [_, _]) bld38 (.cons (.t rfl) (.cons (.t rfl) .nil)) rfl) rfl fun a w S => ?_
  (refine h_m0 (i := 7) rfl (by kernel_rfl) (op_stW S sizeOf38 (.t rfl) (.t rfl) (k := 2) rfl rfl rfl (by simp [Value.oneCell']) ?_); clear S a w; intro a w S; refine h_n1 S ?_)
  refine h_done (by kernel_rfl) (then_normal (hK1 _ _ (wp_ret (st_ret S (results1 S results41 (Rv.cell (k := 2) ⟨isAgg38, sizeOf38⟩ rfl rfl rfl)) ?_))))
  (replace S := S.pull 1 rfl; try simp only [List.set_cons_zero, List.set_cons_succ, List.eraseIdx_cons_succ, List.eraseIdx_cons_zero] at S)
  exact ⟨_, _, rfl, S.wd.sub (by repeat (first | exact List.Sublist.refl _ | exact List.nil_sublist _ | refine .cons_cons _ ?_ | refine .cons _ ?_)), _, _, _, _, rfl, rfl⟩
end Go.Proofs.Ytfblmkocmnbdcaa
set_option linter.unusedVariables false
set_option linter.unusedSimpArgs false
set_option maxRecDepth 100000
set_option maxHeartbeats 4000000
namespace Go.Proofs.Ytfblmkocmnbdcaa
open Go.Fw Go.Proofs Go.RowKit Go.Proofs.Try
theorem c16 (w0 : World) (v1 v2 v3 : Value) (X : Cart) (h : Sl Ent.enc 6 w0 w0.heap.size v1 X.ents) (hr : RdCtx w0 w0.heap.size v2 v3 X.ctx) (hl1 : X.ents.length ≤ 1048576) (hl2 : X.ctx.marks.length ≤ 1048576) (hl3 : X.ctx.cloud.length ≤ 1048576) :
    Rets Try.prog 16 #[.agg #[v1, v2, v3]] w0 fun v L => ∃ A1 r1 A2 r2 A3 r3, v = .agg #[.slice A1 X.ents.length r1, .slice A2 X.ctx.marks.length r2, .slice A3 X.ctx.cloud.length r3] ∧
      L = [rowOf 74 6 Ent.enc A1 r1 X.ents, rowOf 110 3 Dot.enc A2 r2 X.ctx.marks, rowOf 62 3 Dot.enc A3 r3 X.ctx.cloud] := by
  have hs := h
  have hrr := hr
  obtain ⟨A, cap, rfl, hl, hcap, hA⟩ := h
  obtain ⟨⟨A2, cap2, rfl, _⟩, ⟨A3, cap3, rfl, _⟩⟩ := hr
  unfold Go.Fw.Rets
  refine enter1 func16 rfl ntmps16 rfl fun a S => wp_seq_k fun _ hK1 => wp_region_lit (st_m (op_box S (.t rfl) rfl fun g1 a w S => st_m (op_alloc S zeroValue40 (cs := _) rfl rfl fun g2 a w S => st_nil (then_normal (hK1 _ _ (wp_seq_k fun _ hK1 => h_beginE S (by kernel_rfl) 0 fun a w S => hy 0 S rfl (ys_fieldN (FieldT.mk underlying40 rfl sizeOf34 rfl) (.t rfl) (i' := 0) rfl) rfl fun a w S => hy 1 S rfl (ys_ld ⟨isAgg34, sizeOf34⟩ (.t rfl) (k := 0) rfl rfl) rfl fun a w S => hy 3 S rfl (ys_fieldN (FieldT.mk underlying40 rfl sizeOf38 rfl) (.t rfl) (i' := 1) rfl) rfl fun a w S => ?_))))))
  refine hy 4 S rfl (ys_ldA ⟨isAgg38, sizeOf38⟩ (.t rfl) (k := 0) rfl rfl) rfl fun a w S => ?_
  (refine h_m (i := 2) rfl (by kernel_rfl) (op_calls S call40 (.cons (.t rfl) .nil) (c40 _ _ _ (by exact .old S.wd (by assumption)) (by omega)) rfl ?_); clear S a w; rintro _ _ ⟨A1, c1, rfl, rfl⟩ a w S; refine h_n1 S ?_)
  (refine h_m (i := 5) rfl (by kernel_rfl) (op_calls S call41 (.cons (.t rfl) .nil) (c41 _ _ _ _ (by exact .old S.wd (by assumption)) (by assumption) (by assumption)) rfl ?_); clear S a w; rintro _ _ ⟨A11, r11, A21, r21, rfl, rfl⟩ a w S; refine h_n1 S ?_)
  refine hy 6 S rfl (ys_bld (ps := [(0, Go.Operand.tmp 5), (1, Go.Operand.tmp 8)]) (us := [_, _, _]) bld40 (.cons (.t rfl) (.cons (.t rfl) .nil)) rfl) rfl fun a w S => ?_
  (refine h_m0 (i := 7) rfl (by kernel_rfl) (op_stW S sizeOf40 (.t rfl) (.t rfl) (k := 3) rfl rfl rfl (by simp [Value.oneCell']) ?_); clear S a w; intro a w S; refine h_n1 S ?_)
  refine h_done (by kernel_rfl) (then_normal (hK1 _ _ (wp_ret (st_ret S (results1 S results16 (Rv.cell (k := 3) ⟨isAgg40, sizeOf40⟩ rfl rfl rfl)) ?_))))
  exact ⟨_, _, rfl, S.wd.pk, _, _, _, _, _, _, rfl, rfl⟩
end Go.Proofs.Ytfblmkocmnbdcaa
set_option linter.unusedVariables false
set_option linter.unusedSimpArgs false
namespace Go.Fw
open Go.RowKit
def SlIn {α : Type} (enc : α → List Value) (size : Nat) (w1 : World) (bs : List Nat) (v : Value) (l : List α) : Prop :=
  ∃ A cap, v = .slice A l.length cap ∧ l.length ≤ cap ∧ cap ≤ 9223372036854775807 ∧ (0 < l.length → ∃ g o, A = some ⟨g, o, none⟩ ∧ g ∈ bs ∧ ∀ k x, l[k]? = some x → ∀ j u, (enc x)[j]? = some u → w1.cell? ⟨g, o + k * size + j, none⟩ = some u)
def Chunk.blocks : Chunk → List Nat
  | .blk b _ => [b]
  | .row _ _ A _ cap _ => if cap = 0 then [] else (A.map (·.block)).toList
  | .ice _ bs => bs
section
variable {w0 w w1 : World} {L cs : List Chunk} {k e size : Nat} {bs bs' : List Nat}
variable {α : Type} {enc : α → List Value} {v : Value} {l : List α}
theorem ice_cell (W : Wd w0 L w) (hk : L[k]? = some (.ice w1 bs)) {g o : Nat} (hg : g ∈ bs) : w.cell? ⟨g, o, none⟩ = w1.cell? ⟨g, o, none⟩ := by
  have h := (W.get hk g hg).2.2
  simp only [World.cell?, h]
theorem SlIn.sl (h : SlIn enc size w1 bs v l) (W : Wd w0 L w) (hk : L[k]? = some (.ice w1 bs)) : Sl enc size w w.heap.size v l := by
  obtain ⟨A, cap, rfl, h1, h2, h3⟩ := h
  refine ⟨A, cap, rfl, h1, h2, fun hp => ?_⟩
  obtain ⟨g, o, rfl, hg, hc⟩ := h3 hp
  exact ⟨g, o, rfl, (W.get hk g hg).2.1, fun k x hx j u hu => (ice_cell W hk hg).trans (hc k x hx j u hu)⟩
theorem SlIn.row {A : Option Addr} {cap : Nat} (W : Wd w0 L w) (hk : L[k]? = some (rowOf e size enc A cap l)) (he : ∀ x, (enc x).length = size) (hb : ∀ b ∈ Chunk.blocks (rowOf e size enc A cap l), b ∈ bs') : SlIn enc size w bs' (.slice A l.length cap) l := by
  obtain ⟨A', cap', hv, h1, h2, h3⟩ := Sl.of_own W hk he
  cases hv
  refine ⟨A, cap, rfl, h1, h2, fun hp => ?_⟩
  obtain ⟨g, o, rfl, hg, hc⟩ := h3 hp
  exact ⟨g, o, rfl, hb g (by simp [Chunk.blocks, rowOf, show cap ≠ 0 by omega]), hc⟩
theorem SlIn.nil_ {c : Nat} : SlIn enc size w1 bs (.slice none 0 0) [] := ⟨none, 0, rfl, by simp, by simp, fun h => by simp at h⟩
end
structure Sls3 where
  a1 : Option Addr
  n1 : Nat
  c1 : Nat
  a2 : Option Addr
  n2 : Nat
  c2 : Nat
  a3 : Option Addr
  n3 : Nat
  c3 : Nat
abbrev SCart := Cart × Sls3
abbrev SUpd := Upd × Sls3
abbrev SCart.enc (p : SCart) : List Value := [.slice p.2.a1 p.2.n1 p.2.c1, .slice p.2.a2 p.2.n2 p.2.c2, .slice p.2.a3 p.2.n3 p.2.c3]
theorem SCart.enc_len (p : SCart) : (SCart.enc p).length = 3 := rfl
theorem SCart.enc_one (p : SCart) : ∀ u ∈ SCart.enc p, u.oneCell' = true := fun u hu => by simp [SCart.enc] at hu; rcases hu with rfl | rfl | rfl <;> rfl
abbrev SUpd.enc (p : SUpd) : List Value := Upd.enc p.1 (.slice p.2.a1 p.2.n1 p.2.c1) (.slice p.2.a2 p.2.n2 p.2.c2) (.slice p.2.a3 p.2.n3 p.2.c3)
theorem SUpd.enc_len (p : SUpd) : (SUpd.enc p).length = 10 := rfl
theorem SUpd.enc_one (p : SUpd) : ∀ u ∈ SUpd.enc p, u.oneCell' = true := fun u hu => by simp [SUpd.enc, Upd.enc] at hu; rcases hu with rfl | rfl | rfl | rfl | rfl | rfl | rfl | rfl | rfl | rfl <;> rfl
structure CartRd (w : World) (X : Cart) (s : Sls3) : Prop where
  ents : Sl Ent.enc 6 w w.heap.size (.slice s.a1 s.n1 s.c1) X.ents
  marks : Sl Dot.enc 3 w w.heap.size (.slice s.a2 s.n2 s.c2) X.ctx.marks
  cloud : Sl Dot.enc 3 w w.heap.size (.slice s.a3 s.n3 s.c3) X.ctx.cloud
section
variable {w0 w w1 : World} {L : List Chunk} {k : Nat} {bs bs' : List Nat} {X : Cart} {s : Sls3}
theorem CartRd.ctx (h : CartRd w X s) : RdCtx w w.heap.size (.slice s.a2 s.n2 s.c2) (.slice s.a3 s.n3 s.c3) X.ctx := ⟨h.marks, h.cloud⟩
end
end Go.Fw
set_option linter.unusedVariables false
set_option linter.unusedSimpArgs false
namespace Go.Fw
open Go.RowKit
structure Play where
  st : List Cart
  up : List Upd
  ct : List Int
def Play.start : Play := ⟨[], [], List.replicate 8 0⟩
end Go.Fw
set_option linter.unusedVariables false
set_option linter.unusedSimpArgs false
set_option maxRecDepth 100000
set_option maxHeartbeats 4000000
namespace Go.Fw
theorem encK_len {X : Cart} (h : CartOk X) : (encK X).length ≤ 16384 := by
  have h1 := ents_len h X.ents.length
  rw [List.take_length] at h1
  have h2 := h.len
  have hm := (can_nf h.ctx).mayM
  have hc := (can_nf h.ctx).mayC
  have h3 := dotsB_len (b := entsB [] X.ents) hm (can_len h.ctx).1
  have h4 := dotsB_len (b := dotsB (entsB [] X.ents) X.ctx.marks) hc (can_len h.ctx).2
  unfold encK encC
  unfold entsB at h3 h4 ⊢
  omega
end Go.Fw
namespace Go.Proofs.Ytfblmkocmnbdcaa
open Go.Fw Go.Proofs Go.RowKit Go.Proofs.Try
end Go.Proofs.Ytfblmkocmnbdcaa
set_option linter.unusedVariables false
set_option linter.unusedSimpArgs false
set_option maxRecDepth 100000
set_option maxHeartbeats 4000000
namespace Go.Fw
open Go.RowKit
def tokM (c : Cart) : List UInt8 × Int := if canE c = 0 then (letters (frameL (encK c)), 0) else ([], canE c)
theorem frame_le {l : List UInt8} (h : l.length ≤ 65536) : (frameL l).length ≤ 65600 := by
  have h1 := frame_len l
  have h2 := putL_len [] (n := (l.length : Int)) (by omega)
  simp only [List.length_nil] at h2
  omega
end Go.Fw
namespace Go.Proofs.Ytfblmkocmnbdcaa
open Go.Fw Go.Proofs Go.RowKit Go.Proofs.Try
theorem c15 (w0 : World) (v1 v2 v3 : Value) (X : Cart) (h : Sl Ent.enc 6 w0 w0.heap.size v1 X.ents) (hr : RdCtx w0 w0.heap.size v2 v3 X.ctx) :
    Calls Try.prog 15 #[.agg #[v1, v2, v3]] w0 fun e w' => e = .returned (.tuple #[.string (bs (tokM X).1), .int .i64 (tokM X).2]) ∧ Bel w0.heap.size w0 w' := by
  have hs := h
  have hrr := hr
  obtain ⟨A, cap, rfl, hl, hcap, hA⟩ := h
  obtain ⟨⟨A2, cap2, rfl, _⟩, ⟨A3, cap3, rfl, _⟩⟩ := hr
  by_cases h0 : canE X = 0
  · have ok := (canE_ok X).1 h0
    have hxl := encK_len ok
    have hfl := frame_le (l := encK X) (by omega)
    have rw_c := h0
    have rw_i : (if (0 : Int) = 0 then encK X else []) = encK X := if_pos rfl
    have ht : tokM X = (letters (frameL (encK X)), 0) := if_pos h0
    refine enter1 func15 rfl ntmps15 rfl fun a S => wp_seq_k fun _ hK1 => wp_region_lit (st_m (op_box S (.t rfl) rfl fun g1 a w S => run S (.ac rfl <| .ac rfl <| .z) fun a w S => st_nil (then_normal (hK1 _ _ (wp_seq_k fun _ hK1 => wp_region_lit (run S (.la gt40 0 rfl rfl rfl <| .z) fun a w S => ?_))))))
    (refine st_m (op_calls S call37 (.cons (.t rfl) .nil) (c37 _ _ _ _ _ (by exact .old S.wd (by assumption)) (by exact .old S.wd (by assumption))) rfl ?_); clear S a w; rintro _ _ ⟨A1, r1, rfl, rfl⟩ a w S)
    rw [rw_c] at S
    rw [rw_i] at S
    refine run S (.mv rfl <| .ex rfl rfl <| .ex rfl rfl <| .as rfl <| .as rfl <| .z) fun a w S => st_nil (then_normal (hK1 _ _ (wp_seq_k fun _ hK1 => sg S (.mv rfl <| .yy (ys_F (by omega) (ys_neq (.t rfl) Ev.c)) rfl <| .z) fun a w S => st_else S (.t rfl) (wp_skip (then_normal (hK1 _ _ (wp_seq_k fun _ hK1 => wp_region_lit (run S (.mv rfl <| .z) fun a w S => ?_))))))))
    (refine st_m (op_calls S call38 (.cons (.t rfl) .nil) (c38 _ _ _ (by exact Sl.of_own S.wd (k := 0) rfl (fun _ => rfl)) (by omega)) rfl ?_); clear S a w; rintro _ _ ⟨A4, r2, rfl, rfl⟩ a w S)
    refine run S (.mv rfl <| .ex rfl rfl <| .ex rfl rfl <| .as rfl <| .as rfl <| .z) fun a w S => st_nil (then_normal (hK1 _ _ (wp_seq_k fun _ hK1 => sg S (.mv rfl <| .yy (ys_F (by omega) (ys_neq (.t rfl) Ev.c)) rfl <| .z) fun a w S => st_else S (.t rfl) (wp_skip (then_normal (hK1 _ _ (sg S (.mv rfl <| .xx (ys_call call39 (.cons (.t rfl) .nil) (fun hp w W => c39 _ _ _ (by exact Sl.of_own W (k := 0) rfl (fun _ => rfl)) (by omega))) rfl <| .as rfl <| .ac rfl <| .z) fun a w S => wp_ret (st_ret S (results2 S results15 (Rv.tmp rfl) (Rv.tmp rfl)) ?_))))))))
    rw [ht]
    exact ⟨rfl, S.wd.below⟩
  · have rw_d : decide (canE X ≠ 0) = true := decide_eq_true h0
    have ht : tokM X = ([], canE X) := if_neg h0
    refine enter1 func15 rfl ntmps15 rfl fun a S => wp_seq_k fun _ hK1 => wp_region_lit (st_m (op_box S (.t rfl) rfl fun g1 a w S => run S (.ac rfl <| .ac rfl <| .z) fun a w S => st_nil (then_normal (hK1 _ _ (wp_seq_k fun _ hK1 => wp_region_lit (run S (.la gt40 0 rfl rfl rfl <| .z) fun a w S => ?_))))))
    (refine st_m (op_calls S call37 (.cons (.t rfl) .nil) (c37 _ _ _ _ _ (by exact .old S.wd (by assumption)) (by exact .old S.wd (by assumption))) rfl ?_); clear S a w; rintro _ _ ⟨A1, r1, rfl, rfl⟩ a w S)
    refine run S (.mv rfl <| .ex rfl rfl <| .ex rfl rfl <| .as rfl <| .as rfl <| .z) fun a w S => st_nil (then_normal (hK1 _ _ (wp_seq_k fun _ hK1 => sg S (.mv rfl <| .yy (ys_T (by omega) (ys_neq (.t rfl) Ev.c)) rfl <| .z) fun a w S => st_then S (.t rfl) (sg S (.mv rfl <| .ac rfl <| .as rfl <| .z) fun a w S => wp_ret (then_ret (st_ret S (results2 S results15 (Rv.tmp rfl) (Rv.tmp rfl)) ?_))))))
    rw [ht]
    exact ⟨rfl, S.wd.below⟩
theorem c17 (w0 : World) (v1 v2 v3 : Value) (X : Cart) (h : Sl Ent.enc 6 w0 w0.heap.size v1 X.ents) (hr : RdCtx w0 w0.heap.size v2 v3 X.ctx) :
    Calls Try.prog 17 #[.agg #[v1, v2, v3]] w0 fun e w' => e = .returned (.tuple #[.string (bs (tokM X).1), .int .i64 (tokM X).2]) ∧ Bel w0.heap.size w0 w' := by
  have hs := h
  have hrr := hr
  obtain ⟨A, cap, rfl, hl, hcap, hA⟩ := h
  obtain ⟨⟨A2, cap2, rfl, _⟩, ⟨A3, cap3, rfl, _⟩⟩ := hr
  by_cases h0 : canE X = 0
  · have ok := (canE_ok X).1 h0
    have hxl := encK_len ok
    have hfl := frame_le (l := encK X) (by omega)
    have rw_c := h0
    have rw_i : (if (0 : Int) = 0 then encK X else []) = encK X := if_pos rfl
    have rw_l := lettersR_eq (frameL (encK X))
    have ht : tokM X = (letters (frameL (encK X)), 0) := if_pos h0
    refine enter1 func17 rfl ntmps17 rfl fun a S => wp_seq_k fun _ hK1 => wp_region_lit (st_m (op_box S (.t rfl) rfl fun g1 a w S => run S (.ac rfl <| .ac rfl <| .z) fun a w S => st_nil (then_normal (hK1 _ _ (wp_seq_k fun _ hK1 => wp_region_lit (run S (.la gt40 0 rfl rfl rfl <| .z) fun a w S => ?_))))))
    (refine st_m (op_calls S call42 (.cons (.t rfl) .nil) (c42 _ _ _ _ _ (by exact .old S.wd (by assumption)) (by exact .old S.wd (by assumption))) rfl ?_); clear S a w; rintro _ _ ⟨A1, r1, rfl, rfl⟩ a w S)
    rw [rw_c] at S
    rw [rw_i] at S
    refine run S (.mv rfl <| .ex rfl rfl <| .ex rfl rfl <| .as rfl <| .as rfl <| .z) fun a w S => st_nil (then_normal (hK1 _ _ (wp_seq_k fun _ hK1 => sg S (.mv rfl <| .yy (ys_F (by omega) (ys_neq (.t rfl) Ev.c)) rfl <| .z) fun a w S => st_else S (.t rfl) (wp_skip (then_normal (hK1 _ _ (wp_seq_k fun _ hK1 => wp_region_lit (run S (.mv rfl <| .z) fun a w S => ?_))))))))
    (refine st_m (op_calls S call43 (.cons (.t rfl) .nil) (c43 _ _ _ (by exact Sl.of_own S.wd (k := 0) rfl (fun _ => rfl)) (by omega)) rfl ?_); clear S a w; rintro _ _ ⟨A4, r2, rfl, rfl⟩ a w S)
    refine run S (.mv rfl <| .ex rfl rfl <| .ex rfl rfl <| .as rfl <| .as rfl <| .z) fun a w S => st_nil (then_normal (hK1 _ _ (wp_seq_k fun _ hK1 => sg S (.mv rfl <| .yy (ys_F (by omega) (ys_neq (.t rfl) Ev.c)) rfl <| .z) fun a w S => st_else S (.t rfl) (wp_skip (then_normal (hK1 _ _ (wp_seq_k fun _ hK1 => wp_region_lit (run S (.mv rfl <| .xx (ys_call call44 (.cons (.t rfl) .nil) (fun hp w W => c44 _ _ _ (by exact Sl.of_own W (k := 0) rfl (fun _ => rfl)) (by omega))) rfl <| .z) fun a w S => ?_))))))))
    rw [rw_l] at S
    refine run S (.as rfl <| .ac rfl <| .z) fun a w S => st_nil (then_normal (hK1 _ _ (wp_ret (st_ret S (results2 S results17 (Rv.tmp rfl) (Rv.tmp rfl)) ?_))))
    rw [ht]
    exact ⟨rfl, S.wd.below⟩
  · have rw_d : decide (canE X ≠ 0) = true := decide_eq_true h0
    have ht : tokM X = ([], canE X) := if_neg h0
    refine enter1 func17 rfl ntmps17 rfl fun a S => wp_seq_k fun _ hK1 => wp_region_lit (st_m (op_box S (.t rfl) rfl fun g1 a w S => run S (.ac rfl <| .ac rfl <| .z) fun a w S => st_nil (then_normal (hK1 _ _ (wp_seq_k fun _ hK1 => wp_region_lit (run S (.la gt40 0 rfl rfl rfl <| .z) fun a w S => ?_))))))
    (refine st_m (op_calls S call42 (.cons (.t rfl) .nil) (c42 _ _ _ _ _ (by exact .old S.wd (by assumption)) (by exact .old S.wd (by assumption))) rfl ?_); clear S a w; rintro _ _ ⟨A1, r1, rfl, rfl⟩ a w S)
    refine run S (.mv rfl <| .ex rfl rfl <| .ex rfl rfl <| .as rfl <| .as rfl <| .z) fun a w S => st_nil (then_normal (hK1 _ _ (wp_seq_k fun _ hK1 => sg S (.mv rfl <| .yy (ys_T (by omega) (ys_neq (.t rfl) Ev.c)) rfl <| .z) fun a w S => st_then S (.t rfl) (sg S (.mv rfl <| .ac rfl <| .as rfl <| .z) fun a w S => wp_ret (then_ret (st_ret S (results2 S results17 (Rv.tmp rfl) (Rv.tmp rfl)) ?_))))))
    rw [ht]
    exact ⟨rfl, S.wd.below⟩
end Go.Proofs.Ytfblmkocmnbdcaa
set_option linter.unusedVariables false
set_option linter.unusedSimpArgs false
set_option maxRecDepth 100000
set_option maxHeartbeats 4000000
namespace Go.Fw
open Go.RowKit
theorem readT_nil : readT [] = (Cart.zero, 0) := rfl
theorem readT_none {s : List UInt8} (h0 : s ≠ []) (h : bytes64 s = none) : readT s = (Cart.zero, 150) := by
  unfold readT
  rw [if_neg h0, h]
theorem readT_some {s b : List UInt8} (h0 : s ≠ []) (h : bytes64 s = some b) : readT s = if (unframeL b).2.2 = 0 ∧ (unframeL b).2.1 = [] then (if (decK (unframeL b).1).2 = 0 then ((decK (unframeL b).1).1, 0) else (Cart.zero, 150)) else (Cart.zero, 150) := by
  unfold readT
  rw [if_neg h0, h]
theorem unframe_len (b : List UInt8) : (unframeL b).1.length ≤ b.length ∧ (unframeL b).2.1.length ≤ b.length := by
  by_cases h : (unframeL b).2.2 = 0
  · have h1 := (unframe_ok h).2
    have h2 := congrArg List.length h1
    rw [List.length_append, frame_len] at h2
    omega
  · have := unframe_bad h
    rw [this.1, this.2]
    simp
end Go.Fw
namespace Go.Proofs.Ytfblmkocmnbdcaa
open Go.Fw Go.Proofs Go.RowKit Go.Proofs.Try
theorem zeroRows {w0 w : World} {L : List Chunk} (W : Wd w0 L w) : Wd w0 [rowOf 74 6 Ent.enc none 0 [], rowOf 110 3 Dot.enc none 0 [], rowOf 62 3 Dot.enc none 0 []] w :=
  (((W.sub (List.nil_sublist _)).bare (c := rowOf 62 3 Dot.enc none 0 []) ⟨rfl, .inl ⟨rfl, rfl⟩⟩ (fun b h => h.1 rfl)).bare (c := rowOf 110 3 Dot.enc none 0 []) ⟨rfl, .inl ⟨rfl, rfl⟩⟩ (fun b h => h.1 rfl)).bare (c := rowOf 74 6 Ent.enc none 0 []) ⟨rfl, .inl ⟨rfl, rfl⟩⟩ (fun b h => h.1 rfl)
theorem c18 (w0 : World) (s : List UInt8) (hs : s.length ≤ 4194304) :
    Rets Try.prog 18 #[.string (bs s)] w0 fun v L => ∃ A1 r1 A2 r2 A3 r3, v = .tuple #[.agg #[.slice A1 (readT s).1.ents.length r1, .slice A2 (readT s).1.ctx.marks.length r2, .slice A3 (readT s).1.ctx.cloud.length r3], .int .i64 (readT s).2] ∧
      L = [rowOf 74 6 Ent.enc A1 r1 (readT s).1.ents, rowOf 110 3 Dot.enc A2 r2 (readT s).1.ctx.marks, rowOf 62 3 Dot.enc A3 r3 (readT s).1.ctx.cloud] := by
  by_cases h0 : s = []
  · subst h0
    unfold Go.Fw.Rets
    refine enter1 func18 rfl ntmps18 rfl fun a S => wp_seq_k fun _ hK1 => wp_region_lit (st_m (op_alloc S zeroValue40 (cs := _) rfl rfl fun g1 a w S => run S (.ac rfl <| .z) fun a w S => st_nil (then_normal (hK1 _ _ (wp_seq_k fun _ hK1 => sg S (.mv rfl <| .yy (ys_eqlStr (.t rfl) Ev.c) rfl <| .z) fun a w S => st_then S (.t rfl) (wp_seq_k fun _ hK2 => wp_region_lit (run S (.yy (ys_bld (ps := []) (us := [_, _, _]) bld40 .nil rfl) rfl <| .z) fun a w S => st_m (op_stW S sizeOf40 (.t rfl) (.t rfl) (k := 0) rfl rfl rfl (by simp [Value.oneCell']) fun a w S => run S (.ac rfl <| .z) fun a w S => st_nil (then_normal (hK2 _ _ (wp_ret (then_ret (st_ret S (results2 S results18 (Rv.cell (k := 0) ⟨isAgg40, sizeOf40⟩ rfl rfl rfl) (Rv.tmp rfl)) ?_)))))))))))))
    rw [readT_nil]
    exact ⟨_, _, rfl, zeroRows S.wd, _, _, _, _, _, _, rfl, rfl⟩
  have rw_0 : decide (bs s = ⟨#[]⟩) = false := decide_eq_false fun e => h0 (bs_inj.1 e)
  rcases hb : bytes64 s with _ | b
  · have hz := readT_none h0 hb
    have rw_b := hb
    have rw_b1 : (none : Option (List UInt8)).isSome = false := rfl
    have rw_b2 : (none : Option (List UInt8)).getD [] = [] := rfl
    unfold Go.Fw.Rets
    refine enter1 func18 rfl ntmps18 rfl fun a S => wp_seq_k fun _ hK1 => wp_region_lit (st_m (op_alloc S zeroValue40 (cs := _) rfl rfl fun g1 a w S => run S (.ac rfl <| .z) fun a w S => st_nil (then_normal (hK1 _ _ (wp_seq_k fun _ hK1 => sg S (.mv rfl <| .yy (ys_eqlStr (.t rfl) Ev.c) rfl <| .z) fun a w S => st_if S (.t rfl) (fun h1 => absurd h1 (by first | assumption | omega)) (fun _ => wp_skip (then_normal (hK1 _ _ (wp_seq_k fun _ hK1 => wp_region_lit (run S (.mv rfl <| .z) fun a w S => ?_))))))))))
    (refine st_m (op_calls S call45 (.cons (.t rfl) .nil) (c45 _ _ (by assumption)) rfl ?_); clear S a w; rintro _ _ ⟨A1, c1, rfl, rfl⟩ a w S)
    rw [rw_b] at S
    rw [rw_b1] at S
    rw [rw_b2] at S
    refine run S (.mv rfl <| .ex rfl rfl <| .ex rfl rfl <| .as rfl <| .as rfl <| .z) fun a w S => st_nil (then_normal (hK1 _ _ (wp_seq_k fun _ hK1 => sg S (.mv rfl <| .nt rfl <| .z) fun a w S => st_then S (.t rfl) (wp_seq_k fun _ hK2 => wp_region_lit (run S (.yy (ys_bld (ps := []) (us := [_, _, _]) bld40 .nil rfl) rfl <| .z) fun a w S => st_m (op_stW S sizeOf40 (.t rfl) (.t rfl) (k := 1) rfl rfl rfl (by simp [Value.oneCell']) fun a w S => run S (.ac rfl <| .z) fun a w S => st_nil (then_normal (hK2 _ _ (wp_ret (then_ret (st_ret S (results2 S results18 (Rv.cell (k := 1) ⟨isAgg40, sizeOf40⟩ rfl rfl rfl) (Rv.tmp rfl)) ?_)))))))))))
    rw [hz]
    exact ⟨_, _, rfl, zeroRows S.wd, _, _, _, _, _, _, rfl, rfl⟩
  have hbl := bytes64_len s b hb
  have hul := unframe_len b
  have hz := readT_some h0 hb
  have rw_b := hb
  have rw_b1 : (some b).isSome = true := rfl
  have rw_b2 : (some b).getD [] = b := rfl
  have hx : (decide ((unframeL b).2.2 ≠ 0) || decide ((0 : Int) < ((unframeL b).2.1.length : Int))) = true ↔ ¬ ((unframeL b).2.2 = 0 ∧ (unframeL b).2.1 = []) := by
    rw [Bool.or_eq_true, decide_eq_true_iff, decide_eq_true_iff, ← List.length_eq_zero_iff]
    omega
  unfold Go.Fw.Rets
  refine enter1 func18 rfl ntmps18 rfl fun a S => wp_seq_k fun _ hK1 => wp_region_lit (st_m (op_alloc S zeroValue40 (cs := _) rfl rfl fun g1 a w S => run S (.ac rfl <| .z) fun a w S => st_nil (then_normal (hK1 _ _ (wp_seq_k fun _ hK1 => sg S (.mv rfl <| .yy (ys_eqlStr (.t rfl) Ev.c) rfl <| .z) fun a w S => st_if S (.t rfl) (fun h1 => absurd h1 (by first | assumption | omega)) (fun _ => wp_skip (then_normal (hK1 _ _ (wp_seq_k fun _ hK1 => wp_region_lit (run S (.mv rfl <| .z) fun a w S => ?_))))))))))
  (refine st_m (op_calls S call45 (.cons (.t rfl) .nil) (c45 _ _ (by assumption)) rfl ?_); clear S a w; rintro _ _ ⟨A1, c1, rfl, rfl⟩ a w S)
  rw [rw_b] at S
  rw [rw_b1] at S
  rw [rw_b2] at S
  refine run S (.mv rfl <| .ex rfl rfl <| .ex rfl rfl <| .as rfl <| .as rfl <| .z) fun a w S => st_nil (then_normal (hK1 _ _ (wp_seq_k fun _ hK1 => sg S (.mv rfl <| .nt rfl <| .z) fun a w S => st_else S (.t rfl) (wp_skip (then_normal (hK1 _ _ (wp_seq_k fun _ hK1 => wp_region_lit (run S (.mv rfl <| .z) fun a w S => ?_))))))))
  (refine st_m (op_calls S call46 (.cons (.t rfl) .nil) (c46 _ _ _ (by exact Sl.of_own S.wd (k := 0) rfl (fun _ => rfl)) (by omega)) rfl ?_); clear S a w; rintro _ _ ⟨A2, r1, A'1, r'1, rfl, rfl⟩ a w S)
  refine run S (.mv rfl <| .ex rfl rfl <| .ex rfl rfl <| .ex rfl rfl <| .as rfl <| .as rfl <| .as rfl <| .z) fun a w S => st_nil (then_normal (hK1 _ _ (wp_seq_k fun _ hK1 => wp_seq_k fun _ hK2 => wp_region_lit (run S (.mv rfl <| .yy (ys_neq (.t rfl) Ev.c) rfl <| .mv rfl <| .z) fun a w S => st_yf S rfl rfl (Yr.ys (ys_move (.t rfl))) rfl fun a w S => st_yf S rfl rfl (Yr.ys (ys_lenS underlying57 (Ev.g rfl))) rfl fun a w S => st_yf S rfl rfl (Yr.ys (ys_gtr (Ev.g rfl) Ev.c)) rfl fun a w S => run S (.yy (ys_or (.t rfl) Ev.c (Ev.g rfl)) rfl <| .z) fun a w S => st_nil (then_normal (hK2 _ _ ?_))))))
  refine st_cond S (.t rfl) (fun h1 => ?_) (fun h1 => ?_)
  refine wp_seq_k fun _ hK2 => wp_region_lit (run S (.yy (ys_bld (ps := []) (us := [_, _, _]) bld40 .nil rfl) rfl <| .z) fun a w S => st_m (op_stW S sizeOf40 (.t rfl) (.t rfl) (k := 3) rfl rfl rfl (by simp [Value.oneCell']) fun a w S => run S (.ac rfl <| .z) fun a w S => st_nil (then_normal (hK2 _ _ (wp_ret (then_ret (st_ret S (results2 S results18 (Rv.cell (k := 3) ⟨isAgg40, sizeOf40⟩ rfl rfl rfl) (Rv.tmp rfl)) ?_)))))))
  rotate_left
  refine wp_skip (then_normal (hK1 _ _ (wp_seq_k fun _ hK1 => wp_region_lit (run S (.mv rfl <| .z) fun a w S => ?_))))
  (refine st_m (op_calls S call47 (.cons (.t rfl) .nil) (c47 _ _ _ (by exact Sl.of_own S.wd (k := 0) rfl (fun _ => rfl)) (by omega)) rfl ?_); clear S a w; rintro _ _ ⟨A11, r11, A21, r21, A31, r31, rfl, rfl⟩ a w S)
  refine run S (.mv rfl <| .ex rfl rfl <| .ex rfl rfl <| .z) fun a w S => st_m (op_alloc S zeroValue40 (cs := _) rfl rfl fun g2 a w S => st_m (op_stW S sizeOf40 (.t rfl) (.t rfl) (k := 0) rfl rfl rfl (by simp [Value.oneCell']) fun a w S => run S (.as rfl <| .z) fun a w S => st_nil (then_normal (hK1 _ _ (wp_seq_k fun _ hK1 => sg S (.mv rfl <| .yy (ys_neq (.t rfl) Ev.c) rfl <| .z) fun a w S => ?_)))))
  refine st_if S (.t rfl) (fun h2 => ?_) (fun h2 => ?_)
  refine wp_seq_k fun _ hK2 => wp_region_lit (run S (.yy (ys_bld (ps := []) (us := [_, _, _]) bld40 .nil rfl) rfl <| .z) fun a w S => st_m (op_stW S sizeOf40 (.t rfl) (.t rfl) (k := 7) rfl rfl rfl (by simp [Value.oneCell']) fun a w S => run S (.ac rfl <| .z) fun a w S => st_nil (then_normal (hK2 _ _ (wp_ret (then_ret (st_ret S (results2 S results18 (Rv.cell (k := 7) ⟨isAgg40, sizeOf40⟩ rfl rfl rfl) (Rv.tmp rfl)) ?_)))))))
  rotate_left
  refine wp_skip (then_normal (hK1 _ _ (wp_seq_k fun _ hK1 => wp_region_lit (run S (.la gt40 0 rfl rfl rfl <| .z) fun a w S => st_m (op_stW S sizeOf40 (.t rfl) (.t rfl) (k := 7) rfl rfl rfl (by simp [Value.oneCell']) fun a w S => run S (.ac rfl <| .z) fun a w S => st_nil (then_normal (hK1 _ _ (wp_ret (st_ret S (results2 S results18 (Rv.cell (k := 7) ⟨isAgg40, sizeOf40⟩ rfl rfl rfl) (Rv.tmp rfl)) ?_)))))))))
  rotate_left
  · rw [hz, if_neg (hx.1 h1)]
    exact ⟨_, _, rfl, zeroRows S.wd, _, _, _, _, _, _, rfl, rfl⟩
  · have h1' := Decidable.not_not.1 (mt hx.2 (by rw [h1]; decide))
    rw [hz, if_pos h1', if_neg h2]
    exact ⟨_, _, rfl, zeroRows S.wd, _, _, _, _, _, _, rfl, rfl⟩
  · have h1' := Decidable.not_not.1 (mt hx.2 (by rw [h1]; decide))
    rw [hz, if_pos h1', if_pos (Decidable.not_not.1 h2)]
    exact ⟨_, _, rfl, S.wd.pk, _, _, _, _, _, _, rfl, rfl⟩
end Go.Proofs.Ytfblmkocmnbdcaa
set_option linter.unusedVariables false
set_option linter.unusedSimpArgs false
namespace Go.Fw
open Go.RowKit
theorem tokM_ok {X : Cart} (h : CartOk X) : tokM X = (letters (frameL (encK X)), 0) := if_pos ((canE_ok X).2 h)
theorem letters_nil {b : List UInt8} (h : letters b = []) : b = [] := by
  have h1 := bytes_letters b
  rw [h] at h1
  simp [bytes64] at h1
  exact h1
theorem frame_pos (p : List UInt8) : frameL p ≠ [] := fun h => by
  have := frame_len p
  rw [h] at this
  simp at this
theorem tok_pos (p : List UInt8) : letters (frameL p) ≠ [] := fun h => frame_pos p (letters_nil h)
theorem read_make {X : Cart} (h : CartOk X) : readT (letters (frameL (encK X))) = (X, 0) := by
  have hu := unframe_frame (encK X) (by have := encK_len h; omega)
  rw [readT_some (tok_pos _) (bytes_letters _), hu]
  dsimp only
  rw [if_pos ⟨rfl, rfl⟩, dec_enc h, if_pos rfl]
theorem read_ok {s : List UInt8} (h0 : s ≠ []) (h : (readT s).2 = 0) : ∃ b, bytes64 s = some b ∧ (unframeL b).2.2 = 0 ∧ (unframeL b).2.1 = [] ∧ (decK (unframeL b).1).2 = 0 ∧ (readT s).1 = (decK (unframeL b).1).1 := by
  rcases hb : bytes64 s with _ | b
  · rw [readT_none h0 hb] at h
    simp at h
  have hz := readT_some h0 hb
  rw [hz] at h
  refine ⟨b, rfl, ?_⟩
  split at h
  · rename_i h1
    rw [if_pos h1] at hz
    split at h
    · rename_i h2
      rw [if_pos h2] at hz
      exact ⟨h1.1, h1.2, h2, by rw [hz]⟩
    · simp at h
  · simp at h
theorem turned {X : Cart} (h : CartOk X) {k : Nat} {x : UInt8} (hk : k < (letters (frameL (encK X))).length) : (readT ((letters (frameL (encK X))).set k x)).2 = 0 ↔ (letters (frameL (encK X)))[k]? = some x := by
  have hb := bytes_letters (frameL (encK X))
  generalize ht : letters (frameL (encK X)) = t at *
  constructor
  · intro hr
    have h0 : t.set k x ≠ [] := fun e => by
      have := congrArg List.length e
      rw [List.length_set] at this
      simp at this
      rw [this] at hk
      simp at hk
    obtain ⟨b, hb', h1, h2, h3, h4⟩ := read_ok h0 hr
    obtain ⟨u1, u2⟩ := unframe_ok h1
    rw [h2, List.append_nil] at u2
    have hn := bytes_turned t _ _ k x hb hb'
    rw [u2] at hn
    have he := frame_near hn
    rw [← he] at u2
    have e1 := letters_bytes _ _ hb'
    rw [u2, ht] at e1
    have : (t.set k x)[k]? = some x := by rw [List.getElem?_set_self hk]
    rw [← e1] at this
    exact this
  · intro hx
    have : t.set k x = t := by
      obtain ⟨h1, rfl⟩ := List.getElem?_eq_some_iff.1 hx
      exact List.set_getElem_self h1
    rw [this, ← ht, read_make h]
theorem frame_pre {p q post : List UInt8} (hp : p.length ≤ 65536) (hq : q.length ≤ 65536) (h : frameL p = frameL q ++ post) : p = q := by
  have h1 := frame_num p [] hp
  rw [List.append_nil, h, frame_num q post hq] at h1
  have hl : q.length = p.length := by
    have h9 : (q.length : Int) = (p.length : Int) := congrArg Prod.fst h1
    omega
  have h2 := congrArg List.length h
  rw [List.length_append, frame_len, frame_len, hl] at h2
  have h3 : post = [] := List.length_eq_zero_iff.1 (by omega)
  rw [h3, List.append_nil] at h
  unfold frameL at h
  rw [hl, List.append_assoc, List.append_assoc] at h
  have h4 := List.append_cancel_left h
  have h5 := congrArg (List.take p.length) h4
  rwa [List.take_left, List.take_append_of_le_length (by omega), List.take_of_length_le (by omega)] at h5
theorem begun {X : Cart} (h : CartOk X) {k : Nat} (hk : k < (letters (frameL (encK X))).length) : (readT ((letters (frameL (encK X))).take k)).2 = 0 ↔ k = 0 := by
  have hb := bytes_letters (frameL (encK X))
  generalize ht : letters (frameL (encK X)) = t at *
  constructor
  · intro hr
    refine Decidable.byContradiction fun hk0 => ?_
    have hlen : (t.take k).length = k := by rw [List.length_take]; omega
    have h0 : t.take k ≠ [] := fun e => by rw [e] at hlen; simp at hlen; omega
    obtain ⟨b, hb', h1, h2, h3, h4⟩ := read_ok h0 hr
    obtain ⟨u1, u2⟩ := unframe_ok h1
    rw [h2, List.append_nil] at u2
    obtain ⟨j, hj⟩ := bytes_cut t _ _ k hb hb'
    have hx := encK_len h
    have he := frame_pre (p := encK X) (q := (unframeL b).1) (post := (frameL (encK X)).drop j) (by omega) u1 (by rw [← u2, hj, List.take_append_drop])
    rw [← he] at u2
    have e1 := letters_bytes _ _ hb'
    rw [u2, ht] at e1
    rw [← e1] at hlen
    omega
  · intro e
    subst e
    rfl
end Go.Fw
