/- Contracts and laws that the statement Tka leans on, part 5. -/
import Derived.Test.YtfblmkocmnbdcaaGreatTkaK4
set_option linter.unusedVariables false
set_option linter.unusedSimpArgs false
set_option maxRecDepth 100000
namespace Go.Proofs.YtfblmkocmnbdcaaGreat
open Go.Fw Go.Proofs Go.RowKit Go.Proofs.Tryz
theorem bytes64_len : ∀ (l : List UInt8) (o : List UInt8), bytes64 l = some o → o.length ≤ l.length := fun l o h => by
  rw [← bytesR_eq] at h
  unfold bytesRef at h
  split at h
  · cases h
  · exact bytesR_len _ _ _ _ h
theorem tok_step2 (a1 b1 : UInt8) (ha1 : ¬ num64 a1 = 0) (hb1 : ¬ num64 b1 = 0) (hz : ((0 * 64 + ((num64 a1 : Int) - 1)) * 64 + ((num64 b1 : Int) - 1)) * 64 * 64 % 65536 = 0) : bytes64 [a1, b1] = some [b8 (((0 * 64 + ((num64 a1 : Int) - 1)) * 64 + ((num64 b1 : Int) - 1)) * 64 * 64 / 65536)] := by
  have := num64_le a1
  have := num64_le b1
  simp only [bytes64]
  rw [if_neg (by omega), if_pos (by omega)]
  congr 2
  congr 1
  omega
theorem tok_no2 (a1 b1 : UInt8) (ha1 : ¬ num64 a1 = 0) (hb1 : ¬ num64 b1 = 0) (hz : ¬ ((0 * 64 + ((num64 a1 : Int) - 1)) * 64 + ((num64 b1 : Int) - 1)) * 64 * 64 % 65536 = 0) : bytes64 [a1, b1] = none := by
  have := num64_le a1
  have := num64_le b1
  simp only [bytes64]
  rw [if_neg (by omega), if_neg (by omega)]
theorem tok_step3 (a1 b1 c1 : UInt8) (ha1 : ¬ num64 a1 = 0) (hb1 : ¬ num64 b1 = 0) (hc1 : ¬ num64 c1 = 0) (hz : (((0 * 64 + ((num64 a1 : Int) - 1)) * 64 + ((num64 b1 : Int) - 1)) * 64 + ((num64 c1 : Int) - 1)) * 64 % 256 = 0) : bytes64 [a1, b1, c1] = some [b8 ((((0 * 64 + ((num64 a1 : Int) - 1)) * 64 + ((num64 b1 : Int) - 1)) * 64 + ((num64 c1 : Int) - 1)) * 64 / 65536), b8 ((((0 * 64 + ((num64 a1 : Int) - 1)) * 64 + ((num64 b1 : Int) - 1)) * 64 + ((num64 c1 : Int) - 1)) * 64 / 256)] := by
  have := num64_le a1
  have := num64_le b1
  have := num64_le c1
  simp only [bytes64]
  rw [if_neg (by omega), if_pos (by omega)]
  congr 2
  · congr 1
    omega
  · congr 2
    omega
theorem tok_no3 (a1 b1 c1 : UInt8) (ha1 : ¬ num64 a1 = 0) (hb1 : ¬ num64 b1 = 0) (hc1 : ¬ num64 c1 = 0) (hz : ¬ (((0 * 64 + ((num64 a1 : Int) - 1)) * 64 + ((num64 b1 : Int) - 1)) * 64 + ((num64 c1 : Int) - 1)) * 64 % 256 = 0) : bytes64 [a1, b1, c1] = none := by
  have := num64_le a1
  have := num64_le b1
  have := num64_le c1
  simp only [bytes64]
  rw [if_neg (by omega), if_neg (by omega)]
theorem tok_step4 (a1 b1 c1 d1 : UInt8) (r : List UInt8) (ha1 : ¬ num64 a1 = 0) (hb1 : ¬ num64 b1 = 0) (hc1 : ¬ num64 c1 = 0) (hd1 : ¬ num64 d1 = 0) : bytes64 (a1 :: b1 :: c1 :: d1 :: r) = (bytes64 r).map ([b8 (((((0 * 64 + ((num64 a1 : Int) - 1)) * 64 + ((num64 b1 : Int) - 1)) * 64 + ((num64 c1 : Int) - 1)) * 64 + ((num64 d1 : Int) - 1)) / 65536), b8 (((((0 * 64 + ((num64 a1 : Int) - 1)) * 64 + ((num64 b1 : Int) - 1)) * 64 + ((num64 c1 : Int) - 1)) * 64 + ((num64 d1 : Int) - 1)) / 256), b8 (((((0 * 64 + ((num64 a1 : Int) - 1)) * 64 + ((num64 b1 : Int) - 1)) * 64 + ((num64 c1 : Int) - 1)) * 64 + ((num64 d1 : Int) - 1)))] ++ ·) := by
  simp only [bytes64]
  rw [if_neg (by omega), Int.zero_mul, Int.zero_add]
  rfl
set_option maxHeartbeats 4000000 in
theorem k76 (w0 : World) (l : List UInt8) (hn : l.length ≤ 4194304) :
    Rets Tryz.prog 76 #[.string (bs l)] w0 (optB (bytes64 l)) := by
  unfold Go.Fw.Rets
  refine enter1 func76 rfl ntmps76 rfl fun a S => sg S (.ac rfl <| .ac rfl <| .z) fun a w S => ?_
  refine st_scope (rest := _) 0 (fun a w => bytes64 l = none ∧ St 69 w0 [] [] a w) rfl ?_ ?_
  rotate_left
  · intro a w ⟨hb, S⟩
    refine wp_seq_k fun _ hK1 => wp_skip (then_normal (hK1 _ _ (sg S (.ac rfl <| .ac rfl <| .z) fun a w S => wp_ret ?_)))
    refine jump_ret ?_
    refine st_ret S (results2 S results76 (Rv.tmp rfl) (Rv.tmp rfl)) ?_
    rw [hb]
    exact ⟨_, _, rfl, S.wd, rfl, rfl⟩
  refine wp_seq_k fun _ hK1 => wp_region_lit (run S (.xx (ys_call call136 .nil (fun hp w W => c136 _)) rfl <| .z) fun a w S => st_m (op_alloc S zeroValue163 (cs := _) (zc163 _ zeroValue163) rfl fun g1 a w S => st_m (op_stW S sizeOf163 (.t rfl) (.t rfl) (k := 0) rfl (Go.Proofs.YtfblmkocmnbdcaaGreat.tabV_len _) (by first | rfl | exact Go.Proofs.YtfblmkocmnbdcaaGreat.tabV_len _) (by first | exact Go.Proofs.YtfblmkocmnbdcaaGreat.tabV_one _ | simp [Value.oneCell']) fun a w S => st_nil (then_normal (hK1 _ _ (sg S (.ac rfl <| .z) fun a w S => wp_seq_k fun _ hK1 => wp_block ?_))))))
  refine st_lpK (S.nil_ 5 1 encB none) (X := List UInt8 × List UInt8 × Option Addr × Nat) (fun q => [(0, true, .string (bs q.1)), (5, true, .slice q.2.2.1 q.2.1.length q.2.2.2)]) (fun q _ => [rowOf 5 1 encB q.2.2.1 q.2.2.2 q.2.1, .blk g1 (.cells (tabV 64).toArray 163)])
    (fun q => bytes64 l = (bytes64 q.1).map (q.2.1 ++ ·) ∧ q.2.1.length + q.1.length ≤ 4194304) (fun q => q.1.length) (l, [], none, 0) ⟨by simp, by simpa using hn⟩ ?_
  clear S
  intro ⟨m, out, B, cB⟩ a w ⟨hno, hout⟩ S
  dsimp only at hno hout S
  have key : m = [] ∨ (∃ a1, m = [a1]) ∨ (∃ a1 b1, m = [a1, b1]) ∨ (∃ a1 b1 c1, m = [a1, b1, c1]) ∨ ∃ a1 b1 c1 d1 r, m = a1 :: b1 :: c1 :: d1 :: r := by
    rcases m with _ | ⟨a1, _ | ⟨b1, _ | ⟨c1, _ | ⟨d1, r⟩⟩⟩⟩ <;> simp
  rcases key with hm | ⟨a1, hm⟩ | ⟨a1, b1, hm⟩ | ⟨a1, b1, c1, hm⟩ | ⟨a1, b1, c1, d1, r, hm⟩
  · have hl0 : m.length = 0 := by rw [hm]; rfl
    refine wp_seq_k fun _ hK2 => sg S (.mv rfl <| .yy (ys_lenStr underlying9 (.t rfl)) rfl <| .yy (ys_F (by omega) (ys_gtr (.t rfl) Ev.c)) rfl <| .z) fun a w S => st_else S (.t rfl) (wp_exit (then_exit (then_exit (in_here (then_normal (hK1 _ _ (wp_seq_k fun _ hK1 => sg S (.mv rfl <| .as rfl <| .ac rfl <| .z) fun a w S => wp_ret (then_ret ?_))))))))
    refine jump_ret ?_
    refine st_ret S (results2 S results76 (Rv.tmp rfl) (Rv.tmp rfl)) ?_
    rw [hno, hm]
    simp only [bytes64, Option.map_some, List.append_nil]
    exact ⟨_, _, rfl, S.wd.sub (by repeat (first | exact List.Sublist.refl _ | exact List.nil_sublist _ | refine .cons_cons _ ?_ | refine .cons _ ?_)), B, cB, rfl, rfl⟩
  · have hl0 : m.length = 1 := by rw [hm]; rfl
    have rw_n : min (m.length : Int) 4 = 1 := by omega
    have hi0 : m[0]? = some a1 := by rw [hm]; rfl
    have hu0 := u8lt a1
    have hg0 : (tabV 64)[0 + a1.toNat * 1]? = some (.int .u8 (num64 a1 : Int)) := by simpa using tabV_get a1
    have hk0 := num64_le a1
    by_cases ha1 : num64 a1 = 0
    · have hb : bytes64 l = none := by rw [hno, hm]; simp [bytes64, ha1]
      refine wp_seq_k fun _ hK2 => sg S (.mv rfl <| .yy (ys_lenStr underlying9 (.t rfl)) rfl <| .yy (ys_T (by omega) (ys_gtr (.t rfl) Ev.c)) rfl <| .z) fun a w S => st_then S (.t rfl) (wp_skip (then_normal (hK2 _ _ (wp_block (wp_seq_k fun _ hK2 => wp_region_lit (run S (.mv rfl <| .yy (ys_lenStr underlying9 (.t rfl)) rfl <| .yy (ys_min (.t rfl) Ev.c) rfl <| .z) fun a w S => ?_))))))
      rw [rw_n] at S
      refine run S (.as rfl <| .z) fun a w S => st_nil (then_normal (hK2 _ _ (sg S (.ac rfl <| .z) fun a w S => wp_seq_k fun _ hK2 => sg S (.mc rfl <| .z) fun a w S => wp_block (st_rounds 5 (st_round (sg S (.yy (ys_T (by omega) (ys_lss (.t rfl) Ev.c)) rfl <| .z) fun a w S => wp_seq_k fun _ hK3 => st_then S (.t rfl) (wp_skip (then_normal (hK3 _ _ (wp_seq_k fun _ hK3 => wp_block (sg S (.mv rfl <| .as rfl <| .z) fun a w S => sg S (.mv rfl <| .yy (ys_shlC (m := 6) (c := 64) (.t rfl) Ev.c rfl rfl (fun _ => by unfold I64; omega)) rfl <| .as rfl <| .z) fun a w S => wp_seq_k fun _ hK4 => sg S (.mv rfl <| .mv rfl <| .yy (ys_F (by omega) (ys_geq (.t rfl) (.t rfl))) rfl <| .z) fun a w S => st_else S (.t rfl) (wp_skip (then_normal (hK4 _ _ (wp_seq_k fun _ hK4 => wp_region_lit ?_)))))))))))))))
      refine run S (.mv rfl <| .mv rfl <| .yy (ys_ixStr underlying9 (.t rfl) (.t rfl) (fun _ => by assumption)) rfl <| .yy (ys_ixA underlying163 sizeOf5 (.t rfl) (.t rfl) (fun _ => by omega)) rfl <| .yy (ys_ldN ⟨isAgg5, sizeOf5⟩ (.t rfl) (k := 1) rfl (fun _ => by assumption)) rfl <| .as rfl <| .z) fun a w S => st_nil (then_normal (hK4 _ _ (wp_seq_k fun _ hK4 => sg S (.mv rfl <| .yy (ys_T (by omega) (ys_eql (.t rfl) Ev.c)) rfl <| .z) fun a w S => st_then S (.t rfl) (wp_goto (then_goto (in_goto (then_goto (then_goto (in_goto (then_goto (in_goto (then_goto (in_goto (then_goto ?_))))))))))))))
      refine jump_goto ?_
      exact ⟨hb, S.weak Fits.nil (List.nil_sublist _)⟩
    have hb : bytes64 l = none := by rw [hno, hm]; rfl
    refine wp_seq_k fun _ hK2 => sg S (.mv rfl <| .yy (ys_lenStr underlying9 (.t rfl)) rfl <| .yy (ys_T (by omega) (ys_gtr (.t rfl) Ev.c)) rfl <| .z) fun a w S => st_then S (.t rfl) (wp_skip (then_normal (hK2 _ _ (wp_block (wp_seq_k fun _ hK2 => wp_region_lit (run S (.mv rfl <| .yy (ys_lenStr underlying9 (.t rfl)) rfl <| .yy (ys_min (.t rfl) Ev.c) rfl <| .z) fun a w S => ?_))))))
    rw [rw_n] at S
    refine run S (.as rfl <| .z) fun a w S => st_nil (then_normal (hK2 _ _ (sg S (.ac rfl <| .z) fun a w S => wp_seq_k fun _ hK2 => sg S (.mc rfl <| .z) fun a w S => wp_block (st_rounds 5 (st_round (sg S (.yy (ys_T (by omega) (ys_lss (.t rfl) Ev.c)) rfl <| .z) fun a w S => wp_seq_k fun _ hK3 => st_then S (.t rfl) (wp_skip (then_normal (hK3 _ _ (wp_seq_k fun _ hK3 => wp_block (sg S (.mv rfl <| .as rfl <| .z) fun a w S => sg S (.mv rfl <| .yy (ys_shlC (m := 6) (c := 64) (.t rfl) Ev.c rfl rfl (fun _ => by unfold I64; omega)) rfl <| .as rfl <| .z) fun a w S => wp_seq_k fun _ hK4 => sg S (.mv rfl <| .mv rfl <| .yy (ys_F (by omega) (ys_geq (.t rfl) (.t rfl))) rfl <| .z) fun a w S => st_else S (.t rfl) (wp_skip (then_normal (hK4 _ _ (wp_seq_k fun _ hK4 => wp_region_lit ?_)))))))))))))))
    refine run S (.mv rfl <| .mv rfl <| .yy (ys_ixStr underlying9 (.t rfl) (.t rfl) (fun _ => by assumption)) rfl <| .yy (ys_ixA underlying163 sizeOf5 (.t rfl) (.t rfl) (fun _ => by omega)) rfl <| .yy (ys_ldN ⟨isAgg5, sizeOf5⟩ (.t rfl) (k := 1) rfl (fun _ => by assumption)) rfl <| .as rfl <| .z) fun a w S => st_nil (then_normal (hK4 _ _ (wp_seq_k fun _ hK4 => sg S (.mv rfl <| .yy (ys_F (by omega) (ys_eql (.t rfl) Ev.c)) rfl <| .z) fun a w S => st_else S (.t rfl) (wp_skip (then_normal (hK4 _ _ (wp_region_lit (run S (.mv rfl <| .mv rfl <| .yy (ys_cvI underlying5 underlying3 (.t rfl) (fun _ => by unfold I64; omega)) rfl <| .yy (ys_subI (.t rfl) Ev.c (fun _ => by unfold I64; omega)) rfl <| .yy (ys_orA 8 (c := 256) (.t rfl) (.t rfl) rfl rfl (fun _ => by omega)) rfl <| .as rfl <| .z) fun a w S => st_nil (in_normal (then_normal (hK3 _ _ (wp_region_lit (run S (.ad (by unfold I64; omega) rfl <| .mv rfl <| .z) fun a w S => st_nil (then_normal (st_round (sg S (.yy (ys_T (by omega) (ys_lss (.t rfl) Ev.c)) rfl <| .z) fun a w S => wp_seq_k fun _ hK3 => st_then S (.t rfl) (wp_skip (then_normal (hK3 _ _ (wp_seq_k fun _ hK3 => wp_block (sg S (.mv rfl <| .as rfl <| .z) fun a w S => wp_seq_k fun _ hK4 => ?_)))))))))))))))))))))
    refine rg S (.mv rfl <| .yy (ys_shlC (m := 6) (c := 64) (.t rfl) Ev.c rfl rfl (fun _ => by unfold I64; omega)) rfl <| .as rfl <| .z) hK4 fun a w S => wp_seq_k fun _ hK4 => sg S (.mv rfl <| .mv rfl <| .yy (ys_T (by omega) (ys_geq (.t rfl) (.t rfl))) rfl <| .z) fun a w S => st_then S (.t rfl) (wp_exit (then_exit (in_here (then_normal (hK3 _ _ (wp_region_lit (run S (.ad (by unfold I64; omega) rfl <| .mv rfl <| .z) fun a w S => st_nil (then_normal (st_round (sg S (.yy (ys_T (by omega) (ys_lss (.t rfl) Ev.c)) rfl <| .z) fun a w S => wp_seq_k fun _ hK3 => st_then S (.t rfl) (wp_skip (then_normal (hK3 _ _ (wp_seq_k fun _ hK3 => wp_block (sg S (.mv rfl <| .as rfl <| .z) fun a w S => sg S (.mv rfl <| .yy (ys_shlC (m := 6) (c := 64) (.t rfl) Ev.c rfl rfl (fun _ => by unfold I64; omega)) rfl <| .as rfl <| .z) fun a w S => wp_seq_k fun _ hK5 => sg S (.mv rfl <| .mv rfl <| .yy (ys_T (by omega) (ys_geq (.t rfl) (.t rfl))) rfl <| .z) fun a w S => st_then S (.t rfl) (wp_exit (then_exit (in_here (then_normal (hK3 _ _ (wp_region_lit ?_)))))))))))))))))))))
    refine run S (.ad (by unfold I64; omega) rfl <| .mv rfl <| .z) fun a w S => st_nil (then_normal (st_round (sg S (.yy (ys_T (by omega) (ys_lss (.t rfl) Ev.c)) rfl <| .z) fun a w S => wp_seq_k fun _ hK3 => st_then S (.t rfl) (wp_skip (then_normal (hK3 _ _ (wp_seq_k fun _ hK3 => wp_block (sg S (.mv rfl <| .as rfl <| .z) fun a w S => sg S (.mv rfl <| .yy (ys_shlC (m := 6) (c := 64) (.t rfl) Ev.c rfl rfl (fun _ => by unfold I64; omega)) rfl <| .as rfl <| .z) fun a w S => wp_seq_k fun _ hK6 => sg S (.mv rfl <| .mv rfl <| .yy (ys_T (by omega) (ys_geq (.t rfl) (.t rfl))) rfl <| .z) fun a w S => st_then S (.t rfl) (wp_exit (then_exit (in_here (then_normal (hK3 _ _ (wp_region_lit (run S (.ad (by unfold I64; omega) rfl <| .mv rfl <| .z) fun a w S => st_nil (then_normal (st_round (sg S (.yy (ys_F (by omega) (ys_lss (.t rfl) Ev.c)) rfl <| .z) fun a w S => wp_seq_k fun _ hK3 => st_else S (.t rfl) (wp_exit (then_exit (then_exit (in_here (then_normal (hK2 _ _ (wp_seq_k fun _ hK2 => wp_seq_k fun _ hK7 => wp_region_lit ?_)))))))))))))))))))))))))
    refine run S (.mv rfl <| .yy (ys_T (by omega) (ys_eql (.t rfl) Ev.c)) rfl <| .mv rfl <| .sk rfl rfl rfl <| .sk rfl rfl rfl <| .sk rfl rfl rfl <| .sk rfl rfl rfl <| .sk rfl rfl rfl <| .sk rfl rfl rfl <| .sk rfl rfl rfl <| .sk rfl rfl rfl <| .yy (ys_pickT (.t rfl) Ev.c) rfl <| .z) fun a w S => st_nil (then_normal (hK7 _ _ (st_then S (.t rfl) (wp_goto (then_goto (in_goto (then_goto (in_goto (then_goto ?_)))))))))
    refine jump_goto ?_
    exact ⟨hb, S.weak Fits.nil (List.nil_sublist _)⟩
  · have hl0 : m.length = 2 := by rw [hm]; rfl
    have rw_n : min (m.length : Int) 4 = 2 := by omega
    have hi0 : m[0]? = some a1 := by rw [hm]; rfl
    have hu0 := u8lt a1
    have hg0 : (tabV 64)[0 + a1.toNat * 1]? = some (.int .u8 (num64 a1 : Int)) := by simpa using tabV_get a1
    have hk0 := num64_le a1
    have hi1 : m[1]? = some b1 := by rw [hm]; rfl
    have hu1 := u8lt b1
    have hg1 : (tabV 64)[0 + b1.toNat * 1]? = some (.int .u8 (num64 b1 : Int)) := by simpa using tabV_get b1
    have hk1 := num64_le b1
    by_cases ha1 : num64 a1 = 0
    · have hb : bytes64 l = none := by rw [hno, hm]; simp [bytes64, ha1]
      refine wp_seq_k fun _ hK2 => sg S (.mv rfl <| .yy (ys_lenStr underlying9 (.t rfl)) rfl <| .yy (ys_T (by omega) (ys_gtr (.t rfl) Ev.c)) rfl <| .z) fun a w S => st_then S (.t rfl) (wp_skip (then_normal (hK2 _ _ (wp_block (wp_seq_k fun _ hK2 => wp_region_lit (run S (.mv rfl <| .yy (ys_lenStr underlying9 (.t rfl)) rfl <| .yy (ys_min (.t rfl) Ev.c) rfl <| .z) fun a w S => ?_))))))
      rw [rw_n] at S
      refine run S (.as rfl <| .z) fun a w S => st_nil (then_normal (hK2 _ _ (sg S (.ac rfl <| .z) fun a w S => wp_seq_k fun _ hK2 => sg S (.mc rfl <| .z) fun a w S => wp_block (st_rounds 5 (st_round (sg S (.yy (ys_T (by omega) (ys_lss (.t rfl) Ev.c)) rfl <| .z) fun a w S => wp_seq_k fun _ hK3 => st_then S (.t rfl) (wp_skip (then_normal (hK3 _ _ (wp_seq_k fun _ hK3 => wp_block (sg S (.mv rfl <| .as rfl <| .z) fun a w S => sg S (.mv rfl <| .yy (ys_shlC (m := 6) (c := 64) (.t rfl) Ev.c rfl rfl (fun _ => by unfold I64; omega)) rfl <| .as rfl <| .z) fun a w S => wp_seq_k fun _ hK4 => sg S (.mv rfl <| .mv rfl <| .yy (ys_F (by omega) (ys_geq (.t rfl) (.t rfl))) rfl <| .z) fun a w S => st_else S (.t rfl) (wp_skip (then_normal (hK4 _ _ (wp_seq_k fun _ hK4 => wp_region_lit ?_)))))))))))))))
      refine run S (.mv rfl <| .mv rfl <| .yy (ys_ixStr underlying9 (.t rfl) (.t rfl) (fun _ => by assumption)) rfl <| .yy (ys_ixA underlying163 sizeOf5 (.t rfl) (.t rfl) (fun _ => by omega)) rfl <| .yy (ys_ldN ⟨isAgg5, sizeOf5⟩ (.t rfl) (k := 1) rfl (fun _ => by assumption)) rfl <| .as rfl <| .z) fun a w S => st_nil (then_normal (hK4 _ _ (wp_seq_k fun _ hK4 => sg S (.mv rfl <| .yy (ys_T (by omega) (ys_eql (.t rfl) Ev.c)) rfl <| .z) fun a w S => st_then S (.t rfl) (wp_goto (then_goto (in_goto (then_goto (then_goto (in_goto (then_goto (in_goto (then_goto (in_goto (then_goto ?_))))))))))))))
      refine jump_goto ?_
      exact ⟨hb, S.weak Fits.nil (List.nil_sublist _)⟩
    by_cases hb1 : num64 b1 = 0
    · have hb : bytes64 l = none := by rw [hno, hm]; simp [bytes64, hb1]
      refine wp_seq_k fun _ hK2 => sg S (.mv rfl <| .yy (ys_lenStr underlying9 (.t rfl)) rfl <| .yy (ys_T (by omega) (ys_gtr (.t rfl) Ev.c)) rfl <| .z) fun a w S => st_then S (.t rfl) (wp_skip (then_normal (hK2 _ _ (wp_block (wp_seq_k fun _ hK2 => wp_region_lit (run S (.mv rfl <| .yy (ys_lenStr underlying9 (.t rfl)) rfl <| .yy (ys_min (.t rfl) Ev.c) rfl <| .z) fun a w S => ?_))))))
      rw [rw_n] at S
      refine run S (.as rfl <| .z) fun a w S => st_nil (then_normal (hK2 _ _ (sg S (.ac rfl <| .z) fun a w S => wp_seq_k fun _ hK2 => sg S (.mc rfl <| .z) fun a w S => wp_block (st_rounds 5 (st_round (sg S (.yy (ys_T (by omega) (ys_lss (.t rfl) Ev.c)) rfl <| .z) fun a w S => wp_seq_k fun _ hK3 => st_then S (.t rfl) (wp_skip (then_normal (hK3 _ _ (wp_seq_k fun _ hK3 => wp_block (sg S (.mv rfl <| .as rfl <| .z) fun a w S => sg S (.mv rfl <| .yy (ys_shlC (m := 6) (c := 64) (.t rfl) Ev.c rfl rfl (fun _ => by unfold I64; omega)) rfl <| .as rfl <| .z) fun a w S => wp_seq_k fun _ hK4 => sg S (.mv rfl <| .mv rfl <| .yy (ys_F (by omega) (ys_geq (.t rfl) (.t rfl))) rfl <| .z) fun a w S => st_else S (.t rfl) (wp_skip (then_normal (hK4 _ _ (wp_seq_k fun _ hK4 => wp_region_lit ?_)))))))))))))))
      refine run S (.mv rfl <| .mv rfl <| .yy (ys_ixStr underlying9 (.t rfl) (.t rfl) (fun _ => by assumption)) rfl <| .yy (ys_ixA underlying163 sizeOf5 (.t rfl) (.t rfl) (fun _ => by omega)) rfl <| .yy (ys_ldN ⟨isAgg5, sizeOf5⟩ (.t rfl) (k := 1) rfl (fun _ => by assumption)) rfl <| .as rfl <| .z) fun a w S => st_nil (then_normal (hK4 _ _ (wp_seq_k fun _ hK4 => sg S (.mv rfl <| .yy (ys_F (by omega) (ys_eql (.t rfl) Ev.c)) rfl <| .z) fun a w S => st_else S (.t rfl) (wp_skip (then_normal (hK4 _ _ (wp_region_lit (run S (.mv rfl <| .mv rfl <| .yy (ys_cvI underlying5 underlying3 (.t rfl) (fun _ => by unfold I64; omega)) rfl <| .yy (ys_subI (.t rfl) Ev.c (fun _ => by unfold I64; omega)) rfl <| .yy (ys_orA 8 (c := 256) (.t rfl) (.t rfl) rfl rfl (fun _ => by omega)) rfl <| .as rfl <| .z) fun a w S => st_nil (in_normal (then_normal (hK3 _ _ (wp_region_lit (run S (.ad (by unfold I64; omega) rfl <| .mv rfl <| .z) fun a w S => st_nil (then_normal (st_round (sg S (.yy (ys_T (by omega) (ys_lss (.t rfl) Ev.c)) rfl <| .z) fun a w S => wp_seq_k fun _ hK3 => st_then S (.t rfl) (wp_skip (then_normal (hK3 _ _ (wp_seq_k fun _ hK3 => wp_block (sg S (.mv rfl <| .as rfl <| .z) fun a w S => wp_seq_k fun _ hK4 => ?_)))))))))))))))))))))
      refine rg S (.mv rfl <| .yy (ys_shlC (m := 6) (c := 64) (.t rfl) Ev.c rfl rfl (fun _ => by unfold I64; omega)) rfl <| .as rfl <| .z) hK4 fun a w S => wp_seq_k fun _ hK4 => sg S (.mv rfl <| .mv rfl <| .yy (ys_F (by omega) (ys_geq (.t rfl) (.t rfl))) rfl <| .z) fun a w S => st_else S (.t rfl) (wp_skip (then_normal (hK4 _ _ (sg S (.mv rfl <| .mv rfl <| .yy (ys_ixStr underlying9 (.t rfl) (.t rfl) (fun _ => by assumption)) rfl <| .yy (ys_ixA underlying163 sizeOf5 (.t rfl) (.t rfl) (fun _ => by omega)) rfl <| .yy (ys_ldN ⟨isAgg5, sizeOf5⟩ (.t rfl) (k := 1) rfl (fun _ => by assumption)) rfl <| .as rfl <| .z) fun a w S => wp_seq_k fun _ hK4 => sg S (.mv rfl <| .yy (ys_T (by omega) (ys_eql (.t rfl) Ev.c)) rfl <| .z) fun a w S => st_then S (.t rfl) (wp_goto (then_goto (in_goto (then_goto (then_goto (in_goto (then_goto (in_goto (then_goto (in_goto (then_goto ?_)))))))))))))))
      refine jump_goto ?_
      exact ⟨hb, S.weak Fits.nil (List.nil_sublist _)⟩
    refine wp_seq_k fun _ hK2 => sg S (.mv rfl <| .yy (ys_lenStr underlying9 (.t rfl)) rfl <| .yy (ys_T (by omega) (ys_gtr (.t rfl) Ev.c)) rfl <| .z) fun a w S => st_then S (.t rfl) (wp_skip (then_normal (hK2 _ _ (wp_block (wp_seq_k fun _ hK2 => wp_region_lit (run S (.mv rfl <| .yy (ys_lenStr underlying9 (.t rfl)) rfl <| .yy (ys_min (.t rfl) Ev.c) rfl <| .z) fun a w S => ?_))))))
    rw [rw_n] at S
    refine run S (.as rfl <| .z) fun a w S => st_nil (then_normal (hK2 _ _ (sg S (.ac rfl <| .z) fun a w S => wp_seq_k fun _ hK2 => sg S (.mc rfl <| .z) fun a w S => wp_block (st_rounds 5 (st_round (sg S (.yy (ys_T (by omega) (ys_lss (.t rfl) Ev.c)) rfl <| .z) fun a w S => wp_seq_k fun _ hK3 => st_then S (.t rfl) (wp_skip (then_normal (hK3 _ _ (wp_seq_k fun _ hK3 => wp_block (sg S (.mv rfl <| .as rfl <| .z) fun a w S => sg S (.mv rfl <| .yy (ys_shlC (m := 6) (c := 64) (.t rfl) Ev.c rfl rfl (fun _ => by unfold I64; omega)) rfl <| .as rfl <| .z) fun a w S => wp_seq_k fun _ hK4 => sg S (.mv rfl <| .mv rfl <| .yy (ys_F (by omega) (ys_geq (.t rfl) (.t rfl))) rfl <| .z) fun a w S => st_else S (.t rfl) (wp_skip (then_normal (hK4 _ _ (wp_seq_k fun _ hK4 => wp_region_lit ?_)))))))))))))))
    refine run S (.mv rfl <| .mv rfl <| .yy (ys_ixStr underlying9 (.t rfl) (.t rfl) (fun _ => by assumption)) rfl <| .yy (ys_ixA underlying163 sizeOf5 (.t rfl) (.t rfl) (fun _ => by omega)) rfl <| .yy (ys_ldN ⟨isAgg5, sizeOf5⟩ (.t rfl) (k := 1) rfl (fun _ => by assumption)) rfl <| .as rfl <| .z) fun a w S => st_nil (then_normal (hK4 _ _ (wp_seq_k fun _ hK4 => sg S (.mv rfl <| .yy (ys_F (by omega) (ys_eql (.t rfl) Ev.c)) rfl <| .z) fun a w S => st_else S (.t rfl) (wp_skip (then_normal (hK4 _ _ (wp_region_lit (run S (.mv rfl <| .mv rfl <| .yy (ys_cvI underlying5 underlying3 (.t rfl) (fun _ => by unfold I64; omega)) rfl <| .yy (ys_subI (.t rfl) Ev.c (fun _ => by unfold I64; omega)) rfl <| .yy (ys_orA 8 (c := 256) (.t rfl) (.t rfl) rfl rfl (fun _ => by omega)) rfl <| .as rfl <| .z) fun a w S => st_nil (in_normal (then_normal (hK3 _ _ (wp_region_lit (run S (.ad (by unfold I64; omega) rfl <| .mv rfl <| .z) fun a w S => st_nil (then_normal (st_round (sg S (.yy (ys_T (by omega) (ys_lss (.t rfl) Ev.c)) rfl <| .z) fun a w S => wp_seq_k fun _ hK3 => st_then S (.t rfl) (wp_skip (then_normal (hK3 _ _ (wp_seq_k fun _ hK3 => wp_block (sg S (.mv rfl <| .as rfl <| .z) fun a w S => wp_seq_k fun _ hK4 => ?_)))))))))))))))))))))
    refine rg S (.mv rfl <| .yy (ys_shlC (m := 6) (c := 64) (.t rfl) Ev.c rfl rfl (fun _ => by unfold I64; omega)) rfl <| .as rfl <| .z) hK4 fun a w S => wp_seq_k fun _ hK4 => sg S (.mv rfl <| .mv rfl <| .yy (ys_F (by omega) (ys_geq (.t rfl) (.t rfl))) rfl <| .z) fun a w S => st_else S (.t rfl) (wp_skip (then_normal (hK4 _ _ (sg S (.mv rfl <| .mv rfl <| .yy (ys_ixStr underlying9 (.t rfl) (.t rfl) (fun _ => by assumption)) rfl <| .yy (ys_ixA underlying163 sizeOf5 (.t rfl) (.t rfl) (fun _ => by omega)) rfl <| .yy (ys_ldN ⟨isAgg5, sizeOf5⟩ (.t rfl) (k := 1) rfl (fun _ => by assumption)) rfl <| .as rfl <| .z) fun a w S => wp_seq_k fun _ hK4 => sg S (.mv rfl <| .yy (ys_F (by omega) (ys_eql (.t rfl) Ev.c)) rfl <| .z) fun a w S => st_else S (.t rfl) (wp_skip (then_normal (hK4 _ _ (wp_region_lit (run S (.mv rfl <| .mv rfl <| .yy (ys_cvI underlying5 underlying3 (.t rfl) (fun _ => by unfold I64; omega)) rfl <| .yy (ys_subI (.t rfl) Ev.c (fun _ => by unfold I64; omega)) rfl <| .yy (ys_orA 6 (c := 64) (.t rfl) (.t rfl) rfl rfl (fun _ => by omega)) rfl <| .as rfl <| .z) fun a w S => st_nil (in_normal (then_normal (hK3 _ _ (wp_region_lit ?_)))))))))))))
    refine run S (.ad (by unfold I64; omega) rfl <| .mv rfl <| .z) fun a w S => st_nil (then_normal (st_round (sg S (.yy (ys_T (by omega) (ys_lss (.t rfl) Ev.c)) rfl <| .z) fun a w S => wp_seq_k fun _ hK3 => st_then S (.t rfl) (wp_skip (then_normal (hK3 _ _ (wp_seq_k fun _ hK3 => wp_block (sg S (.mv rfl <| .as rfl <| .z) fun a w S => sg S (.mv rfl <| .yy (ys_shlC (m := 6) (c := 64) (.t rfl) Ev.c rfl rfl (fun _ => by unfold I64; omega)) rfl <| .as rfl <| .z) fun a w S => wp_seq_k fun _ hK4 => sg S (.mv rfl <| .mv rfl <| .yy (ys_T (by omega) (ys_geq (.t rfl) (.t rfl))) rfl <| .z) fun a w S => st_then S (.t rfl) (wp_exit (then_exit (in_here (then_normal (hK3 _ _ (wp_region_lit (run S (.ad (by unfold I64; omega) rfl <| .mv rfl <| .z) fun a w S => st_nil (then_normal (st_round (sg S (.yy (ys_T (by omega) (ys_lss (.t rfl) Ev.c)) rfl <| .z) fun a w S => wp_seq_k fun _ hK3 => st_then S (.t rfl) (wp_skip (then_normal (hK3 _ _ (wp_seq_k fun _ hK3 => wp_block (sg S (.mv rfl <| .as rfl <| .z) fun a w S => wp_seq_k fun _ hK5 => ?_)))))))))))))))))))))))
    refine rg S (.mv rfl <| .yy (ys_shlC (m := 6) (c := 64) (.t rfl) Ev.c rfl rfl (fun _ => by unfold I64; omega)) rfl <| .as rfl <| .z) hK5 fun a w S => wp_seq_k fun _ hK5 => sg S (.mv rfl <| .mv rfl <| .yy (ys_T (by omega) (ys_geq (.t rfl) (.t rfl))) rfl <| .z) fun a w S => st_then S (.t rfl) (wp_exit (then_exit (in_here (then_normal (hK3 _ _ (wp_region_lit (run S (.ad (by unfold I64; omega) rfl <| .mv rfl <| .z) fun a w S => st_nil (then_normal (st_round (sg S (.yy (ys_F (by omega) (ys_lss (.t rfl) Ev.c)) rfl <| .z) fun a w S => wp_seq_k fun _ hK3 => st_else S (.t rfl) (wp_exit (then_exit (then_exit (in_here (then_normal (hK2 _ _ (wp_seq_k fun _ hK2 => wp_seq_k fun _ hK6 => wp_region_lit ?_)))))))))))))))))
    refine run S (.mv rfl <| .yy (ys_F (by omega) (ys_eql (.t rfl) Ev.c)) rfl <| .mv rfl <| .gy rfl rfl (ys_move (.t rfl)) <| .gy rfl rfl (ys_move (.t rfl)) <| .gy rfl rfl (ys_subI Ev.c (.t rfl) (fun _ => by unfold I64; omega)) <| .gy rfl rfl (ys_mulI Ev.c (.t rfl) (fun _ => by unfold I64; omega)) <| .gy rfl rfl (ys_shlC (m := 16) (c := 65536) Ev.c (.t rfl) rfl rfl (fun _ => by unfold I64; omega)) <| .gy rfl rfl (ys_pred (.t rfl) Ev.c (by omega)) <| .gy rfl rfl (ys_andM 16 (c := 65536) (.t rfl) (.t rfl) rfl rfl rfl (fun _ => by omega)) <| .gy rfl rfl (ys_neq (.t rfl) Ev.c) <| .yy (ys_pickF (.t rfl) (.t rfl)) rfl <| .z) fun a w S => st_nil (then_normal (hK6 _ _ ?_))
    refine st_if S (.t rfl) (fun h1 => ?_) (fun h1 => ?_)
    refine wp_goto (then_goto (in_goto (then_goto (in_goto (then_goto ?_)))))
    refine jump_goto ?_
    rotate_left
    refine wp_skip (then_normal (hK2 _ _ (wp_seq_k fun _ hK2 => wp_region_lit (run S (.mv rfl <| .yy (ys_shrC (m := 16) (c := 65536) (.t rfl) Ev.c rfl rfl) rfl <| .yy (ys_cvB underlying3 underlying5 (.t rfl)) rfl <| .mv rfl <| .yy (ys_shrC (m := 8) (c := 256) (.t rfl) Ev.c rfl rfl) rfl <| .yy (ys_cvB underlying3 underlying5 (.t rfl)) rfl <| .mv rfl <| .yy (ys_cvB underlying3 underlying5 (.t rfl)) rfl <| .yy (ys_bldA (ps := [(0, Go.Operand.tmp 53), (1, Go.Operand.tmp 56), (2, Go.Operand.tmp 58)]) (us := [_, _, _]) ⟨⟨_, zeroValue161, rfl⟩, _, _, underlying161, sizeOf5⟩ (.cons (.t rfl) (.cons (.t rfl) (.cons (.t rfl) .nil))) rfl) rfl <| .z) fun a w S => st_m (op_alloc S zeroValue161 (cs := _) rfl rfl fun g2 a w S => st_m (op_stW S sizeOf161 (.t rfl) (.t rfl) (k := 0) rfl rfl rfl (by simp [Value.oneCell']) fun a w S => st_nil (then_normal (hK2 _ _ (wp_seq_k fun _ hK2 => wp_region_lit (run S (.mv rfl <| .mv rfl <| .yy (ys_pred (.t rfl) Ev.c (by omega)) rfl <| .yy (ys_arrHi underlying161 sizeOf5 (.t rfl) (.t rfl) (fun _ => by first | omega | (simp; done) | (simp; omega))) rfl <| .z) fun a w S => ?_))))))))))
    rotate_left
    · exact ⟨by rw [hno, hm, tok_no2 a1 b1 ha1 hb1 (by omega)]; rfl, S.weak Fits.nil (List.nil_sublist _)⟩
    refine st_m (op_extend [b8 (((0 * 64 + ((num64 a1 : Int) - 1)) * 64 + ((num64 b1 : Int) - 1)) * 64 * 64 / 65536)] S underlying28 underlying28 (.inr ⟨_, rfl⟩) inf5 rfl (k := 1) rfl (.t rfl) (.t rfl)
      (Src.blkN S.wd (k := 0) rfl rfl (by simp) (by simp [Value.oneCell'])) (by simp; omega) rfl rfl rfl ?_)
    clear S
    intro B' cB' a w S
    refine run S (.as rfl <| .z) fun a w S => st_nil (then_normal (hK2 _ _ (wp_region_lit (run S (.mv rfl <| .mv rfl <| .yy (ys_slStrLo underlying9 (.t rfl) (.t rfl) (fun _ => by first | omega | (simp; done) | (simp; omega))) rfl <| .as rfl <| .z) fun a w S => st_nil (in_normal (then_normal ?_))))))
    have hdr : m.drop 2 = [] := by rw [hm]; rfl
    exact ⟨(m.drop 2, out ++ [b8 (((0 * 64 + ((num64 a1 : Int) - 1)) * 64 + ((num64 b1 : Int) - 1)) * 64 * 64 / 65536)], B', cB'), ⟨by dsimp only; rw [hno, hm, tok_step2 a1 b1 ha1 hb1 (by omega)]; simp [bytes64, Option.map_map, Function.comp_def], by simp; omega⟩, by rw [List.length_drop]; dsimp only; omega, S.wk⟩
  · have hl0 : m.length = 3 := by rw [hm]; rfl
    have rw_n : min (m.length : Int) 4 = 3 := by omega
    have hi0 : m[0]? = some a1 := by rw [hm]; rfl
    have hu0 := u8lt a1
    have hg0 : (tabV 64)[0 + a1.toNat * 1]? = some (.int .u8 (num64 a1 : Int)) := by simpa using tabV_get a1
    have hk0 := num64_le a1
    have hi1 : m[1]? = some b1 := by rw [hm]; rfl
    have hu1 := u8lt b1
    have hg1 : (tabV 64)[0 + b1.toNat * 1]? = some (.int .u8 (num64 b1 : Int)) := by simpa using tabV_get b1
    have hk1 := num64_le b1
    have hi2 : m[2]? = some c1 := by rw [hm]; rfl
    have hu2 := u8lt c1
    have hg2 : (tabV 64)[0 + c1.toNat * 1]? = some (.int .u8 (num64 c1 : Int)) := by simpa using tabV_get c1
    have hk2 := num64_le c1
    by_cases ha1 : num64 a1 = 0
    · have hb : bytes64 l = none := by rw [hno, hm]; simp [bytes64, ha1]
      refine wp_seq_k fun _ hK2 => sg S (.mv rfl <| .yy (ys_lenStr underlying9 (.t rfl)) rfl <| .yy (ys_T (by omega) (ys_gtr (.t rfl) Ev.c)) rfl <| .z) fun a w S => st_then S (.t rfl) (wp_skip (then_normal (hK2 _ _ (wp_block (wp_seq_k fun _ hK2 => wp_region_lit (run S (.mv rfl <| .yy (ys_lenStr underlying9 (.t rfl)) rfl <| .yy (ys_min (.t rfl) Ev.c) rfl <| .z) fun a w S => ?_))))))
      rw [rw_n] at S
      refine run S (.as rfl <| .z) fun a w S => st_nil (then_normal (hK2 _ _ (sg S (.ac rfl <| .z) fun a w S => wp_seq_k fun _ hK2 => sg S (.mc rfl <| .z) fun a w S => wp_block (st_rounds 5 (st_round (sg S (.yy (ys_T (by omega) (ys_lss (.t rfl) Ev.c)) rfl <| .z) fun a w S => wp_seq_k fun _ hK3 => st_then S (.t rfl) (wp_skip (then_normal (hK3 _ _ (wp_seq_k fun _ hK3 => wp_block (sg S (.mv rfl <| .as rfl <| .z) fun a w S => sg S (.mv rfl <| .yy (ys_shlC (m := 6) (c := 64) (.t rfl) Ev.c rfl rfl (fun _ => by unfold I64; omega)) rfl <| .as rfl <| .z) fun a w S => wp_seq_k fun _ hK4 => sg S (.mv rfl <| .mv rfl <| .yy (ys_F (by omega) (ys_geq (.t rfl) (.t rfl))) rfl <| .z) fun a w S => st_else S (.t rfl) (wp_skip (then_normal (hK4 _ _ (wp_seq_k fun _ hK4 => wp_region_lit ?_)))))))))))))))
      refine run S (.mv rfl <| .mv rfl <| .yy (ys_ixStr underlying9 (.t rfl) (.t rfl) (fun _ => by assumption)) rfl <| .yy (ys_ixA underlying163 sizeOf5 (.t rfl) (.t rfl) (fun _ => by omega)) rfl <| .yy (ys_ldN ⟨isAgg5, sizeOf5⟩ (.t rfl) (k := 1) rfl (fun _ => by assumption)) rfl <| .as rfl <| .z) fun a w S => st_nil (then_normal (hK4 _ _ (wp_seq_k fun _ hK4 => sg S (.mv rfl <| .yy (ys_T (by omega) (ys_eql (.t rfl) Ev.c)) rfl <| .z) fun a w S => st_then S (.t rfl) (wp_goto (then_goto (in_goto (then_goto (then_goto (in_goto (then_goto (in_goto (then_goto (in_goto (then_goto ?_))))))))))))))
      refine jump_goto ?_
      exact ⟨hb, S.weak Fits.nil (List.nil_sublist _)⟩
    by_cases hb1 : num64 b1 = 0
    · have hb : bytes64 l = none := by rw [hno, hm]; simp [bytes64, hb1]
      refine wp_seq_k fun _ hK2 => sg S (.mv rfl <| .yy (ys_lenStr underlying9 (.t rfl)) rfl <| .yy (ys_T (by omega) (ys_gtr (.t rfl) Ev.c)) rfl <| .z) fun a w S => st_then S (.t rfl) (wp_skip (then_normal (hK2 _ _ (wp_block (wp_seq_k fun _ hK2 => wp_region_lit (run S (.mv rfl <| .yy (ys_lenStr underlying9 (.t rfl)) rfl <| .yy (ys_min (.t rfl) Ev.c) rfl <| .z) fun a w S => ?_))))))
      rw [rw_n] at S
      refine run S (.as rfl <| .z) fun a w S => st_nil (then_normal (hK2 _ _ (sg S (.ac rfl <| .z) fun a w S => wp_seq_k fun _ hK2 => sg S (.mc rfl <| .z) fun a w S => wp_block (st_rounds 5 (st_round (sg S (.yy (ys_T (by omega) (ys_lss (.t rfl) Ev.c)) rfl <| .z) fun a w S => wp_seq_k fun _ hK3 => st_then S (.t rfl) (wp_skip (then_normal (hK3 _ _ (wp_seq_k fun _ hK3 => wp_block (sg S (.mv rfl <| .as rfl <| .z) fun a w S => sg S (.mv rfl <| .yy (ys_shlC (m := 6) (c := 64) (.t rfl) Ev.c rfl rfl (fun _ => by unfold I64; omega)) rfl <| .as rfl <| .z) fun a w S => wp_seq_k fun _ hK4 => sg S (.mv rfl <| .mv rfl <| .yy (ys_F (by omega) (ys_geq (.t rfl) (.t rfl))) rfl <| .z) fun a w S => st_else S (.t rfl) (wp_skip (then_normal (hK4 _ _ (wp_seq_k fun _ hK4 => wp_region_lit ?_)))))))))))))))
      refine run S (.mv rfl <| .mv rfl <| .yy (ys_ixStr underlying9 (.t rfl) (.t rfl) (fun _ => by assumption)) rfl <| .yy (ys_ixA underlying163 sizeOf5 (.t rfl) (.t rfl) (fun _ => by omega)) rfl <| .yy (ys_ldN ⟨isAgg5, sizeOf5⟩ (.t rfl) (k := 1) rfl (fun _ => by assumption)) rfl <| .as rfl <| .z) fun a w S => st_nil (then_normal (hK4 _ _ (wp_seq_k fun _ hK4 => sg S (.mv rfl <| .yy (ys_F (by omega) (ys_eql (.t rfl) Ev.c)) rfl <| .z) fun a w S => st_else S (.t rfl) (wp_skip (then_normal (hK4 _ _ (wp_region_lit (run S (.mv rfl <| .mv rfl <| .yy (ys_cvI underlying5 underlying3 (.t rfl) (fun _ => by unfold I64; omega)) rfl <| .yy (ys_subI (.t rfl) Ev.c (fun _ => by unfold I64; omega)) rfl <| .yy (ys_orA 8 (c := 256) (.t rfl) (.t rfl) rfl rfl (fun _ => by omega)) rfl <| .as rfl <| .z) fun a w S => st_nil (in_normal (then_normal (hK3 _ _ (wp_region_lit (run S (.ad (by unfold I64; omega) rfl <| .mv rfl <| .z) fun a w S => st_nil (then_normal (st_round (sg S (.yy (ys_T (by omega) (ys_lss (.t rfl) Ev.c)) rfl <| .z) fun a w S => wp_seq_k fun _ hK3 => st_then S (.t rfl) (wp_skip (then_normal (hK3 _ _ (wp_seq_k fun _ hK3 => wp_block (sg S (.mv rfl <| .as rfl <| .z) fun a w S => wp_seq_k fun _ hK4 => ?_)))))))))))))))))))))
      refine rg S (.mv rfl <| .yy (ys_shlC (m := 6) (c := 64) (.t rfl) Ev.c rfl rfl (fun _ => by unfold I64; omega)) rfl <| .as rfl <| .z) hK4 fun a w S => wp_seq_k fun _ hK4 => sg S (.mv rfl <| .mv rfl <| .yy (ys_F (by omega) (ys_geq (.t rfl) (.t rfl))) rfl <| .z) fun a w S => st_else S (.t rfl) (wp_skip (then_normal (hK4 _ _ (sg S (.mv rfl <| .mv rfl <| .yy (ys_ixStr underlying9 (.t rfl) (.t rfl) (fun _ => by assumption)) rfl <| .yy (ys_ixA underlying163 sizeOf5 (.t rfl) (.t rfl) (fun _ => by omega)) rfl <| .yy (ys_ldN ⟨isAgg5, sizeOf5⟩ (.t rfl) (k := 1) rfl (fun _ => by assumption)) rfl <| .as rfl <| .z) fun a w S => wp_seq_k fun _ hK4 => sg S (.mv rfl <| .yy (ys_T (by omega) (ys_eql (.t rfl) Ev.c)) rfl <| .z) fun a w S => st_then S (.t rfl) (wp_goto (then_goto (in_goto (then_goto (then_goto (in_goto (then_goto (in_goto (then_goto (in_goto (then_goto ?_)))))))))))))))
      refine jump_goto ?_
      exact ⟨hb, S.weak Fits.nil (List.nil_sublist _)⟩
    by_cases hc1 : num64 c1 = 0
    · have hb : bytes64 l = none := by rw [hno, hm]; simp [bytes64, hc1]
      refine wp_seq_k fun _ hK2 => sg S (.mv rfl <| .yy (ys_lenStr underlying9 (.t rfl)) rfl <| .yy (ys_T (by omega) (ys_gtr (.t rfl) Ev.c)) rfl <| .z) fun a w S => st_then S (.t rfl) (wp_skip (then_normal (hK2 _ _ (wp_block (wp_seq_k fun _ hK2 => wp_region_lit (run S (.mv rfl <| .yy (ys_lenStr underlying9 (.t rfl)) rfl <| .yy (ys_min (.t rfl) Ev.c) rfl <| .z) fun a w S => ?_))))))
      rw [rw_n] at S
      refine run S (.as rfl <| .z) fun a w S => st_nil (then_normal (hK2 _ _ (sg S (.ac rfl <| .z) fun a w S => wp_seq_k fun _ hK2 => sg S (.mc rfl <| .z) fun a w S => wp_block (st_rounds 5 (st_round (sg S (.yy (ys_T (by omega) (ys_lss (.t rfl) Ev.c)) rfl <| .z) fun a w S => wp_seq_k fun _ hK3 => st_then S (.t rfl) (wp_skip (then_normal (hK3 _ _ (wp_seq_k fun _ hK3 => wp_block (sg S (.mv rfl <| .as rfl <| .z) fun a w S => sg S (.mv rfl <| .yy (ys_shlC (m := 6) (c := 64) (.t rfl) Ev.c rfl rfl (fun _ => by unfold I64; omega)) rfl <| .as rfl <| .z) fun a w S => wp_seq_k fun _ hK4 => sg S (.mv rfl <| .mv rfl <| .yy (ys_F (by omega) (ys_geq (.t rfl) (.t rfl))) rfl <| .z) fun a w S => st_else S (.t rfl) (wp_skip (then_normal (hK4 _ _ (wp_seq_k fun _ hK4 => wp_region_lit ?_)))))))))))))))
      refine run S (.mv rfl <| .mv rfl <| .yy (ys_ixStr underlying9 (.t rfl) (.t rfl) (fun _ => by assumption)) rfl <| .yy (ys_ixA underlying163 sizeOf5 (.t rfl) (.t rfl) (fun _ => by omega)) rfl <| .yy (ys_ldN ⟨isAgg5, sizeOf5⟩ (.t rfl) (k := 1) rfl (fun _ => by assumption)) rfl <| .as rfl <| .z) fun a w S => st_nil (then_normal (hK4 _ _ (wp_seq_k fun _ hK4 => sg S (.mv rfl <| .yy (ys_F (by omega) (ys_eql (.t rfl) Ev.c)) rfl <| .z) fun a w S => st_else S (.t rfl) (wp_skip (then_normal (hK4 _ _ (wp_region_lit (run S (.mv rfl <| .mv rfl <| .yy (ys_cvI underlying5 underlying3 (.t rfl) (fun _ => by unfold I64; omega)) rfl <| .yy (ys_subI (.t rfl) Ev.c (fun _ => by unfold I64; omega)) rfl <| .yy (ys_orA 8 (c := 256) (.t rfl) (.t rfl) rfl rfl (fun _ => by omega)) rfl <| .as rfl <| .z) fun a w S => st_nil (in_normal (then_normal (hK3 _ _ (wp_region_lit (run S (.ad (by unfold I64; omega) rfl <| .mv rfl <| .z) fun a w S => st_nil (then_normal (st_round (sg S (.yy (ys_T (by omega) (ys_lss (.t rfl) Ev.c)) rfl <| .z) fun a w S => wp_seq_k fun _ hK3 => st_then S (.t rfl) (wp_skip (then_normal (hK3 _ _ (wp_seq_k fun _ hK3 => wp_block (sg S (.mv rfl <| .as rfl <| .z) fun a w S => wp_seq_k fun _ hK4 => ?_)))))))))))))))))))))
      refine rg S (.mv rfl <| .yy (ys_shlC (m := 6) (c := 64) (.t rfl) Ev.c rfl rfl (fun _ => by unfold I64; omega)) rfl <| .as rfl <| .z) hK4 fun a w S => wp_seq_k fun _ hK4 => sg S (.mv rfl <| .mv rfl <| .yy (ys_F (by omega) (ys_geq (.t rfl) (.t rfl))) rfl <| .z) fun a w S => st_else S (.t rfl) (wp_skip (then_normal (hK4 _ _ (sg S (.mv rfl <| .mv rfl <| .yy (ys_ixStr underlying9 (.t rfl) (.t rfl) (fun _ => by assumption)) rfl <| .yy (ys_ixA underlying163 sizeOf5 (.t rfl) (.t rfl) (fun _ => by omega)) rfl <| .yy (ys_ldN ⟨isAgg5, sizeOf5⟩ (.t rfl) (k := 1) rfl (fun _ => by assumption)) rfl <| .as rfl <| .z) fun a w S => wp_seq_k fun _ hK4 => sg S (.mv rfl <| .yy (ys_F (by omega) (ys_eql (.t rfl) Ev.c)) rfl <| .z) fun a w S => st_else S (.t rfl) (wp_skip (then_normal (hK4 _ _ (wp_region_lit (run S (.mv rfl <| .mv rfl <| .yy (ys_cvI underlying5 underlying3 (.t rfl) (fun _ => by unfold I64; omega)) rfl <| .yy (ys_subI (.t rfl) Ev.c (fun _ => by unfold I64; omega)) rfl <| .yy (ys_orA 6 (c := 64) (.t rfl) (.t rfl) rfl rfl (fun _ => by omega)) rfl <| .as rfl <| .z) fun a w S => st_nil (in_normal (then_normal (hK3 _ _ (wp_region_lit ?_)))))))))))))
      refine run S (.ad (by unfold I64; omega) rfl <| .mv rfl <| .z) fun a w S => st_nil (then_normal (st_round (sg S (.yy (ys_T (by omega) (ys_lss (.t rfl) Ev.c)) rfl <| .z) fun a w S => wp_seq_k fun _ hK3 => st_then S (.t rfl) (wp_skip (then_normal (hK3 _ _ (wp_seq_k fun _ hK3 => wp_block (sg S (.mv rfl <| .as rfl <| .z) fun a w S => sg S (.mv rfl <| .yy (ys_shlC (m := 6) (c := 64) (.t rfl) Ev.c rfl rfl (fun _ => by unfold I64; omega)) rfl <| .as rfl <| .z) fun a w S => wp_seq_k fun _ hK4 => sg S (.mv rfl <| .mv rfl <| .yy (ys_F (by omega) (ys_geq (.t rfl) (.t rfl))) rfl <| .z) fun a w S => st_else S (.t rfl) (wp_skip (then_normal (hK4 _ _ (sg S (.mv rfl <| .mv rfl <| .yy (ys_ixStr underlying9 (.t rfl) (.t rfl) (fun _ => by assumption)) rfl <| .yy (ys_ixA underlying163 sizeOf5 (.t rfl) (.t rfl) (fun _ => by omega)) rfl <| .yy (ys_ldN ⟨isAgg5, sizeOf5⟩ (.t rfl) (k := 1) rfl (fun _ => by assumption)) rfl <| .as rfl <| .z) fun a w S => wp_seq_k fun _ hK4 => wp_seq_k fun _ hK5 => wp_region_lit ?_))))))))))))
      refine run S (.mv rfl <| .yy (ys_T (by omega) (ys_eql (.t rfl) Ev.c)) rfl <| .z) fun a w S => st_nil (then_normal (hK5 _ _ (st_then S (.t rfl) (wp_goto (then_goto (in_goto (then_goto (then_goto (in_goto (then_goto (in_goto (then_goto (in_goto (then_goto ?_))))))))))))))
      refine jump_goto ?_
      exact ⟨hb, S.weak Fits.nil (List.nil_sublist _)⟩
    refine wp_seq_k fun _ hK2 => sg S (.mv rfl <| .yy (ys_lenStr underlying9 (.t rfl)) rfl <| .yy (ys_T (by omega) (ys_gtr (.t rfl) Ev.c)) rfl <| .z) fun a w S => st_then S (.t rfl) (wp_skip (then_normal (hK2 _ _ (wp_block (wp_seq_k fun _ hK2 => wp_region_lit (run S (.mv rfl <| .yy (ys_lenStr underlying9 (.t rfl)) rfl <| .yy (ys_min (.t rfl) Ev.c) rfl <| .z) fun a w S => ?_))))))
    rw [rw_n] at S
    refine run S (.as rfl <| .z) fun a w S => st_nil (then_normal (hK2 _ _ (sg S (.ac rfl <| .z) fun a w S => wp_seq_k fun _ hK2 => sg S (.mc rfl <| .z) fun a w S => wp_block (st_rounds 5 (st_round (sg S (.yy (ys_T (by omega) (ys_lss (.t rfl) Ev.c)) rfl <| .z) fun a w S => wp_seq_k fun _ hK3 => st_then S (.t rfl) (wp_skip (then_normal (hK3 _ _ (wp_seq_k fun _ hK3 => wp_block (sg S (.mv rfl <| .as rfl <| .z) fun a w S => sg S (.mv rfl <| .yy (ys_shlC (m := 6) (c := 64) (.t rfl) Ev.c rfl rfl (fun _ => by unfold I64; omega)) rfl <| .as rfl <| .z) fun a w S => wp_seq_k fun _ hK4 => sg S (.mv rfl <| .mv rfl <| .yy (ys_F (by omega) (ys_geq (.t rfl) (.t rfl))) rfl <| .z) fun a w S => st_else S (.t rfl) (wp_skip (then_normal (hK4 _ _ (wp_seq_k fun _ hK4 => wp_region_lit ?_)))))))))))))))
    refine run S (.mv rfl <| .mv rfl <| .yy (ys_ixStr underlying9 (.t rfl) (.t rfl) (fun _ => by assumption)) rfl <| .yy (ys_ixA underlying163 sizeOf5 (.t rfl) (.t rfl) (fun _ => by omega)) rfl <| .yy (ys_ldN ⟨isAgg5, sizeOf5⟩ (.t rfl) (k := 1) rfl (fun _ => by assumption)) rfl <| .as rfl <| .z) fun a w S => st_nil (then_normal (hK4 _ _ (wp_seq_k fun _ hK4 => sg S (.mv rfl <| .yy (ys_F (by omega) (ys_eql (.t rfl) Ev.c)) rfl <| .z) fun a w S => st_else S (.t rfl) (wp_skip (then_normal (hK4 _ _ (wp_region_lit (run S (.mv rfl <| .mv rfl <| .yy (ys_cvI underlying5 underlying3 (.t rfl) (fun _ => by unfold I64; omega)) rfl <| .yy (ys_subI (.t rfl) Ev.c (fun _ => by unfold I64; omega)) rfl <| .yy (ys_orA 8 (c := 256) (.t rfl) (.t rfl) rfl rfl (fun _ => by omega)) rfl <| .as rfl <| .z) fun a w S => st_nil (in_normal (then_normal (hK3 _ _ (wp_region_lit (run S (.ad (by unfold I64; omega) rfl <| .mv rfl <| .z) fun a w S => st_nil (then_normal (st_round (sg S (.yy (ys_T (by omega) (ys_lss (.t rfl) Ev.c)) rfl <| .z) fun a w S => wp_seq_k fun _ hK3 => st_then S (.t rfl) (wp_skip (then_normal (hK3 _ _ (wp_seq_k fun _ hK3 => wp_block (sg S (.mv rfl <| .as rfl <| .z) fun a w S => wp_seq_k fun _ hK4 => ?_)))))))))))))))))))))
    refine rg S (.mv rfl <| .yy (ys_shlC (m := 6) (c := 64) (.t rfl) Ev.c rfl rfl (fun _ => by unfold I64; omega)) rfl <| .as rfl <| .z) hK4 fun a w S => wp_seq_k fun _ hK4 => sg S (.mv rfl <| .mv rfl <| .yy (ys_F (by omega) (ys_geq (.t rfl) (.t rfl))) rfl <| .z) fun a w S => st_else S (.t rfl) (wp_skip (then_normal (hK4 _ _ (sg S (.mv rfl <| .mv rfl <| .yy (ys_ixStr underlying9 (.t rfl) (.t rfl) (fun _ => by assumption)) rfl <| .yy (ys_ixA underlying163 sizeOf5 (.t rfl) (.t rfl) (fun _ => by omega)) rfl <| .yy (ys_ldN ⟨isAgg5, sizeOf5⟩ (.t rfl) (k := 1) rfl (fun _ => by assumption)) rfl <| .as rfl <| .z) fun a w S => wp_seq_k fun _ hK4 => sg S (.mv rfl <| .yy (ys_F (by omega) (ys_eql (.t rfl) Ev.c)) rfl <| .z) fun a w S => st_else S (.t rfl) (wp_skip (then_normal (hK4 _ _ (wp_region_lit (run S (.mv rfl <| .mv rfl <| .yy (ys_cvI underlying5 underlying3 (.t rfl) (fun _ => by unfold I64; omega)) rfl <| .yy (ys_subI (.t rfl) Ev.c (fun _ => by unfold I64; omega)) rfl <| .yy (ys_orA 6 (c := 64) (.t rfl) (.t rfl) rfl rfl (fun _ => by omega)) rfl <| .as rfl <| .z) fun a w S => st_nil (in_normal (then_normal (hK3 _ _ (wp_region_lit ?_)))))))))))))
    refine run S (.ad (by unfold I64; omega) rfl <| .mv rfl <| .z) fun a w S => st_nil (then_normal (st_round (sg S (.yy (ys_T (by omega) (ys_lss (.t rfl) Ev.c)) rfl <| .z) fun a w S => wp_seq_k fun _ hK3 => st_then S (.t rfl) (wp_skip (then_normal (hK3 _ _ (wp_seq_k fun _ hK3 => wp_block (sg S (.mv rfl <| .as rfl <| .z) fun a w S => sg S (.mv rfl <| .yy (ys_shlC (m := 6) (c := 64) (.t rfl) Ev.c rfl rfl (fun _ => by unfold I64; omega)) rfl <| .as rfl <| .z) fun a w S => wp_seq_k fun _ hK4 => sg S (.mv rfl <| .mv rfl <| .yy (ys_F (by omega) (ys_geq (.t rfl) (.t rfl))) rfl <| .z) fun a w S => st_else S (.t rfl) (wp_skip (then_normal (hK4 _ _ (sg S (.mv rfl <| .mv rfl <| .yy (ys_ixStr underlying9 (.t rfl) (.t rfl) (fun _ => by assumption)) rfl <| .yy (ys_ixA underlying163 sizeOf5 (.t rfl) (.t rfl) (fun _ => by omega)) rfl <| .yy (ys_ldN ⟨isAgg5, sizeOf5⟩ (.t rfl) (k := 1) rfl (fun _ => by assumption)) rfl <| .as rfl <| .z) fun a w S => wp_seq_k fun _ hK4 => wp_seq_k fun _ hK5 => wp_region_lit ?_))))))))))))
    refine run S (.mv rfl <| .yy (ys_F (by omega) (ys_eql (.t rfl) Ev.c)) rfl <| .z) fun a w S => st_nil (then_normal (hK5 _ _ (st_else S (.t rfl) (wp_skip (then_normal (hK4 _ _ (wp_region_lit (run S (.mv rfl <| .mv rfl <| .yy (ys_cvI underlying5 underlying3 (.t rfl) (fun _ => by unfold I64; omega)) rfl <| .yy (ys_subI (.t rfl) Ev.c (fun _ => by unfold I64; omega)) rfl <| .yy (ys_orA 6 (c := 64) (.t rfl) (.t rfl) rfl rfl (fun _ => by omega)) rfl <| .as rfl <| .z) fun a w S => st_nil (in_normal (then_normal (hK3 _ _ (wp_region_lit (run S (.ad (by unfold I64; omega) rfl <| .mv rfl <| .z) fun a w S => st_nil (then_normal (st_round (sg S (.yy (ys_T (by omega) (ys_lss (.t rfl) Ev.c)) rfl <| .z) fun a w S => wp_seq_k fun _ hK3 => st_then S (.t rfl) (wp_skip (then_normal (hK3 _ _ (wp_seq_k fun _ hK3 => wp_block (sg S (.mv rfl <| .as rfl <| .z) fun a w S => sg S (.mv rfl <| .yy (ys_shlC (m := 6) (c := 64) (.t rfl) Ev.c rfl rfl (fun _ => by unfold I64; omega)) rfl <| .as rfl <| .z) fun a w S => wp_seq_k fun _ hK4 => sg S (.mv rfl <| .mv rfl <| .yy (ys_T (by omega) (ys_geq (.t rfl) (.t rfl))) rfl <| .z) fun a w S => st_then S (.t rfl) (wp_exit ?_))))))))))))))))))))))
    refine then_exit (in_here (then_normal (hK3 _ _ (wp_region_lit (run S (.ad (by unfold I64; omega) rfl <| .mv rfl <| .z) fun a w S => st_nil (then_normal (st_round (sg S (.yy (ys_F (by omega) (ys_lss (.t rfl) Ev.c)) rfl <| .z) fun a w S => wp_seq_k fun _ hK3 => st_else S (.t rfl) (wp_exit (then_exit (then_exit (in_here (then_normal (hK2 _ _ (wp_seq_k fun _ hK2 => sg S (.mv rfl <| .yy (ys_F (by omega) (ys_eql (.t rfl) Ev.c)) rfl <| .mv rfl <| .gy rfl rfl (ys_move (.t rfl)) <| .gy rfl rfl (ys_move (.t rfl)) <| .gy rfl rfl (ys_subI Ev.c (.t rfl) (fun _ => by unfold I64; omega)) <| .gy rfl rfl (ys_mulI Ev.c (.t rfl) (fun _ => by unfold I64; omega)) <| .gy rfl rfl (ys_shlC (m := 8) (c := 256) Ev.c (.t rfl) rfl rfl (fun _ => by unfold I64; omega)) <| .gy rfl rfl (ys_pred (.t rfl) Ev.c (by omega)) <| .gy rfl rfl (ys_andM 8 (c := 256) (.t rfl) (.t rfl) rfl rfl rfl (fun _ => by omega)) <| .gy rfl rfl (ys_neq (.t rfl) Ev.c) <| .yy (ys_pickF (.t rfl) (.t rfl)) rfl <| .z) fun a w S => ?_)))))))))))))))
    refine st_if S (.t rfl) (fun h1 => ?_) (fun h1 => ?_)
    refine wp_goto (then_goto (in_goto (then_goto (in_goto (then_goto ?_)))))
    refine jump_goto ?_
    rotate_left
    refine wp_skip (then_normal (hK2 _ _ (wp_seq_k fun _ hK2 => wp_region_lit (run S (.mv rfl <| .yy (ys_shrC (m := 16) (c := 65536) (.t rfl) Ev.c rfl rfl) rfl <| .yy (ys_cvB underlying3 underlying5 (.t rfl)) rfl <| .mv rfl <| .yy (ys_shrC (m := 8) (c := 256) (.t rfl) Ev.c rfl rfl) rfl <| .yy (ys_cvB underlying3 underlying5 (.t rfl)) rfl <| .mv rfl <| .yy (ys_cvB underlying3 underlying5 (.t rfl)) rfl <| .yy (ys_bldA (ps := [(0, Go.Operand.tmp 53), (1, Go.Operand.tmp 56), (2, Go.Operand.tmp 58)]) (us := [_, _, _]) ⟨⟨_, zeroValue161, rfl⟩, _, _, underlying161, sizeOf5⟩ (.cons (.t rfl) (.cons (.t rfl) (.cons (.t rfl) .nil))) rfl) rfl <| .z) fun a w S => st_m (op_alloc S zeroValue161 (cs := _) rfl rfl fun g2 a w S => st_m (op_stW S sizeOf161 (.t rfl) (.t rfl) (k := 0) rfl rfl rfl (by simp [Value.oneCell']) fun a w S => st_nil (then_normal (hK2 _ _ (wp_seq_k fun _ hK2 => wp_region_lit (run S (.mv rfl <| .mv rfl <| .yy (ys_pred (.t rfl) Ev.c (by omega)) rfl <| .yy (ys_arrHi underlying161 sizeOf5 (.t rfl) (.t rfl) (fun _ => by first | omega | (simp; done) | (simp; omega))) rfl <| .z) fun a w S => ?_))))))))))
    rotate_left
    · exact ⟨by rw [hno, hm, tok_no3 a1 b1 c1 ha1 hb1 hc1 (by omega)]; rfl, S.weak Fits.nil (List.nil_sublist _)⟩
    refine st_m (op_extend [b8 ((((0 * 64 + ((num64 a1 : Int) - 1)) * 64 + ((num64 b1 : Int) - 1)) * 64 + ((num64 c1 : Int) - 1)) * 64 / 65536), b8 ((((0 * 64 + ((num64 a1 : Int) - 1)) * 64 + ((num64 b1 : Int) - 1)) * 64 + ((num64 c1 : Int) - 1)) * 64 / 256)] S underlying28 underlying28 (.inr ⟨_, rfl⟩) inf5 rfl (k := 1) rfl (.t rfl) (.t rfl)
      (Src.blkN S.wd (k := 0) rfl rfl (by simp) (by simp [Value.oneCell'])) (by simp; omega) rfl rfl rfl ?_)
    clear S
    intro B' cB' a w S
    refine run S (.as rfl <| .z) fun a w S => st_nil (then_normal (hK2 _ _ (wp_region_lit (run S (.mv rfl <| .mv rfl <| .yy (ys_slStrLo underlying9 (.t rfl) (.t rfl) (fun _ => by first | omega | (simp; done) | (simp; omega))) rfl <| .as rfl <| .z) fun a w S => st_nil (in_normal (then_normal ?_))))))
    have hdr : m.drop 3 = [] := by rw [hm]; rfl
    exact ⟨(m.drop 3, out ++ [b8 ((((0 * 64 + ((num64 a1 : Int) - 1)) * 64 + ((num64 b1 : Int) - 1)) * 64 + ((num64 c1 : Int) - 1)) * 64 / 65536), b8 ((((0 * 64 + ((num64 a1 : Int) - 1)) * 64 + ((num64 b1 : Int) - 1)) * 64 + ((num64 c1 : Int) - 1)) * 64 / 256)], B', cB'), ⟨by dsimp only; rw [hno, hm, tok_step3 a1 b1 c1 ha1 hb1 hc1 (by omega)]; simp [bytes64, Option.map_map, Function.comp_def], by simp; omega⟩, by rw [List.length_drop]; dsimp only; omega, S.wk⟩
  · have hl0 : 4 ≤ m.length := by rw [hm]; simp
    have rw_n : min (m.length : Int) 4 = 4 := by omega
    have hi0 : m[0]? = some a1 := by rw [hm]; rfl
    have hu0 := u8lt a1
    have hg0 : (tabV 64)[0 + a1.toNat * 1]? = some (.int .u8 (num64 a1 : Int)) := by simpa using tabV_get a1
    have hk0 := num64_le a1
    have hi1 : m[1]? = some b1 := by rw [hm]; rfl
    have hu1 := u8lt b1
    have hg1 : (tabV 64)[0 + b1.toNat * 1]? = some (.int .u8 (num64 b1 : Int)) := by simpa using tabV_get b1
    have hk1 := num64_le b1
    have hi2 : m[2]? = some c1 := by rw [hm]; rfl
    have hu2 := u8lt c1
    have hg2 : (tabV 64)[0 + c1.toNat * 1]? = some (.int .u8 (num64 c1 : Int)) := by simpa using tabV_get c1
    have hk2 := num64_le c1
    have hi3 : m[3]? = some d1 := by rw [hm]; rfl
    have hu3 := u8lt d1
    have hg3 : (tabV 64)[0 + d1.toNat * 1]? = some (.int .u8 (num64 d1 : Int)) := by simpa using tabV_get d1
    have hk3 := num64_le d1
    by_cases ha1 : num64 a1 = 0
    · have hb : bytes64 l = none := by rw [hno, hm]; simp [bytes64, ha1]
      refine wp_seq_k fun _ hK2 => sg S (.mv rfl <| .yy (ys_lenStr underlying9 (.t rfl)) rfl <| .yy (ys_T (by omega) (ys_gtr (.t rfl) Ev.c)) rfl <| .z) fun a w S => st_then S (.t rfl) (wp_skip (then_normal (hK2 _ _ (wp_block (wp_seq_k fun _ hK2 => wp_region_lit (run S (.mv rfl <| .yy (ys_lenStr underlying9 (.t rfl)) rfl <| .yy (ys_min (.t rfl) Ev.c) rfl <| .z) fun a w S => ?_))))))
      rw [rw_n] at S
      refine run S (.as rfl <| .z) fun a w S => st_nil (then_normal (hK2 _ _ (sg S (.ac rfl <| .z) fun a w S => wp_seq_k fun _ hK2 => sg S (.mc rfl <| .z) fun a w S => wp_block (st_rounds 5 (st_round (sg S (.yy (ys_T (by omega) (ys_lss (.t rfl) Ev.c)) rfl <| .z) fun a w S => wp_seq_k fun _ hK3 => st_then S (.t rfl) (wp_skip (then_normal (hK3 _ _ (wp_seq_k fun _ hK3 => wp_block (sg S (.mv rfl <| .as rfl <| .z) fun a w S => sg S (.mv rfl <| .yy (ys_shlC (m := 6) (c := 64) (.t rfl) Ev.c rfl rfl (fun _ => by unfold I64; omega)) rfl <| .as rfl <| .z) fun a w S => wp_seq_k fun _ hK4 => sg S (.mv rfl <| .mv rfl <| .yy (ys_F (by omega) (ys_geq (.t rfl) (.t rfl))) rfl <| .z) fun a w S => st_else S (.t rfl) (wp_skip (then_normal (hK4 _ _ (wp_seq_k fun _ hK4 => wp_region_lit ?_)))))))))))))))
      refine run S (.mv rfl <| .mv rfl <| .yy (ys_ixStr underlying9 (.t rfl) (.t rfl) (fun _ => by assumption)) rfl <| .yy (ys_ixA underlying163 sizeOf5 (.t rfl) (.t rfl) (fun _ => by omega)) rfl <| .yy (ys_ldN ⟨isAgg5, sizeOf5⟩ (.t rfl) (k := 1) rfl (fun _ => by assumption)) rfl <| .as rfl <| .z) fun a w S => st_nil (then_normal (hK4 _ _ (wp_seq_k fun _ hK4 => sg S (.mv rfl <| .yy (ys_T (by omega) (ys_eql (.t rfl) Ev.c)) rfl <| .z) fun a w S => st_then S (.t rfl) (wp_goto (then_goto (in_goto (then_goto (then_goto (in_goto (then_goto (in_goto (then_goto (in_goto (then_goto ?_))))))))))))))
      refine jump_goto ?_
      exact ⟨hb, S.weak Fits.nil (List.nil_sublist _)⟩
    by_cases hb1 : num64 b1 = 0
    · have hb : bytes64 l = none := by rw [hno, hm]; simp [bytes64, hb1]
      refine wp_seq_k fun _ hK2 => sg S (.mv rfl <| .yy (ys_lenStr underlying9 (.t rfl)) rfl <| .yy (ys_T (by omega) (ys_gtr (.t rfl) Ev.c)) rfl <| .z) fun a w S => st_then S (.t rfl) (wp_skip (then_normal (hK2 _ _ (wp_block (wp_seq_k fun _ hK2 => wp_region_lit (run S (.mv rfl <| .yy (ys_lenStr underlying9 (.t rfl)) rfl <| .yy (ys_min (.t rfl) Ev.c) rfl <| .z) fun a w S => ?_))))))
      rw [rw_n] at S
      refine run S (.as rfl <| .z) fun a w S => st_nil (then_normal (hK2 _ _ (sg S (.ac rfl <| .z) fun a w S => wp_seq_k fun _ hK2 => sg S (.mc rfl <| .z) fun a w S => wp_block (st_rounds 5 (st_round (sg S (.yy (ys_T (by omega) (ys_lss (.t rfl) Ev.c)) rfl <| .z) fun a w S => wp_seq_k fun _ hK3 => st_then S (.t rfl) (wp_skip (then_normal (hK3 _ _ (wp_seq_k fun _ hK3 => wp_block (sg S (.mv rfl <| .as rfl <| .z) fun a w S => sg S (.mv rfl <| .yy (ys_shlC (m := 6) (c := 64) (.t rfl) Ev.c rfl rfl (fun _ => by unfold I64; omega)) rfl <| .as rfl <| .z) fun a w S => wp_seq_k fun _ hK4 => sg S (.mv rfl <| .mv rfl <| .yy (ys_F (by omega) (ys_geq (.t rfl) (.t rfl))) rfl <| .z) fun a w S => st_else S (.t rfl) (wp_skip (then_normal (hK4 _ _ (wp_seq_k fun _ hK4 => wp_region_lit ?_)))))))))))))))
      refine run S (.mv rfl <| .mv rfl <| .yy (ys_ixStr underlying9 (.t rfl) (.t rfl) (fun _ => by assumption)) rfl <| .yy (ys_ixA underlying163 sizeOf5 (.t rfl) (.t rfl) (fun _ => by omega)) rfl <| .yy (ys_ldN ⟨isAgg5, sizeOf5⟩ (.t rfl) (k := 1) rfl (fun _ => by assumption)) rfl <| .as rfl <| .z) fun a w S => st_nil (then_normal (hK4 _ _ (wp_seq_k fun _ hK4 => sg S (.mv rfl <| .yy (ys_F (by omega) (ys_eql (.t rfl) Ev.c)) rfl <| .z) fun a w S => st_else S (.t rfl) (wp_skip (then_normal (hK4 _ _ (wp_region_lit (run S (.mv rfl <| .mv rfl <| .yy (ys_cvI underlying5 underlying3 (.t rfl) (fun _ => by unfold I64; omega)) rfl <| .yy (ys_subI (.t rfl) Ev.c (fun _ => by unfold I64; omega)) rfl <| .yy (ys_orA 8 (c := 256) (.t rfl) (.t rfl) rfl rfl (fun _ => by omega)) rfl <| .as rfl <| .z) fun a w S => st_nil (in_normal (then_normal (hK3 _ _ (wp_region_lit (run S (.ad (by unfold I64; omega) rfl <| .mv rfl <| .z) fun a w S => st_nil (then_normal (st_round (sg S (.yy (ys_T (by omega) (ys_lss (.t rfl) Ev.c)) rfl <| .z) fun a w S => wp_seq_k fun _ hK3 => st_then S (.t rfl) (wp_skip (then_normal (hK3 _ _ (wp_seq_k fun _ hK3 => wp_block (sg S (.mv rfl <| .as rfl <| .z) fun a w S => wp_seq_k fun _ hK4 => ?_)))))))))))))))))))))
      refine rg S (.mv rfl <| .yy (ys_shlC (m := 6) (c := 64) (.t rfl) Ev.c rfl rfl (fun _ => by unfold I64; omega)) rfl <| .as rfl <| .z) hK4 fun a w S => wp_seq_k fun _ hK4 => sg S (.mv rfl <| .mv rfl <| .yy (ys_F (by omega) (ys_geq (.t rfl) (.t rfl))) rfl <| .z) fun a w S => st_else S (.t rfl) (wp_skip (then_normal (hK4 _ _ (sg S (.mv rfl <| .mv rfl <| .yy (ys_ixStr underlying9 (.t rfl) (.t rfl) (fun _ => by assumption)) rfl <| .yy (ys_ixA underlying163 sizeOf5 (.t rfl) (.t rfl) (fun _ => by omega)) rfl <| .yy (ys_ldN ⟨isAgg5, sizeOf5⟩ (.t rfl) (k := 1) rfl (fun _ => by assumption)) rfl <| .as rfl <| .z) fun a w S => wp_seq_k fun _ hK4 => sg S (.mv rfl <| .yy (ys_T (by omega) (ys_eql (.t rfl) Ev.c)) rfl <| .z) fun a w S => st_then S (.t rfl) (wp_goto (then_goto (in_goto (then_goto (then_goto (in_goto (then_goto (in_goto (then_goto (in_goto (then_goto ?_)))))))))))))))
      refine jump_goto ?_
      exact ⟨hb, S.weak Fits.nil (List.nil_sublist _)⟩
    by_cases hc1 : num64 c1 = 0
    · have hb : bytes64 l = none := by rw [hno, hm]; simp [bytes64, hc1]
      refine wp_seq_k fun _ hK2 => sg S (.mv rfl <| .yy (ys_lenStr underlying9 (.t rfl)) rfl <| .yy (ys_T (by omega) (ys_gtr (.t rfl) Ev.c)) rfl <| .z) fun a w S => st_then S (.t rfl) (wp_skip (then_normal (hK2 _ _ (wp_block (wp_seq_k fun _ hK2 => wp_region_lit (run S (.mv rfl <| .yy (ys_lenStr underlying9 (.t rfl)) rfl <| .yy (ys_min (.t rfl) Ev.c) rfl <| .z) fun a w S => ?_))))))
      rw [rw_n] at S
      refine run S (.as rfl <| .z) fun a w S => st_nil (then_normal (hK2 _ _ (sg S (.ac rfl <| .z) fun a w S => wp_seq_k fun _ hK2 => sg S (.mc rfl <| .z) fun a w S => wp_block (st_rounds 5 (st_round (sg S (.yy (ys_T (by omega) (ys_lss (.t rfl) Ev.c)) rfl <| .z) fun a w S => wp_seq_k fun _ hK3 => st_then S (.t rfl) (wp_skip (then_normal (hK3 _ _ (wp_seq_k fun _ hK3 => wp_block (sg S (.mv rfl <| .as rfl <| .z) fun a w S => sg S (.mv rfl <| .yy (ys_shlC (m := 6) (c := 64) (.t rfl) Ev.c rfl rfl (fun _ => by unfold I64; omega)) rfl <| .as rfl <| .z) fun a w S => wp_seq_k fun _ hK4 => sg S (.mv rfl <| .mv rfl <| .yy (ys_F (by omega) (ys_geq (.t rfl) (.t rfl))) rfl <| .z) fun a w S => st_else S (.t rfl) (wp_skip (then_normal (hK4 _ _ (wp_seq_k fun _ hK4 => wp_region_lit ?_)))))))))))))))
      refine run S (.mv rfl <| .mv rfl <| .yy (ys_ixStr underlying9 (.t rfl) (.t rfl) (fun _ => by assumption)) rfl <| .yy (ys_ixA underlying163 sizeOf5 (.t rfl) (.t rfl) (fun _ => by omega)) rfl <| .yy (ys_ldN ⟨isAgg5, sizeOf5⟩ (.t rfl) (k := 1) rfl (fun _ => by assumption)) rfl <| .as rfl <| .z) fun a w S => st_nil (then_normal (hK4 _ _ (wp_seq_k fun _ hK4 => sg S (.mv rfl <| .yy (ys_F (by omega) (ys_eql (.t rfl) Ev.c)) rfl <| .z) fun a w S => st_else S (.t rfl) (wp_skip (then_normal (hK4 _ _ (wp_region_lit (run S (.mv rfl <| .mv rfl <| .yy (ys_cvI underlying5 underlying3 (.t rfl) (fun _ => by unfold I64; omega)) rfl <| .yy (ys_subI (.t rfl) Ev.c (fun _ => by unfold I64; omega)) rfl <| .yy (ys_orA 8 (c := 256) (.t rfl) (.t rfl) rfl rfl (fun _ => by omega)) rfl <| .as rfl <| .z) fun a w S => st_nil (in_normal (then_normal (hK3 _ _ (wp_region_lit (run S (.ad (by unfold I64; omega) rfl <| .mv rfl <| .z) fun a w S => st_nil (then_normal (st_round (sg S (.yy (ys_T (by omega) (ys_lss (.t rfl) Ev.c)) rfl <| .z) fun a w S => wp_seq_k fun _ hK3 => st_then S (.t rfl) (wp_skip (then_normal (hK3 _ _ (wp_seq_k fun _ hK3 => wp_block (sg S (.mv rfl <| .as rfl <| .z) fun a w S => wp_seq_k fun _ hK4 => ?_)))))))))))))))))))))
      refine rg S (.mv rfl <| .yy (ys_shlC (m := 6) (c := 64) (.t rfl) Ev.c rfl rfl (fun _ => by unfold I64; omega)) rfl <| .as rfl <| .z) hK4 fun a w S => wp_seq_k fun _ hK4 => sg S (.mv rfl <| .mv rfl <| .yy (ys_F (by omega) (ys_geq (.t rfl) (.t rfl))) rfl <| .z) fun a w S => st_else S (.t rfl) (wp_skip (then_normal (hK4 _ _ (sg S (.mv rfl <| .mv rfl <| .yy (ys_ixStr underlying9 (.t rfl) (.t rfl) (fun _ => by assumption)) rfl <| .yy (ys_ixA underlying163 sizeOf5 (.t rfl) (.t rfl) (fun _ => by omega)) rfl <| .yy (ys_ldN ⟨isAgg5, sizeOf5⟩ (.t rfl) (k := 1) rfl (fun _ => by assumption)) rfl <| .as rfl <| .z) fun a w S => wp_seq_k fun _ hK4 => sg S (.mv rfl <| .yy (ys_F (by omega) (ys_eql (.t rfl) Ev.c)) rfl <| .z) fun a w S => st_else S (.t rfl) (wp_skip (then_normal (hK4 _ _ (wp_region_lit (run S (.mv rfl <| .mv rfl <| .yy (ys_cvI underlying5 underlying3 (.t rfl) (fun _ => by unfold I64; omega)) rfl <| .yy (ys_subI (.t rfl) Ev.c (fun _ => by unfold I64; omega)) rfl <| .yy (ys_orA 6 (c := 64) (.t rfl) (.t rfl) rfl rfl (fun _ => by omega)) rfl <| .as rfl <| .z) fun a w S => st_nil (in_normal (then_normal (hK3 _ _ (wp_region_lit ?_)))))))))))))
      refine run S (.ad (by unfold I64; omega) rfl <| .mv rfl <| .z) fun a w S => st_nil (then_normal (st_round (sg S (.yy (ys_T (by omega) (ys_lss (.t rfl) Ev.c)) rfl <| .z) fun a w S => wp_seq_k fun _ hK3 => st_then S (.t rfl) (wp_skip (then_normal (hK3 _ _ (wp_seq_k fun _ hK3 => wp_block (sg S (.mv rfl <| .as rfl <| .z) fun a w S => sg S (.mv rfl <| .yy (ys_shlC (m := 6) (c := 64) (.t rfl) Ev.c rfl rfl (fun _ => by unfold I64; omega)) rfl <| .as rfl <| .z) fun a w S => wp_seq_k fun _ hK4 => sg S (.mv rfl <| .mv rfl <| .yy (ys_F (by omega) (ys_geq (.t rfl) (.t rfl))) rfl <| .z) fun a w S => st_else S (.t rfl) (wp_skip (then_normal (hK4 _ _ (sg S (.mv rfl <| .mv rfl <| .yy (ys_ixStr underlying9 (.t rfl) (.t rfl) (fun _ => by assumption)) rfl <| .yy (ys_ixA underlying163 sizeOf5 (.t rfl) (.t rfl) (fun _ => by omega)) rfl <| .yy (ys_ldN ⟨isAgg5, sizeOf5⟩ (.t rfl) (k := 1) rfl (fun _ => by assumption)) rfl <| .as rfl <| .z) fun a w S => wp_seq_k fun _ hK4 => wp_seq_k fun _ hK5 => wp_region_lit ?_))))))))))))
      refine run S (.mv rfl <| .yy (ys_T (by omega) (ys_eql (.t rfl) Ev.c)) rfl <| .z) fun a w S => st_nil (then_normal (hK5 _ _ (st_then S (.t rfl) (wp_goto (then_goto (in_goto (then_goto (then_goto (in_goto (then_goto (in_goto (then_goto (in_goto (then_goto ?_))))))))))))))
      refine jump_goto ?_
      exact ⟨hb, S.weak Fits.nil (List.nil_sublist _)⟩
    by_cases hd1 : num64 d1 = 0
    · have hb : bytes64 l = none := by rw [hno, hm]; simp [bytes64, hd1]
      refine wp_seq_k fun _ hK2 => sg S (.mv rfl <| .yy (ys_lenStr underlying9 (.t rfl)) rfl <| .yy (ys_T (by omega) (ys_gtr (.t rfl) Ev.c)) rfl <| .z) fun a w S => st_then S (.t rfl) (wp_skip (then_normal (hK2 _ _ (wp_block (wp_seq_k fun _ hK2 => wp_region_lit (run S (.mv rfl <| .yy (ys_lenStr underlying9 (.t rfl)) rfl <| .yy (ys_min (.t rfl) Ev.c) rfl <| .z) fun a w S => ?_))))))
      rw [rw_n] at S
      refine run S (.as rfl <| .z) fun a w S => st_nil (then_normal (hK2 _ _ (sg S (.ac rfl <| .z) fun a w S => wp_seq_k fun _ hK2 => sg S (.mc rfl <| .z) fun a w S => wp_block (st_rounds 5 (st_round (sg S (.yy (ys_T (by omega) (ys_lss (.t rfl) Ev.c)) rfl <| .z) fun a w S => wp_seq_k fun _ hK3 => st_then S (.t rfl) (wp_skip (then_normal (hK3 _ _ (wp_seq_k fun _ hK3 => wp_block (sg S (.mv rfl <| .as rfl <| .z) fun a w S => sg S (.mv rfl <| .yy (ys_shlC (m := 6) (c := 64) (.t rfl) Ev.c rfl rfl (fun _ => by unfold I64; omega)) rfl <| .as rfl <| .z) fun a w S => wp_seq_k fun _ hK4 => sg S (.mv rfl <| .mv rfl <| .yy (ys_F (by omega) (ys_geq (.t rfl) (.t rfl))) rfl <| .z) fun a w S => st_else S (.t rfl) (wp_skip (then_normal (hK4 _ _ (wp_seq_k fun _ hK4 => wp_region_lit ?_)))))))))))))))
      refine run S (.mv rfl <| .mv rfl <| .yy (ys_ixStr underlying9 (.t rfl) (.t rfl) (fun _ => by assumption)) rfl <| .yy (ys_ixA underlying163 sizeOf5 (.t rfl) (.t rfl) (fun _ => by omega)) rfl <| .yy (ys_ldN ⟨isAgg5, sizeOf5⟩ (.t rfl) (k := 1) rfl (fun _ => by assumption)) rfl <| .as rfl <| .z) fun a w S => st_nil (then_normal (hK4 _ _ (wp_seq_k fun _ hK4 => sg S (.mv rfl <| .yy (ys_F (by omega) (ys_eql (.t rfl) Ev.c)) rfl <| .z) fun a w S => st_else S (.t rfl) (wp_skip (then_normal (hK4 _ _ (wp_region_lit (run S (.mv rfl <| .mv rfl <| .yy (ys_cvI underlying5 underlying3 (.t rfl) (fun _ => by unfold I64; omega)) rfl <| .yy (ys_subI (.t rfl) Ev.c (fun _ => by unfold I64; omega)) rfl <| .yy (ys_orA 8 (c := 256) (.t rfl) (.t rfl) rfl rfl (fun _ => by omega)) rfl <| .as rfl <| .z) fun a w S => st_nil (in_normal (then_normal (hK3 _ _ (wp_region_lit (run S (.ad (by unfold I64; omega) rfl <| .mv rfl <| .z) fun a w S => st_nil (then_normal (st_round (sg S (.yy (ys_T (by omega) (ys_lss (.t rfl) Ev.c)) rfl <| .z) fun a w S => wp_seq_k fun _ hK3 => st_then S (.t rfl) (wp_skip (then_normal (hK3 _ _ (wp_seq_k fun _ hK3 => wp_block (sg S (.mv rfl <| .as rfl <| .z) fun a w S => wp_seq_k fun _ hK4 => ?_)))))))))))))))))))))
      refine rg S (.mv rfl <| .yy (ys_shlC (m := 6) (c := 64) (.t rfl) Ev.c rfl rfl (fun _ => by unfold I64; omega)) rfl <| .as rfl <| .z) hK4 fun a w S => wp_seq_k fun _ hK4 => sg S (.mv rfl <| .mv rfl <| .yy (ys_F (by omega) (ys_geq (.t rfl) (.t rfl))) rfl <| .z) fun a w S => st_else S (.t rfl) (wp_skip (then_normal (hK4 _ _ (sg S (.mv rfl <| .mv rfl <| .yy (ys_ixStr underlying9 (.t rfl) (.t rfl) (fun _ => by assumption)) rfl <| .yy (ys_ixA underlying163 sizeOf5 (.t rfl) (.t rfl) (fun _ => by omega)) rfl <| .yy (ys_ldN ⟨isAgg5, sizeOf5⟩ (.t rfl) (k := 1) rfl (fun _ => by assumption)) rfl <| .as rfl <| .z) fun a w S => wp_seq_k fun _ hK4 => sg S (.mv rfl <| .yy (ys_F (by omega) (ys_eql (.t rfl) Ev.c)) rfl <| .z) fun a w S => st_else S (.t rfl) (wp_skip (then_normal (hK4 _ _ (wp_region_lit (run S (.mv rfl <| .mv rfl <| .yy (ys_cvI underlying5 underlying3 (.t rfl) (fun _ => by unfold I64; omega)) rfl <| .yy (ys_subI (.t rfl) Ev.c (fun _ => by unfold I64; omega)) rfl <| .yy (ys_orA 6 (c := 64) (.t rfl) (.t rfl) rfl rfl (fun _ => by omega)) rfl <| .as rfl <| .z) fun a w S => st_nil (in_normal (then_normal (hK3 _ _ (wp_region_lit ?_)))))))))))))
      refine run S (.ad (by unfold I64; omega) rfl <| .mv rfl <| .z) fun a w S => st_nil (then_normal (st_round (sg S (.yy (ys_T (by omega) (ys_lss (.t rfl) Ev.c)) rfl <| .z) fun a w S => wp_seq_k fun _ hK3 => st_then S (.t rfl) (wp_skip (then_normal (hK3 _ _ (wp_seq_k fun _ hK3 => wp_block (sg S (.mv rfl <| .as rfl <| .z) fun a w S => sg S (.mv rfl <| .yy (ys_shlC (m := 6) (c := 64) (.t rfl) Ev.c rfl rfl (fun _ => by unfold I64; omega)) rfl <| .as rfl <| .z) fun a w S => wp_seq_k fun _ hK4 => sg S (.mv rfl <| .mv rfl <| .yy (ys_F (by omega) (ys_geq (.t rfl) (.t rfl))) rfl <| .z) fun a w S => st_else S (.t rfl) (wp_skip (then_normal (hK4 _ _ (sg S (.mv rfl <| .mv rfl <| .yy (ys_ixStr underlying9 (.t rfl) (.t rfl) (fun _ => by assumption)) rfl <| .yy (ys_ixA underlying163 sizeOf5 (.t rfl) (.t rfl) (fun _ => by omega)) rfl <| .yy (ys_ldN ⟨isAgg5, sizeOf5⟩ (.t rfl) (k := 1) rfl (fun _ => by assumption)) rfl <| .as rfl <| .z) fun a w S => wp_seq_k fun _ hK4 => wp_seq_k fun _ hK5 => wp_region_lit ?_))))))))))))
      refine run S (.mv rfl <| .yy (ys_F (by omega) (ys_eql (.t rfl) Ev.c)) rfl <| .z) fun a w S => st_nil (then_normal (hK5 _ _ (st_else S (.t rfl) (wp_skip (then_normal (hK4 _ _ (wp_region_lit (run S (.mv rfl <| .mv rfl <| .yy (ys_cvI underlying5 underlying3 (.t rfl) (fun _ => by unfold I64; omega)) rfl <| .yy (ys_subI (.t rfl) Ev.c (fun _ => by unfold I64; omega)) rfl <| .yy (ys_orA 6 (c := 64) (.t rfl) (.t rfl) rfl rfl (fun _ => by omega)) rfl <| .as rfl <| .z) fun a w S => st_nil (in_normal (then_normal (hK3 _ _ (wp_region_lit (run S (.ad (by unfold I64; omega) rfl <| .mv rfl <| .z) fun a w S => st_nil (then_normal (st_round (sg S (.yy (ys_T (by omega) (ys_lss (.t rfl) Ev.c)) rfl <| .z) fun a w S => wp_seq_k fun _ hK3 => st_then S (.t rfl) (wp_skip (then_normal (hK3 _ _ (wp_seq_k fun _ hK3 => wp_block (sg S (.mv rfl <| .as rfl <| .z) fun a w S => sg S (.mv rfl <| .yy (ys_shlC (m := 6) (c := 64) (.t rfl) Ev.c rfl rfl (fun _ => by unfold I64; omega)) rfl <| .as rfl <| .z) fun a w S => wp_seq_k fun _ hK4 => sg S (.mv rfl <| .mv rfl <| .yy (ys_F (by omega) (ys_geq (.t rfl) (.t rfl))) rfl <| .z) fun a w S => st_else S (.t rfl) (wp_skip ?_))))))))))))))))))))))
      refine then_normal (hK4 _ _ (sg S (.mv rfl <| .mv rfl <| .yy (ys_ixStr underlying9 (.t rfl) (.t rfl) (fun _ => by assumption)) rfl <| .yy (ys_ixA underlying163 sizeOf5 (.t rfl) (.t rfl) (fun _ => by omega)) rfl <| .yy (ys_ldN ⟨isAgg5, sizeOf5⟩ (.t rfl) (k := 1) rfl (fun _ => by assumption)) rfl <| .as rfl <| .z) fun a w S => wp_seq_k fun _ hK4 => sg S (.mv rfl <| .yy (ys_T (by omega) (ys_eql (.t rfl) Ev.c)) rfl <| .z) fun a w S => st_then S (.t rfl) (wp_goto (then_goto (in_goto (then_goto (then_goto (in_goto (then_goto (in_goto (then_goto (in_goto (then_goto ?_)))))))))))))
      refine jump_goto ?_
      exact ⟨hb, S.weak Fits.nil (List.nil_sublist _)⟩
    refine wp_seq_k fun _ hK2 => sg S (.mv rfl <| .yy (ys_lenStr underlying9 (.t rfl)) rfl <| .yy (ys_T (by omega) (ys_gtr (.t rfl) Ev.c)) rfl <| .z) fun a w S => st_then S (.t rfl) (wp_skip (then_normal (hK2 _ _ (wp_block (wp_seq_k fun _ hK2 => wp_region_lit (run S (.mv rfl <| .yy (ys_lenStr underlying9 (.t rfl)) rfl <| .yy (ys_min (.t rfl) Ev.c) rfl <| .z) fun a w S => ?_))))))
    rw [rw_n] at S
    refine run S (.as rfl <| .z) fun a w S => st_nil (then_normal (hK2 _ _ (sg S (.ac rfl <| .z) fun a w S => wp_seq_k fun _ hK2 => sg S (.mc rfl <| .z) fun a w S => wp_block (st_rounds 5 (st_round (sg S (.yy (ys_T (by omega) (ys_lss (.t rfl) Ev.c)) rfl <| .z) fun a w S => wp_seq_k fun _ hK3 => st_then S (.t rfl) (wp_skip (then_normal (hK3 _ _ (wp_seq_k fun _ hK3 => wp_block (sg S (.mv rfl <| .as rfl <| .z) fun a w S => sg S (.mv rfl <| .yy (ys_shlC (m := 6) (c := 64) (.t rfl) Ev.c rfl rfl (fun _ => by unfold I64; omega)) rfl <| .as rfl <| .z) fun a w S => wp_seq_k fun _ hK4 => sg S (.mv rfl <| .mv rfl <| .yy (ys_F (by omega) (ys_geq (.t rfl) (.t rfl))) rfl <| .z) fun a w S => st_else S (.t rfl) (wp_skip (then_normal (hK4 _ _ (wp_seq_k fun _ hK4 => wp_region_lit ?_)))))))))))))))
    refine run S (.mv rfl <| .mv rfl <| .yy (ys_ixStr underlying9 (.t rfl) (.t rfl) (fun _ => by assumption)) rfl <| .yy (ys_ixA underlying163 sizeOf5 (.t rfl) (.t rfl) (fun _ => by omega)) rfl <| .yy (ys_ldN ⟨isAgg5, sizeOf5⟩ (.t rfl) (k := 1) rfl (fun _ => by assumption)) rfl <| .as rfl <| .z) fun a w S => st_nil (then_normal (hK4 _ _ (wp_seq_k fun _ hK4 => sg S (.mv rfl <| .yy (ys_F (by omega) (ys_eql (.t rfl) Ev.c)) rfl <| .z) fun a w S => st_else S (.t rfl) (wp_skip (then_normal (hK4 _ _ (wp_region_lit (run S (.mv rfl <| .mv rfl <| .yy (ys_cvI underlying5 underlying3 (.t rfl) (fun _ => by unfold I64; omega)) rfl <| .yy (ys_subI (.t rfl) Ev.c (fun _ => by unfold I64; omega)) rfl <| .yy (ys_orA 8 (c := 256) (.t rfl) (.t rfl) rfl rfl (fun _ => by omega)) rfl <| .as rfl <| .z) fun a w S => st_nil (in_normal (then_normal (hK3 _ _ (wp_region_lit (run S (.ad (by unfold I64; omega) rfl <| .mv rfl <| .z) fun a w S => st_nil (then_normal (st_round (sg S (.yy (ys_T (by omega) (ys_lss (.t rfl) Ev.c)) rfl <| .z) fun a w S => wp_seq_k fun _ hK3 => st_then S (.t rfl) (wp_skip (then_normal (hK3 _ _ (wp_seq_k fun _ hK3 => wp_block (sg S (.mv rfl <| .as rfl <| .z) fun a w S => wp_seq_k fun _ hK4 => ?_)))))))))))))))))))))
    refine rg S (.mv rfl <| .yy (ys_shlC (m := 6) (c := 64) (.t rfl) Ev.c rfl rfl (fun _ => by unfold I64; omega)) rfl <| .as rfl <| .z) hK4 fun a w S => wp_seq_k fun _ hK4 => sg S (.mv rfl <| .mv rfl <| .yy (ys_F (by omega) (ys_geq (.t rfl) (.t rfl))) rfl <| .z) fun a w S => st_else S (.t rfl) (wp_skip (then_normal (hK4 _ _ (sg S (.mv rfl <| .mv rfl <| .yy (ys_ixStr underlying9 (.t rfl) (.t rfl) (fun _ => by assumption)) rfl <| .yy (ys_ixA underlying163 sizeOf5 (.t rfl) (.t rfl) (fun _ => by omega)) rfl <| .yy (ys_ldN ⟨isAgg5, sizeOf5⟩ (.t rfl) (k := 1) rfl (fun _ => by assumption)) rfl <| .as rfl <| .z) fun a w S => wp_seq_k fun _ hK4 => sg S (.mv rfl <| .yy (ys_F (by omega) (ys_eql (.t rfl) Ev.c)) rfl <| .z) fun a w S => st_else S (.t rfl) (wp_skip (then_normal (hK4 _ _ (wp_region_lit (run S (.mv rfl <| .mv rfl <| .yy (ys_cvI underlying5 underlying3 (.t rfl) (fun _ => by unfold I64; omega)) rfl <| .yy (ys_subI (.t rfl) Ev.c (fun _ => by unfold I64; omega)) rfl <| .yy (ys_orA 6 (c := 64) (.t rfl) (.t rfl) rfl rfl (fun _ => by omega)) rfl <| .as rfl <| .z) fun a w S => st_nil (in_normal (then_normal (hK3 _ _ (wp_region_lit ?_)))))))))))))
    refine run S (.ad (by unfold I64; omega) rfl <| .mv rfl <| .z) fun a w S => st_nil (then_normal (st_round (sg S (.yy (ys_T (by omega) (ys_lss (.t rfl) Ev.c)) rfl <| .z) fun a w S => wp_seq_k fun _ hK3 => st_then S (.t rfl) (wp_skip (then_normal (hK3 _ _ (wp_seq_k fun _ hK3 => wp_block (sg S (.mv rfl <| .as rfl <| .z) fun a w S => sg S (.mv rfl <| .yy (ys_shlC (m := 6) (c := 64) (.t rfl) Ev.c rfl rfl (fun _ => by unfold I64; omega)) rfl <| .as rfl <| .z) fun a w S => wp_seq_k fun _ hK4 => sg S (.mv rfl <| .mv rfl <| .yy (ys_F (by omega) (ys_geq (.t rfl) (.t rfl))) rfl <| .z) fun a w S => st_else S (.t rfl) (wp_skip (then_normal (hK4 _ _ (sg S (.mv rfl <| .mv rfl <| .yy (ys_ixStr underlying9 (.t rfl) (.t rfl) (fun _ => by assumption)) rfl <| .yy (ys_ixA underlying163 sizeOf5 (.t rfl) (.t rfl) (fun _ => by omega)) rfl <| .yy (ys_ldN ⟨isAgg5, sizeOf5⟩ (.t rfl) (k := 1) rfl (fun _ => by assumption)) rfl <| .as rfl <| .z) fun a w S => wp_seq_k fun _ hK4 => wp_seq_k fun _ hK5 => wp_region_lit ?_))))))))))))
    refine run S (.mv rfl <| .yy (ys_F (by omega) (ys_eql (.t rfl) Ev.c)) rfl <| .z) fun a w S => st_nil (then_normal (hK5 _ _ (st_else S (.t rfl) (wp_skip (then_normal (hK4 _ _ (wp_region_lit (run S (.mv rfl <| .mv rfl <| .yy (ys_cvI underlying5 underlying3 (.t rfl) (fun _ => by unfold I64; omega)) rfl <| .yy (ys_subI (.t rfl) Ev.c (fun _ => by unfold I64; omega)) rfl <| .yy (ys_orA 6 (c := 64) (.t rfl) (.t rfl) rfl rfl (fun _ => by omega)) rfl <| .as rfl <| .z) fun a w S => st_nil (in_normal (then_normal (hK3 _ _ (wp_region_lit (run S (.ad (by unfold I64; omega) rfl <| .mv rfl <| .z) fun a w S => st_nil (then_normal (st_round (sg S (.yy (ys_T (by omega) (ys_lss (.t rfl) Ev.c)) rfl <| .z) fun a w S => wp_seq_k fun _ hK3 => st_then S (.t rfl) (wp_skip (then_normal (hK3 _ _ (wp_seq_k fun _ hK3 => wp_block (sg S (.mv rfl <| .as rfl <| .z) fun a w S => sg S (.mv rfl <| .yy (ys_shlC (m := 6) (c := 64) (.t rfl) Ev.c rfl rfl (fun _ => by unfold I64; omega)) rfl <| .as rfl <| .z) fun a w S => wp_seq_k fun _ hK4 => sg S (.mv rfl <| .mv rfl <| .yy (ys_F (by omega) (ys_geq (.t rfl) (.t rfl))) rfl <| .z) fun a w S => st_else S (.t rfl) (wp_skip ?_))))))))))))))))))))))
    refine then_normal (hK4 _ _ (sg S (.mv rfl <| .mv rfl <| .yy (ys_ixStr underlying9 (.t rfl) (.t rfl) (fun _ => by assumption)) rfl <| .yy (ys_ixA underlying163 sizeOf5 (.t rfl) (.t rfl) (fun _ => by omega)) rfl <| .yy (ys_ldN ⟨isAgg5, sizeOf5⟩ (.t rfl) (k := 1) rfl (fun _ => by assumption)) rfl <| .as rfl <| .z) fun a w S => wp_seq_k fun _ hK4 => sg S (.mv rfl <| .yy (ys_F (by omega) (ys_eql (.t rfl) Ev.c)) rfl <| .z) fun a w S => st_else S (.t rfl) (wp_skip (then_normal (hK4 _ _ (wp_region_lit (run S (.mv rfl <| .mv rfl <| .yy (ys_cvI underlying5 underlying3 (.t rfl) (fun _ => by unfold I64; omega)) rfl <| .yy (ys_subI (.t rfl) Ev.c (fun _ => by unfold I64; omega)) rfl <| .yy (ys_orA 6 (c := 64) (.t rfl) (.t rfl) rfl rfl (fun _ => by omega)) rfl <| .as rfl <| .z) fun a w S => st_nil (in_normal (then_normal (hK3 _ _ (wp_region_lit (run S (.ad (by unfold I64; omega) rfl <| .mv rfl <| .z) fun a w S => st_nil (then_normal (st_round (sg S (.yy (ys_F (by omega) (ys_lss (.t rfl) Ev.c)) rfl <| .z) fun a w S => wp_seq_k fun _ hK3 => st_else S (.t rfl) (wp_exit (then_exit (then_exit (in_here (then_normal (hK2 _ _ (wp_seq_k fun _ hK2 => wp_seq_k fun _ hK4 => wp_region_lit ?_))))))))))))))))))))))
    refine run S (.mv rfl <| .yy (ys_F (by omega) (ys_eql (.t rfl) Ev.c)) rfl <| .mv rfl <| .gy rfl rfl (ys_move (.t rfl)) <| .gy rfl rfl (ys_move (.t rfl)) <| .gy rfl rfl (ys_subI Ev.c (.t rfl) (fun _ => by unfold I64; omega)) <| .gy rfl rfl (ys_mulI Ev.c (.t rfl) (fun _ => by unfold I64; omega)) <| .gy rfl rfl (ys_shlC (m := 0) (c := 1) Ev.c (.t rfl) rfl rfl (fun _ => by unfold I64; omega)) <| .gy rfl rfl (ys_pred (.t rfl) Ev.c (by omega)) <| .gy rfl rfl (ys_andM 0 (c := 1) (.t rfl) (.t rfl) rfl rfl rfl (fun _ => by omega)) <| .gy rfl rfl (ys_F (by omega) (ys_neq (.t rfl) Ev.c)) <| .yy (ys_pickF (.t rfl) (.t rfl)) rfl <| .z) fun a w S => st_nil (then_normal (hK4 _ _ (st_else S (.t rfl) (wp_skip (then_normal (hK2 _ _ (wp_seq_k fun _ hK2 => wp_region_lit (run S (.mv rfl <| .yy (ys_shrC (m := 16) (c := 65536) (.t rfl) Ev.c rfl rfl) rfl <| .yy (ys_cvB underlying3 underlying5 (.t rfl)) rfl <| .mv rfl <| .yy (ys_shrC (m := 8) (c := 256) (.t rfl) Ev.c rfl rfl) rfl <| .yy (ys_cvB underlying3 underlying5 (.t rfl)) rfl <| .mv rfl <| .yy (ys_cvB underlying3 underlying5 (.t rfl)) rfl <| .yy (ys_bldA (ps := [(0, Go.Operand.tmp 53), (1, Go.Operand.tmp 56), (2, Go.Operand.tmp 58)]) (us := [_, _, _]) ⟨⟨_, zeroValue161, rfl⟩, _, _, underlying161, sizeOf5⟩ (.cons (.t rfl) (.cons (.t rfl) (.cons (.t rfl) .nil))) rfl) rfl <| .z) fun a w S => ?_))))))))
    refine st_m (op_alloc S zeroValue161 (cs := _) rfl rfl fun g2 a w S => st_m (op_stW S sizeOf161 (.t rfl) (.t rfl) (k := 0) rfl rfl rfl (by simp [Value.oneCell']) fun a w S => st_nil (then_normal (hK2 _ _ (wp_seq_k fun _ hK2 => wp_region_lit (run S (.mv rfl <| .mv rfl <| .yy (ys_pred (.t rfl) Ev.c (by omega)) rfl <| .yy (ys_arrHi underlying161 sizeOf5 (.t rfl) (.t rfl) (fun _ => by first | omega | (simp; done) | (simp; omega))) rfl <| .z) fun a w S => ?_))))))
    refine st_m (op_extend [b8 (((((0 * 64 + ((num64 a1 : Int) - 1)) * 64 + ((num64 b1 : Int) - 1)) * 64 + ((num64 c1 : Int) - 1)) * 64 + ((num64 d1 : Int) - 1)) / 65536), b8 (((((0 * 64 + ((num64 a1 : Int) - 1)) * 64 + ((num64 b1 : Int) - 1)) * 64 + ((num64 c1 : Int) - 1)) * 64 + ((num64 d1 : Int) - 1)) / 256), b8 (((((0 * 64 + ((num64 a1 : Int) - 1)) * 64 + ((num64 b1 : Int) - 1)) * 64 + ((num64 c1 : Int) - 1)) * 64 + ((num64 d1 : Int) - 1)))] S underlying28 underlying28 (.inr ⟨_, rfl⟩) inf5 rfl (k := 1) rfl (.t rfl) (.t rfl)
      (Src.blkN S.wd (k := 0) rfl rfl (by simp) (by simp [Value.oneCell'])) (by simp; omega) rfl rfl rfl ?_)
    clear S
    intro B' cB' a w S
    refine run S (.as rfl <| .z) fun a w S => st_nil (then_normal (hK2 _ _ (wp_region_lit (run S (.mv rfl <| .mv rfl <| .yy (ys_slStrLo underlying9 (.t rfl) (.t rfl) (fun _ => by first | omega | (simp; done) | (simp; omega))) rfl <| .as rfl <| .z) fun a w S => st_nil (in_normal (then_normal ?_))))))
    have hdr : m.drop 4 = r := by rw [hm]; rfl
    exact ⟨(m.drop 4, out ++ [b8 (((((0 * 64 + ((num64 a1 : Int) - 1)) * 64 + ((num64 b1 : Int) - 1)) * 64 + ((num64 c1 : Int) - 1)) * 64 + ((num64 d1 : Int) - 1)) / 65536), b8 (((((0 * 64 + ((num64 a1 : Int) - 1)) * 64 + ((num64 b1 : Int) - 1)) * 64 + ((num64 c1 : Int) - 1)) * 64 + ((num64 d1 : Int) - 1)) / 256), b8 (((((0 * 64 + ((num64 a1 : Int) - 1)) * 64 + ((num64 b1 : Int) - 1)) * 64 + ((num64 c1 : Int) - 1)) * 64 + ((num64 d1 : Int) - 1)))], B', cB'), ⟨by dsimp only; rw [hno, hm, tok_step4 a1 b1 c1 d1 r ha1 hb1 hc1 hd1]; simp [bytes64, Option.map_map, Function.comp_def], by simp; omega⟩, by rw [List.length_drop]; dsimp only; omega, S.wk⟩
theorem c76 (w0 : World) (l : List UInt8) (hn : l.length ≤ 4194304) :
    Rets Tryz.prog 76 #[.string (bs l)] w0 fun v L => ∃ A c, v = .tuple #[.slice A ((bytes64 l).getD []).length c, .bool (bytes64 l).isSome] ∧ L = [rowOf 5 1 encB A c ((bytes64 l).getD [])] :=
  optB_all (k76 w0 l hn)
end Go.Proofs.YtfblmkocmnbdcaaGreat
set_option linter.unusedVariables false
set_option linter.unusedSimpArgs false
set_option maxRecDepth 100000
set_option maxHeartbeats 4000000
namespace Go.Proofs.YtfblmkocmnbdcaaGreat
open Go.Fw Go.Proofs Go.RowKit Go.Proofs.Tryz
theorem le_four (c : Nat) : [b8 (c : Int), b8 ((c : Int) / 256), b8 ((c : Int) / 65536), b8 ((c : Int) / 16777216)] = leN c 4 := by
  have e : ∀ (i : Nat), b8 ((c / 256 ^ i : Nat) : Int) = UInt8.ofNat (c / 256 ^ i % 256) := fun i => by
    have h := b8_val ((c / 256 ^ i : Nat) : Int)
    refine UInt8.toNat_inj.1 ?_
    rw [UInt8.toNat_ofNat']
    omega
  have e0 := e 0
  have e1 := e 1
  have e2 := e 2
  have e3 := e 3
  simp only [Nat.pow_zero, Nat.div_one, Nat.reducePow, Nat.pow_one] at e0 e1 e2 e3
  have d1 : (c : Int) / 256 = ((c / 256 : Nat) : Int) := by omega
  have d2 : (c : Int) / 65536 = ((c / 65536 : Nat) : Int) := by omega
  have d3 : (c : Int) / 16777216 = ((c / 16777216 : Nat) : Int) := by omega
  rw [d1, d2, d3, e0, e1, e2, e3]
  simp [leN]
theorem c72 (w0 : World) (v1 : Value) (l : List UInt8) (h : Sl encB 1 w0 w0.heap.size v1 l) (hl : l.length ≤ 65536) :
    Rets Tryz.prog 72 #[v1] w0 fun v L => ∃ A r, v = .tuple #[.slice A (frameL l).length r, .int .i64 0] ∧ L = [rowOf 5 1 encB A r (frameL l)] := by
  obtain ⟨A, cap, rfl, _⟩ := id h
  have hpl : (putL [] (l.length : Int)).length ≤ 9 := by have := putL_len [] (n := (l.length : Int)) (by omega); simpa using this
  have hcl := crcL_lt l
  unfold Go.Fw.Rets
  refine enter1 func72 rfl ntmps72 rfl fun a S => sg S (.ac rfl <| .ac rfl <| .z) fun a w S => wp_seq_k fun _ hK1 => sg S (.mv rfl <| .ln underlying28 rfl <| .yy (ys_F (by omega) (ys_gtr (.t rfl) Ev.c)) rfl <| .z) fun a w S => st_else S (.t rfl) (wp_skip (then_normal (hK1 _ _ (sg S (.mv rfl <| .xx (ys_call call134 (.cons (.t rfl) .nil) (fun hp w W => c134 _ _ _ (by exact .old W (by assumption)))) rfl <| .as rfl <| .z) fun a w S => wp_seq_k fun _ hK1 => wp_region_lit (run S (.mv rfl <| .ln underlying28 rfl <| .z) fun a w S => ?_)))))
  (refine st_m (op_calls S call53 (.cons Ev.c (.cons (.t rfl) .nil)) (c53 _ _ _ _ (by exact Sl.nil_) (by (simp; done)) (by omega)) rfl ?_); clear S a w; rintro _ _ ⟨A1, c1, rfl, rfl⟩ a w S)
  refine run S (.mv rfl <| .z) fun a w S => st_m (op_extend _ S underlying28 underlying28 (.inr ⟨_, rfl⟩) inf5 rfl (k := 0) rfl (.t rfl) (.t rfl) (Src.sl (Sl.old S.wd h) (by decide) Go.Fw.encB_len Go.Fw.encB_one) (by first | omega | (simp only [List.length_append, List.length_cons, List.length_nil]; omega) | (simp; omega)) rfl rfl rfl fun A2 cap1 a w S => run S (.as rfl <| .z) fun a w S => st_nil (then_normal (hK1 _ _ (wp_seq_k fun _ hK1 => wp_region_lit (run S (.mv rfl <| .mv rfl <| .yy (ys_cvB underlying3 underlying5 (.t rfl)) rfl <| .mv rfl <| .yy (ys_shrC (m := 8) (c := 256) (.t rfl) Ev.c rfl rfl) rfl <| .yy (ys_cvB underlying3 underlying5 (.t rfl)) rfl <| .mv rfl <| .yy (ys_shrC (m := 16) (c := 65536) (.t rfl) Ev.c rfl rfl) rfl <| .yy (ys_cvB underlying3 underlying5 (.t rfl)) rfl <| .mv rfl <| .yy (ys_shrC (m := 24) (c := 16777216) (.t rfl) Ev.c rfl rfl) rfl <| .yy (ys_cvB underlying3 underlying5 (.t rfl)) rfl <| .z) fun a w S => st_m (op_bsliceZ (ps := [(0, Go.Operand.tmp 18), (1, Go.Operand.tmp 21), (2, Go.Operand.tmp 24), (3, Go.Operand.tmp 27)]) (us := [_, _, _, _]) S underlying28 sizeOf5 zeroValue5 rfl rfl (.cons (.t rfl) (.cons (.t rfl) (.cons (.t rfl) (.cons (.t rfl) .nil)))) rfl rfl fun g1 a w S => ?_))))))
  refine st_m (op_extend [b8 (crcL l : Int), b8 ((crcL l : Int) / 256), b8 ((crcL l : Int) / 65536), b8 ((crcL l : Int) / 16777216)] S underlying28 underlying28 (.inr ⟨_, rfl⟩) inf5 rfl (k := 1) rfl (.t rfl) (.t rfl)
      (Src.blkN S.wd (k := 0) rfl rfl (by simp) (by simp [Value.oneCell'])) (by simp; omega) rfl rfl rfl ?_)
  clear S
  intro B cB a w S
  have e : putL [] (l.length : Int) ++ l ++ [b8 (crcL l : Int), b8 ((crcL l : Int) / 256), b8 ((crcL l : Int) / 65536), b8 ((crcL l : Int) / 16777216)] = frameL l := by rw [le_four]; rfl
  rw [e] at S
  refine run S (.as rfl <| .ac rfl <| .z) fun a w S => st_nil (then_normal (hK1 _ _ (wp_ret (st_ret S (results2 S results72 (Rv.tmp rfl) (Rv.tmp rfl)) ?_))))
  exact ⟨_, _, rfl, S.wd.pk, _, _, rfl, rfl⟩
theorem c74 (w0 : World) (v1 : Value) (l : List UInt8) (h : Sl encB 1 w0 w0.heap.size v1 l) (hl : l.length ≤ 65536) :
    Rets Tryz.prog 74 #[v1] w0 fun v L => ∃ A r, v = .tuple #[.slice A (frameL l).length r, .int .i64 0] ∧ L = [rowOf 5 1 encB A r (frameL l)] := by
  obtain ⟨A, cap, rfl, _⟩ := id h
  have hpl : (putL [] (l.length : Int)).length ≤ 9 := by have := putL_len [] (n := (l.length : Int)) (by omega); simpa using this
  have hcl := crcL_lt l
  unfold Go.Fw.Rets
  refine enter1 func74 rfl ntmps74 rfl fun a S => sg S (.ac rfl <| .ac rfl <| .z) fun a w S => wp_seq_k fun _ hK1 => sg S (.mv rfl <| .ln underlying28 rfl <| .yy (ys_F (by omega) (ys_gtr (.t rfl) Ev.c)) rfl <| .z) fun a w S => st_else S (.t rfl) (wp_skip (then_normal (hK1 _ _ (wp_seq_k fun _ hK1 => wp_region_lit (run S (.mv rfl <| .ln underlying28 rfl <| .z) fun a w S => ?_)))))
  (refine st_m (op_calls S call69 (.cons Ev.c (.cons (.t rfl) .nil)) (c69 _ _ _ _ (by exact Sl.nil_) (by (simp; done)) (by omega)) rfl ?_); clear S a w; rintro _ _ ⟨A1, c1, rfl, rfl⟩ a w S)
  refine run S (.mv rfl <| .z) fun a w S => st_m (op_extend _ S underlying28 underlying28 (.inr ⟨_, rfl⟩) inf5 rfl (k := 0) rfl (.t rfl) (.t rfl) (Src.sl (Sl.old S.wd h) (by decide) Go.Fw.encB_len Go.Fw.encB_one) (by first | omega | (simp only [List.length_append, List.length_cons, List.length_nil]; omega) | (simp; omega)) rfl rfl rfl fun A2 cap1 a w S => run S (.as rfl <| .z) fun a w S => st_nil (then_normal (hK1 _ _ (sg S (.mv rfl <| .xx (ys_call call135 (.cons (.t rfl) .nil) (fun hp w W => c135 _ _ _ (by exact .old W (by assumption)))) rfl <| .as rfl <| .z) fun a w S => wp_seq_k fun _ hK1 => sg S (.mc rfl <| .z) fun a w S => wp_block ?_))))
  have hF : putL [] (l.length : Int) ++ l ++ leN (crcL l) 0 = putL [] (l.length : Int) ++ l := List.append_nil _
  have hc0 : (crcL l : Int) = ((crcL l / 256 ^ 0 : Nat) : Int) := by simp
  rw [← hF, hc0] at S
  refine st_lpM S [4, 5, 16] (X := Nat × Option Addr × Nat) (fun q => [(4, true, .slice q.2.1 (putL [] (l.length : Int) ++ l ++ leN (crcL l) q.1).length q.2.2), (5, true, .int .i64 ((crcL l / 256 ^ q.1 : Nat) : Int)), (16, true, .int .i64 (q.1 : Int))])
    (fun q => [rowOf 5 1 encB q.2.1 q.2.2 (putL [] (l.length : Int) ++ l ++ leN (crcL l) q.1)]) (fun q => q.1 ≤ 4) (fun q => 4 - q.1) (0, _, _) (Nat.zero_le _) ?_
  clear S
  rintro ⟨i, F, cF⟩ a w hi S
  dsimp only at hi S
  have hll : (putL [] (l.length : Int) ++ l ++ leN (crcL l) i).length = (putL [] (l.length : Int)).length + l.length + i := by rw [List.length_append, leN_len, List.length_append]
  have hdv : crcL l / 256 ^ i ≤ crcL l := Nat.div_le_self _ _
  by_cases hi4 : i < 4
  · have hst : crcL l / 256 ^ (i + 1) = crcL l / 256 ^ i / 256 := by rw [Nat.pow_succ, Nat.div_div_eq_div_mul]
    generalize hd : crcL l / 256 ^ i = d at S hst hdv
    have rw_i : (i : Int) + 1 = ((i + 1 : Nat) : Int) := rfl
    have rw_d : (d : Int) / 256 = ((d / 256 : Nat) : Int) := by omega
    have rw_m : (d : Int) % 256 = ((d % 256 : Nat) : Int) := by omega
    refine sg S (.yy (ys_T (by omega) (ys_lss (.t rfl) Ev.c)) rfl <| .z) fun a w S => wp_seq_k fun _ hK2 => st_then S (.t rfl) (wp_skip (then_normal (hK2 _ _ (wp_seq_k fun _ hK2 => wp_block (wp_seq_k fun _ hK3 => wp_region_lit (run S (.mv rfl <| .mv rfl <| .yy (ys_remE (.t rfl) Ev.c (fun _ => by omega)) rfl <| .z) fun a w S => ?_))))))
    rw [rw_m] at S
    refine run S (.yy (ys_cvB underlying3 underlying5 (.t rfl)) rfl <| .z) fun a w S => st_m (op_bslice1 S underlying28 inf5 rfl rfl rfl (.t rfl) rfl rfl rfl fun g1 a w S => st_m (op_push S underlying28 inf5 rfl (k := 1) (j := 0) rfl (.t rfl) (.t rfl) rfl rfl rfl rfl (by first | omega | (simp only [List.length_append, List.length_cons, List.length_nil]; omega)) rfl rfl rfl fun A3 cap2 a w S => run S (.as rfl <| .z) fun a w S => st_nil (then_normal (hK3 _ _ (wp_region_lit (run S (.mv rfl <| .yy (ys_quoE (.t rfl) Ev.c (fun _ => by omega)) rfl <| .z) fun a w S => ?_))))))
    rw [rw_d] at S
    refine run S (.as rfl <| .z) fun a w S => st_nil (in_normal (then_normal (hK2 _ _ (wp_region_lit (run S (.ad (by unfold I64; omega) rfl <| .z) fun a w S => ?_)))))
    rw [rw_i] at S
    refine run S (.mv rfl <| .z) fun a w S => st_nil (then_normal ?_)
    have eb : b8 ((d % 256 : Nat) : Int) = UInt8.ofNat (crcL l / 256 ^ i % 256) := by
      rw [hd]
      refine UInt8.toNat_inj.1 ?_
      have := b8_val ((d % 256 : Nat) : Int)
      rw [UInt8.toNat_ofNat']
      omega
    rw [eb, List.append_assoc (putL [] (l.length : Int) ++ l), show leN (crcL l) i ++ [UInt8.ofNat (crcL l / 256 ^ i % 256)] = leN (crcL l) (i + 1) from rfl, ← hst] at S
    exact ⟨(i + 1, A3, cap2), by dsimp only; omega, by dsimp only; omega, S.pk⟩
  obtain rfl : i = 4 := by omega
  have e : putL [] (l.length : Int) ++ l ++ leN (crcL l) 4 = frameL l := rfl
  rw [e] at S
  refine sg S (.yy (ys_F (by omega) (ys_lss (.t rfl) Ev.c)) rfl <| .z) fun a w S => wp_seq_k fun _ hK2 => st_else S (.t rfl) (wp_exit (then_exit (then_exit (in_here (then_normal (hK1 _ _ (sg S (.mv rfl <| .as rfl <| .ac rfl <| .z) fun a w S => wp_ret (st_ret S (results2 S results74 (Rv.tmp rfl) (Rv.tmp rfl)) ?_))))))))
  exact ⟨_, _, rfl, S.wd.pk, _, _, rfl, rfl⟩
end Go.Proofs.YtfblmkocmnbdcaaGreat
set_option linter.unusedVariables false
set_option linter.unusedSimpArgs false
set_option maxRecDepth 100000
set_option maxHeartbeats 4000000
namespace Go.Proofs.YtfblmkocmnbdcaaGreat
open Go.Fw Go.Proofs Go.RowKit Go.Proofs.Tryz
theorem c163 {w0 w : World} {L : List Chunk} {g cap k : Nat} {A : Option Addr} {b : List UInt8} (W : Wd w0 (rdr g A cap b k L) w) (hk : k ≤ b.length) (hb : b.length ≤ 16777216) :
    RetsO Tryz.prog 163 #[.pointer (some ⟨g, 0, none⟩), .int .i64 64] w0 w (fun v L' => ∃ B c, v = .tuple #[.slice B (listAt b k).1.length c, .int .i64 (listAt b k).2.2] ∧ L' = rdr g A cap b (listAt b k).2.1 (rowOf 58 3 Dot.enc B c (listAt b k).1 :: L)) := by
  have hv := numAt_val b k
  have hp := numAt_le hk
  by_cases he : (numAt b k).2.2 = 0
  · by_cases h64 : 64 < (numAt b k).1
    · unfold Go.Fw.RetsO
      refine enterW2 W func163 rfl ntmps163 rfl fun a S => sg S (.ac rfl <| .ac rfl <| .z) fun a w S => wp_seq_k fun _ hK1 => wp_region_lit (run S (.mv rfl <| .z) fun a w S => ?_)
      (refine st_m (op_callO S call57 (.cons (.t rfl) .nil) (c57 S.wd (by first | assumption | omega | (dsimp only; omega) | exact Sl.nil_ | exact .old S.wd (by assumption) | exact Sl.of_own S.wd (k := 0) rfl (fun _ => rfl) | exact Sl.of_own S.wd (k := 1) rfl (fun _ => rfl) | (simp at *; omega)) (by first | assumption | omega | (dsimp only; omega) | exact Sl.nil_ | exact .old S.wd (by assumption) | exact Sl.of_own S.wd (k := 0) rfl (fun _ => rfl) | exact Sl.of_own S.wd (k := 1) rfl (fun _ => rfl) | (simp at *; omega))) rfl ?_) <;> clear S a w)
      rintro _ _ ⟨rfl, rfl⟩ a w S
      refine run S (.mv rfl <| .ex rfl rfl <| .ex rfl rfl <| .as rfl <| .as rfl <| .z) fun a w S => st_nil (then_normal (hK1 _ _ (wp_seq_k fun _ hK1 => sg S (.mv rfl <| .yy (ys_F (by omega) (ys_neq (.t rfl) Ev.c)) rfl <| .z) fun a w S => st_else S (.t rfl) (wp_skip (then_normal (hK1 _ _ (wp_seq_k fun _ hK1 => sg S (.mv rfl <| .mv rfl <| .yy (ys_T (by omega) (ys_gtr (.t rfl) (.t rfl))) rfl <| .z) fun a w S => st_then S (.t rfl) (sg S (.ac rfl <| .ac rfl <| .z) fun a w S => wp_ret (then_ret (st_ret S (results2 S results163 (Rv.tmp rfl) (Rv.tmp rfl)) ?_))))))))))
      rw [show listAt b k = ([], (numAt b k).2.1, 4) by unfold listAt; rw [bindR_ok he, if_pos h64]]
      exact ⟨_, _, rfl, (S.nil_ 58 3 Dot.enc none).wd.pk, none, 0, rfl, rfl⟩
    · obtain ⟨n, hn⟩ : ∃ n : Nat, (numAt b k).1 = (n : Int) := ⟨(numAt b k).1.toNat, by omega⟩
      have hla : listAt b k = dotsAt b n [] (numAt b k).2.1 := by unfold listAt; rw [bindR_ok he, if_neg h64, hn]; rfl
      have hn64 : n ≤ 64 := by omega
      have rw_n := hn
      unfold Go.Fw.RetsO
      refine enterW2 W func163 rfl ntmps163 rfl fun a S => sg S (.ac rfl <| .ac rfl <| .z) fun a w S => wp_seq_k fun _ hK1 => wp_region_lit (run S (.mv rfl <| .z) fun a w S => ?_)
      (refine st_m (op_callO S call57 (.cons (.t rfl) .nil) (c57 S.wd (by first | assumption | omega | (dsimp only; omega) | exact Sl.nil_ | exact .old S.wd (by assumption) | exact Sl.of_own S.wd (k := 0) rfl (fun _ => rfl) | exact Sl.of_own S.wd (k := 1) rfl (fun _ => rfl) | (simp at *; omega)) (by first | assumption | omega | (dsimp only; omega) | exact Sl.nil_ | exact .old S.wd (by assumption) | exact Sl.of_own S.wd (k := 0) rfl (fun _ => rfl) | exact Sl.of_own S.wd (k := 1) rfl (fun _ => rfl) | (simp at *; omega))) rfl ?_) <;> clear S a w)
      rintro _ _ ⟨rfl, rfl⟩ a w S
      rw [rw_n] at S
      refine run S (.mv rfl <| .ex rfl rfl <| .ex rfl rfl <| .as rfl <| .as rfl <| .z) fun a w S => st_nil (then_normal (hK1 _ _ (wp_seq_k fun _ hK1 => sg S (.mv rfl <| .yy (ys_F (by omega) (ys_neq (.t rfl) Ev.c)) rfl <| .z) fun a w S => st_else S (.t rfl) (wp_skip (then_normal (hK1 _ _ (wp_seq_k fun _ hK1 => sg S (.mv rfl <| .mv rfl <| .yy (ys_F (by omega) (ys_gtr (.t rfl) (.t rfl))) rfl <| .z) fun a w S => st_else S (.t rfl) (wp_skip (then_normal (hK1 _ _ (sg S (.ac rfl <| .z) fun a w S => wp_seq_k fun _ hK1 => sg S (.mv rfl <| .mc rfl <| .z) fun a w S => wp_block ?_)))))))))))
      refine st_lpM (S.nil_ 58 3 Dot.enc none) [7] (X := Nat × Nat × List Dot × Option Addr × Nat) (fun q => [(24, true, .int .i64 (q.1 : Int)), (8, true, .slice q.2.2.2.1 q.2.2.1.length q.2.2.2.2)]) (fun q => rowOf 58 3 Dot.enc q.2.2.2.1 q.2.2.2.2 q.2.2.1 :: rdr g A cap b q.2.1 L)
        (fun q => q.1 ≤ n ∧ q.2.1 ≤ b.length ∧ q.2.2.1.length = q.1 ∧ dotsAt b (n - q.1) q.2.2.1 q.2.1 = dotsAt b n [] (numAt b k).2.1) (fun q => n - q.1) (0, (numAt b k).2.1, [], none, 0) ⟨Nat.zero_le _, hp.2, rfl, rfl⟩ ?_
      clear S
      intro ⟨i, k', acc, D, cD⟩ a w ⟨hi, hk', hlen, hno⟩ S
      dsimp only at hi hk' hlen hno S
      by_cases hlt : i < n
      · rw [show n - i = (n - (i + 1)) + 1 by omega, dotsAt] at hno
        refine sg S (.lt (by omega) rfl rfl <| .z) fun a w S => wp_seq_k fun _ hK2 => st_then S (.t rfl) (wp_skip (then_normal (hK2 _ _ (wp_seq_k fun _ hK2 => wp_block (wp_seq_k fun _ hK3 => wp_region_lit (st_m (op_alloc S zeroValue58 (cs := _) rfl rfl fun g1 a w S => st_nil (then_normal (hK3 _ _ (wp_seq_k fun _ hK3 => wp_seq_k fun _ hK4 => wp_region_lit (run S (.fa underlying58 sizeOf3 0 rfl rfl rfl <| .fa underlying58 sizeOf3 1 rfl rfl rfl <| .fa underlying58 sizeOf3 2 rfl rfl rfl <| .z) fun a w S => st_m (op_bsliceZ (ps := [(0, Go.Operand.tmp 26), (1, Go.Operand.tmp 27), (2, Go.Operand.tmp 28)]) (us := [_, _, _]) S underlying149 sizeOf148 zeroValue148 rfl rfl (.cons (.t rfl) (.cons (.t rfl) (.cons (.t rfl) .nil))) rfl rfl fun g2 a w S => run S (.ln underlying149 rfl <| .mc rfl <| .z) fun a w S => st_nil (then_normal (hK4 _ _ (wp_block ?_)))))))))))))))
        have hp1 := numAt_le hk'
        by_cases e1 : (numAt b k').2.2 = 0
        · refine st_rounds 4 (st_round (sg S (.lt (by omega) rfl rfl <| .z) fun a w S => wp_seq_k fun _ hK4 => st_then S (.t rfl) (wp_skip (then_normal (hK4 _ _ (wp_seq_k fun _ hK4 => wp_block (sg S (.yy (ys_ixS (j := 0) underlying149 sizeOf148 (.t rfl) (.t rfl) (fun _ => by omega)) rfl <| .ld gt148 0 rfl rfl rfl <| .as rfl <| .z) fun a w S => wp_seq_k fun _ hK5 => wp_region_lit (run S (.mv rfl <| .mv rfl <| .z) fun a w S => ?_))))))))
          (replace S := S.pull 4 rfl; try simp only [List.set_cons_zero, List.set_cons_succ, List.eraseIdx_cons_succ, List.eraseIdx_cons_zero] at S; replace S := S.pull 4 rfl; try simp only [List.set_cons_zero, List.set_cons_succ, List.eraseIdx_cons_succ, List.eraseIdx_cons_zero] at S; refine st_m (op_callO S call57 (.cons (.t rfl) .nil) (c57 S.wd (by first | assumption | omega | (dsimp only; omega) | exact Sl.nil_ | exact .old S.wd (by assumption) | exact Sl.of_own S.wd (k := 0) rfl (fun _ => rfl) | exact Sl.of_own S.wd (k := 1) rfl (fun _ => rfl) | exact Sl.of_own S.wd (k := 2) rfl (fun _ => rfl) | exact Sl.of_own S.wd (k := 3) rfl (fun _ => rfl) | exact Sl.of_own S.wd (k := 4) rfl (fun _ => rfl) | (simp at *; omega)) (by first | assumption | omega | (dsimp only; omega) | exact Sl.nil_ | exact .old S.wd (by assumption) | exact Sl.of_own S.wd (k := 0) rfl (fun _ => rfl) | exact Sl.of_own S.wd (k := 1) rfl (fun _ => rfl) | exact Sl.of_own S.wd (k := 2) rfl (fun _ => rfl) | exact Sl.of_own S.wd (k := 3) rfl (fun _ => rfl) | exact Sl.of_own S.wd (k := 4) rfl (fun _ => rfl) | (simp at *; omega))) rfl ?_) <;> clear S a w)
          rintro _ _ ⟨rfl, rfl⟩ a w S
          refine run S (.mv rfl <| .ex rfl rfl <| .ex rfl rfl <| .yy (ys_nilc (.t rfl)) rfl <| .z) fun a w S => st_m (op_st S sizeOf3 (.t rfl) (.t rfl) (k := 3) rfl rfl (by simp) fun a w S => run S (.as rfl <| .z) fun a w S => st_nil (then_normal (hK5 _ _ (sg S (.mv rfl <| .yy (ys_F (by omega) (ys_neq (.t rfl) Ev.c)) rfl <| .z) fun a w S => st_else S (.t rfl) (wp_skip (in_normal (then_normal (hK4 _ _ (wp_region_lit (run S (.ad (by unfold I64; omega) rfl <| .mv rfl <| .z) fun a w S => st_nil (then_normal (st_round ?_))))))))))))
          have hp2 := numAt_le hp1.2
          by_cases e2 : (numAt b (numAt b k').2.1).2.2 = 0
          · refine sg S (.lt (by omega) rfl rfl <| .z) fun a w S => wp_seq_k fun _ hK4 => st_then S (.t rfl) (wp_skip (then_normal (hK4 _ _ (wp_seq_k fun _ hK4 => wp_block (sg S (.yy (ys_ixS (j := 1) underlying149 sizeOf148 (.t rfl) (.t rfl) (fun _ => by omega)) rfl <| .ld gt148 2 rfl rfl rfl <| .as rfl <| .z) fun a w S => wp_seq_k fun _ hK5 => wp_region_lit (run S (.mv rfl <| .mv rfl <| .z) fun a w S => ?_))))))
            (refine st_m (op_callO S call57 (.cons (.t rfl) .nil) (c57 S.wd (by first | assumption | omega | (dsimp only; omega) | exact Sl.nil_ | exact .old S.wd (by assumption) | exact Sl.of_own S.wd (k := 0) rfl (fun _ => rfl) | exact Sl.of_own S.wd (k := 1) rfl (fun _ => rfl) | exact Sl.of_own S.wd (k := 2) rfl (fun _ => rfl) | exact Sl.of_own S.wd (k := 3) rfl (fun _ => rfl) | exact Sl.of_own S.wd (k := 4) rfl (fun _ => rfl) | (simp at *; omega)) (by first | assumption | omega | (dsimp only; omega) | exact Sl.nil_ | exact .old S.wd (by assumption) | exact Sl.of_own S.wd (k := 0) rfl (fun _ => rfl) | exact Sl.of_own S.wd (k := 1) rfl (fun _ => rfl) | exact Sl.of_own S.wd (k := 2) rfl (fun _ => rfl) | exact Sl.of_own S.wd (k := 3) rfl (fun _ => rfl) | exact Sl.of_own S.wd (k := 4) rfl (fun _ => rfl) | (simp at *; omega))) rfl ?_) <;> clear S a w)
            rintro _ _ ⟨rfl, rfl⟩ a w S
            refine run S (.mv rfl <| .ex rfl rfl <| .ex rfl rfl <| .yy (ys_nilc (.t rfl)) rfl <| .z) fun a w S => st_m (op_st S sizeOf3 (.t rfl) (.t rfl) (k := 3) rfl rfl (by simp) fun a w S => run S (.as rfl <| .z) fun a w S => st_nil (then_normal (hK5 _ _ (sg S (.mv rfl <| .yy (ys_F (by omega) (ys_neq (.t rfl) Ev.c)) rfl <| .z) fun a w S => st_else S (.t rfl) (wp_skip (in_normal (then_normal (hK4 _ _ (wp_region_lit (run S (.ad (by unfold I64; omega) rfl <| .mv rfl <| .z) fun a w S => st_nil (then_normal (st_round ?_))))))))))))
            have hp3 := numAt_le hp2.2
            by_cases e3 : (numAt b (numAt b (numAt b k').2.1).2.1).2.2 = 0
            · refine sg S (.lt (by omega) rfl rfl <| .z) fun a w S => wp_seq_k fun _ hK4 => st_then S (.t rfl) (wp_skip (then_normal (hK4 _ _ (wp_seq_k fun _ hK4 => wp_block (sg S (.yy (ys_ixS (j := 2) underlying149 sizeOf148 (.t rfl) (.t rfl) (fun _ => by omega)) rfl <| .ld gt148 2 rfl rfl rfl <| .as rfl <| .z) fun a w S => wp_seq_k fun _ hK5 => wp_region_lit (run S (.mv rfl <| .mv rfl <| .z) fun a w S => ?_))))))
              (refine st_m (op_callO S call57 (.cons (.t rfl) .nil) (c57 S.wd (by first | assumption | omega | (dsimp only; omega) | exact Sl.nil_ | exact .old S.wd (by assumption) | exact Sl.of_own S.wd (k := 0) rfl (fun _ => rfl) | exact Sl.of_own S.wd (k := 1) rfl (fun _ => rfl) | exact Sl.of_own S.wd (k := 2) rfl (fun _ => rfl) | exact Sl.of_own S.wd (k := 3) rfl (fun _ => rfl) | exact Sl.of_own S.wd (k := 4) rfl (fun _ => rfl) | (simp at *; omega)) (by first | assumption | omega | (dsimp only; omega) | exact Sl.nil_ | exact .old S.wd (by assumption) | exact Sl.of_own S.wd (k := 0) rfl (fun _ => rfl) | exact Sl.of_own S.wd (k := 1) rfl (fun _ => rfl) | exact Sl.of_own S.wd (k := 2) rfl (fun _ => rfl) | exact Sl.of_own S.wd (k := 3) rfl (fun _ => rfl) | exact Sl.of_own S.wd (k := 4) rfl (fun _ => rfl) | (simp at *; omega))) rfl ?_) <;> clear S a w)
              rintro _ _ ⟨rfl, rfl⟩ a w S
              refine run S (.mv rfl <| .ex rfl rfl <| .ex rfl rfl <| .yy (ys_nilc (.t rfl)) rfl <| .z) fun a w S => st_m (op_st S sizeOf3 (.t rfl) (.t rfl) (k := 3) rfl rfl (by simp) fun a w S => run S (.as rfl <| .z) fun a w S => st_nil (then_normal (hK5 _ _ (sg S (.mv rfl <| .yy (ys_F (by omega) (ys_neq (.t rfl) Ev.c)) rfl <| .z) fun a w S => st_else S (.t rfl) (wp_skip (in_normal (then_normal (hK4 _ _ (wp_region_lit (run S (.ad (by unfold I64; omega) rfl <| .mv rfl <| .z) fun a w S => st_nil (then_normal (st_round ?_))))))))))))
              have hd : dotAt b k' = (⟨(numAt b k').1, (numAt b (numAt b k').2.1).1, (numAt b (numAt b (numAt b k').2.1).2.1).1⟩, (numAt b (numAt b (numAt b k').2.1).2.1).2.1, 0) := by unfold dotAt; rw [bindR_ok e1, bindR_ok e2, bindR_ok e3]
              rw [hd, bindR_ok rfl] at hno
              refine sg S (.ge (by omega) rfl rfl <| .z) fun a w S => wp_seq_k fun _ hK4 => st_else S (.t rfl) (wp_exit (then_exit (then_exit (in_here (then_normal (hK3 _ _ (wp_region_lit (run S (.mv rfl <| .la gt58 3 rfl rfl rfl <| .z) fun a w S => st_m (op_bslice1 S underlying35 inf58 rfl rfl rfl (.t rfl) rfl rfl rfl fun g3 a w S => st_m (op_push S underlying35 inf58 rfl (k := 5) (j := 0) rfl (.t rfl) (.t rfl) rfl Go.Fw.Dot.mkEnc rfl rfl (by first | omega | (simp only [List.length_append, List.length_cons, List.length_nil]; omega)) rfl rfl rfl fun A1 cap1 a w S => run S (.as rfl <| .z) fun a w S => st_nil (in_normal (then_normal (hK2 _ _ (wp_region_lit (run S (.ad (by unfold I64; omega) rfl <| .mv rfl <| .z) fun a w S => st_nil (then_normal ?_))))))))))))))))
              exact ⟨(i + 1, (numAt b (numAt b (numAt b k').2.1).2.1).2.1, acc ++ [⟨(numAt b k').1, (numAt b (numAt b k').2.1).1, (numAt b (numAt b (numAt b k').2.1).2.1).1⟩], A1, cap1), ⟨by dsimp only; omega, hp3.2, by simp [hlen], hno⟩, by dsimp only; omega, S.pk⟩
            · have hd : dotAt b k' = (⟨0, 0, 0⟩, (numAt b (numAt b (numAt b k').2.1).2.1).2.1, (numAt b (numAt b (numAt b k').2.1).2.1).2.2) := by unfold dotAt; rw [bindR_ok e1, bindR_ok e2, bindR_bad e3]
              rw [hd, bindR_bad' e3] at hno
              refine sg S (.lt (by omega) rfl rfl <| .z) fun a w S => wp_seq_k fun _ hK4 => st_then S (.t rfl) (wp_skip (then_normal (hK4 _ _ (wp_seq_k fun _ hK4 => wp_block (sg S (.yy (ys_ixS (j := 2) underlying149 sizeOf148 (.t rfl) (.t rfl) (fun _ => by omega)) rfl <| .ld gt148 2 rfl rfl rfl <| .as rfl <| .z) fun a w S => wp_seq_k fun _ hK5 => wp_region_lit (run S (.mv rfl <| .mv rfl <| .z) fun a w S => ?_))))))
              (refine st_m (op_callO S call57 (.cons (.t rfl) .nil) (c57 S.wd (by first | assumption | omega | (dsimp only; omega) | exact Sl.nil_ | exact .old S.wd (by assumption) | exact Sl.of_own S.wd (k := 0) rfl (fun _ => rfl) | exact Sl.of_own S.wd (k := 1) rfl (fun _ => rfl) | exact Sl.of_own S.wd (k := 2) rfl (fun _ => rfl) | exact Sl.of_own S.wd (k := 3) rfl (fun _ => rfl) | exact Sl.of_own S.wd (k := 4) rfl (fun _ => rfl) | (simp at *; omega)) (by first | assumption | omega | (dsimp only; omega) | exact Sl.nil_ | exact .old S.wd (by assumption) | exact Sl.of_own S.wd (k := 0) rfl (fun _ => rfl) | exact Sl.of_own S.wd (k := 1) rfl (fun _ => rfl) | exact Sl.of_own S.wd (k := 2) rfl (fun _ => rfl) | exact Sl.of_own S.wd (k := 3) rfl (fun _ => rfl) | exact Sl.of_own S.wd (k := 4) rfl (fun _ => rfl) | (simp at *; omega))) rfl ?_) <;> clear S a w)
              rintro _ _ ⟨rfl, rfl⟩ a w S
              refine run S (.mv rfl <| .ex rfl rfl <| .ex rfl rfl <| .yy (ys_nilc (.t rfl)) rfl <| .z) fun a w S => st_m (op_st S sizeOf3 (.t rfl) (.t rfl) (k := 3) rfl rfl (by simp) fun a w S => run S (.as rfl <| .z) fun a w S => st_nil (then_normal (hK5 _ _ (sg S (.mv rfl <| .yy (ys_T (by omega) (ys_neq (.t rfl) Ev.c)) rfl <| .z) fun a w S => st_then S (.t rfl) (sg S (.mv rfl <| .ac rfl <| .as rfl <| .z) fun a w S => wp_ret (in_ret (then_ret (then_ret (in_ret (then_ret (in_ret (then_ret (then_ret (in_ret (then_ret (st_ret S (results2 S results163 (Rv.tmp rfl) (Rv.tmp rfl)) ?_))))))))))))))))
              rw [hla, ← hno]
              exact ⟨_, _, rfl, (S.nil_ 58 3 Dot.enc none).wd.pk, none, 0, rfl, rfl⟩
          · have hd : dotAt b k' = (⟨0, 0, 0⟩, (numAt b (numAt b k').2.1).2.1, (numAt b (numAt b k').2.1).2.2) := by unfold dotAt; rw [bindR_ok e1, bindR_bad e2]
            rw [hd, bindR_bad' e2] at hno
            refine sg S (.lt (by omega) rfl rfl <| .z) fun a w S => wp_seq_k fun _ hK4 => st_then S (.t rfl) (wp_skip (then_normal (hK4 _ _ (wp_seq_k fun _ hK4 => wp_block (sg S (.yy (ys_ixS (j := 1) underlying149 sizeOf148 (.t rfl) (.t rfl) (fun _ => by omega)) rfl <| .ld gt148 2 rfl rfl rfl <| .as rfl <| .z) fun a w S => wp_seq_k fun _ hK5 => wp_region_lit (run S (.mv rfl <| .mv rfl <| .z) fun a w S => ?_))))))
            (refine st_m (op_callO S call57 (.cons (.t rfl) .nil) (c57 S.wd (by first | assumption | omega | (dsimp only; omega) | exact Sl.nil_ | exact .old S.wd (by assumption) | exact Sl.of_own S.wd (k := 0) rfl (fun _ => rfl) | exact Sl.of_own S.wd (k := 1) rfl (fun _ => rfl) | exact Sl.of_own S.wd (k := 2) rfl (fun _ => rfl) | exact Sl.of_own S.wd (k := 3) rfl (fun _ => rfl) | exact Sl.of_own S.wd (k := 4) rfl (fun _ => rfl) | (simp at *; omega)) (by first | assumption | omega | (dsimp only; omega) | exact Sl.nil_ | exact .old S.wd (by assumption) | exact Sl.of_own S.wd (k := 0) rfl (fun _ => rfl) | exact Sl.of_own S.wd (k := 1) rfl (fun _ => rfl) | exact Sl.of_own S.wd (k := 2) rfl (fun _ => rfl) | exact Sl.of_own S.wd (k := 3) rfl (fun _ => rfl) | exact Sl.of_own S.wd (k := 4) rfl (fun _ => rfl) | (simp at *; omega))) rfl ?_) <;> clear S a w)
            rintro _ _ ⟨rfl, rfl⟩ a w S
            refine run S (.mv rfl <| .ex rfl rfl <| .ex rfl rfl <| .yy (ys_nilc (.t rfl)) rfl <| .z) fun a w S => st_m (op_st S sizeOf3 (.t rfl) (.t rfl) (k := 3) rfl rfl (by simp) fun a w S => run S (.as rfl <| .z) fun a w S => st_nil (then_normal (hK5 _ _ (sg S (.mv rfl <| .yy (ys_T (by omega) (ys_neq (.t rfl) Ev.c)) rfl <| .z) fun a w S => st_then S (.t rfl) (sg S (.mv rfl <| .ac rfl <| .as rfl <| .z) fun a w S => wp_ret (in_ret (then_ret (then_ret (in_ret (then_ret (in_ret (then_ret (then_ret (in_ret (then_ret (st_ret S (results2 S results163 (Rv.tmp rfl) (Rv.tmp rfl)) ?_))))))))))))))))
            rw [hla, ← hno]
            exact ⟨_, _, rfl, (S.nil_ 58 3 Dot.enc none).wd.pk, none, 0, rfl, rfl⟩
        · refine st_rounds 4 (st_round ?_)
          have hd : dotAt b k' = (⟨0, 0, 0⟩, (numAt b k').2.1, (numAt b k').2.2) := by unfold dotAt; rw [bindR_bad e1]
          rw [hd, bindR_bad' e1] at hno
          refine sg S (.lt (by omega) rfl rfl <| .z) fun a w S => wp_seq_k fun _ hK4 => st_then S (.t rfl) (wp_skip (then_normal (hK4 _ _ (wp_seq_k fun _ hK4 => wp_block (sg S (.yy (ys_ixS (j := 0) underlying149 sizeOf148 (.t rfl) (.t rfl) (fun _ => by omega)) rfl <| .ld gt148 0 rfl rfl rfl <| .as rfl <| .z) fun a w S => wp_seq_k fun _ hK5 => wp_region_lit (run S (.mv rfl <| .mv rfl <| .z) fun a w S => ?_))))))
          (replace S := S.pull 4 rfl; try simp only [List.set_cons_zero, List.set_cons_succ, List.eraseIdx_cons_succ, List.eraseIdx_cons_zero] at S; replace S := S.pull 4 rfl; try simp only [List.set_cons_zero, List.set_cons_succ, List.eraseIdx_cons_succ, List.eraseIdx_cons_zero] at S; refine st_m (op_callO S call57 (.cons (.t rfl) .nil) (c57 S.wd (by first | assumption | omega | (dsimp only; omega) | exact Sl.nil_ | exact .old S.wd (by assumption) | exact Sl.of_own S.wd (k := 0) rfl (fun _ => rfl) | exact Sl.of_own S.wd (k := 1) rfl (fun _ => rfl) | exact Sl.of_own S.wd (k := 2) rfl (fun _ => rfl) | exact Sl.of_own S.wd (k := 3) rfl (fun _ => rfl) | exact Sl.of_own S.wd (k := 4) rfl (fun _ => rfl) | (simp at *; omega)) (by first | assumption | omega | (dsimp only; omega) | exact Sl.nil_ | exact .old S.wd (by assumption) | exact Sl.of_own S.wd (k := 0) rfl (fun _ => rfl) | exact Sl.of_own S.wd (k := 1) rfl (fun _ => rfl) | exact Sl.of_own S.wd (k := 2) rfl (fun _ => rfl) | exact Sl.of_own S.wd (k := 3) rfl (fun _ => rfl) | exact Sl.of_own S.wd (k := 4) rfl (fun _ => rfl) | (simp at *; omega))) rfl ?_) <;> clear S a w)
          rintro _ _ ⟨rfl, rfl⟩ a w S
          refine run S (.mv rfl <| .ex rfl rfl <| .ex rfl rfl <| .yy (ys_nilc (.t rfl)) rfl <| .z) fun a w S => st_m (op_st S sizeOf3 (.t rfl) (.t rfl) (k := 3) rfl rfl (by simp) fun a w S => run S (.as rfl <| .z) fun a w S => st_nil (then_normal (hK5 _ _ (sg S (.mv rfl <| .yy (ys_T (by omega) (ys_neq (.t rfl) Ev.c)) rfl <| .z) fun a w S => st_then S (.t rfl) (sg S (.mv rfl <| .ac rfl <| .as rfl <| .z) fun a w S => wp_ret (in_ret (then_ret (then_ret (in_ret (then_ret (in_ret (then_ret (then_ret (in_ret (then_ret (st_ret S (results2 S results163 (Rv.tmp rfl) (Rv.tmp rfl)) ?_))))))))))))))))
          rw [hla, ← hno]
          exact ⟨_, _, rfl, (S.nil_ 58 3 Dot.enc none).wd.pk, none, 0, rfl, rfl⟩
      · rw [show n - i = 0 by omega, dotsAt] at hno
        refine sg S (.ge (by omega) rfl rfl <| .z) fun a w S => wp_seq_k fun _ hK2 => st_else S (.t rfl) (wp_exit (then_exit (then_exit (in_here (then_normal (hK1 _ _ (sg S (.mv rfl <| .as rfl <| .ac rfl <| .z) fun a w S => wp_ret (st_ret S (results2 S results163 (Rv.tmp rfl) (Rv.tmp rfl)) ?_))))))))
        rw [hla, ← hno]
        exact ⟨_, _, rfl, S.wd.pk, D, cD, rfl, rfl⟩
  · unfold Go.Fw.RetsO
    refine enterW2 W func163 rfl ntmps163 rfl fun a S => sg S (.ac rfl <| .ac rfl <| .z) fun a w S => wp_seq_k fun _ hK1 => wp_region_lit (run S (.mv rfl <| .z) fun a w S => ?_)
    (refine st_m (op_callO S call57 (.cons (.t rfl) .nil) (c57 S.wd (by first | assumption | omega | (dsimp only; omega) | exact Sl.nil_ | exact .old S.wd (by assumption) | exact Sl.of_own S.wd (k := 0) rfl (fun _ => rfl) | exact Sl.of_own S.wd (k := 1) rfl (fun _ => rfl) | (simp at *; omega)) (by first | assumption | omega | (dsimp only; omega) | exact Sl.nil_ | exact .old S.wd (by assumption) | exact Sl.of_own S.wd (k := 0) rfl (fun _ => rfl) | exact Sl.of_own S.wd (k := 1) rfl (fun _ => rfl) | (simp at *; omega))) rfl ?_) <;> clear S a w)
    rintro _ _ ⟨rfl, rfl⟩ a w S
    refine run S (.mv rfl <| .ex rfl rfl <| .ex rfl rfl <| .as rfl <| .as rfl <| .z) fun a w S => st_nil (then_normal (hK1 _ _ (wp_seq_k fun _ hK1 => sg S (.mv rfl <| .yy (ys_T (by omega) (ys_neq (.t rfl) Ev.c)) rfl <| .z) fun a w S => st_then S (.t rfl) (sg S (.mv rfl <| .ac rfl <| .as rfl <| .z) fun a w S => wp_ret (then_ret (st_ret S (results2 S results163 (Rv.tmp rfl) (Rv.tmp rfl)) ?_))))))
    rw [show listAt b k = ([], (numAt b k).2.1, (numAt b k).2.2) by unfold listAt; rw [bindR_bad he]]
    exact ⟨_, _, rfl, (S.nil_ 58 3 Dot.enc none).wd.pk, none, 0, rfl, rfl⟩
theorem c119 {w0 w : World} {L : List Chunk} {g cap k : Nat} {A : Option Addr} {b : List UInt8} (W : Wd w0 (rdr g A cap b k L) w) (hk : k ≤ b.length) (hb : b.length ≤ 16777216) :
    RetsO Tryz.prog 119 #[.pointer (some ⟨g, 0, none⟩)] w0 w (fun v L' => ∃ B c B' c', v = .tuple #[.agg #[.slice B (ctxAt b k).1.marks.length c, .slice B' (ctxAt b k).1.cloud.length c'], .int .i64 (ctxAt b k).2.2] ∧ L' = rdr g A cap b (ctxAt b k).2.1 (rowOf 122 3 Dot.enc B c (ctxAt b k).1.marks :: rowOf 58 3 Dot.enc B' c' (ctxAt b k).1.cloud :: L)) := by
  have hp1 := listAt_le hk
  have hl1 := listAt_len b k
  by_cases e1 : (listAt b k).2.2 = 0
  · have hp2 := listAt_le hp1.2
    have hl2 := listAt_len b (listAt b k).2.1
    by_cases e2 : (listAt b (listAt b k).2.1).2.2 = 0
    · generalize hl : (listAt b k).1 = l at hl1
      generalize hm : (listAt b (listAt b k).2.1).1 = m at hl2
      have hc : ctxAt b k = if canL ⟨l, m⟩ then (⟨l, m⟩, (listAt b (listAt b k).2.1).2.1, 0) else (⟨[], []⟩, (listAt b (listAt b k).2.1).2.1, 30) := by unfold ctxAt; rw [bindR_ok e1, bindR_ok e2, hl, hm]
      have rw_l := hl
      have rw_m := hm
      unfold Go.Fw.RetsO
      refine enterW1 W func119 rfl ntmps119 rfl fun a S => wp_seq_k fun _ hK1 => wp_region_lit (st_m (op_alloc S zeroValue37 (cs := _) rfl rfl fun g1 a w S => run S (.ac rfl <| .z) fun a w S => st_nil (then_normal (hK1 _ _ (wp_seq_k fun _ hK1 => wp_region_lit (run S (.mv rfl <| .z) fun a w S => ?_))))))
      (replace S := S.pull 2 rfl; try simp only [List.set_cons_zero, List.set_cons_succ, List.eraseIdx_cons_succ, List.eraseIdx_cons_zero] at S; replace S := S.pull 2 rfl; try simp only [List.set_cons_zero, List.set_cons_succ, List.eraseIdx_cons_succ, List.eraseIdx_cons_zero] at S; refine st_m (op_callO S call163 (.cons (.t rfl) (.cons Ev.c .nil)) (c163 S.wd (by first | assumption | omega | (dsimp only; omega) | exact Sl.nil_ | exact .old S.wd (by assumption) | exact Sl.of_own S.wd (k := 0) rfl (fun _ => rfl) | exact Sl.of_own S.wd (k := 1) rfl (fun _ => rfl) | exact Sl.of_own S.wd (k := 2) rfl (fun _ => rfl) | (simp at *; omega)) (by first | assumption | omega | (dsimp only; omega) | exact Sl.nil_ | exact .old S.wd (by assumption) | exact Sl.of_own S.wd (k := 0) rfl (fun _ => rfl) | exact Sl.of_own S.wd (k := 1) rfl (fun _ => rfl) | exact Sl.of_own S.wd (k := 2) rfl (fun _ => rfl) | (simp at *; omega))) rfl ?_) <;> clear S a w)
      rintro _ _ ⟨B1, c1, rfl, rfl⟩ a w S
      rw [rw_l] at S
      refine run S (.mv rfl <| .ex rfl rfl <| .ex rfl rfl <| .as rfl <| .as rfl <| .z) fun a w S => st_nil (then_normal (hK1 _ _ (wp_seq_k fun _ hK1 => sg S (.mv rfl <| .yy (ys_F (by omega) (ys_neq (.t rfl) Ev.c)) rfl <| .z) fun a w S => st_else S (.t rfl) (wp_skip (then_normal (hK1 _ _ (wp_seq_k fun _ hK1 => wp_region_lit (run S (.mv rfl <| .z) fun a w S => ?_))))))))
      (refine st_m (op_callO S call163 (.cons (.t rfl) (.cons Ev.c .nil)) (c163 S.wd (by first | assumption | omega | (dsimp only; omega) | exact Sl.nil_ | exact .old S.wd (by assumption) | exact Sl.of_own S.wd (k := 0) rfl (fun _ => rfl) | exact Sl.of_own S.wd (k := 1) rfl (fun _ => rfl) | exact Sl.of_own S.wd (k := 2) rfl (fun _ => rfl) | exact Sl.of_own S.wd (k := 3) rfl (fun _ => rfl) | (simp at *; omega)) (by first | assumption | omega | (dsimp only; omega) | exact Sl.nil_ | exact .old S.wd (by assumption) | exact Sl.of_own S.wd (k := 0) rfl (fun _ => rfl) | exact Sl.of_own S.wd (k := 1) rfl (fun _ => rfl) | exact Sl.of_own S.wd (k := 2) rfl (fun _ => rfl) | exact Sl.of_own S.wd (k := 3) rfl (fun _ => rfl) | (simp at *; omega))) rfl ?_) <;> clear S a w)
      rintro _ _ ⟨B2, c2, rfl, rfl⟩ a w S
      rw [rw_m] at S
      refine run S (.mv rfl <| .ex rfl rfl <| .ex rfl rfl <| .as rfl <| .as rfl <| .z) fun a w S => st_nil (then_normal (hK1 _ _ (wp_seq_k fun _ hK1 => sg S (.mv rfl <| .yy (ys_F (by omega) (ys_neq (.t rfl) Ev.c)) rfl <| .z) fun a w S => st_else S (.t rfl) (wp_skip (then_normal (hK1 _ _ (wp_seq_k fun _ hK1 => wp_region_lit (run S (.mv rfl <| .yy (ys_bld (ps := [(1, Go.Operand.tmp 28)]) (us := [_, _]) bld37 (.cons (.t rfl) .nil) rfl) rfl <| .z) fun a w S => st_m (op_alloc S zeroValue37 (cs := _) rfl rfl fun g2 a w S => st_m (op_stW S sizeOf37 (.t rfl) (.t rfl) (k := 0) rfl rfl rfl (by simp [Value.oneCell']) fun a w S => st_nil (then_normal (hK1 _ _ (wp_seq_k fun _ hK1 => sg S (.mv rfl <| .ln underlying35 rfl <| .mc rfl <| .z) fun a w S => wp_block ?_)))))))))))))
      refine st_lpM (S.nil_ 122 3 Dot.enc none) [32] (X := Nat × Option Addr × Nat) (fun q => [(32, true, .int .i64 (q.1 : Int))])
        (fun q => rowOf 122 3 Dot.enc q.2.1 q.2.2 (l.take q.1) :: .blk g2 (.cells #[.slice q.2.1 (l.take q.1).length q.2.2, .slice B2 m.length c2] 37) :: rowOf 58 3 Dot.enc B1 c1 l :: rowOf 58 3 Dot.enc B2 c2 m :: .blk g1 (.cells #[.slice none 0 0, .slice none 0 0] 37) :: rdr g A cap b (listAt b (listAt b k).2.1).2.1 L)
        (fun q => q.1 ≤ l.length) (fun q => l.length - q.1) (0, none, 0) (Nat.zero_le _) ?_
      clear S
      intro ⟨i, D, cD⟩ a w hi S
      dsimp only at hi S
      by_cases hlt : i < l.length
      · obtain ⟨ga, rfl⟩ := S.wd.row_at (k := 2) rfl (by have := (S.wd.room (k := 2) rfl).1; omega)
        obtain ⟨x, hx⟩ : ∃ x, l[i]? = some x := ⟨l[i], by simp⟩
        have hlk : (l.take i).length ≤ 64 := by rw [List.length_take]; omega
        have et : l.take (i + 1) = l.take i ++ [x] := by rw [List.take_add_one, hx]; rfl
        refine sg S (.lt (by omega) rfl rfl <| .z) fun a w S => wp_seq_k fun _ hK2 => st_then S (.t rfl) (wp_skip (then_normal (hK2 _ _ (wp_seq_k fun _ hK2 => wp_block (wp_seq_k fun _ hK3 => wp_region_lit (run S (.ix underlying35 sizeOf58 (by omega) rfl rfl <| .yy (ys_ldWA ⟨isAgg58, sizeOf58⟩ (.t rfl) (k := 2) rfl hx (fun _ => rfl)) rfl <| .z) fun a w S => st_m (op_alloc S zeroValue58 (cs := _) rfl rfl fun g3 a w S => st_m (op_stW S sizeOf58 (.t rfl) (.t rfl) (k := 0) rfl rfl rfl (by simp [Value.oneCell']) fun a w S => st_nil (then_normal (hK3 _ _ (wp_region_lit (run S (.fa underlying37 sizeOf34 0 rfl rfl rfl <| .ld gt34 2 rfl rfl rfl <| .la gt58 0 rfl rfl rfl <| .z) fun a w S => st_m (op_bslice1 S underlying34 inf122 rfl rfl rfl (.t rfl) rfl rfl rfl fun g4 a w S => st_m (op_push S underlying34 inf122 rfl (k := 2) (j := 0) rfl (.t rfl) (.t rfl) rfl rfl rfl rfl (by first | omega | (simp only [List.length_append, List.length_cons, List.length_nil]; omega)) rfl rfl rfl fun A1 cap1 a w S => run S (.fa underlying37 sizeOf34 0 rfl rfl rfl <| .z) fun a w S => st_m (op_st S sizeOf34 (.t rfl) (.t rfl) (k := 3) rfl rfl (by simp) fun a w S => st_nil (in_normal (then_normal (hK2 _ _ (wp_region_lit (run S (.ad (by unfold I64; omega) rfl <| .mv rfl <| .z) fun a w S => st_nil (then_normal ?_)))))))))))))))))))))
        rw [← et] at S
        exact ⟨(i + 1, A1, cap1), by dsimp only; omega, by dsimp only; omega, S.pk⟩
      · have hend : i = l.length := by omega
        subst hend
        rw [List.take_length] at S
        cases hcn : canL ⟨l, m⟩ with
        | true =>
          have rw_c := hcn
          rw [hcn, if_pos rfl] at hc
          refine sg S (.ge (by omega) rfl rfl <| .z) fun a w S => wp_seq_k fun _ hK2 => st_else S (.t rfl) (wp_exit (then_exit (then_exit (in_here (then_normal (hK1 _ _ (wp_seq_k fun _ hK1 => wp_seq_k fun _ hK3 => wp_region_lit (run S (.la gt37 1 rfl rfl rfl <| .xx (ys_call call109 (.cons (.t rfl) .nil) (fun hp w W => c109 _ _ _ _ (by exact RdCtx.mk' (by exact Sl.of_own W (k := 0) rfl (fun _ => rfl)) (by exact Sl.of_own W (k := 3) rfl (fun _ => rfl))))) rfl <| .z) fun a w S => ?_))))))))
          rw [rw_c] at S
          refine run S (.nt rfl <| .z) fun a w S => st_nil (then_normal (hK3 _ _ (st_else S (.t rfl) (wp_skip (then_normal (hK1 _ _ (wp_seq_k fun _ hK1 => wp_region_lit (run S (.la gt37 1 rfl rfl rfl <| .z) fun a w S => st_m (op_stW S sizeOf37 (.t rfl) (.t rfl) (k := 4) rfl rfl rfl (by simp [Value.oneCell']) fun a w S => run S (.ac rfl <| .z) fun a w S => st_nil (then_normal (hK1 _ _ (wp_ret (st_ret S (results2 S results119 (Rv.cell (k := 4) ⟨isAgg37, sizeOf37⟩ rfl rfl rfl) (Rv.tmp rfl)) ?_)))))))))))))
          rw [hc]
          exact ⟨_, _, rfl, S.wd.pk, D, cD, B2, c2, rfl, rfl⟩
        | false =>
          have rw_c := hcn
          rw [hcn] at hc
          simp only [Bool.false_eq_true, if_false] at hc
          refine sg S (.ge (by omega) rfl rfl <| .z) fun a w S => wp_seq_k fun _ hK2 => st_else S (.t rfl) (wp_exit (then_exit (then_exit (in_here (then_normal (hK1 _ _ (wp_seq_k fun _ hK1 => wp_seq_k fun _ hK3 => wp_region_lit (run S (.la gt37 1 rfl rfl rfl <| .xx (ys_call call109 (.cons (.t rfl) .nil) (fun hp w W => c109 _ _ _ _ (by exact RdCtx.mk' (by exact Sl.of_own W (k := 0) rfl (fun _ => rfl)) (by exact Sl.of_own W (k := 3) rfl (fun _ => rfl))))) rfl <| .z) fun a w S => ?_))))))))
          rw [rw_c] at S
          refine run S (.nt rfl <| .z) fun a w S => st_nil (then_normal (hK3 _ _ (st_then S (.t rfl) (wp_seq_k fun _ hK3 => wp_region_lit (run S (.yy (ys_bld (ps := []) (us := [_, _]) bld37 .nil rfl) rfl <| .z) fun a w S => st_m (op_stW S sizeOf37 (.t rfl) (.t rfl) (k := 4) rfl rfl rfl (by simp [Value.oneCell']) fun a w S => run S (.ac rfl <| .z) fun a w S => st_nil (then_normal (hK3 _ _ (wp_ret (then_ret (st_ret S (results2 S results119 (Rv.cell (k := 4) ⟨isAgg37, sizeOf37⟩ rfl rfl rfl) (Rv.tmp rfl)) ?_)))))))))))
          rw [hc]
          exact ⟨_, _, rfl, ((S.nil_ 58 3 Dot.enc none).nil_ 122 3 Dot.enc none).wd.pk, none, 0, none, 0, rfl, rfl⟩
    · have hc : ctxAt b k = (⟨[], []⟩, (listAt b (listAt b k).2.1).2.1, (listAt b (listAt b k).2.1).2.2) := by unfold ctxAt; rw [bindR_ok e1, bindR_bad e2]
      unfold Go.Fw.RetsO
      refine enterW1 W func119 rfl ntmps119 rfl fun a S => wp_seq_k fun _ hK1 => wp_region_lit (st_m (op_alloc S zeroValue37 (cs := _) rfl rfl fun g1 a w S => run S (.ac rfl <| .z) fun a w S => st_nil (then_normal (hK1 _ _ (wp_seq_k fun _ hK1 => wp_region_lit (run S (.mv rfl <| .z) fun a w S => ?_))))))
      (replace S := S.pull 2 rfl; try simp only [List.set_cons_zero, List.set_cons_succ, List.eraseIdx_cons_succ, List.eraseIdx_cons_zero] at S; replace S := S.pull 2 rfl; try simp only [List.set_cons_zero, List.set_cons_succ, List.eraseIdx_cons_succ, List.eraseIdx_cons_zero] at S; refine st_m (op_callO S call163 (.cons (.t rfl) (.cons Ev.c .nil)) (c163 S.wd (by first | assumption | omega | (dsimp only; omega) | exact Sl.nil_ | exact .old S.wd (by assumption) | exact Sl.of_own S.wd (k := 0) rfl (fun _ => rfl) | exact Sl.of_own S.wd (k := 1) rfl (fun _ => rfl) | exact Sl.of_own S.wd (k := 2) rfl (fun _ => rfl) | (simp at *; omega)) (by first | assumption | omega | (dsimp only; omega) | exact Sl.nil_ | exact .old S.wd (by assumption) | exact Sl.of_own S.wd (k := 0) rfl (fun _ => rfl) | exact Sl.of_own S.wd (k := 1) rfl (fun _ => rfl) | exact Sl.of_own S.wd (k := 2) rfl (fun _ => rfl) | (simp at *; omega))) rfl ?_) <;> clear S a w)
      rintro _ _ ⟨B1, c1, rfl, rfl⟩ a w S
      refine run S (.mv rfl <| .ex rfl rfl <| .ex rfl rfl <| .as rfl <| .as rfl <| .z) fun a w S => st_nil (then_normal (hK1 _ _ (wp_seq_k fun _ hK1 => sg S (.mv rfl <| .yy (ys_F (by omega) (ys_neq (.t rfl) Ev.c)) rfl <| .z) fun a w S => st_else S (.t rfl) (wp_skip (then_normal (hK1 _ _ (wp_seq_k fun _ hK1 => wp_region_lit (run S (.mv rfl <| .z) fun a w S => ?_))))))))
      (refine st_m (op_callO S call163 (.cons (.t rfl) (.cons Ev.c .nil)) (c163 S.wd (by first | assumption | omega | (dsimp only; omega) | exact Sl.nil_ | exact .old S.wd (by assumption) | exact Sl.of_own S.wd (k := 0) rfl (fun _ => rfl) | exact Sl.of_own S.wd (k := 1) rfl (fun _ => rfl) | exact Sl.of_own S.wd (k := 2) rfl (fun _ => rfl) | exact Sl.of_own S.wd (k := 3) rfl (fun _ => rfl) | (simp at *; omega)) (by first | assumption | omega | (dsimp only; omega) | exact Sl.nil_ | exact .old S.wd (by assumption) | exact Sl.of_own S.wd (k := 0) rfl (fun _ => rfl) | exact Sl.of_own S.wd (k := 1) rfl (fun _ => rfl) | exact Sl.of_own S.wd (k := 2) rfl (fun _ => rfl) | exact Sl.of_own S.wd (k := 3) rfl (fun _ => rfl) | (simp at *; omega))) rfl ?_) <;> clear S a w)
      rintro _ _ ⟨B2, c2, rfl, rfl⟩ a w S
      refine run S (.mv rfl <| .ex rfl rfl <| .ex rfl rfl <| .as rfl <| .as rfl <| .z) fun a w S => st_nil (then_normal (hK1 _ _ (wp_seq_k fun _ hK1 => sg S (.mv rfl <| .yy (ys_T (by omega) (ys_neq (.t rfl) Ev.c)) rfl <| .z) fun a w S => st_then S (.t rfl) (wp_seq_k fun _ hK2 => wp_region_lit (run S (.yy (ys_bld (ps := []) (us := [_, _]) bld37 .nil rfl) rfl <| .mv rfl <| .z) fun a w S => st_m (op_stW S sizeOf37 (.t rfl) (.t rfl) (k := 4) rfl rfl rfl (by simp [Value.oneCell']) fun a w S => run S (.as rfl <| .z) fun a w S => st_nil (then_normal (hK2 _ _ (wp_ret (then_ret (st_ret S (results2 S results119 (Rv.cell (k := 4) ⟨isAgg37, sizeOf37⟩ rfl rfl rfl) (Rv.tmp rfl)) ?_)))))))))))
      rw [hc]
      exact ⟨_, _, rfl, ((S.nil_ 58 3 Dot.enc none).nil_ 122 3 Dot.enc none).wd.pk, none, 0, none, 0, rfl, rfl⟩
  · have hc : ctxAt b k = (⟨[], []⟩, (listAt b k).2.1, (listAt b k).2.2) := by unfold ctxAt; rw [bindR_bad e1]
    unfold Go.Fw.RetsO
    refine enterW1 W func119 rfl ntmps119 rfl fun a S => wp_seq_k fun _ hK1 => wp_region_lit (st_m (op_alloc S zeroValue37 (cs := _) rfl rfl fun g1 a w S => run S (.ac rfl <| .z) fun a w S => st_nil (then_normal (hK1 _ _ (wp_seq_k fun _ hK1 => wp_region_lit (run S (.mv rfl <| .z) fun a w S => ?_))))))
    (replace S := S.pull 2 rfl; try simp only [List.set_cons_zero, List.set_cons_succ, List.eraseIdx_cons_succ, List.eraseIdx_cons_zero] at S; replace S := S.pull 2 rfl; try simp only [List.set_cons_zero, List.set_cons_succ, List.eraseIdx_cons_succ, List.eraseIdx_cons_zero] at S; refine st_m (op_callO S call163 (.cons (.t rfl) (.cons Ev.c .nil)) (c163 S.wd (by first | assumption | omega | (dsimp only; omega) | exact Sl.nil_ | exact .old S.wd (by assumption) | exact Sl.of_own S.wd (k := 0) rfl (fun _ => rfl) | exact Sl.of_own S.wd (k := 1) rfl (fun _ => rfl) | exact Sl.of_own S.wd (k := 2) rfl (fun _ => rfl) | (simp at *; omega)) (by first | assumption | omega | (dsimp only; omega) | exact Sl.nil_ | exact .old S.wd (by assumption) | exact Sl.of_own S.wd (k := 0) rfl (fun _ => rfl) | exact Sl.of_own S.wd (k := 1) rfl (fun _ => rfl) | exact Sl.of_own S.wd (k := 2) rfl (fun _ => rfl) | (simp at *; omega))) rfl ?_) <;> clear S a w)
    rintro _ _ ⟨B1, c1, rfl, rfl⟩ a w S
    refine run S (.mv rfl <| .ex rfl rfl <| .ex rfl rfl <| .as rfl <| .as rfl <| .z) fun a w S => st_nil (then_normal (hK1 _ _ (wp_seq_k fun _ hK1 => sg S (.mv rfl <| .yy (ys_T (by omega) (ys_neq (.t rfl) Ev.c)) rfl <| .z) fun a w S => st_then S (.t rfl) (wp_seq_k fun _ hK2 => wp_region_lit (run S (.yy (ys_bld (ps := []) (us := [_, _]) bld37 .nil rfl) rfl <| .mv rfl <| .z) fun a w S => st_m (op_stW S sizeOf37 (.t rfl) (.t rfl) (k := 3) rfl rfl rfl (by simp [Value.oneCell']) fun a w S => run S (.as rfl <| .z) fun a w S => st_nil (then_normal (hK2 _ _ (wp_ret (then_ret (st_ret S (results2 S results119 (Rv.cell (k := 3) ⟨isAgg37, sizeOf37⟩ rfl rfl rfl) (Rv.tmp rfl)) ?_)))))))))))
    rw [hc]
    exact ⟨_, _, rfl, ((S.nil_ 58 3 Dot.enc none).nil_ 122 3 Dot.enc none).wd.pk, none, 0, none, 0, rfl, rfl⟩
theorem c59 {w0 w : World} {L : List Chunk} {g cap k : Nat} {A : Option Addr} {b : List UInt8} (W : Wd w0 (rdr g A cap b k L) w) (hk : k ≤ b.length) (hb : b.length ≤ 16777216) :
    RetsO Tryz.prog 59 #[.pointer (some ⟨g, 0, none⟩)] w0 w (fun v L' => ∃ B c B' c', v = .tuple #[.agg #[.slice B (decAt b k).1.marks.length c, .slice B' (decAt b k).1.cloud.length c'], .int .i64 (decAt b k).2.2] ∧ L' = rdr g A cap b (decAt b k).2.1 (rowOf 122 3 Dot.enc B c (decAt b k).1.marks :: rowOf 58 3 Dot.enc B' c' (decAt b k).1.cloud :: L)) := by
  by_cases e : (ctxAt b k).2.2 = 0
  · have hc : decAt b k = ctxAt b k := by unfold decAt; rw [if_pos e]
    unfold Go.Fw.RetsO
    refine enterW1 W func59 rfl ntmps59 rfl fun a S => wp_seq_k fun _ hK1 => wp_region_lit (st_m (op_alloc S zeroValue37 (cs := _) rfl rfl fun g1 a w S => run S (.ac rfl <| .z) fun a w S => st_nil (then_normal (hK1 _ _ (wp_seq_k fun _ hK1 => sg S (.mv rfl <| .yy (ys_pNilS underlying92 (.t rfl) Ev.c) rfl <| .z) fun a w S => st_else S (.t rfl) (wp_skip (then_normal (hK1 _ _ (wp_seq_k fun _ hK1 => wp_region_lit (run S (.mv rfl <| .yy (ys_nilc (.t rfl)) rfl <| .la gt144 1 rfl rfl rfl <| .z) fun a w S => st_m (op_alloc S zeroValue144 (cs := _) rfl rfl fun g2 a w S => st_m (op_stW S sizeOf144 (.t rfl) (.t rfl) (k := 0) rfl rfl rfl (by simp [Value.oneCell']) fun a w S => st_nil (then_normal (hK1 _ _ (wp_seq_k fun _ hK1 => wp_region_lit (run S (.mv rfl <| .z) fun a w S => ?_))))))))))))))))
    (replace S := S.pull 3 rfl; try simp only [List.set_cons_zero, List.set_cons_succ, List.eraseIdx_cons_succ, List.eraseIdx_cons_zero] at S; replace S := S.pull 3 rfl; try simp only [List.set_cons_zero, List.set_cons_succ, List.eraseIdx_cons_succ, List.eraseIdx_cons_zero] at S; refine st_m (op_callO S call119 (.cons (.t rfl) .nil) (c119 S.wd (by first | assumption | omega | (dsimp only; omega) | exact Sl.nil_ | exact .old S.wd (by assumption) | exact Sl.of_own S.wd (k := 0) rfl (fun _ => rfl) | exact Sl.of_own S.wd (k := 1) rfl (fun _ => rfl) | exact Sl.of_own S.wd (k := 2) rfl (fun _ => rfl) | exact Sl.of_own S.wd (k := 3) rfl (fun _ => rfl) | (simp at *; omega)) (by first | assumption | omega | (dsimp only; omega) | exact Sl.nil_ | exact .old S.wd (by assumption) | exact Sl.of_own S.wd (k := 0) rfl (fun _ => rfl) | exact Sl.of_own S.wd (k := 1) rfl (fun _ => rfl) | exact Sl.of_own S.wd (k := 2) rfl (fun _ => rfl) | exact Sl.of_own S.wd (k := 3) rfl (fun _ => rfl) | (simp at *; omega))) rfl ?_) <;> clear S a w)
    rintro _ _ ⟨B1, c1, B'1, c'1, rfl, rfl⟩ a w S
    refine run S (.mv rfl <| .ex rfl rfl <| .ex rfl rfl <| .z) fun a w S => st_m (op_alloc S zeroValue37 (cs := _) rfl rfl fun g3 a w S => st_m (op_stW S sizeOf37 (.t rfl) (.t rfl) (k := 0) rfl rfl rfl (by simp [Value.oneCell']) fun a w S => run S (.as rfl <| .z) fun a w S => st_nil (then_normal (hK1 _ _ (wp_seq_k fun _ hK1 => sg S (.mv rfl <| .yy (ys_F (by omega) (ys_neq (.t rfl) Ev.c)) rfl <| .z) fun a w S => st_else S (.t rfl) (wp_skip (then_normal (hK1 _ _ (wp_seq_k fun _ hK1 => wp_region_lit (run S (.la gt37 0 rfl rfl rfl <| .z) fun a w S => st_m (op_stW S sizeOf37 (.t rfl) (.t rfl) (k := 6) rfl rfl rfl (by simp [Value.oneCell']) fun a w S => run S (.ac rfl <| .z) fun a w S => st_nil (then_normal (hK1 _ _ (wp_ret (st_ret S (results2 S results59 (Rv.cell (k := 6) ⟨isAgg37, sizeOf37⟩ rfl rfl rfl) (Rv.tmp rfl)) ?_)))))))))))))))
    rw [hc, e]
    exact ⟨_, _, rfl, S.wd.pk, _, _, _, _, rfl, rfl⟩
  · have hc : decAt b k = (⟨[], []⟩, k, (ctxAt b k).2.2) := by unfold decAt; rw [if_neg e]
    unfold Go.Fw.RetsO
    refine enterW1 W func59 rfl ntmps59 rfl fun a S => wp_seq_k fun _ hK1 => wp_region_lit (st_m (op_alloc S zeroValue37 (cs := _) rfl rfl fun g1 a w S => run S (.ac rfl <| .z) fun a w S => st_nil (then_normal (hK1 _ _ (wp_seq_k fun _ hK1 => sg S (.mv rfl <| .yy (ys_pNilS underlying92 (.t rfl) Ev.c) rfl <| .z) fun a w S => st_else S (.t rfl) (wp_skip (then_normal (hK1 _ _ (wp_seq_k fun _ hK1 => wp_region_lit (run S (.mv rfl <| .yy (ys_nilc (.t rfl)) rfl <| .la gt144 1 rfl rfl rfl <| .z) fun a w S => st_m (op_alloc S zeroValue144 (cs := _) rfl rfl fun g2 a w S => st_m (op_stW S sizeOf144 (.t rfl) (.t rfl) (k := 0) rfl rfl rfl (by simp [Value.oneCell']) fun a w S => st_nil (then_normal (hK1 _ _ (wp_seq_k fun _ hK1 => wp_region_lit (run S (.mv rfl <| .z) fun a w S => ?_))))))))))))))))
    (replace S := S.pull 3 rfl; try simp only [List.set_cons_zero, List.set_cons_succ, List.eraseIdx_cons_succ, List.eraseIdx_cons_zero] at S; replace S := S.pull 3 rfl; try simp only [List.set_cons_zero, List.set_cons_succ, List.eraseIdx_cons_succ, List.eraseIdx_cons_zero] at S; refine st_m (op_callO S call119 (.cons (.t rfl) .nil) (c119 S.wd (by first | assumption | omega | (dsimp only; omega) | exact Sl.nil_ | exact .old S.wd (by assumption) | exact Sl.of_own S.wd (k := 0) rfl (fun _ => rfl) | exact Sl.of_own S.wd (k := 1) rfl (fun _ => rfl) | exact Sl.of_own S.wd (k := 2) rfl (fun _ => rfl) | exact Sl.of_own S.wd (k := 3) rfl (fun _ => rfl) | (simp at *; omega)) (by first | assumption | omega | (dsimp only; omega) | exact Sl.nil_ | exact .old S.wd (by assumption) | exact Sl.of_own S.wd (k := 0) rfl (fun _ => rfl) | exact Sl.of_own S.wd (k := 1) rfl (fun _ => rfl) | exact Sl.of_own S.wd (k := 2) rfl (fun _ => rfl) | exact Sl.of_own S.wd (k := 3) rfl (fun _ => rfl) | (simp at *; omega))) rfl ?_) <;> clear S a w)
    rintro _ _ ⟨B1, c1, B'1, c'1, rfl, rfl⟩ a w S
    refine run S (.mv rfl <| .ex rfl rfl <| .ex rfl rfl <| .z) fun a w S => st_m (op_alloc S zeroValue37 (cs := _) rfl rfl fun g3 a w S => st_m (op_stW S sizeOf37 (.t rfl) (.t rfl) (k := 0) rfl rfl rfl (by simp [Value.oneCell']) fun a w S => run S (.as rfl <| .z) fun a w S => st_nil (then_normal (hK1 _ _ (wp_seq_k fun _ hK1 => sg S (.mv rfl <| .yy (ys_T (by omega) (ys_neq (.t rfl) Ev.c)) rfl <| .z) fun a w S => st_then S (.t rfl) (wp_seq_k fun _ hK2 => wp_region_lit (run S (.mv rfl <| .la gt144 5 rfl rfl rfl <| .yy (ys_nilc (.t rfl)) rfl <| .z) fun a w S => st_m (op_stW S sizeOf144 (.t rfl) (.t rfl) (k := 1) rfl rfl rfl (by simp [Value.oneCell']) fun a w S => st_nil (then_normal (hK2 _ _ (wp_seq_k fun _ hK2 => wp_region_lit (run S (.yy (ys_bld (ps := []) (us := [_, _]) bld37 .nil rfl) rfl <| .mv rfl <| .z) fun a w S => st_m (op_stW S sizeOf37 (.t rfl) (.t rfl) (k := 6) rfl rfl rfl (by simp [Value.oneCell']) fun a w S => run S (.as rfl <| .z) fun a w S => st_nil (then_normal (hK2 _ _ (wp_ret (then_ret (st_ret S (results2 S results59 (Rv.cell (k := 6) ⟨isAgg37, sizeOf37⟩ rfl rfl rfl) (Rv.tmp rfl)) ?_))))))))))))))))))
    rw [hc]
    exact ⟨_, _, rfl, ((S.nil_ 58 3 Dot.enc none).nil_ 122 3 Dot.enc none).wd.pk, none, 0, none, 0, rfl, rfl⟩
end Go.Proofs.YtfblmkocmnbdcaaGreat
set_option linter.unusedVariables false
set_option linter.unusedSimpArgs false
set_option maxRecDepth 100000
set_option maxHeartbeats 4000000
namespace Go.Fw
theorem wrap_u64n {n : Nat} (h : n < 18446744073709551616) : IntKind.u64.wrap (n : Int) = (n : Int) := by
  simp only [IntKind.wrap, IntKind.signed, IntKind.bits]
  simp
  omega
theorem pow_le8 {y i : Nat} (hy : y < 256) (hi : i < 8) : y * 256 ^ i < 18446744073709551616 := by
  have h1 : 256 ^ i ≤ 256 ^ 7 := Nat.pow_le_pow_right (by omega) (by omega)
  have h2 : y * 256 ^ i ≤ 255 * 256 ^ 7 := Nat.mul_le_mul (by omega) h1
  have h3 : 255 * 256 ^ 7 < 18446744073709551616 := by decide
  omega
theorem pow_28 (i : Nat) : (2 : Int) ^ (8 * i) = ((256 ^ i : Nat) : Int) := by
  rw [Int.pow_mul]; simp
theorem shl_le {y i : Nat} (hy : y < 256) (hi : i < 8) : IntKind.u64.wrap ((y : Int) * 2 ^ (8 * i)) = ((y * 256 ^ i : Nat) : Int) := by
  rw [pow_28, ← Int.natCast_mul]
  exact wrap_u64n (pow_le8 hy hi)
theorem or_le {m y i : Nat} (hm : m < 256 ^ i) (hy : y < 256) (hi : i < 8) : orK .u64 (m : Int) ((y * 256 ^ i : Nat) : Int) = ((m + y * 256 ^ i : Nat) : Int) := by
  have h1 := pow_le8 hy hi
  have h2 : 256 ^ i ≤ 256 ^ 7 := Nat.pow_le_pow_right (by omega) (by omega)
  have h3 : (256 : Nat) ^ 7 < 18446744073709551616 := by decide
  have e : m ||| y * 256 ^ i = m + y * 256 ^ i := by
    have hp : (256 : Nat) ^ i = 2 ^ (8 * i) := by rw [Nat.pow_mul]
    rw [hp] at hm ⊢
    have := Nat.shiftLeft_add_eq_or_of_lt (a := y) hm
    rw [Nat.shiftLeft_eq] at this
    rw [Nat.or_comm, ← this, Nat.add_comm]
  have h4 : m + y * 256 ^ i < 18446744073709551616 := by
    have h5 : (y + 1) * 256 ^ i ≤ 256 * 256 ^ 7 := Nat.mul_le_mul (by omega) h2
    have h6 : (256 : Nat) * 256 ^ 7 = 18446744073709551616 := by decide
    rw [Nat.add_mul, Nat.one_mul] at h5
    omega
  unfold orK
  rw [ofInt_nat, ofInt_nat, BitVec.toNat_or, BitVec.toNat_ofNat, BitVec.toNat_ofNat, show IntKind.u64.bits = 64 from rfl, Nat.mod_eq_of_lt (by omega), Nat.mod_eq_of_lt (by omega), e]
  exact wrap_u64n h4
end Go.Fw
namespace Go.Proofs.YtfblmkocmnbdcaaGreat
open Go.Fw Go.Proofs Go.RowKit Go.Proofs.Tryz
def EntRd (b : List UInt8) (k : Nat) (x : Ent) (k' : Nat) : Prop := k' ≤ b.length ∧ ((entAt b k).2.2 = 0 → x = (entAt b k).1 ∧ k' = (entAt b k).2.1)
theorem c58 {w0 w : World} {L : List Chunk} {g cap k : Nat} {A : Option Addr} {b : List UInt8} (W : Wd w0 (rdr g A cap b k L) w) (hk : k ≤ b.length) (hb : b.length ≤ 16777216) :
    RetsO Tryz.prog 58 #[.pointer (some ⟨g, 0, none⟩)] w0 w (fun v L' => ∃ x k', v = .tuple #[.agg (Ent.enc x).toArray, .int .i64 (entAt b k).2.2] ∧ L' = rdr g A cap b k' L ∧ EntRd b k x k') := by
  have t1 := textR_le (most := 32) hk
  obtain ⟨s, k1, e, hT⟩ : ∃ s k1 e, textR b k 32 = (s, k1, e) := ⟨_, _, _, rfl⟩
  have rw_T1 : (textR b k 32).1 = s := by rw [hT]
  have rw_T2 : (textR b k 32).2.1 = k1 := by rw [hT]
  have rw_T3 : (textR b k 32).2.2 = e := by rw [hT]
  rw [rw_T2] at t1
  by_cases e0 : e = 0
  rotate_left
  · have rw_d : decide (e ≠ 0) = true := decide_eq_true e0
    unfold Go.Fw.RetsO
    refine enterW1 W Tryz.func58 rfl Tryz.ntmps58 rfl fun a S => ?_
    refine wp_seq_k fun _ hK1 => ?_
    refine wp_region_lit ?_
    (refine st_m (op_alloc S Tryz.zeroValue71 (cs := _) rfl rfl ?_); clear S a; intro g1 a w S)
    (refine st_y S (Yr.ys (ys_assign Ev.c)) rfl ?_; clear S a w; intro a w S)
    refine st_nil ?_
    (refine (then_normal (hK1 _ _ ?_)); clear hK1)
    refine wp_seq_k fun _ hK1 => ?_
    refine wp_region_lit ?_
    (refine st_m (op_alloc S Tryz.zeroValue71 (cs := _) rfl rfl ?_); clear S a w; intro g2 a w S)
    refine st_nil ?_
    (refine (then_normal (hK1 _ _ ?_)); clear hK1)
    refine wp_seq_k fun _ hK1 => ?_
    refine wp_region_lit ?_
    (refine st_y S (Yr.ys (ys_move (Ev.t rfl))) rfl ?_; clear S a w; intro a w S)
    (replace S := S.pull 3 rfl; try simp only [List.set_cons_zero, List.set_cons_succ, List.eraseIdx_cons_succ, List.eraseIdx_cons_zero] at S; replace S := S.pull 3 rfl; try simp only [List.set_cons_zero, List.set_cons_succ, List.eraseIdx_cons_succ, List.eraseIdx_cons_zero] at S; refine st_m (op_callO S Tryz.call117 (EvL.cons (Ev.t rfl) (EvL.cons Ev.c EvL.nil)) (c117 S.wd (by first | assumption | omega | (dsimp only; omega) | exact Sl.nil_ | exact .old S.wd (by assumption) | exact Sl.of_own S.wd (k := 0) rfl (fun _ => rfl) | exact Sl.of_own S.wd (k := 1) rfl (fun _ => rfl) | exact Sl.of_own S.wd (k := 2) rfl (fun _ => rfl) | exact Sl.of_own S.wd (k := 3) rfl (fun _ => rfl) | (simp at *; omega)) (by first | assumption | omega | (dsimp only; omega) | exact Sl.nil_ | exact .old S.wd (by assumption) | exact Sl.of_own S.wd (k := 0) rfl (fun _ => rfl) | exact Sl.of_own S.wd (k := 1) rfl (fun _ => rfl) | exact Sl.of_own S.wd (k := 2) rfl (fun _ => rfl) | exact Sl.of_own S.wd (k := 3) rfl (fun _ => rfl) | (simp at *; omega))) rfl ?_) <;> clear S a w)
    rintro _ _ ⟨rfl, rfl⟩ a w S
    rw [rw_T1] at S
    rw [rw_T2] at S
    rw [rw_T3] at S
    (refine st_y S (Yr.ys (ys_move (Ev.t rfl))) rfl ?_; clear S a w; intro a w S)
    (refine st_y S (Yr.ys (ys_ext (Ev.t rfl) rfl)) rfl ?_; clear S a w; intro a w S)
    (refine st_y S (Yr.ys (ys_ext (Ev.t rfl) rfl)) rfl ?_; clear S a w; intro a w S)
    (refine st_y S (Yr.ys (ys_assign (Ev.t rfl))) rfl ?_; clear S a w; intro a w S)
    (refine st_y S (Yr.ys (ys_assign (Ev.t rfl))) rfl ?_; clear S a w; intro a w S)
    refine st_nil ?_
    (refine (then_normal (hK1 _ _ ?_)); clear hK1)
    refine wp_seq_k fun _ hK1 => ?_
    refine wp_seq_k fun _ hK2 => ?_
    refine wp_region_lit ?_
    (refine st_y S (Yr.ys (ys_move (Ev.t rfl))) rfl ?_; clear S a w; intro a w S)
    (refine st_y S (Yr.ys (ys_T (by omega) (ys_neq (Ev.t rfl) Ev.c))) rfl ?_; clear S a w; intro a w S)
    refine st_nil ?_
    (refine (then_normal (hK2 _ _ ?_)); clear hK2)
    refine st_then S (Ev.t rfl) ?_
    refine wp_seq_k fun _ hK2 => ?_
    refine wp_region_lit ?_
    (refine st_y S (Yr.ys (ys_ldA ⟨Tryz.isAgg71, Tryz.sizeOf71⟩ (Ev.t rfl) (k := 2) rfl rfl)) rfl ?_; clear S a w; intro a w S)
    (refine st_y S (Yr.ys (ys_move (Ev.t rfl))) rfl ?_; clear S a w; intro a w S)
    (refine st_m (op_stW S Tryz.sizeOf71 (Ev.t rfl) (Ev.t rfl) (k := 3) rfl rfl rfl (by simp [Value.oneCell']) ?_); clear S a w; intro a w S)
    (refine st_y S (Yr.ys (ys_assign (Ev.t rfl))) rfl ?_; clear S a w; intro a w S)
    refine st_nil ?_
    (refine (then_normal (hK2 _ _ ?_)); clear hK2)
    refine wp_ret ?_
    refine (then_ret ?_)
    refine st_ret S (results2 S Tryz.results58 (Rv.cell (k := 3) ⟨Tryz.isAgg71, Tryz.sizeOf71⟩ rfl rfl rfl) (Rv.tmp rfl)) ?_
    refine ⟨_, _, rfl, S.wd.picks (L' := rdr g A cap b k1 L) (by repeat (first | exact Picks.nil | (refine Picks.rest ?_; (repeat (first | exact List.Sublist.refl _ | refine List.Sublist.cons_cons _ ?_ | refine List.Sublist.cons _ ?_)); done) | refine Picks.take 0 rfl ?_ | refine Picks.take 1 rfl ?_ | refine Picks.take 2 rfl ?_ | refine Picks.take 3 rfl ?_ | refine Picks.take 4 rfl ?_ | refine Picks.take 5 rfl ?_ | refine Picks.take 6 rfl ?_ | refine Picks.take 7 rfl ?_ | refine Picks.take 8 rfl ?_ | refine Picks.take 9 rfl ?_ | refine Picks.take 10 rfl ?_ | refine Picks.take 11 rfl ?_)), ⟨[], ⟨0, 0, 0⟩, 0, 0⟩, k1, ?_, rfl, t1.2, fun h => absurd h ?_⟩
    · unfold entAt; rw [bindR_bad (by rw [rw_T3]; exact e0), rw_T3]; rfl
    · unfold entAt; rw [bindR_bad (by rw [rw_T3]; exact e0), rw_T3]; exact e0
  subst e0
  obtain ⟨x1, k2, e1, hN1⟩ : ∃ x k e, numAt b k1 = (x, k, e) := ⟨_, _, _, rfl⟩
  have t2 := numAt_le (b := b) (k := k1) (by omega)
  have rw_N1a : (numAt b k1).1 = x1 := by rw [hN1]
  have rw_N1b : (numAt b k1).2.1 = k2 := by rw [hN1]
  have rw_N1c : (numAt b k1).2.2 = e1 := by rw [hN1]
  rw [rw_N1b] at t2
  have he1 : e1 ≠ 0 → (entAt b k).2.2 = e1 := fun h => by
    unfold entAt
    rw [hT, bindR_ok rfl]
    dsimp only
    rw [hN1, bindR_bad (by exact h)]
  by_cases h1 : e1 = 0
  rotate_left
  · have rw_d : decide (e1 ≠ 0) = true := decide_eq_true h1
    unfold Go.Fw.RetsO
    refine enterW1 W Tryz.func58 rfl Tryz.ntmps58 rfl fun a S => ?_
    refine wp_seq_k fun _ hK1 => ?_
    refine wp_region_lit ?_
    (refine st_m (op_alloc S Tryz.zeroValue71 (cs := _) rfl rfl ?_); clear S a; intro g1 a w S)
    (refine st_y S (Yr.ys (ys_assign Ev.c)) rfl ?_; clear S a w; intro a w S)
    refine st_nil ?_
    (refine (then_normal (hK1 _ _ ?_)); clear hK1)
    refine wp_seq_k fun _ hK1 => ?_
    refine wp_region_lit ?_
    (refine st_m (op_alloc S Tryz.zeroValue71 (cs := _) rfl rfl ?_); clear S a w; intro g2 a w S)
    refine st_nil ?_
    (refine (then_normal (hK1 _ _ ?_)); clear hK1)
    refine wp_seq_k fun _ hK1 => ?_
    refine wp_region_lit ?_
    (refine st_y S (Yr.ys (ys_move (Ev.t rfl))) rfl ?_; clear S a w; intro a w S)
    (replace S := S.pull 3 rfl; try simp only [List.set_cons_zero, List.set_cons_succ, List.eraseIdx_cons_succ, List.eraseIdx_cons_zero] at S; replace S := S.pull 3 rfl; try simp only [List.set_cons_zero, List.set_cons_succ, List.eraseIdx_cons_succ, List.eraseIdx_cons_zero] at S; refine st_m (op_callO S Tryz.call117 (EvL.cons (Ev.t rfl) (EvL.cons Ev.c EvL.nil)) (c117 S.wd (by first | assumption | omega | (dsimp only; omega) | exact Sl.nil_ | exact .old S.wd (by assumption) | exact Sl.of_own S.wd (k := 0) rfl (fun _ => rfl) | exact Sl.of_own S.wd (k := 1) rfl (fun _ => rfl) | exact Sl.of_own S.wd (k := 2) rfl (fun _ => rfl) | exact Sl.of_own S.wd (k := 3) rfl (fun _ => rfl) | (simp at *; omega)) (by first | assumption | omega | (dsimp only; omega) | exact Sl.nil_ | exact .old S.wd (by assumption) | exact Sl.of_own S.wd (k := 0) rfl (fun _ => rfl) | exact Sl.of_own S.wd (k := 1) rfl (fun _ => rfl) | exact Sl.of_own S.wd (k := 2) rfl (fun _ => rfl) | exact Sl.of_own S.wd (k := 3) rfl (fun _ => rfl) | (simp at *; omega))) rfl ?_) <;> clear S a w)
    rintro _ _ ⟨rfl, rfl⟩ a w S
    rw [rw_T1] at S
    rw [rw_T2] at S
    rw [rw_T3] at S
    (refine st_y S (Yr.ys (ys_move (Ev.t rfl))) rfl ?_; clear S a w; intro a w S)
    (refine st_y S (Yr.ys (ys_ext (Ev.t rfl) rfl)) rfl ?_; clear S a w; intro a w S)
    (refine st_y S (Yr.ys (ys_ext (Ev.t rfl) rfl)) rfl ?_; clear S a w; intro a w S)
    (refine st_y S (Yr.ys (ys_assign (Ev.t rfl))) rfl ?_; clear S a w; intro a w S)
    (refine st_y S (Yr.ys (ys_assign (Ev.t rfl))) rfl ?_; clear S a w; intro a w S)
    refine st_nil ?_
    (refine (then_normal (hK1 _ _ ?_)); clear hK1)
    refine wp_seq_k fun _ hK1 => ?_
    refine wp_seq_k fun _ hK2 => ?_
    refine wp_region_lit ?_
    (refine st_y S (Yr.ys (ys_move (Ev.t rfl))) rfl ?_; clear S a w; intro a w S)
    (refine st_y S (Yr.ys (ys_F (by omega) (ys_neq (Ev.t rfl) Ev.c))) rfl ?_; clear S a w; intro a w S)
    refine st_nil ?_
    (refine (then_normal (hK2 _ _ ?_)); clear hK2)
    refine st_else S (Ev.t rfl) ?_
    refine wp_skip ?_
    (refine (then_normal (hK1 _ _ ?_)); clear hK1)
    refine wp_seq_k fun _ hK1 => ?_
    refine wp_region_lit ?_
    (refine st_y S (Yr.ys (ys_move (Ev.t rfl))) rfl ?_; clear S a w; intro a w S)
    (refine st_y S (Yr.ys (ys_fieldN (FieldT.mk Tryz.underlying71 rfl Tryz.sizeOf9 rfl) (Ev.t rfl) (i' := 0) rfl)) rfl ?_; clear S a w; intro a w S)
    (refine st_m (op_st S Tryz.sizeOf9 (Ev.t rfl) (Ev.t rfl) (k := 2) rfl rfl (by simp) ?_); clear S a w; intro a w S)
    refine st_nil ?_
    (refine (then_normal (hK1 _ _ ?_)); clear hK1)
    refine wp_seq_k fun _ hK1 => ?_
    refine wp_seq_k fun _ hK2 => ?_
    refine wp_region_lit ?_
    (refine st_y S (Yr.ys (ys_fieldN (FieldT.mk Tryz.underlying71 rfl Tryz.sizeOf58 rfl) (Ev.t rfl) (i' := 1) rfl)) rfl ?_; clear S a w; intro a w S)
    (refine st_y S (Yr.ys (ys_fieldN (FieldT.mk Tryz.underlying58 rfl Tryz.sizeOf3 rfl) (Ev.t rfl) (i' := 1) rfl)) rfl ?_; clear S a w; intro a w S)
    (refine st_y S (Yr.ys (ys_fieldN (FieldT.mk Tryz.underlying71 rfl Tryz.sizeOf58 rfl) (Ev.t rfl) (i' := 1) rfl)) rfl ?_; clear S a w; intro a w S)
    (refine st_y S (Yr.ys (ys_fieldN (FieldT.mk Tryz.underlying58 rfl Tryz.sizeOf3 rfl) (Ev.t rfl) (i' := 2) rfl)) rfl ?_; clear S a w; intro a w S)
    (refine st_y S (Yr.ys (ys_fieldN (FieldT.mk Tryz.underlying71 rfl Tryz.sizeOf58 rfl) (Ev.t rfl) (i' := 1) rfl)) rfl ?_; clear S a w; intro a w S)
    (refine st_y S (Yr.ys (ys_fieldN (FieldT.mk Tryz.underlying58 rfl Tryz.sizeOf3 rfl) (Ev.t rfl) (i' := 3) rfl)) rfl ?_; clear S a w; intro a w S)
    (refine st_y S (Yr.ys (ys_fieldN (FieldT.mk Tryz.underlying71 rfl Tryz.sizeOf3 rfl) (Ev.t rfl) (i' := 4) rfl)) rfl ?_; clear S a w; intro a w S)
    (refine st_m (op_bsliceZ (ps := [(0, Go.Operand.tmp 24), (1, Go.Operand.tmp 26), (2, Go.Operand.tmp 28), (3, Go.Operand.tmp 29)]) (us := [_, _, _, _]) S Tryz.underlying149 Tryz.sizeOf148 Tryz.zeroValue148 rfl rfl (EvL.cons (Ev.t rfl) (EvL.cons (Ev.t rfl) (EvL.cons (Ev.t rfl) (EvL.cons (Ev.t rfl) EvL.nil)))) rfl rfl ?_); clear S a w; intro g3 a w S)
    (refine st_y S (Yr.ys (ys_lenS Tryz.underlying149 (Ev.t rfl))) rfl ?_; clear S a w; intro a w S)
    (refine st_y S (Yr.ys (ys_move Ev.c)) rfl ?_; clear S a w; intro a w S)
    refine st_nil ?_
    (refine (then_normal (hK2 _ _ ?_)); clear hK2)
    refine wp_block ?_
    refine st_rounds 5 (st_round ?_)
    refine wp_seq_k fun _ hK2 => ?_
    refine wp_region_lit ?_
    (refine st_y S (Yr.ys (ys_T (by omega) (ys_lss (Ev.t rfl) (Ev.t rfl)))) rfl ?_; clear S a w; intro a w S)
    refine st_nil ?_
    (refine (then_normal (hK2 _ _ ?_)); clear hK2)
    refine wp_seq_k fun _ hK2 => ?_
    refine st_then S (Ev.t rfl) ?_
    refine wp_skip ?_
    (refine (then_normal (hK2 _ _ ?_)); clear hK2)
    refine wp_seq_k fun _ hK2 => ?_
    refine wp_block ?_
    refine wp_seq_k fun _ hK3 => ?_
    refine wp_region_lit ?_
    (refine st_y S (Yr.ys (ys_ixS (j := 0) Tryz.underlying149 Tryz.sizeOf148 (Ev.t rfl) (Ev.t rfl) (fun _ => by omega))) rfl ?_; clear S a w; intro a w S)
    (refine st_y S (Yr.ys (ys_ld ⟨Tryz.isAgg148, Tryz.sizeOf148⟩ (Ev.t rfl) (k := 0) rfl rfl)) rfl ?_; clear S a w; intro a w S)
    (refine st_y S (Yr.ys (ys_assign (Ev.t rfl))) rfl ?_; clear S a w; intro a w S)
    refine st_nil ?_
    (refine (then_normal (hK3 _ _ ?_)); clear hK3)
    refine wp_seq_k fun _ hK3 => ?_
    refine wp_region_lit ?_
    (refine st_y S (Yr.ys (ys_move (Ev.t rfl))) rfl ?_; clear S a w; intro a w S)
    (refine st_y S (Yr.ys (ys_move (Ev.t rfl))) rfl ?_; clear S a w; intro a w S)
    (replace S := S.pull 2 rfl; try simp only [List.set_cons_zero, List.set_cons_succ, List.eraseIdx_cons_succ, List.eraseIdx_cons_zero] at S; replace S := S.pull 2 rfl; try simp only [List.set_cons_zero, List.set_cons_succ, List.eraseIdx_cons_succ, List.eraseIdx_cons_zero] at S; refine st_m (op_callO S Tryz.call57 (EvL.cons (Ev.t rfl) EvL.nil) (c57 S.wd (by first | assumption | omega | (dsimp only; omega) | exact Sl.nil_ | exact .old S.wd (by assumption) | exact Sl.of_own S.wd (k := 0) rfl (fun _ => rfl) | exact Sl.of_own S.wd (k := 1) rfl (fun _ => rfl) | exact Sl.of_own S.wd (k := 2) rfl (fun _ => rfl) | exact Sl.of_own S.wd (k := 3) rfl (fun _ => rfl) | exact Sl.of_own S.wd (k := 4) rfl (fun _ => rfl) | (simp at *; omega)) (by first | assumption | omega | (dsimp only; omega) | exact Sl.nil_ | exact .old S.wd (by assumption) | exact Sl.of_own S.wd (k := 0) rfl (fun _ => rfl) | exact Sl.of_own S.wd (k := 1) rfl (fun _ => rfl) | exact Sl.of_own S.wd (k := 2) rfl (fun _ => rfl) | exact Sl.of_own S.wd (k := 3) rfl (fun _ => rfl) | exact Sl.of_own S.wd (k := 4) rfl (fun _ => rfl) | (simp at *; omega))) rfl ?_) <;> clear S a w)
    rintro _ _ ⟨rfl, rfl⟩ a w S
    rw [rw_N1a] at S
    rw [rw_N1b] at S
    rw [rw_N1c] at S
    (refine st_y S (Yr.ys (ys_move (Ev.t rfl))) rfl ?_; clear S a w; intro a w S)
    (refine st_y S (Yr.ys (ys_ext (Ev.t rfl) rfl)) rfl ?_; clear S a w; intro a w S)
    (refine st_y S (Yr.ys (ys_ext (Ev.t rfl) rfl)) rfl ?_; clear S a w; intro a w S)
    (refine st_y S (Yr.ys (ys_nilc (Ev.t rfl))) rfl ?_; clear S a w; intro a w S)
    (refine st_m (op_st S Tryz.sizeOf3 (Ev.t rfl) (Ev.t rfl) (k := 3) rfl rfl (by simp) ?_); clear S a w; intro a w S)
    (refine st_y S (Yr.ys (ys_assign (Ev.t rfl))) rfl ?_; clear S a w; intro a w S)
    refine st_nil ?_
    (refine (then_normal (hK3 _ _ ?_)); clear hK3)
    refine wp_seq_k fun _ hK3 => ?_
    refine wp_region_lit ?_
    (refine st_y S (Yr.ys (ys_move (Ev.t rfl))) rfl ?_; clear S a w; intro a w S)
    (refine st_y S (Yr.ys (ys_T (by omega) (ys_neq (Ev.t rfl) Ev.c))) rfl ?_; clear S a w; intro a w S)
    refine st_nil ?_
    (refine (then_normal (hK3 _ _ ?_)); clear hK3)
    refine st_then S (Ev.t rfl) ?_
    refine wp_seq_k fun _ hK3 => ?_
    refine wp_region_lit ?_
    (refine st_y S (Yr.ys (ys_ldA ⟨Tryz.isAgg71, Tryz.sizeOf71⟩ (Ev.t rfl) (k := 3) rfl rfl)) rfl ?_; clear S a w; intro a w S)
    (refine st_y S (Yr.ys (ys_move (Ev.t rfl))) rfl ?_; clear S a w; intro a w S)
    (refine st_m (op_stW S Tryz.sizeOf71 (Ev.t rfl) (Ev.t rfl) (k := 4) rfl rfl rfl (by simp [Value.oneCell']) ?_); clear S a w; intro a w S)
    (refine st_y S (Yr.ys (ys_assign (Ev.t rfl))) rfl ?_; clear S a w; intro a w S)
    refine st_nil ?_
    (refine (then_normal (hK3 _ _ ?_)); clear hK3)
    refine wp_ret ?_
    refine (in_ret (then_ret (then_ret (in_ret (then_ret ?_)))))
    refine st_ret S (results2 S Tryz.results58 (Rv.cell (k := 4) ⟨Tryz.isAgg71, Tryz.sizeOf71⟩ rfl rfl rfl) (Rv.tmp rfl)) ?_
    exact ⟨_, _, rfl, S.wd.picks (L' := rdr g A cap b k2 L) (by repeat (first | exact Picks.nil | (refine Picks.rest ?_; (repeat (first | exact List.Sublist.refl _ | refine List.Sublist.cons_cons _ ?_ | refine List.Sublist.cons _ ?_)); done) | refine Picks.take 0 rfl ?_ | refine Picks.take 1 rfl ?_ | refine Picks.take 2 rfl ?_ | refine Picks.take 3 rfl ?_ | refine Picks.take 4 rfl ?_ | refine Picks.take 5 rfl ?_ | refine Picks.take 6 rfl ?_ | refine Picks.take 7 rfl ?_ | refine Picks.take 8 rfl ?_ | refine Picks.take 9 rfl ?_ | refine Picks.take 10 rfl ?_ | refine Picks.take 11 rfl ?_)), ⟨s, ⟨x1, 0, 0⟩, 0, 0⟩, k2, by rw [he1 h1]; rfl, rfl, by omega, fun h => absurd ((he1 h1).symm.trans h) h1⟩
  subst h1
  unfold Go.Fw.RetsO
  refine enterW1 W Tryz.func58 rfl Tryz.ntmps58 rfl fun a S => ?_
  refine wp_seq_k fun _ hK1 => ?_
  refine wp_region_lit ?_
  (refine st_m (op_alloc S Tryz.zeroValue71 (cs := _) rfl rfl ?_); clear S a; intro g1 a w S)
  (refine st_y S (Yr.ys (ys_assign Ev.c)) rfl ?_; clear S a w; intro a w S)
  refine st_nil ?_
  (refine (then_normal (hK1 _ _ ?_)); clear hK1)
  refine wp_seq_k fun _ hK1 => ?_
  refine wp_region_lit ?_
  (refine st_m (op_alloc S Tryz.zeroValue71 (cs := _) rfl rfl ?_); clear S a w; intro g2 a w S)
  refine st_nil ?_
  (refine (then_normal (hK1 _ _ ?_)); clear hK1)
  refine wp_seq_k fun _ hK1 => ?_
  refine wp_region_lit ?_
  (refine st_y S (Yr.ys (ys_move (Ev.t rfl))) rfl ?_; clear S a w; intro a w S)
  (replace S := S.pull 3 rfl; try simp only [List.set_cons_zero, List.set_cons_succ, List.eraseIdx_cons_succ, List.eraseIdx_cons_zero] at S; replace S := S.pull 3 rfl; try simp only [List.set_cons_zero, List.set_cons_succ, List.eraseIdx_cons_succ, List.eraseIdx_cons_zero] at S; refine st_m (op_callO S Tryz.call117 (EvL.cons (Ev.t rfl) (EvL.cons Ev.c EvL.nil)) (c117 S.wd (by first | assumption | omega | (dsimp only; omega) | exact Sl.nil_ | exact .old S.wd (by assumption) | exact Sl.of_own S.wd (k := 0) rfl (fun _ => rfl) | exact Sl.of_own S.wd (k := 1) rfl (fun _ => rfl) | exact Sl.of_own S.wd (k := 2) rfl (fun _ => rfl) | exact Sl.of_own S.wd (k := 3) rfl (fun _ => rfl) | (simp at *; omega)) (by first | assumption | omega | (dsimp only; omega) | exact Sl.nil_ | exact .old S.wd (by assumption) | exact Sl.of_own S.wd (k := 0) rfl (fun _ => rfl) | exact Sl.of_own S.wd (k := 1) rfl (fun _ => rfl) | exact Sl.of_own S.wd (k := 2) rfl (fun _ => rfl) | exact Sl.of_own S.wd (k := 3) rfl (fun _ => rfl) | (simp at *; omega))) rfl ?_) <;> clear S a w)
  rintro _ _ ⟨rfl, rfl⟩ a w S
  rw [rw_T1] at S
  rw [rw_T2] at S
  rw [rw_T3] at S
  (refine st_y S (Yr.ys (ys_move (Ev.t rfl))) rfl ?_; clear S a w; intro a w S)
  (refine st_y S (Yr.ys (ys_ext (Ev.t rfl) rfl)) rfl ?_; clear S a w; intro a w S)
  (refine st_y S (Yr.ys (ys_ext (Ev.t rfl) rfl)) rfl ?_; clear S a w; intro a w S)
  (refine st_y S (Yr.ys (ys_assign (Ev.t rfl))) rfl ?_; clear S a w; intro a w S)
  (refine st_y S (Yr.ys (ys_assign (Ev.t rfl))) rfl ?_; clear S a w; intro a w S)
  refine st_nil ?_
  (refine (then_normal (hK1 _ _ ?_)); clear hK1)
  refine wp_seq_k fun _ hK1 => ?_
  refine wp_seq_k fun _ hK2 => ?_
  refine wp_region_lit ?_
  (refine st_y S (Yr.ys (ys_move (Ev.t rfl))) rfl ?_; clear S a w; intro a w S)
  (refine st_y S (Yr.ys (ys_F (by omega) (ys_neq (Ev.t rfl) Ev.c))) rfl ?_; clear S a w; intro a w S)
  refine st_nil ?_
  (refine (then_normal (hK2 _ _ ?_)); clear hK2)
  refine st_else S (Ev.t rfl) ?_
  refine wp_skip ?_
  (refine (then_normal (hK1 _ _ ?_)); clear hK1)
  refine wp_seq_k fun _ hK1 => ?_
  refine wp_region_lit ?_
  (refine st_y S (Yr.ys (ys_move (Ev.t rfl))) rfl ?_; clear S a w; intro a w S)
  (refine st_y S (Yr.ys (ys_fieldN (FieldT.mk Tryz.underlying71 rfl Tryz.sizeOf9 rfl) (Ev.t rfl) (i' := 0) rfl)) rfl ?_; clear S a w; intro a w S)
  (refine st_m (op_st S Tryz.sizeOf9 (Ev.t rfl) (Ev.t rfl) (k := 2) rfl rfl (by simp) ?_); clear S a w; intro a w S)
  refine st_nil ?_
  (refine (then_normal (hK1 _ _ ?_)); clear hK1)
  refine wp_seq_k fun _ hK1 => ?_
  refine wp_seq_k fun _ hK2 => ?_
  refine wp_region_lit ?_
  (refine st_y S (Yr.ys (ys_fieldN (FieldT.mk Tryz.underlying71 rfl Tryz.sizeOf58 rfl) (Ev.t rfl) (i' := 1) rfl)) rfl ?_; clear S a w; intro a w S)
  (refine st_y S (Yr.ys (ys_fieldN (FieldT.mk Tryz.underlying58 rfl Tryz.sizeOf3 rfl) (Ev.t rfl) (i' := 1) rfl)) rfl ?_; clear S a w; intro a w S)
  (refine st_y S (Yr.ys (ys_fieldN (FieldT.mk Tryz.underlying71 rfl Tryz.sizeOf58 rfl) (Ev.t rfl) (i' := 1) rfl)) rfl ?_; clear S a w; intro a w S)
  (refine st_y S (Yr.ys (ys_fieldN (FieldT.mk Tryz.underlying58 rfl Tryz.sizeOf3 rfl) (Ev.t rfl) (i' := 2) rfl)) rfl ?_; clear S a w; intro a w S)
  (refine st_y S (Yr.ys (ys_fieldN (FieldT.mk Tryz.underlying71 rfl Tryz.sizeOf58 rfl) (Ev.t rfl) (i' := 1) rfl)) rfl ?_; clear S a w; intro a w S)
  (refine st_y S (Yr.ys (ys_fieldN (FieldT.mk Tryz.underlying58 rfl Tryz.sizeOf3 rfl) (Ev.t rfl) (i' := 3) rfl)) rfl ?_; clear S a w; intro a w S)
  (refine st_y S (Yr.ys (ys_fieldN (FieldT.mk Tryz.underlying71 rfl Tryz.sizeOf3 rfl) (Ev.t rfl) (i' := 4) rfl)) rfl ?_; clear S a w; intro a w S)
  (refine st_m (op_bsliceZ (ps := [(0, Go.Operand.tmp 24), (1, Go.Operand.tmp 26), (2, Go.Operand.tmp 28), (3, Go.Operand.tmp 29)]) (us := [_, _, _, _]) S Tryz.underlying149 Tryz.sizeOf148 Tryz.zeroValue148 rfl rfl (EvL.cons (Ev.t rfl) (EvL.cons (Ev.t rfl) (EvL.cons (Ev.t rfl) (EvL.cons (Ev.t rfl) EvL.nil)))) rfl rfl ?_); clear S a w; intro g3 a w S)
  (refine st_y S (Yr.ys (ys_lenS Tryz.underlying149 (Ev.t rfl))) rfl ?_; clear S a w; intro a w S)
  (refine st_y S (Yr.ys (ys_move Ev.c)) rfl ?_; clear S a w; intro a w S)
  refine st_nil ?_
  (refine (then_normal (hK2 _ _ ?_)); clear hK2)
  refine wp_block ?_
  refine st_rounds 5 (st_round ?_)
  refine wp_seq_k fun _ hK2 => ?_
  refine wp_region_lit ?_
  (refine st_y S (Yr.ys (ys_T (by omega) (ys_lss (Ev.t rfl) (Ev.t rfl)))) rfl ?_; clear S a w; intro a w S)
  refine st_nil ?_
  (refine (then_normal (hK2 _ _ ?_)); clear hK2)
  refine wp_seq_k fun _ hK2 => ?_
  refine st_then S (Ev.t rfl) ?_
  refine wp_skip ?_
  (refine (then_normal (hK2 _ _ ?_)); clear hK2)
  refine wp_seq_k fun _ hK2 => ?_
  refine wp_block ?_
  refine wp_seq_k fun _ hK3 => ?_
  refine wp_region_lit ?_
  (refine st_y S (Yr.ys (ys_ixS (j := 0) Tryz.underlying149 Tryz.sizeOf148 (Ev.t rfl) (Ev.t rfl) (fun _ => by omega))) rfl ?_; clear S a w; intro a w S)
  (refine st_y S (Yr.ys (ys_ld ⟨Tryz.isAgg148, Tryz.sizeOf148⟩ (Ev.t rfl) (k := 0) rfl rfl)) rfl ?_; clear S a w; intro a w S)
  (refine st_y S (Yr.ys (ys_assign (Ev.t rfl))) rfl ?_; clear S a w; intro a w S)
  refine st_nil ?_
  (refine (then_normal (hK3 _ _ ?_)); clear hK3)
  refine wp_seq_k fun _ hK3 => ?_
  refine wp_region_lit ?_
  (refine st_y S (Yr.ys (ys_move (Ev.t rfl))) rfl ?_; clear S a w; intro a w S)
  (refine st_y S (Yr.ys (ys_move (Ev.t rfl))) rfl ?_; clear S a w; intro a w S)
  (replace S := S.pull 2 rfl; try simp only [List.set_cons_zero, List.set_cons_succ, List.eraseIdx_cons_succ, List.eraseIdx_cons_zero] at S; replace S := S.pull 2 rfl; try simp only [List.set_cons_zero, List.set_cons_succ, List.eraseIdx_cons_succ, List.eraseIdx_cons_zero] at S; refine st_m (op_callO S Tryz.call57 (EvL.cons (Ev.t rfl) EvL.nil) (c57 S.wd (by first | assumption | omega | (dsimp only; omega) | exact Sl.nil_ | exact .old S.wd (by assumption) | exact Sl.of_own S.wd (k := 0) rfl (fun _ => rfl) | exact Sl.of_own S.wd (k := 1) rfl (fun _ => rfl) | exact Sl.of_own S.wd (k := 2) rfl (fun _ => rfl) | exact Sl.of_own S.wd (k := 3) rfl (fun _ => rfl) | exact Sl.of_own S.wd (k := 4) rfl (fun _ => rfl) | (simp at *; omega)) (by first | assumption | omega | (dsimp only; omega) | exact Sl.nil_ | exact .old S.wd (by assumption) | exact Sl.of_own S.wd (k := 0) rfl (fun _ => rfl) | exact Sl.of_own S.wd (k := 1) rfl (fun _ => rfl) | exact Sl.of_own S.wd (k := 2) rfl (fun _ => rfl) | exact Sl.of_own S.wd (k := 3) rfl (fun _ => rfl) | exact Sl.of_own S.wd (k := 4) rfl (fun _ => rfl) | (simp at *; omega))) rfl ?_) <;> clear S a w)
  rintro _ _ ⟨rfl, rfl⟩ a w S
  rw [rw_N1a] at S
  rw [rw_N1b] at S
  rw [rw_N1c] at S
  (refine st_y S (Yr.ys (ys_move (Ev.t rfl))) rfl ?_; clear S a w; intro a w S)
  (refine st_y S (Yr.ys (ys_ext (Ev.t rfl) rfl)) rfl ?_; clear S a w; intro a w S)
  (refine st_y S (Yr.ys (ys_ext (Ev.t rfl) rfl)) rfl ?_; clear S a w; intro a w S)
  (refine st_y S (Yr.ys (ys_nilc (Ev.t rfl))) rfl ?_; clear S a w; intro a w S)
  (refine st_m (op_st S Tryz.sizeOf3 (Ev.t rfl) (Ev.t rfl) (k := 3) rfl rfl (by simp) ?_); clear S a w; intro a w S)
  (refine st_y S (Yr.ys (ys_assign (Ev.t rfl))) rfl ?_; clear S a w; intro a w S)
  refine st_nil ?_
  (refine (then_normal (hK3 _ _ ?_)); clear hK3)
  refine wp_seq_k fun _ hK3 => ?_
  refine wp_region_lit ?_
  (refine st_y S (Yr.ys (ys_move (Ev.t rfl))) rfl ?_; clear S a w; intro a w S)
  (refine st_y S (Yr.ys (ys_F (by omega) (ys_neq (Ev.t rfl) Ev.c))) rfl ?_; clear S a w; intro a w S)
  refine st_nil ?_
  (refine (then_normal (hK3 _ _ ?_)); clear hK3)
  refine st_else S (Ev.t rfl) ?_
  refine wp_skip ?_
  (refine (in_normal (then_normal (hK2 _ _ ?_))); clear hK2)
  refine wp_region_lit ?_
  (refine st_y S (Yr.ys (ys_addI (Ev.t rfl) Ev.c (fun _ => by unfold I64; omega))) rfl ?_; clear S a w; intro a w S)
  (refine st_y S (Yr.ys (ys_move (Ev.t rfl))) rfl ?_; clear S a w; intro a w S)
  refine st_nil ?_
  refine (then_normal ?_)
  obtain ⟨x2, k3, e2, hN2⟩ : ∃ x k e, numAt b k2 = (x, k, e) := ⟨_, _, _, rfl⟩
  have t3 := numAt_le (b := b) (k := k2) (by omega)
  have rw_N2a : (numAt b k2).1 = x2 := by rw [hN2]
  have rw_N2b : (numAt b k2).2.1 = k3 := by rw [hN2]
  have rw_N2c : (numAt b k2).2.2 = e2 := by rw [hN2]
  rw [rw_N2b] at t3
  have he2 : e2 ≠ 0 → (entAt b k).2.2 = e2 := fun h => by
    unfold entAt
    rw [hT, bindR_ok rfl]
    dsimp only
    rw [hN1, bindR_ok rfl]
    dsimp only
    rw [hN2, bindR_bad (by exact h)]
  by_cases h2 : e2 = 0
  rotate_left
  · have rw_d : decide (e2 ≠ 0) = true := decide_eq_true h2
    refine st_round ?_
    refine wp_seq_k fun _ hK2 => ?_
    refine wp_region_lit ?_
    (refine st_y S (Yr.ys (ys_T (by omega) (ys_lss (Ev.t rfl) (Ev.t rfl)))) rfl ?_; clear S a w; intro a w S)
    refine st_nil ?_
    (refine (then_normal (hK2 _ _ ?_)); clear hK2)
    refine wp_seq_k fun _ hK2 => ?_
    refine st_then S (Ev.t rfl) ?_
    refine wp_skip ?_
    (refine (then_normal (hK2 _ _ ?_)); clear hK2)
    refine wp_seq_k fun _ hK2 => ?_
    refine wp_block ?_
    refine wp_seq_k fun _ hK3 => ?_
    refine wp_region_lit ?_
    (refine st_y S (Yr.ys (ys_ixS (j := 1) Tryz.underlying149 Tryz.sizeOf148 (Ev.t rfl) (Ev.t rfl) (fun _ => by omega))) rfl ?_; clear S a w; intro a w S)
    (refine st_y S (Yr.ys (ys_ld ⟨Tryz.isAgg148, Tryz.sizeOf148⟩ (Ev.t rfl) (k := 2) rfl rfl)) rfl ?_; clear S a w; intro a w S)
    (refine st_y S (Yr.ys (ys_assign (Ev.t rfl))) rfl ?_; clear S a w; intro a w S)
    refine st_nil ?_
    (refine (then_normal (hK3 _ _ ?_)); clear hK3)
    refine wp_seq_k fun _ hK3 => ?_
    refine wp_region_lit ?_
    (refine st_y S (Yr.ys (ys_move (Ev.t rfl))) rfl ?_; clear S a w; intro a w S)
    (refine st_y S (Yr.ys (ys_move (Ev.t rfl))) rfl ?_; clear S a w; intro a w S)
    (refine st_m (op_callO S Tryz.call57 (EvL.cons (Ev.t rfl) EvL.nil) (c57 S.wd (by first | assumption | omega | (dsimp only; omega) | exact Sl.nil_ | exact .old S.wd (by assumption) | exact Sl.of_own S.wd (k := 0) rfl (fun _ => rfl) | exact Sl.of_own S.wd (k := 1) rfl (fun _ => rfl) | exact Sl.of_own S.wd (k := 2) rfl (fun _ => rfl) | exact Sl.of_own S.wd (k := 3) rfl (fun _ => rfl) | exact Sl.of_own S.wd (k := 4) rfl (fun _ => rfl) | (simp at *; omega)) (by first | assumption | omega | (dsimp only; omega) | exact Sl.nil_ | exact .old S.wd (by assumption) | exact Sl.of_own S.wd (k := 0) rfl (fun _ => rfl) | exact Sl.of_own S.wd (k := 1) rfl (fun _ => rfl) | exact Sl.of_own S.wd (k := 2) rfl (fun _ => rfl) | exact Sl.of_own S.wd (k := 3) rfl (fun _ => rfl) | exact Sl.of_own S.wd (k := 4) rfl (fun _ => rfl) | (simp at *; omega))) rfl ?_) <;> clear S a w)
    rintro _ _ ⟨rfl, rfl⟩ a w S
    rw [rw_N2a] at S
    rw [rw_N2b] at S
    rw [rw_N2c] at S
    (refine st_y S (Yr.ys (ys_move (Ev.t rfl))) rfl ?_; clear S a w; intro a w S)
    (refine st_y S (Yr.ys (ys_ext (Ev.t rfl) rfl)) rfl ?_; clear S a w; intro a w S)
    (refine st_y S (Yr.ys (ys_ext (Ev.t rfl) rfl)) rfl ?_; clear S a w; intro a w S)
    (refine st_y S (Yr.ys (ys_nilc (Ev.t rfl))) rfl ?_; clear S a w; intro a w S)
    (refine st_m (op_st S Tryz.sizeOf3 (Ev.t rfl) (Ev.t rfl) (k := 3) rfl rfl (by simp) ?_); clear S a w; intro a w S)
    (refine st_y S (Yr.ys (ys_assign (Ev.t rfl))) rfl ?_; clear S a w; intro a w S)
    refine st_nil ?_
    (refine (then_normal (hK3 _ _ ?_)); clear hK3)
    refine wp_seq_k fun _ hK3 => ?_
    refine wp_region_lit ?_
    (refine st_y S (Yr.ys (ys_move (Ev.t rfl))) rfl ?_; clear S a w; intro a w S)
    (refine st_y S (Yr.ys (ys_T (by omega) (ys_neq (Ev.t rfl) Ev.c))) rfl ?_; clear S a w; intro a w S)
    refine st_nil ?_
    (refine (then_normal (hK3 _ _ ?_)); clear hK3)
    refine st_then S (Ev.t rfl) ?_
    refine wp_seq_k fun _ hK3 => ?_
    refine wp_region_lit ?_
    (refine st_y S (Yr.ys (ys_ldA ⟨Tryz.isAgg71, Tryz.sizeOf71⟩ (Ev.t rfl) (k := 3) rfl rfl)) rfl ?_; clear S a w; intro a w S)
    (refine st_y S (Yr.ys (ys_move (Ev.t rfl))) rfl ?_; clear S a w; intro a w S)
    (refine st_m (op_stW S Tryz.sizeOf71 (Ev.t rfl) (Ev.t rfl) (k := 4) rfl rfl rfl (by simp [Value.oneCell']) ?_); clear S a w; intro a w S)
    (refine st_y S (Yr.ys (ys_assign (Ev.t rfl))) rfl ?_; clear S a w; intro a w S)
    refine st_nil ?_
    (refine (then_normal (hK3 _ _ ?_)); clear hK3)
    refine wp_ret ?_
    refine (in_ret (then_ret (then_ret (in_ret (then_ret ?_)))))
    refine st_ret S (results2 S Tryz.results58 (Rv.cell (k := 4) ⟨Tryz.isAgg71, Tryz.sizeOf71⟩ rfl rfl rfl) (Rv.tmp rfl)) ?_
    exact ⟨_, _, rfl, S.wd.picks (L' := rdr g A cap b k3 L) (by repeat (first | exact Picks.nil | (refine Picks.rest ?_; (repeat (first | exact List.Sublist.refl _ | refine List.Sublist.cons_cons _ ?_ | refine List.Sublist.cons _ ?_)); done) | refine Picks.take 0 rfl ?_ | refine Picks.take 1 rfl ?_ | refine Picks.take 2 rfl ?_ | refine Picks.take 3 rfl ?_ | refine Picks.take 4 rfl ?_ | refine Picks.take 5 rfl ?_ | refine Picks.take 6 rfl ?_ | refine Picks.take 7 rfl ?_ | refine Picks.take 8 rfl ?_ | refine Picks.take 9 rfl ?_ | refine Picks.take 10 rfl ?_ | refine Picks.take 11 rfl ?_)), ⟨s, ⟨x1, x2, 0⟩, 0, 0⟩, k3, by rw [he2 h2]; rfl, rfl, by omega, fun h => absurd ((he2 h2).symm.trans h) h2⟩
  subst h2
  refine st_round ?_
  refine wp_seq_k fun _ hK2 => ?_
  refine wp_region_lit ?_
  (refine st_y S (Yr.ys (ys_T (by omega) (ys_lss (Ev.t rfl) (Ev.t rfl)))) rfl ?_; clear S a w; intro a w S)
  refine st_nil ?_
  (refine (then_normal (hK2 _ _ ?_)); clear hK2)
  refine wp_seq_k fun _ hK2 => ?_
  refine st_then S (Ev.t rfl) ?_
  refine wp_skip ?_
  (refine (then_normal (hK2 _ _ ?_)); clear hK2)
  refine wp_seq_k fun _ hK2 => ?_
  refine wp_block ?_
  refine wp_seq_k fun _ hK3 => ?_
  refine wp_region_lit ?_
  (refine st_y S (Yr.ys (ys_ixS (j := 1) Tryz.underlying149 Tryz.sizeOf148 (Ev.t rfl) (Ev.t rfl) (fun _ => by omega))) rfl ?_; clear S a w; intro a w S)
  (refine st_y S (Yr.ys (ys_ld ⟨Tryz.isAgg148, Tryz.sizeOf148⟩ (Ev.t rfl) (k := 2) rfl rfl)) rfl ?_; clear S a w; intro a w S)
  (refine st_y S (Yr.ys (ys_assign (Ev.t rfl))) rfl ?_; clear S a w; intro a w S)
  refine st_nil ?_
  (refine (then_normal (hK3 _ _ ?_)); clear hK3)
  refine wp_seq_k fun _ hK3 => ?_
  refine wp_region_lit ?_
  (refine st_y S (Yr.ys (ys_move (Ev.t rfl))) rfl ?_; clear S a w; intro a w S)
  (refine st_y S (Yr.ys (ys_move (Ev.t rfl))) rfl ?_; clear S a w; intro a w S)
  (refine st_m (op_callO S Tryz.call57 (EvL.cons (Ev.t rfl) EvL.nil) (c57 S.wd (by first | assumption | omega | (dsimp only; omega) | exact Sl.nil_ | exact .old S.wd (by assumption) | exact Sl.of_own S.wd (k := 0) rfl (fun _ => rfl) | exact Sl.of_own S.wd (k := 1) rfl (fun _ => rfl) | exact Sl.of_own S.wd (k := 2) rfl (fun _ => rfl) | exact Sl.of_own S.wd (k := 3) rfl (fun _ => rfl) | exact Sl.of_own S.wd (k := 4) rfl (fun _ => rfl) | (simp at *; omega)) (by first | assumption | omega | (dsimp only; omega) | exact Sl.nil_ | exact .old S.wd (by assumption) | exact Sl.of_own S.wd (k := 0) rfl (fun _ => rfl) | exact Sl.of_own S.wd (k := 1) rfl (fun _ => rfl) | exact Sl.of_own S.wd (k := 2) rfl (fun _ => rfl) | exact Sl.of_own S.wd (k := 3) rfl (fun _ => rfl) | exact Sl.of_own S.wd (k := 4) rfl (fun _ => rfl) | (simp at *; omega))) rfl ?_) <;> clear S a w)
  rintro _ _ ⟨rfl, rfl⟩ a w S
  rw [rw_N2a] at S
  rw [rw_N2b] at S
  rw [rw_N2c] at S
  (refine st_y S (Yr.ys (ys_move (Ev.t rfl))) rfl ?_; clear S a w; intro a w S)
  (refine st_y S (Yr.ys (ys_ext (Ev.t rfl) rfl)) rfl ?_; clear S a w; intro a w S)
  (refine st_y S (Yr.ys (ys_ext (Ev.t rfl) rfl)) rfl ?_; clear S a w; intro a w S)
  (refine st_y S (Yr.ys (ys_nilc (Ev.t rfl))) rfl ?_; clear S a w; intro a w S)
  (refine st_m (op_st S Tryz.sizeOf3 (Ev.t rfl) (Ev.t rfl) (k := 3) rfl rfl (by simp) ?_); clear S a w; intro a w S)
  (refine st_y S (Yr.ys (ys_assign (Ev.t rfl))) rfl ?_; clear S a w; intro a w S)
  refine st_nil ?_
  (refine (then_normal (hK3 _ _ ?_)); clear hK3)
  refine wp_seq_k fun _ hK3 => ?_
  refine wp_region_lit ?_
  (refine st_y S (Yr.ys (ys_move (Ev.t rfl))) rfl ?_; clear S a w; intro a w S)
  (refine st_y S (Yr.ys (ys_F (by omega) (ys_neq (Ev.t rfl) Ev.c))) rfl ?_; clear S a w; intro a w S)
  refine st_nil ?_
  (refine (then_normal (hK3 _ _ ?_)); clear hK3)
  refine st_else S (Ev.t rfl) ?_
  refine wp_skip ?_
  (refine (in_normal (then_normal (hK2 _ _ ?_))); clear hK2)
  refine wp_region_lit ?_
  (refine st_y S (Yr.ys (ys_addI (Ev.t rfl) Ev.c (fun _ => by unfold I64; omega))) rfl ?_; clear S a w; intro a w S)
  (refine st_y S (Yr.ys (ys_move (Ev.t rfl))) rfl ?_; clear S a w; intro a w S)
  refine st_nil ?_
  refine (then_normal ?_)
  obtain ⟨x3, k4, e3, hN3⟩ : ∃ x k e, numAt b k3 = (x, k, e) := ⟨_, _, _, rfl⟩
  have t4 := numAt_le (b := b) (k := k3) (by omega)
  have rw_N3a : (numAt b k3).1 = x3 := by rw [hN3]
  have rw_N3b : (numAt b k3).2.1 = k4 := by rw [hN3]
  have rw_N3c : (numAt b k3).2.2 = e3 := by rw [hN3]
  rw [rw_N3b] at t4
  have he3 : e3 ≠ 0 → (entAt b k).2.2 = e3 := fun h => by
    unfold entAt
    rw [hT, bindR_ok rfl]
    dsimp only
    rw [hN1, bindR_ok rfl]
    dsimp only
    rw [hN2, bindR_ok rfl]
    dsimp only
    rw [hN3, bindR_bad (by exact h)]
  by_cases h3 : e3 = 0
  rotate_left
  · have rw_d : decide (e3 ≠ 0) = true := decide_eq_true h3
    refine st_round ?_
    refine wp_seq_k fun _ hK2 => ?_
    refine wp_region_lit ?_
    (refine st_y S (Yr.ys (ys_T (by omega) (ys_lss (Ev.t rfl) (Ev.t rfl)))) rfl ?_; clear S a w; intro a w S)
    refine st_nil ?_
    (refine (then_normal (hK2 _ _ ?_)); clear hK2)
    refine wp_seq_k fun _ hK2 => ?_
    refine st_then S (Ev.t rfl) ?_
    refine wp_skip ?_
    (refine (then_normal (hK2 _ _ ?_)); clear hK2)
    refine wp_seq_k fun _ hK2 => ?_
    refine wp_block ?_
    refine wp_seq_k fun _ hK3 => ?_
    refine wp_region_lit ?_
    (refine st_y S (Yr.ys (ys_ixS (j := 2) Tryz.underlying149 Tryz.sizeOf148 (Ev.t rfl) (Ev.t rfl) (fun _ => by omega))) rfl ?_; clear S a w; intro a w S)
    (refine st_y S (Yr.ys (ys_ld ⟨Tryz.isAgg148, Tryz.sizeOf148⟩ (Ev.t rfl) (k := 2) rfl rfl)) rfl ?_; clear S a w; intro a w S)
    (refine st_y S (Yr.ys (ys_assign (Ev.t rfl))) rfl ?_; clear S a w; intro a w S)
    refine st_nil ?_
    (refine (then_normal (hK3 _ _ ?_)); clear hK3)
    refine wp_seq_k fun _ hK3 => ?_
    refine wp_region_lit ?_
    (refine st_y S (Yr.ys (ys_move (Ev.t rfl))) rfl ?_; clear S a w; intro a w S)
    (refine st_y S (Yr.ys (ys_move (Ev.t rfl))) rfl ?_; clear S a w; intro a w S)
    (refine st_m (op_callO S Tryz.call57 (EvL.cons (Ev.t rfl) EvL.nil) (c57 S.wd (by first | assumption | omega | (dsimp only; omega) | exact Sl.nil_ | exact .old S.wd (by assumption) | exact Sl.of_own S.wd (k := 0) rfl (fun _ => rfl) | exact Sl.of_own S.wd (k := 1) rfl (fun _ => rfl) | exact Sl.of_own S.wd (k := 2) rfl (fun _ => rfl) | exact Sl.of_own S.wd (k := 3) rfl (fun _ => rfl) | exact Sl.of_own S.wd (k := 4) rfl (fun _ => rfl) | (simp at *; omega)) (by first | assumption | omega | (dsimp only; omega) | exact Sl.nil_ | exact .old S.wd (by assumption) | exact Sl.of_own S.wd (k := 0) rfl (fun _ => rfl) | exact Sl.of_own S.wd (k := 1) rfl (fun _ => rfl) | exact Sl.of_own S.wd (k := 2) rfl (fun _ => rfl) | exact Sl.of_own S.wd (k := 3) rfl (fun _ => rfl) | exact Sl.of_own S.wd (k := 4) rfl (fun _ => rfl) | (simp at *; omega))) rfl ?_) <;> clear S a w)
    rintro _ _ ⟨rfl, rfl⟩ a w S
    rw [rw_N3a] at S
    rw [rw_N3b] at S
    rw [rw_N3c] at S
    (refine st_y S (Yr.ys (ys_move (Ev.t rfl))) rfl ?_; clear S a w; intro a w S)
    (refine st_y S (Yr.ys (ys_ext (Ev.t rfl) rfl)) rfl ?_; clear S a w; intro a w S)
    (refine st_y S (Yr.ys (ys_ext (Ev.t rfl) rfl)) rfl ?_; clear S a w; intro a w S)
    (refine st_y S (Yr.ys (ys_nilc (Ev.t rfl))) rfl ?_; clear S a w; intro a w S)
    (refine st_m (op_st S Tryz.sizeOf3 (Ev.t rfl) (Ev.t rfl) (k := 3) rfl rfl (by simp) ?_); clear S a w; intro a w S)
    (refine st_y S (Yr.ys (ys_assign (Ev.t rfl))) rfl ?_; clear S a w; intro a w S)
    refine st_nil ?_
    (refine (then_normal (hK3 _ _ ?_)); clear hK3)
    refine wp_seq_k fun _ hK3 => ?_
    refine wp_region_lit ?_
    (refine st_y S (Yr.ys (ys_move (Ev.t rfl))) rfl ?_; clear S a w; intro a w S)
    (refine st_y S (Yr.ys (ys_T (by omega) (ys_neq (Ev.t rfl) Ev.c))) rfl ?_; clear S a w; intro a w S)
    refine st_nil ?_
    (refine (then_normal (hK3 _ _ ?_)); clear hK3)
    refine st_then S (Ev.t rfl) ?_
    refine wp_seq_k fun _ hK3 => ?_
    refine wp_region_lit ?_
    (refine st_y S (Yr.ys (ys_ldA ⟨Tryz.isAgg71, Tryz.sizeOf71⟩ (Ev.t rfl) (k := 3) rfl rfl)) rfl ?_; clear S a w; intro a w S)
    (refine st_y S (Yr.ys (ys_move (Ev.t rfl))) rfl ?_; clear S a w; intro a w S)
    (refine st_m (op_stW S Tryz.sizeOf71 (Ev.t rfl) (Ev.t rfl) (k := 4) rfl rfl rfl (by simp [Value.oneCell']) ?_); clear S a w; intro a w S)
    (refine st_y S (Yr.ys (ys_assign (Ev.t rfl))) rfl ?_; clear S a w; intro a w S)
    refine st_nil ?_
    (refine (then_normal (hK3 _ _ ?_)); clear hK3)
    refine wp_ret ?_
    refine (in_ret (then_ret (then_ret (in_ret (then_ret ?_)))))
    refine st_ret S (results2 S Tryz.results58 (Rv.cell (k := 4) ⟨Tryz.isAgg71, Tryz.sizeOf71⟩ rfl rfl rfl) (Rv.tmp rfl)) ?_
    exact ⟨_, _, rfl, S.wd.picks (L' := rdr g A cap b k4 L) (by repeat (first | exact Picks.nil | (refine Picks.rest ?_; (repeat (first | exact List.Sublist.refl _ | refine List.Sublist.cons_cons _ ?_ | refine List.Sublist.cons _ ?_)); done) | refine Picks.take 0 rfl ?_ | refine Picks.take 1 rfl ?_ | refine Picks.take 2 rfl ?_ | refine Picks.take 3 rfl ?_ | refine Picks.take 4 rfl ?_ | refine Picks.take 5 rfl ?_ | refine Picks.take 6 rfl ?_ | refine Picks.take 7 rfl ?_ | refine Picks.take 8 rfl ?_ | refine Picks.take 9 rfl ?_ | refine Picks.take 10 rfl ?_ | refine Picks.take 11 rfl ?_)), ⟨s, ⟨x1, x2, x3⟩, 0, 0⟩, k4, by rw [he3 h3]; rfl, rfl, by omega, fun h => absurd ((he3 h3).symm.trans h) h3⟩
  subst h3
  refine st_round ?_
  refine wp_seq_k fun _ hK2 => ?_
  refine wp_region_lit ?_
  (refine st_y S (Yr.ys (ys_T (by omega) (ys_lss (Ev.t rfl) (Ev.t rfl)))) rfl ?_; clear S a w; intro a w S)
  refine st_nil ?_
  (refine (then_normal (hK2 _ _ ?_)); clear hK2)
  refine wp_seq_k fun _ hK2 => ?_
  refine st_then S (Ev.t rfl) ?_
  refine wp_skip ?_
  (refine (then_normal (hK2 _ _ ?_)); clear hK2)
  refine wp_seq_k fun _ hK2 => ?_
  refine wp_block ?_
  refine wp_seq_k fun _ hK3 => ?_
  refine wp_region_lit ?_
  (refine st_y S (Yr.ys (ys_ixS (j := 2) Tryz.underlying149 Tryz.sizeOf148 (Ev.t rfl) (Ev.t rfl) (fun _ => by omega))) rfl ?_; clear S a w; intro a w S)
  (refine st_y S (Yr.ys (ys_ld ⟨Tryz.isAgg148, Tryz.sizeOf148⟩ (Ev.t rfl) (k := 2) rfl rfl)) rfl ?_; clear S a w; intro a w S)
  (refine st_y S (Yr.ys (ys_assign (Ev.t rfl))) rfl ?_; clear S a w; intro a w S)
  refine st_nil ?_
  (refine (then_normal (hK3 _ _ ?_)); clear hK3)
  refine wp_seq_k fun _ hK3 => ?_
  refine wp_region_lit ?_
  (refine st_y S (Yr.ys (ys_move (Ev.t rfl))) rfl ?_; clear S a w; intro a w S)
  (refine st_y S (Yr.ys (ys_move (Ev.t rfl))) rfl ?_; clear S a w; intro a w S)
  (refine st_m (op_callO S Tryz.call57 (EvL.cons (Ev.t rfl) EvL.nil) (c57 S.wd (by first | assumption | omega | (dsimp only; omega) | exact Sl.nil_ | exact .old S.wd (by assumption) | exact Sl.of_own S.wd (k := 0) rfl (fun _ => rfl) | exact Sl.of_own S.wd (k := 1) rfl (fun _ => rfl) | exact Sl.of_own S.wd (k := 2) rfl (fun _ => rfl) | exact Sl.of_own S.wd (k := 3) rfl (fun _ => rfl) | exact Sl.of_own S.wd (k := 4) rfl (fun _ => rfl) | (simp at *; omega)) (by first | assumption | omega | (dsimp only; omega) | exact Sl.nil_ | exact .old S.wd (by assumption) | exact Sl.of_own S.wd (k := 0) rfl (fun _ => rfl) | exact Sl.of_own S.wd (k := 1) rfl (fun _ => rfl) | exact Sl.of_own S.wd (k := 2) rfl (fun _ => rfl) | exact Sl.of_own S.wd (k := 3) rfl (fun _ => rfl) | exact Sl.of_own S.wd (k := 4) rfl (fun _ => rfl) | (simp at *; omega))) rfl ?_) <;> clear S a w)
  rintro _ _ ⟨rfl, rfl⟩ a w S
  rw [rw_N3a] at S
  rw [rw_N3b] at S
  rw [rw_N3c] at S
  (refine st_y S (Yr.ys (ys_move (Ev.t rfl))) rfl ?_; clear S a w; intro a w S)
  (refine st_y S (Yr.ys (ys_ext (Ev.t rfl) rfl)) rfl ?_; clear S a w; intro a w S)
  (refine st_y S (Yr.ys (ys_ext (Ev.t rfl) rfl)) rfl ?_; clear S a w; intro a w S)
  (refine st_y S (Yr.ys (ys_nilc (Ev.t rfl))) rfl ?_; clear S a w; intro a w S)
  (refine st_m (op_st S Tryz.sizeOf3 (Ev.t rfl) (Ev.t rfl) (k := 3) rfl rfl (by simp) ?_); clear S a w; intro a w S)
  (refine st_y S (Yr.ys (ys_assign (Ev.t rfl))) rfl ?_; clear S a w; intro a w S)
  refine st_nil ?_
  (refine (then_normal (hK3 _ _ ?_)); clear hK3)
  refine wp_seq_k fun _ hK3 => ?_
  refine wp_region_lit ?_
  (refine st_y S (Yr.ys (ys_move (Ev.t rfl))) rfl ?_; clear S a w; intro a w S)
  (refine st_y S (Yr.ys (ys_F (by omega) (ys_neq (Ev.t rfl) Ev.c))) rfl ?_; clear S a w; intro a w S)
  refine st_nil ?_
  (refine (then_normal (hK3 _ _ ?_)); clear hK3)
  refine st_else S (Ev.t rfl) ?_
  refine wp_skip ?_
  (refine (in_normal (then_normal (hK2 _ _ ?_))); clear hK2)
  refine wp_region_lit ?_
  (refine st_y S (Yr.ys (ys_addI (Ev.t rfl) Ev.c (fun _ => by unfold I64; omega))) rfl ?_; clear S a w; intro a w S)
  (refine st_y S (Yr.ys (ys_move (Ev.t rfl))) rfl ?_; clear S a w; intro a w S)
  refine st_nil ?_
  refine (then_normal ?_)
  obtain ⟨x4, k5, e4, hN4⟩ : ∃ x k e, numAt b k4 = (x, k, e) := ⟨_, _, _, rfl⟩
  have t5 := numAt_le (b := b) (k := k4) (by omega)
  have rw_N4a : (numAt b k4).1 = x4 := by rw [hN4]
  have rw_N4b : (numAt b k4).2.1 = k5 := by rw [hN4]
  have rw_N4c : (numAt b k4).2.2 = e4 := by rw [hN4]
  rw [rw_N4b] at t5
  have he4 : e4 ≠ 0 → (entAt b k).2.2 = e4 := fun h => by
    unfold entAt
    rw [hT, bindR_ok rfl]
    dsimp only
    rw [hN1, bindR_ok rfl]
    dsimp only
    rw [hN2, bindR_ok rfl]
    dsimp only
    rw [hN3, bindR_ok rfl]
    dsimp only
    rw [hN4, bindR_bad (by exact h)]
  by_cases h4 : e4 = 0
  rotate_left
  · have rw_d : decide (e4 ≠ 0) = true := decide_eq_true h4
    refine st_round ?_
    refine wp_seq_k fun _ hK2 => ?_
    refine wp_region_lit ?_
    (refine st_y S (Yr.ys (ys_T (by omega) (ys_lss (Ev.t rfl) (Ev.t rfl)))) rfl ?_; clear S a w; intro a w S)
    refine st_nil ?_
    (refine (then_normal (hK2 _ _ ?_)); clear hK2)
    refine wp_seq_k fun _ hK2 => ?_
    refine st_then S (Ev.t rfl) ?_
    refine wp_skip ?_
    (refine (then_normal (hK2 _ _ ?_)); clear hK2)
    refine wp_seq_k fun _ hK2 => ?_
    refine wp_block ?_
    refine wp_seq_k fun _ hK3 => ?_
    refine wp_region_lit ?_
    (refine st_y S (Yr.ys (ys_ixS (j := 3) Tryz.underlying149 Tryz.sizeOf148 (Ev.t rfl) (Ev.t rfl) (fun _ => by omega))) rfl ?_; clear S a w; intro a w S)
    (refine st_y S (Yr.ys (ys_ld ⟨Tryz.isAgg148, Tryz.sizeOf148⟩ (Ev.t rfl) (k := 2) rfl rfl)) rfl ?_; clear S a w; intro a w S)
    (refine st_y S (Yr.ys (ys_assign (Ev.t rfl))) rfl ?_; clear S a w; intro a w S)
    refine st_nil ?_
    (refine (then_normal (hK3 _ _ ?_)); clear hK3)
    refine wp_seq_k fun _ hK3 => ?_
    refine wp_region_lit ?_
    (refine st_y S (Yr.ys (ys_move (Ev.t rfl))) rfl ?_; clear S a w; intro a w S)
    (refine st_y S (Yr.ys (ys_move (Ev.t rfl))) rfl ?_; clear S a w; intro a w S)
    (refine st_m (op_callO S Tryz.call57 (EvL.cons (Ev.t rfl) EvL.nil) (c57 S.wd (by first | assumption | omega | (dsimp only; omega) | exact Sl.nil_ | exact .old S.wd (by assumption) | exact Sl.of_own S.wd (k := 0) rfl (fun _ => rfl) | exact Sl.of_own S.wd (k := 1) rfl (fun _ => rfl) | exact Sl.of_own S.wd (k := 2) rfl (fun _ => rfl) | exact Sl.of_own S.wd (k := 3) rfl (fun _ => rfl) | exact Sl.of_own S.wd (k := 4) rfl (fun _ => rfl) | (simp at *; omega)) (by first | assumption | omega | (dsimp only; omega) | exact Sl.nil_ | exact .old S.wd (by assumption) | exact Sl.of_own S.wd (k := 0) rfl (fun _ => rfl) | exact Sl.of_own S.wd (k := 1) rfl (fun _ => rfl) | exact Sl.of_own S.wd (k := 2) rfl (fun _ => rfl) | exact Sl.of_own S.wd (k := 3) rfl (fun _ => rfl) | exact Sl.of_own S.wd (k := 4) rfl (fun _ => rfl) | (simp at *; omega))) rfl ?_) <;> clear S a w)
    rintro _ _ ⟨rfl, rfl⟩ a w S
    rw [rw_N4a] at S
    rw [rw_N4b] at S
    rw [rw_N4c] at S
    (refine st_y S (Yr.ys (ys_move (Ev.t rfl))) rfl ?_; clear S a w; intro a w S)
    (refine st_y S (Yr.ys (ys_ext (Ev.t rfl) rfl)) rfl ?_; clear S a w; intro a w S)
    (refine st_y S (Yr.ys (ys_ext (Ev.t rfl) rfl)) rfl ?_; clear S a w; intro a w S)
    (refine st_y S (Yr.ys (ys_nilc (Ev.t rfl))) rfl ?_; clear S a w; intro a w S)
    (refine st_m (op_st S Tryz.sizeOf3 (Ev.t rfl) (Ev.t rfl) (k := 3) rfl rfl (by simp) ?_); clear S a w; intro a w S)
    (refine st_y S (Yr.ys (ys_assign (Ev.t rfl))) rfl ?_; clear S a w; intro a w S)
    refine st_nil ?_
    (refine (then_normal (hK3 _ _ ?_)); clear hK3)
    refine wp_seq_k fun _ hK3 => ?_
    refine wp_region_lit ?_
    (refine st_y S (Yr.ys (ys_move (Ev.t rfl))) rfl ?_; clear S a w; intro a w S)
    (refine st_y S (Yr.ys (ys_T (by omega) (ys_neq (Ev.t rfl) Ev.c))) rfl ?_; clear S a w; intro a w S)
    refine st_nil ?_
    (refine (then_normal (hK3 _ _ ?_)); clear hK3)
    refine st_then S (Ev.t rfl) ?_
    refine wp_seq_k fun _ hK3 => ?_
    refine wp_region_lit ?_
    (refine st_y S (Yr.ys (ys_ldA ⟨Tryz.isAgg71, Tryz.sizeOf71⟩ (Ev.t rfl) (k := 3) rfl rfl)) rfl ?_; clear S a w; intro a w S)
    (refine st_y S (Yr.ys (ys_move (Ev.t rfl))) rfl ?_; clear S a w; intro a w S)
    (refine st_m (op_stW S Tryz.sizeOf71 (Ev.t rfl) (Ev.t rfl) (k := 4) rfl rfl rfl (by simp [Value.oneCell']) ?_); clear S a w; intro a w S)
    (refine st_y S (Yr.ys (ys_assign (Ev.t rfl))) rfl ?_; clear S a w; intro a w S)
    refine st_nil ?_
    (refine (then_normal (hK3 _ _ ?_)); clear hK3)
    refine wp_ret ?_
    refine (in_ret (then_ret (then_ret (in_ret (then_ret ?_)))))
    refine st_ret S (results2 S Tryz.results58 (Rv.cell (k := 4) ⟨Tryz.isAgg71, Tryz.sizeOf71⟩ rfl rfl rfl) (Rv.tmp rfl)) ?_
    exact ⟨_, _, rfl, S.wd.picks (L' := rdr g A cap b k5 L) (by repeat (first | exact Picks.nil | (refine Picks.rest ?_; (repeat (first | exact List.Sublist.refl _ | refine List.Sublist.cons_cons _ ?_ | refine List.Sublist.cons _ ?_)); done) | refine Picks.take 0 rfl ?_ | refine Picks.take 1 rfl ?_ | refine Picks.take 2 rfl ?_ | refine Picks.take 3 rfl ?_ | refine Picks.take 4 rfl ?_ | refine Picks.take 5 rfl ?_ | refine Picks.take 6 rfl ?_ | refine Picks.take 7 rfl ?_ | refine Picks.take 8 rfl ?_ | refine Picks.take 9 rfl ?_ | refine Picks.take 10 rfl ?_ | refine Picks.take 11 rfl ?_)), ⟨s, ⟨x1, x2, x3⟩, x4, 0⟩, k5, by rw [he4 h4]; rfl, rfl, by omega, fun h => absurd ((he4 h4).symm.trans h) h4⟩
  subst h4
  refine st_round ?_
  refine wp_seq_k fun _ hK2 => ?_
  refine wp_region_lit ?_
  (refine st_y S (Yr.ys (ys_T (by omega) (ys_lss (Ev.t rfl) (Ev.t rfl)))) rfl ?_; clear S a w; intro a w S)
  refine st_nil ?_
  (refine (then_normal (hK2 _ _ ?_)); clear hK2)
  refine wp_seq_k fun _ hK2 => ?_
  refine st_then S (Ev.t rfl) ?_
  refine wp_skip ?_
  (refine (then_normal (hK2 _ _ ?_)); clear hK2)
  refine wp_seq_k fun _ hK2 => ?_
  refine wp_block ?_
  refine wp_seq_k fun _ hK3 => ?_
  refine wp_region_lit ?_
  (refine st_y S (Yr.ys (ys_ixS (j := 3) Tryz.underlying149 Tryz.sizeOf148 (Ev.t rfl) (Ev.t rfl) (fun _ => by omega))) rfl ?_; clear S a w; intro a w S)
  (refine st_y S (Yr.ys (ys_ld ⟨Tryz.isAgg148, Tryz.sizeOf148⟩ (Ev.t rfl) (k := 2) rfl rfl)) rfl ?_; clear S a w; intro a w S)
  (refine st_y S (Yr.ys (ys_assign (Ev.t rfl))) rfl ?_; clear S a w; intro a w S)
  refine st_nil ?_
  (refine (then_normal (hK3 _ _ ?_)); clear hK3)
  refine wp_seq_k fun _ hK3 => ?_
  refine wp_region_lit ?_
  (refine st_y S (Yr.ys (ys_move (Ev.t rfl))) rfl ?_; clear S a w; intro a w S)
  (refine st_y S (Yr.ys (ys_move (Ev.t rfl))) rfl ?_; clear S a w; intro a w S)
  (refine st_m (op_callO S Tryz.call57 (EvL.cons (Ev.t rfl) EvL.nil) (c57 S.wd (by first | assumption | omega | (dsimp only; omega) | exact Sl.nil_ | exact .old S.wd (by assumption) | exact Sl.of_own S.wd (k := 0) rfl (fun _ => rfl) | exact Sl.of_own S.wd (k := 1) rfl (fun _ => rfl) | exact Sl.of_own S.wd (k := 2) rfl (fun _ => rfl) | exact Sl.of_own S.wd (k := 3) rfl (fun _ => rfl) | exact Sl.of_own S.wd (k := 4) rfl (fun _ => rfl) | (simp at *; omega)) (by first | assumption | omega | (dsimp only; omega) | exact Sl.nil_ | exact .old S.wd (by assumption) | exact Sl.of_own S.wd (k := 0) rfl (fun _ => rfl) | exact Sl.of_own S.wd (k := 1) rfl (fun _ => rfl) | exact Sl.of_own S.wd (k := 2) rfl (fun _ => rfl) | exact Sl.of_own S.wd (k := 3) rfl (fun _ => rfl) | exact Sl.of_own S.wd (k := 4) rfl (fun _ => rfl) | (simp at *; omega))) rfl ?_) <;> clear S a w)
  rintro _ _ ⟨rfl, rfl⟩ a w S
  rw [rw_N4a] at S
  rw [rw_N4b] at S
  rw [rw_N4c] at S
  (refine st_y S (Yr.ys (ys_move (Ev.t rfl))) rfl ?_; clear S a w; intro a w S)
  (refine st_y S (Yr.ys (ys_ext (Ev.t rfl) rfl)) rfl ?_; clear S a w; intro a w S)
  (refine st_y S (Yr.ys (ys_ext (Ev.t rfl) rfl)) rfl ?_; clear S a w; intro a w S)
  (refine st_y S (Yr.ys (ys_nilc (Ev.t rfl))) rfl ?_; clear S a w; intro a w S)
  (refine st_m (op_st S Tryz.sizeOf3 (Ev.t rfl) (Ev.t rfl) (k := 3) rfl rfl (by simp) ?_); clear S a w; intro a w S)
  (refine st_y S (Yr.ys (ys_assign (Ev.t rfl))) rfl ?_; clear S a w; intro a w S)
  refine st_nil ?_
  (refine (then_normal (hK3 _ _ ?_)); clear hK3)
  refine wp_seq_k fun _ hK3 => ?_
  refine wp_region_lit ?_
  (refine st_y S (Yr.ys (ys_move (Ev.t rfl))) rfl ?_; clear S a w; intro a w S)
  (refine st_y S (Yr.ys (ys_F (by omega) (ys_neq (Ev.t rfl) Ev.c))) rfl ?_; clear S a w; intro a w S)
  refine st_nil ?_
  (refine (then_normal (hK3 _ _ ?_)); clear hK3)
  refine st_else S (Ev.t rfl) ?_
  refine wp_skip ?_
  (refine (in_normal (then_normal (hK2 _ _ ?_))); clear hK2)
  refine wp_region_lit ?_
  (refine st_y S (Yr.ys (ys_addI (Ev.t rfl) Ev.c (fun _ => by unfold I64; omega))) rfl ?_; clear S a w; intro a w S)
  (refine st_y S (Yr.ys (ys_move (Ev.t rfl))) rfl ?_; clear S a w; intro a w S)
  refine st_nil ?_
  refine (then_normal ?_)
  refine st_round ?_
  refine wp_seq_k fun _ hK2 => ?_
  refine wp_region_lit ?_
  (refine st_y S (Yr.ys (ys_F (by omega) (ys_lss (Ev.t rfl) (Ev.t rfl)))) rfl ?_; clear S a w; intro a w S)
  refine st_nil ?_
  (refine (then_normal (hK2 _ _ ?_)); clear hK2)
  refine wp_seq_k fun _ hK2 => ?_
  refine st_else S (Ev.t rfl) ?_
  refine wp_exit ?_
  (refine (then_exit (then_exit (in_here (then_normal (hK1 _ _ ?_))))); clear hK1)
  refine wp_seq_k fun _ hK1 => ?_
  refine wp_seq_k fun _ hK3 => ?_
  refine wp_region_lit ?_
  (refine st_y S (Yr.ys (ys_move Ev.c)) rfl ?_; clear S a w; intro a w S)
  refine st_nil ?_
  (refine (then_normal (hK3 _ _ ?_)); clear hK3)
  refine wp_block ?_
  have t6 : u64R b k5 = if k5 + 8 ≤ b.length then (leV b k5 8, k5 + 8, 0) else (0, b.length, 2) := rfl
  have hE : entAt b k = bindR (u64R b k5) Ent.none fun p k6 => (⟨s, ⟨x1, x2, x3⟩, x4, UInt64.ofNat p⟩, k6, 0) := by
    unfold entAt
    rw [hT, bindR_ok rfl]
    dsimp only
    rw [hN1, bindR_ok rfl]
    dsimp only
    rw [hN2, bindR_ok rfl]
    dsimp only
    rw [hN3, bindR_ok rfl]
    dsimp only
    rw [hN4, bindR_ok rfl]
  refine st_loopM S [48] (X := Nat) (fun i => [(48, true, .int .i64 (i : Int))]) (fun i => rdr g A cap b (k5 + i) (.blk g2 (.cells #[.string (Fw.bs s), .int .i64 x1, .int .i64 x2, .int .i64 x3, .int .i64 x4, .int .u64 (leV b k5 i : Int)] 71) :: .blk g1 (.cells #[.string ⟨#[]⟩, .int .i64 0, .int .i64 0, .int .i64 0, .int .i64 0, .int .u64 0] 71) :: L))
    (fun i => i ≤ 8 ∧ k5 + i ≤ b.length) (fun i => 8 - i) 0 ⟨Nat.zero_le _, t5.2⟩ (by repeat (first | exact Fits.nil | refine Fits.skip rfl ?_ | refine Fits.cons rfl ?_)) (by repeat (first | exact Picks.nil | (refine Picks.rest ?_; (repeat (first | exact List.Sublist.refl _ | refine List.Sublist.cons_cons _ ?_ | refine List.Sublist.cons _ ?_)); done) | refine Picks.take 0 rfl ?_ | refine Picks.take 1 rfl ?_ | refine Picks.take 2 rfl ?_ | refine Picks.take 3 rfl ?_ | refine Picks.take 4 rfl ?_ | refine Picks.take 5 rfl ?_ | refine Picks.take 6 rfl ?_ | refine Picks.take 7 rfl ?_ | refine Picks.take 8 rfl ?_ | refine Picks.take 9 rfl ?_ | refine Picks.take 10 rfl ?_ | refine Picks.take 11 rfl ?_)) ?_
  clear S
  intro i a w ⟨hi, hki⟩ S
  by_cases hlt : i < 8
  · by_cases hb8 : k5 + i < b.length
    · obtain ⟨y, hy⟩ : ∃ y, b[k5 + i]? = some y := ⟨_, List.getElem?_eq_getElem hb8⟩
      have hy8 : y.toNat < 256 := y.toNat_lt
      have rw_b1 : (byteR b (k5 + i)).1 = (y.toNat : Int) := by rw [byteR_some hy]
      have rw_b2 : (byteR b (k5 + i)).2.1 = 1 := by rw [byteR_some hy]
      have rw_b3 : (byteR b (k5 + i)).2.2 = 0 := by rw [byteR_some hy]
      have rw_i : (i : Int) + 1 = ((i + 1 : Nat) : Int) := rfl
      have rw_8 : 8 * (i : Int) = ((8 * i : Nat) : Int) := rfl
      have rw_s := shl_le hy8 hlt
      have rw_o : orK .u64 (leV b k5 i : Int) ((y.toNat * 256 ^ i : Nat) : Int) = (leV b k5 (i + 1) : Int) := by
        rw [or_le (leV_lt b k5 i) hy8 hlt, leV, List.getD_eq_getElem?_getD, hy]
        rfl
      refine wp_seq_k fun _ hK3 => ?_
      refine wp_region_lit ?_
      (refine st_y S (Yr.ys (ys_T (by omega) (ys_lss (Ev.t rfl) Ev.c))) rfl ?_; clear S a w; intro a w S)
      refine st_nil ?_
      (refine (then_normal (hK3 _ _ ?_)); clear hK3)
      refine wp_seq_k fun _ hK3 => ?_
      refine st_then S (Ev.t rfl) ?_
      refine wp_skip ?_
      (refine (then_normal (hK3 _ _ ?_)); clear hK3)
      refine wp_seq_k fun _ hK3 => ?_
      refine wp_block ?_
      refine wp_seq_k fun _ hK4 => ?_
      refine wp_region_lit ?_
      (refine st_y S (Yr.ys (ys_move (Ev.t rfl))) rfl ?_; clear S a w; intro a w S)
      (refine st_y S (Yr.ys (ys_assign (Ev.t rfl))) rfl ?_; clear S a w; intro a w S)
      refine st_nil ?_
      (refine (then_normal (hK4 _ _ ?_)); clear hK4)
      refine wp_seq_k fun _ hK4 => ?_
      refine wp_region_lit ?_
      (refine st_y S (Yr.ys (ys_move (Ev.t rfl))) rfl ?_; clear S a w; intro a w S)
      (refine st_m (op_callO S Tryz.call118 (EvL.cons (Ev.t rfl) EvL.nil) (c118 S.wd (by first | assumption | omega | (dsimp only; omega) | exact Sl.nil_ | exact .old S.wd (by assumption) | exact Sl.of_own S.wd (k := 0) rfl (fun _ => rfl) | exact Sl.of_own S.wd (k := 1) rfl (fun _ => rfl) | exact Sl.of_own S.wd (k := 2) rfl (fun _ => rfl) | exact Sl.of_own S.wd (k := 3) rfl (fun _ => rfl) | (simp at *; omega)) (by first | assumption | omega | (dsimp only; omega) | exact Sl.nil_ | exact .old S.wd (by assumption) | exact Sl.of_own S.wd (k := 0) rfl (fun _ => rfl) | exact Sl.of_own S.wd (k := 1) rfl (fun _ => rfl) | exact Sl.of_own S.wd (k := 2) rfl (fun _ => rfl) | exact Sl.of_own S.wd (k := 3) rfl (fun _ => rfl) | (simp at *; omega))) rfl ?_) <;> clear S a w)
      rintro _ _ ⟨rfl, rfl⟩ a w S
      rw [rw_b1] at S
      rw [rw_b2] at S
      rw [rw_b3] at S
      (refine st_y S (Yr.ys (ys_move (Ev.t rfl))) rfl ?_; clear S a w; intro a w S)
      (refine st_y S (Yr.ys (ys_ext (Ev.t rfl) rfl)) rfl ?_; clear S a w; intro a w S)
      (refine st_y S (Yr.ys (ys_ext (Ev.t rfl) rfl)) rfl ?_; clear S a w; intro a w S)
      (refine st_y S (Yr.ys (ys_assign (Ev.t rfl))) rfl ?_; clear S a w; intro a w S)
      (refine st_y S (Yr.ys (ys_assign (Ev.t rfl))) rfl ?_; clear S a w; intro a w S)
      refine st_nil ?_
      (refine (then_normal (hK4 _ _ ?_)); clear hK4)
      refine wp_seq_k fun _ hK4 => ?_
      refine wp_seq_k fun _ hK5 => ?_
      refine wp_region_lit ?_
      (refine st_y S (Yr.ys (ys_move (Ev.t rfl))) rfl ?_; clear S a w; intro a w S)
      (refine st_y S (Yr.ys (ys_F (by omega) (ys_neq (Ev.t rfl) Ev.c))) rfl ?_; clear S a w; intro a w S)
      refine st_nil ?_
      (refine (then_normal (hK5 _ _ ?_)); clear hK5)
      refine st_else S (Ev.t rfl) ?_
      refine wp_skip ?_
      (refine (then_normal (hK4 _ _ ?_)); clear hK4)
      (refine h_beginE S (by kernel_rfl) 2 ?_; clear S a w; intro a w S)
      (refine h_y (i := 0) S (by repeat (first | exact List.Sublist.refl _ | exact List.nil_sublist _ | refine .cons_cons _ ?_ | refine .cons _ ?_)) rfl (by kernel_rfl) (by kernel_rfl) (by kernel_rfl) (fun _ _ _ _ h => h) (ys_fieldN (FieldT.mk Tryz.underlying71 rfl Tryz.sizeOf27 rfl) (Ev.t rfl) (i' := 5) rfl) rfl ?_; clear S a w; intro a w S)
      (refine h_y (i := 2) S (by repeat (first | exact List.Sublist.refl _ | exact List.nil_sublist _ | refine .cons_cons _ ?_ | refine .cons _ ?_)) rfl (by kernel_rfl) (by kernel_rfl) (by kernel_rfl) (fun _ _ _ _ h => h) (ys_move (Ev.t rfl)) rfl ?_; clear S a w; intro a w S)
      (refine h_y (i := 3) S (by repeat (first | exact List.Sublist.refl _ | exact List.nil_sublist _ | refine .cons_cons _ ?_ | refine .cons _ ?_)) rfl (by kernel_rfl) (by kernel_rfl) (by kernel_rfl) (fun _ _ _ _ h => h) (ys_cvU Tryz.underlying3 Tryz.underlying27 (Ev.t rfl) (fun _ => by omega)) rfl ?_; clear S a w; intro a w S)
      (refine h_y (i := 4) S (by repeat (first | exact List.Sublist.refl _ | exact List.nil_sublist _ | refine .cons_cons _ ?_ | refine .cons _ ?_)) rfl (by kernel_rfl) (by kernel_rfl) (by kernel_rfl) (fun _ _ _ _ h => h) (ys_move (Ev.t rfl)) rfl ?_; clear S a w; intro a w S)
      (refine h_y (i := 5) S (by repeat (first | exact List.Sublist.refl _ | exact List.nil_sublist _ | refine .cons_cons _ ?_ | refine .cons _ ?_)) rfl (by kernel_rfl) (by kernel_rfl) (by kernel_rfl) (fun _ _ _ _ h => h) (ys_mulI Ev.c (Ev.t rfl) (fun _ => by unfold I64; omega)) rfl ?_; clear S a w; intro a w S)
      rw [rw_8] at S
      (refine h_y (i := 6) S (by repeat (first | exact List.Sublist.refl _ | exact List.nil_sublist _ | refine .cons_cons _ ?_ | refine .cons _ ?_)) rfl (by kernel_rfl) (by kernel_rfl) (by kernel_rfl) (fun _ _ _ _ h => h) (ys_shl (Ev.t rfl) (Ev.t rfl) (Nat.ble_eq_true_of_le (by show _ ≤ 64; omega))) rfl ?_; clear S a w; intro a w S)
      rw [rw_s] at S
      (refine h_q (i := 1) S (by repeat (first | exact List.Sublist.refl _ | exact List.nil_sublist _ | refine .cons_cons _ ?_ | refine .cons _ ?_)) rfl (by kernel_rfl) (Yr.ys (ys_ld ⟨Tryz.isAgg27, Tryz.sizeOf27⟩ (Ev.t rfl) (k := 2) rfl rfl)) rfl ?_; clear S a w; intro a w S)
      (refine h_y (i := 7) S (by repeat (first | exact List.Sublist.refl _ | exact List.nil_sublist _ | refine .cons_cons _ ?_ | refine .cons _ ?_)) rfl (by kernel_rfl) (by kernel_rfl) (by kernel_rfl) (fun _ _ _ _ h => h) (ys_bor (Ev.t rfl) (Ev.t rfl)) rfl ?_; clear S a w; intro a w S)
      rw [rw_o] at S
      (refine h_y (i := 8) S (by repeat (first | exact List.Sublist.refl _ | exact List.nil_sublist _ | refine .cons_cons _ ?_ | refine .cons _ ?_)) rfl (by kernel_rfl) (by kernel_rfl) (by kernel_rfl) (fun _ _ _ _ h => h) (ys_fieldN (FieldT.mk Tryz.underlying71 rfl Tryz.sizeOf27 rfl) (Ev.t rfl) (i' := 5) rfl) rfl ?_; clear S a w; intro a w S)
      (refine h_m0 (i := 9) rfl (by kernel_rfl) (op_st S Tryz.sizeOf27 (Ev.t rfl) (Ev.t rfl) (k := 2) rfl rfl (by simp) ?_); clear S a w; intro a w S; refine h_on S _ (List.Sublist.refl _) (by repeat (first | exact List.Sublist.refl _ | exact List.nil_sublist _ | refine .cons_cons _ ?_ | refine .cons _ ?_)) ?_)
      refine h_done (by kernel_rfl) ?_
      (refine (in_normal (then_normal (hK3 _ _ ?_))); clear hK3)
      refine wp_region_lit ?_
      (refine st_y S (Yr.ys (ys_addI (Ev.t rfl) Ev.c (fun _ => by unfold I64; omega))) rfl ?_; clear S a w; intro a w S)
      rw [rw_i] at S
      (refine st_y S (Yr.ys (ys_move (Ev.t rfl))) rfl ?_; clear S a w; intro a w S)
      refine st_nil ?_
      refine (then_normal ?_)
      exact ⟨i + 1, ⟨by omega, by omega⟩, by omega, S.picks (by repeat (first | exact Fits.nil | refine Fits.skip rfl ?_ | refine Fits.cons rfl ?_)) (by repeat (first | exact Picks.nil | (refine Picks.rest ?_; (repeat (first | exact List.Sublist.refl _ | refine List.Sublist.cons_cons _ ?_ | refine List.Sublist.cons _ ?_)); done) | refine Picks.take 0 rfl ?_ | refine Picks.take 1 rfl ?_ | refine Picks.take 2 rfl ?_ | refine Picks.take 3 rfl ?_ | refine Picks.take 4 rfl ?_ | refine Picks.take 5 rfl ?_ | refine Picks.take 6 rfl ?_ | refine Picks.take 7 rfl ?_ | refine Picks.take 8 rfl ?_ | refine Picks.take 9 rfl ?_ | refine Picks.take 10 rfl ?_ | refine Picks.take 11 rfl ?_))⟩
    · have rw_b1 : (byteR b (k5 + i)).1 = 0 := by rw [byteR_none (by omega)]
      have rw_b2 : (byteR b (k5 + i)).2.1 = 0 := by rw [byteR_none (by omega)]
      have rw_b3 : (byteR b (k5 + i)).2.2 = 2 := by rw [byteR_none (by omega)]
      have he : (entAt b k).2.2 = 2 := by rw [hE, t6, if_neg (by omega)]; rfl
      refine wp_seq_k fun _ hK3 => ?_
      refine wp_region_lit ?_
      (refine st_y S (Yr.ys (ys_T (by omega) (ys_lss (Ev.t rfl) Ev.c))) rfl ?_; clear S a w; intro a w S)
      refine st_nil ?_
      (refine (then_normal (hK3 _ _ ?_)); clear hK3)
      refine wp_seq_k fun _ hK3 => ?_
      refine st_then S (Ev.t rfl) ?_
      refine wp_skip ?_
      (refine (then_normal (hK3 _ _ ?_)); clear hK3)
      refine wp_seq_k fun _ hK3 => ?_
      refine wp_block ?_
      refine wp_seq_k fun _ hK4 => ?_
      refine wp_region_lit ?_
      (refine st_y S (Yr.ys (ys_move (Ev.t rfl))) rfl ?_; clear S a w; intro a w S)
      (refine st_y S (Yr.ys (ys_assign (Ev.t rfl))) rfl ?_; clear S a w; intro a w S)
      refine st_nil ?_
      (refine (then_normal (hK4 _ _ ?_)); clear hK4)
      refine wp_seq_k fun _ hK4 => ?_
      refine wp_region_lit ?_
      (refine st_y S (Yr.ys (ys_move (Ev.t rfl))) rfl ?_; clear S a w; intro a w S)
      (refine st_m (op_callO S Tryz.call118 (EvL.cons (Ev.t rfl) EvL.nil) (c118 S.wd (by first | assumption | omega | (dsimp only; omega) | exact Sl.nil_ | exact .old S.wd (by assumption) | exact Sl.of_own S.wd (k := 0) rfl (fun _ => rfl) | exact Sl.of_own S.wd (k := 1) rfl (fun _ => rfl) | exact Sl.of_own S.wd (k := 2) rfl (fun _ => rfl) | exact Sl.of_own S.wd (k := 3) rfl (fun _ => rfl) | (simp at *; omega)) (by first | assumption | omega | (dsimp only; omega) | exact Sl.nil_ | exact .old S.wd (by assumption) | exact Sl.of_own S.wd (k := 0) rfl (fun _ => rfl) | exact Sl.of_own S.wd (k := 1) rfl (fun _ => rfl) | exact Sl.of_own S.wd (k := 2) rfl (fun _ => rfl) | exact Sl.of_own S.wd (k := 3) rfl (fun _ => rfl) | (simp at *; omega))) rfl ?_) <;> clear S a w)
      rintro _ _ ⟨rfl, rfl⟩ a w S
      rw [rw_b1] at S
      rw [rw_b2] at S
      rw [rw_b3] at S
      (refine st_y S (Yr.ys (ys_move (Ev.t rfl))) rfl ?_; clear S a w; intro a w S)
      (refine st_y S (Yr.ys (ys_ext (Ev.t rfl) rfl)) rfl ?_; clear S a w; intro a w S)
      (refine st_y S (Yr.ys (ys_ext (Ev.t rfl) rfl)) rfl ?_; clear S a w; intro a w S)
      (refine st_y S (Yr.ys (ys_assign (Ev.t rfl))) rfl ?_; clear S a w; intro a w S)
      (refine st_y S (Yr.ys (ys_assign (Ev.t rfl))) rfl ?_; clear S a w; intro a w S)
      refine st_nil ?_
      (refine (then_normal (hK4 _ _ ?_)); clear hK4)
      refine wp_seq_k fun _ hK4 => ?_
      refine wp_seq_k fun _ hK5 => ?_
      refine wp_region_lit ?_
      (refine st_y S (Yr.ys (ys_move (Ev.t rfl))) rfl ?_; clear S a w; intro a w S)
      (refine st_y S (Yr.ys (ys_T (by omega) (ys_neq (Ev.t rfl) Ev.c))) rfl ?_; clear S a w; intro a w S)
      refine st_nil ?_
      (refine (then_normal (hK5 _ _ ?_)); clear hK5)
      refine st_then S (Ev.t rfl) ?_
      refine wp_seq_k fun _ hK5 => ?_
      refine wp_region_lit ?_
      (refine st_y S (Yr.ys (ys_ldA ⟨Tryz.isAgg71, Tryz.sizeOf71⟩ (Ev.t rfl) (k := 2) rfl rfl)) rfl ?_; clear S a w; intro a w S)
      (refine st_y S (Yr.ys (ys_move (Ev.t rfl))) rfl ?_; clear S a w; intro a w S)
      (refine st_m (op_stW S Tryz.sizeOf71 (Ev.t rfl) (Ev.t rfl) (k := 3) rfl rfl rfl (by simp [Value.oneCell']) ?_); clear S a w; intro a w S)
      (refine st_y S (Yr.ys (ys_assign (Ev.t rfl))) rfl ?_; clear S a w; intro a w S)
      refine st_nil ?_
      (refine (then_normal (hK5 _ _ ?_)); clear hK5)
      refine wp_ret ?_
      refine (then_ret (in_ret (then_ret (then_ret (in_ret (then_ret ?_))))))
      refine st_ret S (results2 S Tryz.results58 (Rv.cell (k := 3) ⟨Tryz.isAgg71, Tryz.sizeOf71⟩ rfl rfl rfl) (Rv.tmp rfl)) ?_
      have hv : (UInt64.ofNat (leV b k5 i)).toNat = leV b k5 i := by
        rw [UInt64.toNat_ofNat']
        exact Nat.mod_eq_of_lt (Nat.lt_of_lt_of_le (leV_lt b k5 i) (Nat.pow_le_pow_right (n := 256) (by omega) (show i ≤ 8 by omega)))
      refine ⟨_, _, rfl, S.wd.picks (L' := rdr g A cap b (k5 + i) L) (by repeat (first | exact Picks.nil | (refine Picks.rest ?_; (repeat (first | exact List.Sublist.refl _ | refine List.Sublist.cons_cons _ ?_ | refine List.Sublist.cons _ ?_)); done) | refine Picks.take 0 rfl ?_ | refine Picks.take 1 rfl ?_ | refine Picks.take 2 rfl ?_ | refine Picks.take 3 rfl ?_ | refine Picks.take 4 rfl ?_ | refine Picks.take 5 rfl ?_ | refine Picks.take 6 rfl ?_ | refine Picks.take 7 rfl ?_ | refine Picks.take 8 rfl ?_ | refine Picks.take 9 rfl ?_ | refine Picks.take 10 rfl ?_ | refine Picks.take 11 rfl ?_)), ⟨s, ⟨x1, x2, x3⟩, x4, UInt64.ofNat (leV b k5 i)⟩, k5 + i, ?_, rfl, hki, fun h => absurd (he.symm.trans h) (by decide)⟩
      rw [he]
      dsimp only [Ent.enc]
      rw [hv]
  obtain rfl : i = 8 := by omega
  refine wp_seq_k fun _ hK3 => ?_
  refine wp_region_lit ?_
  (refine st_y S (Yr.ys (ys_F (by omega) (ys_lss (Ev.t rfl) Ev.c))) rfl ?_; clear S a w; intro a w S)
  refine st_nil ?_
  (refine (then_normal (hK3 _ _ ?_)); clear hK3)
  refine wp_seq_k fun _ hK3 => ?_
  refine st_else S (Ev.t rfl) ?_
  refine wp_exit ?_
  (refine (then_exit (then_exit (in_here (then_normal (hK1 _ _ ?_))))); clear hK1)
  refine wp_seq_k fun _ hK1 => ?_
  refine wp_region_lit ?_
  (refine st_y S (Yr.ys (ys_ldA ⟨Tryz.isAgg71, Tryz.sizeOf71⟩ (Ev.t rfl) (k := 2) rfl rfl)) rfl ?_; clear S a w; intro a w S)
  (refine st_m (op_stW S Tryz.sizeOf71 (Ev.t rfl) (Ev.t rfl) (k := 3) rfl rfl rfl (by simp [Value.oneCell']) ?_); clear S a w; intro a w S)
  (refine st_y S (Yr.ys (ys_assign Ev.c)) rfl ?_; clear S a w; intro a w S)
  refine st_nil ?_
  (refine (then_normal (hK1 _ _ ?_)); clear hK1)
  refine wp_ret ?_
  refine st_ret S (results2 S Tryz.results58 (Rv.cell (k := 3) ⟨Tryz.isAgg71, Tryz.sizeOf71⟩ rfl rfl rfl) (Rv.tmp rfl)) ?_
  have he : entAt b k = (⟨s, ⟨x1, x2, x3⟩, x4, UInt64.ofNat (leV b k5 8)⟩, k5 + 8, 0) := by rw [hE, t6, if_pos (by omega), bindR_ok rfl]
  have hv : (UInt64.ofNat (leV b k5 8)).toNat = leV b k5 8 := by rw [UInt64.toNat_ofNat']; exact Nat.mod_eq_of_lt (leV_lt b k5 8)
  refine ⟨_, _, rfl, S.wd.picks (L' := rdr g A cap b (k5 + 8) L) (by repeat (first | exact Picks.nil | (refine Picks.rest ?_; (repeat (first | exact List.Sublist.refl _ | refine List.Sublist.cons_cons _ ?_ | refine List.Sublist.cons _ ?_)); done) | refine Picks.take 0 rfl ?_ | refine Picks.take 1 rfl ?_ | refine Picks.take 2 rfl ?_ | refine Picks.take 3 rfl ?_ | refine Picks.take 4 rfl ?_ | refine Picks.take 5 rfl ?_ | refine Picks.take 6 rfl ?_ | refine Picks.take 7 rfl ?_ | refine Picks.take 8 rfl ?_ | refine Picks.take 9 rfl ?_ | refine Picks.take 10 rfl ?_ | refine Picks.take 11 rfl ?_)), (entAt b k).1, k5 + 8, ?_, rfl, hki, fun _ => ⟨rfl, by rw [he]⟩⟩
  rw [he]
  dsimp only [Ent.enc]
  rw [hv]
end Go.Proofs.YtfblmkocmnbdcaaGreat
set_option linter.unusedVariables false
set_option linter.unusedSimpArgs false
set_option maxRecDepth 100000
set_option maxHeartbeats 4000000
namespace Go.Fw
theorem pow_le4 {y i : Nat} (hy : y < 256) (hi : i < 4) : y * 256 ^ i < 4294967296 := by
  have h1 : 256 ^ i ≤ 256 ^ 3 := Nat.pow_le_pow_right (by omega) (by omega)
  have h2 : y * 256 ^ i ≤ 255 * 256 ^ 3 := Nat.mul_le_mul (by omega) h1
  have h3 : 255 * 256 ^ 3 < 4294967296 := by decide
  omega
theorem leV_lt4 (b : List UInt8) (k : Nat) {i : Nat} (hi : i ≤ 4) : leV b k i < 4294967296 := by
  have h1 : 256 ^ i ≤ 256 ^ 4 := Nat.pow_le_pow_right (by omega) hi
  have h3 : (256 : Nat) ^ 4 = 4294967296 := by decide
  have := leV_lt b k i
  omega
theorem shl_le4 {y i : Nat} (hy : y < 256) (hi : i < 4) : IntKind.i64.wrap ((y : Int) * 2 ^ (8 * i)) = ((y * 256 ^ i : Nat) : Int) := by
  rw [pow_28, ← Int.natCast_mul]
  exact wrap_i64n (by have := pow_le4 hy hi; omega)
theorem or_le4 {m y i : Nat} (hm : m < 256 ^ i) (hy : y < 256) (hi : i < 4) : orK .i64 (m : Int) ((y * 256 ^ i : Nat) : Int) = ((m + y * 256 ^ i : Nat) : Int) := by
  have h1 := pow_le4 hy hi
  have h2 : 256 ^ i ≤ 256 ^ 3 := Nat.pow_le_pow_right (by omega) (by omega)
  have h3 : (256 : Nat) ^ 3 < 4294967296 := by decide
  have e : m ||| y * 256 ^ i = m + y * 256 ^ i := by
    have hp : (256 : Nat) ^ i = 2 ^ (8 * i) := by rw [Nat.pow_mul]
    rw [hp] at hm ⊢
    have := Nat.shiftLeft_add_eq_or_of_lt (a := y) hm
    rw [Nat.shiftLeft_eq] at this
    rw [Nat.or_comm, ← this, Nat.add_comm]
  unfold orK
  rw [ofInt_nat, ofInt_nat, BitVec.toNat_or, BitVec.toNat_ofNat, BitVec.toNat_ofNat, show IntKind.i64.bits = 64 from rfl, Nat.mod_eq_of_lt (by omega), Nat.mod_eq_of_lt (by omega), e]
  exact wrap_i64n (by omega)
end Go.Fw
namespace Go.Proofs.YtfblmkocmnbdcaaGreat
open Go.Fw Go.Proofs Go.RowKit Go.Proofs.Tryz
theorem c79 (w0 : World) (v1 : Value) (b : List UInt8) (h : Sl encB 1 w0 w0.heap.size v1 b) (hb : b.length ≤ 16777216) :
    Rets Tryz.prog 79 #[v1] w0 fun v L => ∃ A r A' r', v = .tuple #[.slice A (unframeL b).1.length r, .slice A' (unframeL b).2.1.length r', .int .i64 (unframeL b).2.2] ∧ L = [rowOf 5 1 encB A r (unframeL b).1, rowOf 5 1 encB A' r' (unframeL b).2.1] := by
  obtain ⟨A, cap, rfl, hlc, hcap, hA⟩ := id h
  have hnl := numAt_le (b := b) (k := 0) (Nat.zero_le _)
  have hnv := numAt_val b 0
  have e0 : b.drop 0 = b := rfl
  have rw_p : (numR 0 0 b).2.1 = (numAt b 0).2.1 := by unfold numAt; simp
  have rw_n : (numR 0 0 b).1 = (numAt b 0).1 := rfl
  have rw_e : (numR 0 0 b).2.2 = (numAt b 0).2.2 := rfl
  have hun : unframeL b = if (numAt b 0).2.2 = 0 then (if 65536 < (numAt b 0).1 then ([], [], 4) else if ((b.length - (numAt b 0).2.1 : Nat) : Int) < (numAt b 0).1 + 4 then ([], [], 2) else if leV b ((numAt b 0).2.1 + (numAt b 0).1.toNat) 4 ≠ crcL ((b.drop (numAt b 0).2.1).take (numAt b 0).1.toNat) then ([], [], 11) else ((b.drop (numAt b 0).2.1).take (numAt b 0).1.toNat, b.drop ((numAt b 0).2.1 + (numAt b 0).1.toNat + 4), 0)) else ([], [], (numAt b 0).2.2) := rfl
  by_cases he : (numAt b 0).2.2 = 0
  rotate_left
  · have rw_d : decide ((numAt b 0).2.2 ≠ 0) = true := decide_eq_true he
    rw [if_neg he] at hun
    unfold Go.Fw.Rets
    refine enter1 func79 rfl ntmps79 rfl fun a S => sg S (.ac rfl <| .ac rfl <| .ac rfl <| .z) fun a w S => wp_seq_k fun _ hK1 => wp_region_lit (run S (.mv rfl <| .xx (ys_call call122 (.cons (.t rfl) .nil) (fun hp w W => c122 _ _ _ (by exact .old W (by assumption)) (by assumption))) rfl <| .z) fun a w S => ?_)
    rw [rw_p] at S
    rw [rw_n] at S
    rw [rw_e] at S
    refine run S (.mv rfl <| .ex rfl rfl <| .ex rfl rfl <| .ex rfl rfl <| .as rfl <| .as rfl <| .as rfl <| .z) fun a w S => st_nil (then_normal (hK1 _ _ (wp_seq_k fun _ hK1 => sg S (.mv rfl <| .yy (ys_T (by omega) (ys_neq (.t rfl) Ev.c)) rfl <| .z) fun a w S => st_then S (.t rfl) (sg S (.mv rfl <| .ac rfl <| .ac rfl <| .as rfl <| .z) fun a w S => wp_ret (then_ret (st_ret S (results3 S results79 (Rv.tmp rfl) (Rv.tmp rfl) (Rv.tmp rfl)) ?_))))))
    rw [hun]
    exact ⟨_, _, rfl, ((S.nil_ 5 1 encB none).nil_ 5 1 encB none).wd, _, _, _, _, rfl, rfl⟩
  rw [if_pos he] at hun
  obtain ⟨m, hm⟩ := Int.eq_ofNat_of_zero_le hnv.1
  have rw_m : (numAt b 0).1 = (m : Int) := hm
  rw [hm, Int.toNat_natCast] at hun
  rw [hm] at hnv
  generalize (numAt b 0).2.1 = k1 at *
  by_cases h1 : 65536 < (m : Int)
  · have rw_1 : decide (65536 < (m : Int)) = true := decide_eq_true h1
    rw [if_pos h1] at hun
    unfold Go.Fw.Rets
    refine enter1 func79 rfl ntmps79 rfl fun a S => sg S (.ac rfl <| .ac rfl <| .ac rfl <| .z) fun a w S => wp_seq_k fun _ hK1 => wp_region_lit (run S (.mv rfl <| .xx (ys_call call122 (.cons (.t rfl) .nil) (fun hp w W => c122 _ _ _ (by exact .old W (by assumption)) (by assumption))) rfl <| .z) fun a w S => ?_)
    rw [rw_n] at S
    rw [rw_e] at S
    rw [rw_m] at S
    rw [rw_p] at S
    refine run S (.mv rfl <| .ex rfl rfl <| .ex rfl rfl <| .ex rfl rfl <| .as rfl <| .as rfl <| .as rfl <| .z) fun a w S => st_nil (then_normal (hK1 _ _ (wp_seq_k fun _ hK1 => sg S (.mv rfl <| .yy (ys_F (by omega) (ys_neq (.t rfl) Ev.c)) rfl <| .z) fun a w S => st_else S (.t rfl) (wp_skip (then_normal (hK1 _ _ (wp_seq_k fun _ hK1 => sg S (.mv rfl <| .yy (ys_T (by omega) (ys_gtr (.t rfl) Ev.c)) rfl <| .z) fun a w S => st_then S (.t rfl) (sg S (.ac rfl <| .ac rfl <| .ac rfl <| .z) fun a w S => wp_ret (then_ret (st_ret S (results3 S results79 (Rv.tmp rfl) (Rv.tmp rfl) (Rv.tmp rfl)) ?_))))))))))
    rw [hun]
    exact ⟨_, _, rfl, ((S.nil_ 5 1 encB none).nil_ 5 1 encB none).wd, _, _, _, _, rfl, rfl⟩
  have rw_1 : decide (65536 < (m : Int)) = false := decide_eq_false h1
  rw [if_neg h1] at hun
  have rw_l : (b.length : Int) - (k1 : Int) = ((b.length - k1 : Nat) : Int) := by omega
  by_cases h2 : ((b.length - k1 : Nat) : Int) < (m : Int) + 4
  · have rw_2 : decide (((b.length - k1 : Nat) : Int) < (m : Int) + 4) = true := decide_eq_true h2
    rw [if_pos h2] at hun
    unfold Go.Fw.Rets
    refine enter1 func79 rfl ntmps79 rfl fun a S => sg S (.ac rfl <| .ac rfl <| .ac rfl <| .z) fun a w S => wp_seq_k fun _ hK1 => wp_region_lit (run S (.mv rfl <| .xx (ys_call call122 (.cons (.t rfl) .nil) (fun hp w W => c122 _ _ _ (by exact .old W (by assumption)) (by assumption))) rfl <| .z) fun a w S => ?_)
    rw [rw_n] at S
    rw [rw_e] at S
    rw [rw_m] at S
    rw [rw_p] at S
    refine run S (.mv rfl <| .ex rfl rfl <| .ex rfl rfl <| .ex rfl rfl <| .as rfl <| .as rfl <| .as rfl <| .z) fun a w S => st_nil (then_normal (hK1 _ _ (wp_seq_k fun _ hK1 => sg S (.mv rfl <| .yy (ys_F (by omega) (ys_neq (.t rfl) Ev.c)) rfl <| .z) fun a w S => st_else S (.t rfl) (wp_skip (then_normal (hK1 _ _ (wp_seq_k fun _ hK1 => sg S (.mv rfl <| .yy (ys_F (by omega) (ys_gtr (.t rfl) Ev.c)) rfl <| .z) fun a w S => st_else S (.t rfl) (wp_skip (then_normal (hK1 _ _ (wp_seq_k fun _ hK1 => wp_seq_k fun _ hK2 => wp_region_lit (run S (.mv rfl <| .ln underlying28 rfl <| .mv rfl <| .yy (ys_subI (.t rfl) (.t rfl) (fun _ => by unfold I64; omega)) rfl <| .z) fun a w S => ?_))))))))))))
    rw [rw_l] at S
    refine run S (.mv rfl <| .ad (by unfold I64; omega) rfl <| .lt (by omega) rfl rfl <| .z) fun a w S => st_nil (then_normal (hK2 _ _ (st_then S (.t rfl) (sg S (.ac rfl <| .ac rfl <| .ac rfl <| .z) fun a w S => wp_ret (then_ret (st_ret S (results3 S results79 (Rv.tmp rfl) (Rv.tmp rfl) (Rv.tmp rfl)) ?_))))))
    rw [hun]
    exact ⟨_, _, rfl, ((S.nil_ 5 1 encB none).nil_ 5 1 encB none).wd, _, _, _, _, rfl, rfl⟩
  have rw_2 : decide (((b.length - k1 : Nat) : Int) < (m : Int) + 4) = false := decide_eq_false h2
  rw [if_neg h2] at hun
  have rw_s : (k1 : Int) + (m : Int) = ((k1 + m : Nat) : Int) := by omega
  have hle : k1 + m + 4 ≤ b.length := by omega
  have hsub := h.sub k1 (k1 + m) (by omega) (by omega)
  have hlen : ((b.drop k1).take (k1 + m - k1)).length = k1 + m - k1 := by rw [List.length_take, List.length_drop]; omega
  have rw_len := hlen.symm
  replace hsub : Sl encB 1 w0 w0.heap.size (.slice (if cap = k1 then A else A.map (·.add (k1 * 1))) ((b.drop k1).take (k1 + m - k1)).length (cap - k1)) ((b.drop k1).take (k1 + m - k1)) := by rw [hlen]; exact hsub
  have ht' : (b.drop k1).take m = (b.drop k1).take (k1 + m - k1) := by rw [show k1 + m - k1 = m by omega]
  rw [ht'] at hun
  generalize ht : (b.drop k1).take (k1 + m - k1) = t at *
  obtain ⟨P, rw_P⟩ : ∃ P, (if cap = k1 then A else A.map (·.add (k1 * 1))) = P := ⟨_, rfl⟩
  rw [rw_P] at hsub
  unfold Go.Fw.Rets
  refine enter1 func79 rfl ntmps79 rfl fun a S => sg S (.ac rfl <| .ac rfl <| .ac rfl <| .z) fun a w S => wp_seq_k fun _ hK1 => wp_region_lit (run S (.mv rfl <| .xx (ys_call call122 (.cons (.t rfl) .nil) (fun hp w W => c122 _ _ _ (by exact .old W (by assumption)) (by assumption))) rfl <| .z) fun a w S => ?_)
  rw [rw_n] at S
  rw [rw_e] at S
  rw [rw_m] at S
  rw [rw_p] at S
  refine run S (.mv rfl <| .ex rfl rfl <| .ex rfl rfl <| .ex rfl rfl <| .as rfl <| .as rfl <| .as rfl <| .z) fun a w S => st_nil (then_normal (hK1 _ _ (wp_seq_k fun _ hK1 => sg S (.mv rfl <| .yy (ys_F (by omega) (ys_neq (.t rfl) Ev.c)) rfl <| .z) fun a w S => st_else S (.t rfl) (wp_skip (then_normal (hK1 _ _ (wp_seq_k fun _ hK1 => sg S (.mv rfl <| .yy (ys_F (by omega) (ys_gtr (.t rfl) Ev.c)) rfl <| .z) fun a w S => st_else S (.t rfl) (wp_skip (then_normal (hK1 _ _ (wp_seq_k fun _ hK1 => wp_seq_k fun _ hK2 => wp_region_lit (run S (.mv rfl <| .ln underlying28 rfl <| .mv rfl <| .yy (ys_subI (.t rfl) (.t rfl) (fun _ => by unfold I64; omega)) rfl <| .z) fun a w S => ?_))))))))))))
  rw [rw_l] at S
  refine run S (.mv rfl <| .ad (by unfold I64; omega) rfl <| .ge (by omega) rfl rfl <| .z) fun a w S => st_nil (then_normal (hK2 _ _ (st_else S (.t rfl) (wp_skip (then_normal (hK1 _ _ (wp_seq_k fun _ hK1 => wp_region_lit (run S (.mv rfl <| .mv rfl <| .mv rfl <| .mv rfl <| .yy (ys_addI (.t rfl) (.t rfl) (fun _ => by unfold I64; omega)) rfl <| .z) fun a w S => ?_))))))))
  rw [rw_s] at S
  refine run S (.yy (ys_slLH underlying28 sizeOf5 (.t rfl) (.t rfl) (.t rfl) (fun _ => by first | omega | (simp; done) | (simp; omega))) rfl <| .z) fun a w S => ?_
  rw [rw_len] at S
  rw [rw_P] at S
  refine run S (.as rfl <| .z) fun a w S => st_nil (then_normal (hK1 _ _ (sg S (.ac rfl <| .z) fun a w S => wp_seq_k fun _ hK1 => sg S (.mc rfl <| .z) fun a w S => wp_block ?_)))
  refine st_lpM S [9, 35] (X := Nat) (fun i => [(35, true, .int .i64 (i : Int)), (9, true, .int .i64 (leV b (k1 + m) i : Int))]) (fun _ => []) (fun i => i ≤ 4) (fun i => 4 - i) 0 (Nat.zero_le _) ?_
  clear S
  intro i a w hi S
  by_cases hi4 : i < 4
  · obtain ⟨ga, oa, y, rfl, hy, hd, hcx⟩ := row_at hA (k := k1 + m + i) (by omega)
    have hy8 : y.toNat < 256 := y.toNat_lt
    have rw_i : ((k1 + m : Nat) : Int) + (i : Int) = ((k1 + m + i : Nat) : Int) := rfl
    have rw_8 : 8 * (i : Int) = ((8 * i : Nat) : Int) := by omega
    have rw_9 : (i : Int) + 1 = ((i + 1 : Nat) : Int) := rfl
    have rw_h := shl_le4 hy8 hi4
    have hlv := leV_lt4 b (k1 + m) (i := i + 1) (by omega)
    have hlw : leV b (k1 + m) (i + 1) = leV b (k1 + m) i + y.toNat * 256 ^ i := by rw [leV, List.getD_eq_getElem?_getD, hy]; rfl
    have rw_o : (leV b (k1 + m) i : Int) + ((y.toNat * 256 ^ i : Nat) : Int) = ((leV b (k1 + m) (i + 1) : Nat) : Int) := by rw [hlw]; rfl
    have hpl := pow_le4 hy8 hi4
    refine sg S (.yy (ys_T (by omega) (ys_lss (.t rfl) Ev.c)) rfl <| .z) fun a w S => wp_seq_k fun _ hK2 => st_then S (.t rfl) (wp_skip (then_normal (hK2 _ _ (wp_seq_k fun _ hK2 => wp_block (sg S (.mv rfl <| .as rfl <| .z) fun a w S => wp_region_lit (run S (.mv rfl <| .mv rfl <| .mv rfl <| .mv rfl <| .yy (ys_addI (.t rfl) (.t rfl) (fun _ => by unfold I64; omega)) rfl <| .z) fun a w S => ?_))))))
    rw [rw_s] at S
    refine run S (.mv rfl <| .yy (ys_addI (.t rfl) (.t rfl) (fun _ => by unfold I64; omega)) rfl <| .z) fun a w S => ?_
    rw [rw_i] at S
    refine run S (.ix underlying28 sizeOf5 (by omega) rfl rfl <| .yy (ys_ldO ⟨isAgg5, sizeOf5⟩ (.t rfl) (fun _ => hcx 0 _ rfl)) rfl <| .yy (ys_cvI underlying5 underlying3 (.t rfl) (fun _ => by unfold I64; omega)) rfl <| .mv rfl <| .yy (ys_mulI Ev.c (.t rfl) (fun _ => by unfold I64; omega)) rfl <| .z) fun a w S => ?_
    rw [rw_8] at S
    refine run S (.yy (ys_shl (.t rfl) (.t rfl) (Nat.ble_eq_true_of_le (by show _ ≤ 64; omega))) rfl <| .z) fun a w S => ?_
    rw [rw_h] at S
    refine run S (.yy (ys_addI (.t rfl) (.t rfl) (fun _ => by unfold I64; omega)) rfl <| .z) fun a w S => ?_
    rw [rw_o] at S
    refine run S (.as rfl <| .z) fun a w S => st_nil (in_normal (then_normal (hK2 _ _ (wp_region_lit (run S (.ad (by unfold I64; omega) rfl <| .z) fun a w S => ?_)))))
    rw [rw_9] at S
    refine run S (.mv rfl <| .z) fun a w S => st_nil (then_normal ?_)
    exact ⟨i + 1, by omega, by omega, S.pk⟩
  obtain rfl : i = 4 := by omega
  have hlv := leV_lt4 b (k1 + m) (i := 4) (by omega)
  by_cases h3 : leV b (k1 + m) 4 = crcL t
  · have rw_3 : decide ((leV b (k1 + m) 4 : Int) ≠ (crcL t : Int)) = false := decide_eq_false (by omega)
    rw [if_neg (by simpa using h3)] at hun
    have rw_4 : (k1 : Int) + (m : Int) + 4 = ((k1 + m + 4 : Nat) : Int) := by omega
    have hdr := h.drop_ (k1 + m + 4) hle
    obtain ⟨Q, rw_Q⟩ : ∃ Q, (if cap = k1 + m + 4 then A else A.map (·.add ((k1 + m + 4) * 1))) = Q := ⟨_, rfl⟩
    rw [rw_Q] at hdr
    have rw_u : b.length - (k1 + m + 4) = (b.drop (k1 + m + 4)).length := by rw [List.length_drop]
    have hul : (b.drop (k1 + m + 4)).length ≤ 16777216 := by rw [List.length_drop]; omega
    generalize b.drop (k1 + m + 4) = u at *
    refine sg S (.yy (ys_F (by omega) (ys_lss (.t rfl) Ev.c)) rfl <| .z) fun a w S => wp_seq_k fun _ hK2 => st_else S (.t rfl) (wp_exit (then_exit (then_exit (in_here (then_normal (hK1 _ _ (wp_seq_k fun _ hK1 => sg S (.mv rfl <| .mv rfl <| .xx (ys_call call135 (.cons (.t rfl) .nil) (fun hp w W => c135 _ _ _ (by exact .old W (by assumption)))) rfl <| .yy (ys_F (by omega) (ys_neq (.t rfl) (.t rfl))) rfl <| .z) fun a w S => st_else S (.t rfl) (wp_skip (then_normal (hK1 _ _ (wp_seq_k fun _ hK1 => h_begin0 S (by kernel_rfl) fun a w S => hy 1 S rfl (ys_move (.t rfl)) rfl fun a w S => hy 4 S rfl (ys_move (.t rfl)) rfl fun a w S => hy 5 S rfl (ys_move (.t rfl)) rfl fun a w S => ?_)))))))))))
    refine hy 6 S rfl (ys_move (.t rfl)) rfl fun a w S => hy 7 S rfl (ys_addI (.t rfl) (.t rfl) (fun _ => by unfold I64; omega)) rfl fun a w S => ?_
    rw [rw_s] at S
    refine hy 8 S rfl (ys_addI (.t rfl) Ev.c (fun _ => by unfold I64; omega)) rfl fun a w S => hy 9 S rfl (ys_slLo underlying28 sizeOf5 (.t rfl) (.t rfl) (fun _ => by first | omega | (simp; done) | (simp; omega))) rfl fun a w S => ?_
    rw [rw_Q] at S
    rw [rw_u] at S
    refine h_split (i := 0) (j := 3) (by kernel_rfl) rfl rfl ?_ ?_
    (refine op_bslice0 S underlying28 sizeOf5 rfl ?_; clear S a w; intro g1 a w S; refine h_n1 S ?_)
    refine h_split (i := 2) (j := 3) (by kernel_rfl) rfl rfl ?_ ?_
    (refine op_extend _ (S.nil_ 5 _ Go.Fw.encB _) underlying28 underlying28 (.inr ⟨_, rfl⟩) inf5 rfl (k := 0) rfl (.t rfl) (.t rfl) (Src.sl (Sl.old S.wd hsub) (by decide) Go.Fw.encB_len Go.Fw.encB_one) (by first | omega | (simp only [List.length_append, List.length_cons, List.length_nil]; omega) | (simp; omega)) rfl rfl rfl ?_; clear S a w; intro A1 cap1 a w S; refine h_n1 S ?_)
    simp only [List.nil_append] at S
    (refine h_m (i := 3) rfl (by kernel_rfl) (op_bslice0 S underlying28 sizeOf5 rfl ?_); clear S a w; intro g2 a w S; refine h_n2 S ?_)
    (refine h_m (i := 10) rfl (by kernel_rfl) (op_extend _ (S.nil_ 5 _ Go.Fw.encB _) underlying28 underlying28 (.inr ⟨_, rfl⟩) inf5 rfl (k := 0) rfl (.t rfl) (.t rfl) (Src.sl (Sl.old S.wd hdr) (by decide) Go.Fw.encB_len Go.Fw.encB_one) (by first | omega | (simp only [List.length_append, List.length_cons, List.length_nil]; omega) | (simp; omega)) rfl rfl rfl ?_); clear S a w; intro A2 cap2 a w S; refine h_n2 S ?_)
    simp only [List.nil_append] at S
    refine hy 11 S rfl (ys_assign (.t rfl)) rfl fun a w S => hy 12 S rfl (ys_assign (.t rfl)) rfl fun a w S => hy 13 S rfl (ys_assign Ev.c) rfl fun a w S => h_done (by kernel_rfl) (then_normal (hK1 _ _ (wp_ret (st_ret S (results3 S results79 (Rv.tmp rfl) (Rv.tmp rfl) (Rv.tmp rfl)) ?_))))
    rotate_left
    (refine op_bslice0 S underlying28 sizeOf5 rfl ?_; clear S a w; intro g2 a w S; refine h_n1 S ?_)
    (refine h_m (i := 2) rfl (by kernel_rfl) (op_extend _ (S.nil_ 5 _ Go.Fw.encB _) underlying28 underlying28 (.inr ⟨_, rfl⟩) inf5 rfl (k := 0) rfl (.t rfl) (.t rfl) (Src.sl (Sl.old S.wd hsub) (by decide) Go.Fw.encB_len Go.Fw.encB_one) (by first | omega | (simp only [List.length_append, List.length_cons, List.length_nil]; omega) | (simp; omega)) rfl rfl rfl ?_); clear S a w; intro A1 cap1 a w S; refine h_n2 S ?_)
    simp only [List.nil_append] at S
    (refine h_m (i := 10) rfl (by kernel_rfl) (op_extend _ (S.nil_ 5 _ Go.Fw.encB _) underlying28 underlying28 (.inr ⟨_, rfl⟩) inf5 rfl (k := 0) rfl (.t rfl) (.t rfl) (Src.sl (Sl.old S.wd hdr) (by decide) Go.Fw.encB_len Go.Fw.encB_one) (by first | omega | (simp only [List.length_append, List.length_cons, List.length_nil]; omega) | (simp; omega)) rfl rfl rfl ?_); clear S a w; intro A2 cap2 a w S; refine h_n2 S ?_)
    simp only [List.nil_append] at S
    refine hy 11 S rfl (ys_assign (.t rfl)) rfl fun a w S => hy 12 S rfl (ys_assign (.t rfl)) rfl fun a w S => hy 13 S rfl (ys_assign Ev.c) rfl fun a w S => h_done (by kernel_rfl) (then_normal (hK1 _ _ (wp_ret (st_ret S (results3 S results79 (Rv.tmp rfl) (Rv.tmp rfl) (Rv.tmp rfl)) ?_))))
    rotate_left
    (refine op_bslice0 S underlying28 sizeOf5 rfl ?_; clear S a w; intro g1 a w S; refine h_n1 S ?_)
    (refine h_m (i := 0) rfl (by kernel_rfl) (op_bslice0 S underlying28 sizeOf5 rfl ?_); clear S a w; intro g2 a w S; refine h_n2 S ?_)
    (refine h_m (i := 2) rfl (by kernel_rfl) (op_extend _ (S.nil_ 5 _ Go.Fw.encB _) underlying28 underlying28 (.inr ⟨_, rfl⟩) inf5 rfl (k := 0) rfl (.t rfl) (.t rfl) (Src.sl (Sl.old S.wd hsub) (by decide) Go.Fw.encB_len Go.Fw.encB_one) (by first | omega | (simp only [List.length_append, List.length_cons, List.length_nil]; omega) | (simp; omega)) rfl rfl rfl ?_); clear S a w; intro A1 cap1 a w S; refine h_n2 S ?_)
    simp only [List.nil_append] at S
    (refine h_m (i := 10) rfl (by kernel_rfl) (op_extend _ (S.nil_ 5 _ Go.Fw.encB _) underlying28 underlying28 (.inr ⟨_, rfl⟩) inf5 rfl (k := 0) rfl (.t rfl) (.t rfl) (Src.sl (Sl.old S.wd hdr) (by decide) Go.Fw.encB_len Go.Fw.encB_one) (by first | omega | (simp only [List.length_append, List.length_cons, List.length_nil]; omega) | (simp; omega)) rfl rfl rfl ?_); clear S a w; intro A2 cap2 a w S; refine h_n2 S ?_)
    simp only [List.nil_append] at S
    refine hy 11 S rfl (ys_assign (.t rfl)) rfl fun a w S => hy 12 S rfl (ys_assign (.t rfl)) rfl fun a w S => hy 13 S rfl (ys_assign Ev.c) rfl fun a w S => h_done (by kernel_rfl) (then_normal (hK1 _ _ (wp_ret (st_ret S (results3 S results79 (Rv.tmp rfl) (Rv.tmp rfl) (Rv.tmp rfl)) ?_))))
    rotate_left
    · rw [hun]
      exact ⟨_, _, rfl, S.wd.picks (L' := [rowOf 5 1 encB A1 cap1 t, rowOf 5 1 encB A2 cap2 u]) (by repeat (first | exact Picks.nil | (refine Picks.rest ?_; (repeat (first | exact List.Sublist.refl _ | refine List.Sublist.cons_cons _ ?_ | refine List.Sublist.cons _ ?_)); done) | refine Picks.take 0 rfl ?_ | refine Picks.take 1 rfl ?_ | refine Picks.take 2 rfl ?_ | refine Picks.take 3 rfl ?_ | refine Picks.take 4 rfl ?_ | refine Picks.take 5 rfl ?_ | refine Picks.take 6 rfl ?_ | refine Picks.take 7 rfl ?_ | refine Picks.take 8 rfl ?_ | refine Picks.take 9 rfl ?_ | refine Picks.take 10 rfl ?_ | refine Picks.take 11 rfl ?_)), _, _, _, _, rfl, rfl⟩
    · rw [hun]
      exact ⟨_, _, rfl, S.wd.picks (L' := [rowOf 5 1 encB A1 cap1 t, rowOf 5 1 encB A2 cap2 u]) (by repeat (first | exact Picks.nil | (refine Picks.rest ?_; (repeat (first | exact List.Sublist.refl _ | refine List.Sublist.cons_cons _ ?_ | refine List.Sublist.cons _ ?_)); done) | refine Picks.take 0 rfl ?_ | refine Picks.take 1 rfl ?_ | refine Picks.take 2 rfl ?_ | refine Picks.take 3 rfl ?_ | refine Picks.take 4 rfl ?_ | refine Picks.take 5 rfl ?_ | refine Picks.take 6 rfl ?_ | refine Picks.take 7 rfl ?_ | refine Picks.take 8 rfl ?_ | refine Picks.take 9 rfl ?_ | refine Picks.take 10 rfl ?_ | refine Picks.take 11 rfl ?_)), _, _, _, _, rfl, rfl⟩
    · rw [hun]
      exact ⟨_, _, rfl, S.wd.picks (L' := [rowOf 5 1 encB A1 cap1 t, rowOf 5 1 encB A2 cap2 u]) (by repeat (first | exact Picks.nil | (refine Picks.rest ?_; (repeat (first | exact List.Sublist.refl _ | refine List.Sublist.cons_cons _ ?_ | refine List.Sublist.cons _ ?_)); done) | refine Picks.take 0 rfl ?_ | refine Picks.take 1 rfl ?_ | refine Picks.take 2 rfl ?_ | refine Picks.take 3 rfl ?_ | refine Picks.take 4 rfl ?_ | refine Picks.take 5 rfl ?_ | refine Picks.take 6 rfl ?_ | refine Picks.take 7 rfl ?_ | refine Picks.take 8 rfl ?_ | refine Picks.take 9 rfl ?_ | refine Picks.take 10 rfl ?_ | refine Picks.take 11 rfl ?_)), _, _, _, _, rfl, rfl⟩
  · have rw_3 : decide ((leV b (k1 + m) 4 : Int) ≠ (crcL t : Int)) = true := decide_eq_true (by omega)
    rw [if_pos (by simpa using h3)] at hun
    refine sg S (.yy (ys_F (by omega) (ys_lss (.t rfl) Ev.c)) rfl <| .z) fun a w S => wp_seq_k fun _ hK2 => st_else S (.t rfl) (wp_exit (then_exit (then_exit (in_here (then_normal (hK1 _ _ (wp_seq_k fun _ hK1 => sg S (.mv rfl <| .mv rfl <| .xx (ys_call call135 (.cons (.t rfl) .nil) (fun hp w W => c135 _ _ _ (by exact .old W (by assumption)))) rfl <| .yy (ys_T (by omega) (ys_neq (.t rfl) (.t rfl))) rfl <| .z) fun a w S => st_then S (.t rfl) (sg S (.ac rfl <| .ac rfl <| .ac rfl <| .z) fun a w S => wp_ret (then_ret (st_ret S (results3 S results79 (Rv.tmp rfl) (Rv.tmp rfl) (Rv.tmp rfl)) ?_))))))))))
    rw [hun]
    exact ⟨_, _, rfl, ((S.nil_ 5 1 encB none).nil_ 5 1 encB none).wd, _, _, _, _, rfl, rfl⟩
end Go.Proofs.YtfblmkocmnbdcaaGreat
set_option linter.unusedVariables false
set_option linter.unusedSimpArgs false
set_option maxRecDepth 100000
set_option maxHeartbeats 4000000
namespace Go.Proofs.YtfblmkocmnbdcaaGreat
open Go.Fw Go.Proofs Go.RowKit Go.Proofs.Tryz
theorem q138 {w0 w : World} {L : List Chunk} {g g1 g2 g3 cap : Nat} {A : Option Addr} {b : List UInt8} (W : Wd w0 (rdr g A cap b 0 (.blk g1 (.cells #[.pointer (some ⟨g, 0, none⟩)] 92) :: .blk g2 (.cells #[.slice none 0 0] 28) :: .blk g3 (.cells #[.slice none 0 0] 28) :: L)) w) (hb : b.length ≤ 16777216) :
    RetsP Tryz.prog 138 #[.pointer (some ⟨g1, 0, none⟩), .pointer (some ⟨g2, 0, none⟩), .pointer (some ⟨g3, 0, none⟩)] 41 w0 w (fun v L' => (unframeL b).2.2 = 0 ∧ v = .tuple #[] ∧ ∃ P r Q s, L' = .blk g2 (.cells #[.slice P (unframeL b).1.length r] 28) :: .blk g3 (.cells #[.slice Q (unframeL b).2.1.length s] 28) :: rowOf 5 1 encB P r (unframeL b).1 :: rowOf 5 1 encB Q s (unframeL b).2.1 :: L)
      (fun x L' => x = (unframeL b).2.2 ∧ x ≠ 0 ∧ L' = L) := by
  have hk : 0 ≤ b.length := Nat.zero_le _
  have hnl := numAt_le (b := b) (k := 0) hk
  have hnv := numAt_val b 0
  have hun : unframeL b = if (numAt b 0).2.2 = 0 then (if 65536 < (numAt b 0).1 then ([], [], 4) else if ((b.length - (numAt b 0).2.1 : Nat) : Int) < (numAt b 0).1 + 4 then ([], [], 2) else if leV b ((numAt b 0).2.1 + (numAt b 0).1.toNat) 4 ≠ crcL ((b.drop (numAt b 0).2.1).take (numAt b 0).1.toNat) then ([], [], 11) else ((b.drop (numAt b 0).2.1).take (numAt b 0).1.toNat, b.drop ((numAt b 0).2.1 + (numAt b 0).1.toNat + 4), 0)) else ([], [], (numAt b 0).2.2) := rfl
  obtain ⟨k1, rw_k⟩ : ∃ k1, 0 + (numR 0 0 (b.drop 0)).2.1 = k1 := ⟨_, rfl⟩
  have hk1 : (numAt b 0).2.1 = k1 := rw_k
  rw [hk1] at hnl hun
  by_cases he : (numAt b 0).2.2 = 0
  rotate_left
  · rw [if_neg he] at hun
    have he' : (numR 0 0 (b.drop 0)).2.2 ≠ 0 := he
    unfold Go.Fw.RetsP
    refine enterW3 W func138 rfl ntmps138 rfl fun a S => wp_seq_k fun _ hK1 => wp_region_lit (run S (.ld gt92 2 rfl rfl rfl <| .z) fun a w S => ?_)
    (refine st_m (op_callRP S call116 (.cons (.t rfl) .nil) (c116 S.wd (by first | assumption | omega | (dsimp only; omega) | exact Sl.nil_ | exact .old S.wd (by assumption) | exact Sl.of_own S.wd (k := 0) rfl (fun _ => rfl) | exact Sl.of_own S.wd (k := 1) rfl (fun _ => rfl) | exact Sl.of_own S.wd (k := 2) rfl (fun _ => rfl) | exact Sl.of_own S.wd (k := 3) rfl (fun _ => rfl) | exact Sl.of_own S.wd (k := 4) rfl (fun _ => rfl) | (simp at *; omega)) (by first | assumption | omega | (dsimp only; omega) | exact Sl.nil_ | exact .old S.wd (by assumption) | exact Sl.of_own S.wd (k := 0) rfl (fun _ => rfl) | exact Sl.of_own S.wd (k := 1) rfl (fun _ => rfl) | exact Sl.of_own S.wd (k := 2) rfl (fun _ => rfl) | exact Sl.of_own S.wd (k := 3) rfl (fun _ => rfl) | exact Sl.of_own S.wd (k := 4) rfl (fun _ => rfl) | (simp at *; omega))) rfl ?_ ?_) <;> clear S a w)
    rintro _ _ ⟨hr1, rfl, rfl⟩ a w S
    rw [rw_k] at S
    refine run S (.as rfl <| .z) fun a w S => st_nil (then_normal (hK1 _ _ (wp_seq_k fun _ hK1 => sg S (.mv rfl <| .yy (ys_T (by omega) (ys_gtr (.t rfl) Ev.c)) rfl <| .z) fun a w S => st_then S (.t rfl) (wp_region_lit ?_))))
    (refine st_m (op_callRP S call139 (.cons Ev.c .nil) (c139 S.wd _) rfl ?_ ?_) <;> clear S a w)
    (intro _ _ h; exact h.elim)
    rintro _ _ ⟨rfl, rfl⟩ a w S
    refine then_panic ?_
    refine post_panic S ?_
    rotate_left
    rintro _ _ ⟨rfl, hr1, rfl⟩ a w S
    refine then_panic ?_
    refine post_panic S ?_
    rotate_left
    · exact absurd hr1 he'
    · rw [hun]
      exact .inr ⟨_, _, rfl, S.wd.picks (L' := L) (by repeat (first | exact Picks.nil | (refine Picks.rest ?_; (repeat (first | exact List.Sublist.refl _ | refine List.Sublist.cons_cons _ ?_ | refine List.Sublist.cons _ ?_)); done) | refine Picks.take 0 rfl ?_ | refine Picks.take 1 rfl ?_ | refine Picks.take 2 rfl ?_ | refine Picks.take 3 rfl ?_ | refine Picks.take 4 rfl ?_ | refine Picks.take 5 rfl ?_ | refine Picks.take 6 rfl ?_ | refine Picks.take 7 rfl ?_ | refine Picks.take 8 rfl ?_ | refine Picks.take 9 rfl ?_ | refine Picks.take 10 rfl ?_ | refine Picks.take 11 rfl ?_)), rfl, hr1, rfl⟩
  rw [if_pos he] at hun
  have he' : (numR 0 0 (b.drop 0)).2.2 = 0 := he
  obtain ⟨m, hm⟩ := Int.eq_ofNat_of_zero_le hnv.1
  have rw_m : (numR 0 0 (b.drop 0)).1 = (m : Int) := hm
  rw [hm, Int.toNat_natCast] at hun
  rw [hm] at hnv
  by_cases h1 : 65536 < (m : Int)
  · have rw_1 : decide (65536 < (m : Int)) = true := decide_eq_true h1
    rw [if_pos h1] at hun
    unfold Go.Fw.RetsP
    refine enterW3 W func138 rfl ntmps138 rfl fun a S => wp_seq_k fun _ hK1 => wp_region_lit (run S (.ld gt92 2 rfl rfl rfl <| .z) fun a w S => ?_)
    (refine st_m (op_callRP S call116 (.cons (.t rfl) .nil) (c116 S.wd (by first | assumption | omega | (dsimp only; omega) | exact Sl.nil_ | exact .old S.wd (by assumption) | exact Sl.of_own S.wd (k := 0) rfl (fun _ => rfl) | exact Sl.of_own S.wd (k := 1) rfl (fun _ => rfl) | exact Sl.of_own S.wd (k := 2) rfl (fun _ => rfl) | exact Sl.of_own S.wd (k := 3) rfl (fun _ => rfl) | exact Sl.of_own S.wd (k := 4) rfl (fun _ => rfl) | (simp at *; omega)) (by first | assumption | omega | (dsimp only; omega) | exact Sl.nil_ | exact .old S.wd (by assumption) | exact Sl.of_own S.wd (k := 0) rfl (fun _ => rfl) | exact Sl.of_own S.wd (k := 1) rfl (fun _ => rfl) | exact Sl.of_own S.wd (k := 2) rfl (fun _ => rfl) | exact Sl.of_own S.wd (k := 3) rfl (fun _ => rfl) | exact Sl.of_own S.wd (k := 4) rfl (fun _ => rfl) | (simp at *; omega))) rfl ?_ ?_) <;> clear S a w)
    rintro _ _ ⟨hr1, rfl, rfl⟩ a w S
    rw [rw_k] at S
    rw [rw_m] at S
    refine run S (.as rfl <| .z) fun a w S => st_nil (then_normal (hK1 _ _ (wp_seq_k fun _ hK1 => sg S (.mv rfl <| .yy (ys_T (by omega) (ys_gtr (.t rfl) Ev.c)) rfl <| .z) fun a w S => st_then S (.t rfl) (wp_region_lit ?_))))
    (refine st_m (op_callRP S call139 (.cons Ev.c .nil) (c139 S.wd _) rfl ?_ ?_) <;> clear S a w)
    (intro _ _ h; exact h.elim)
    rintro _ _ ⟨rfl, rfl⟩ a w S
    refine then_panic ?_
    refine post_panic S ?_
    rotate_left
    rintro _ _ ⟨rfl, hr1, rfl⟩ a w S
    refine then_panic ?_
    refine post_panic S ?_
    rotate_left
    · rw [hun]
      exact .inr ⟨_, _, rfl, S.wd.picks (L' := L) (by repeat (first | exact Picks.nil | (refine Picks.rest ?_; (repeat (first | exact List.Sublist.refl _ | refine List.Sublist.cons_cons _ ?_ | refine List.Sublist.cons _ ?_)); done) | refine Picks.take 0 rfl ?_ | refine Picks.take 1 rfl ?_ | refine Picks.take 2 rfl ?_ | refine Picks.take 3 rfl ?_ | refine Picks.take 4 rfl ?_ | refine Picks.take 5 rfl ?_ | refine Picks.take 6 rfl ?_ | refine Picks.take 7 rfl ?_ | refine Picks.take 8 rfl ?_ | refine Picks.take 9 rfl ?_ | refine Picks.take 10 rfl ?_ | refine Picks.take 11 rfl ?_)), rfl, by decide, rfl⟩
    · exact absurd he' hr1
  have rw_1 : decide (65536 < (m : Int)) = false := decide_eq_false h1
  rw [if_neg h1] at hun
  by_cases h2 : ((b.length - k1 : Nat) : Int) < (m : Int) + 4
  · have rw_2 : decide (((b.length - k1 : Nat) : Int) < (m : Int) + 4) = true := decide_eq_true h2
    rw [if_pos h2] at hun
    unfold Go.Fw.RetsP
    refine enterW3 W func138 rfl ntmps138 rfl fun a S => wp_seq_k fun _ hK1 => wp_region_lit (run S (.ld gt92 2 rfl rfl rfl <| .z) fun a w S => ?_)
    (refine st_m (op_callRP S call116 (.cons (.t rfl) .nil) (c116 S.wd (by first | assumption | omega | (dsimp only; omega) | exact Sl.nil_ | exact .old S.wd (by assumption) | exact Sl.of_own S.wd (k := 0) rfl (fun _ => rfl) | exact Sl.of_own S.wd (k := 1) rfl (fun _ => rfl) | exact Sl.of_own S.wd (k := 2) rfl (fun _ => rfl) | exact Sl.of_own S.wd (k := 3) rfl (fun _ => rfl) | exact Sl.of_own S.wd (k := 4) rfl (fun _ => rfl) | (simp at *; omega)) (by first | assumption | omega | (dsimp only; omega) | exact Sl.nil_ | exact .old S.wd (by assumption) | exact Sl.of_own S.wd (k := 0) rfl (fun _ => rfl) | exact Sl.of_own S.wd (k := 1) rfl (fun _ => rfl) | exact Sl.of_own S.wd (k := 2) rfl (fun _ => rfl) | exact Sl.of_own S.wd (k := 3) rfl (fun _ => rfl) | exact Sl.of_own S.wd (k := 4) rfl (fun _ => rfl) | (simp at *; omega))) rfl ?_ ?_) <;> clear S a w)
    rintro _ _ ⟨hr1, rfl, rfl⟩ a w S
    rw [rw_k] at S
    rw [rw_m] at S
    refine run S (.as rfl <| .z) fun a w S => st_nil (then_normal (hK1 _ _ (wp_seq_k fun _ hK1 => sg S (.mv rfl <| .yy (ys_F (by omega) (ys_gtr (.t rfl) Ev.c)) rfl <| .z) fun a w S => st_else S (.t rfl) (wp_skip (then_normal (hK1 _ _ (wp_seq_k fun _ hK1 => sg S (.ld gt92 2 rfl rfl rfl <| .xx (ys_call call121 (.cons (.t rfl) .nil) (fun hp w W => c121 _ _ _ _ _ _ (by exact Wd.cell W (k := 0) rfl rfl) (by exact Wd.cell W (k := 0) rfl rfl) (by exact Wd.cell W (k := 0) rfl rfl) (by omega) (by assumption))) rfl <| .mv rfl <| .ad (by unfold I64; omega) rfl <| .lt (by omega) rfl rfl <| .z) fun a w S => st_then S (.t rfl) (wp_region_lit ?_))))))))
    (refine st_m (op_callRP S call139 (.cons Ev.c .nil) (c139 S.wd _) rfl ?_ ?_) <;> clear S a w)
    (intro _ _ h; exact h.elim)
    rintro _ _ ⟨rfl, rfl⟩ a w S
    refine then_panic ?_
    refine post_panic S ?_
    rotate_left
    rintro _ _ ⟨rfl, hr1, rfl⟩ a w S
    refine then_panic ?_
    refine post_panic S ?_
    rotate_left
    · rw [hun]
      exact .inr ⟨_, _, rfl, S.wd.picks (L' := L) (by repeat (first | exact Picks.nil | (refine Picks.rest ?_; (repeat (first | exact List.Sublist.refl _ | refine List.Sublist.cons_cons _ ?_ | refine List.Sublist.cons _ ?_)); done) | refine Picks.take 0 rfl ?_ | refine Picks.take 1 rfl ?_ | refine Picks.take 2 rfl ?_ | refine Picks.take 3 rfl ?_ | refine Picks.take 4 rfl ?_ | refine Picks.take 5 rfl ?_ | refine Picks.take 6 rfl ?_ | refine Picks.take 7 rfl ?_ | refine Picks.take 8 rfl ?_ | refine Picks.take 9 rfl ?_ | refine Picks.take 10 rfl ?_ | refine Picks.take 11 rfl ?_)), rfl, by decide, rfl⟩
    · exact absurd he' hr1
  have rw_2 : decide (((b.length - k1 : Nat) : Int) < (m : Int) + 4) = false := decide_eq_false h2
  rw [if_neg h2] at hun
  have hle : k1 + m + 4 ≤ b.length := by omega
  have ht4 : ((b.drop (k1 + m)).take 4).length = 4 := by rw [List.length_take, List.length_drop]; omega
  have hte : ∀ i, i < 4 → ((b.drop (k1 + m)).take 4)[i]? = b[k1 + m + i]? := fun i hi => by rw [List.getElem?_take_of_lt hi, List.getElem?_drop]
  obtain ⟨t4, rw_t⟩ : ∃ t4, (b.drop (k1 + m)).take 4 = t4 := ⟨_, rfl⟩
  have htl : ((b.drop k1).take m).length = m := by rw [List.length_take, List.length_drop]; omega
  obtain ⟨t, rw_u⟩ : ∃ t, (b.drop k1).take m = t := ⟨_, rfl⟩
  rw [rw_t] at ht4 hte
  rw [rw_u] at hun htl
  unfold Go.Fw.RetsP
  refine enterW3 W func138 rfl ntmps138 rfl fun a S => wp_seq_k fun _ hK1 => wp_region_lit (run S (.ld gt92 2 rfl rfl rfl <| .z) fun a w S => ?_)
  (refine st_m (op_callRP S call116 (.cons (.t rfl) .nil) (c116 S.wd (by first | assumption | omega | (dsimp only; omega) | exact Sl.nil_ | exact .old S.wd (by assumption) | exact Sl.of_own S.wd (k := 0) rfl (fun _ => rfl) | exact Sl.of_own S.wd (k := 1) rfl (fun _ => rfl) | exact Sl.of_own S.wd (k := 2) rfl (fun _ => rfl) | exact Sl.of_own S.wd (k := 3) rfl (fun _ => rfl) | exact Sl.of_own S.wd (k := 4) rfl (fun _ => rfl) | (simp at *; omega)) (by first | assumption | omega | (dsimp only; omega) | exact Sl.nil_ | exact .old S.wd (by assumption) | exact Sl.of_own S.wd (k := 0) rfl (fun _ => rfl) | exact Sl.of_own S.wd (k := 1) rfl (fun _ => rfl) | exact Sl.of_own S.wd (k := 2) rfl (fun _ => rfl) | exact Sl.of_own S.wd (k := 3) rfl (fun _ => rfl) | exact Sl.of_own S.wd (k := 4) rfl (fun _ => rfl) | (simp at *; omega))) rfl ?_ ?_) <;> clear S a w)
  rintro _ _ ⟨hr1, rfl, rfl⟩ a w S
  rw [rw_k] at S
  rw [rw_m] at S
  refine run S (.as rfl <| .z) fun a w S => st_nil (then_normal (hK1 _ _ (wp_seq_k fun _ hK1 => sg S (.mv rfl <| .yy (ys_F (by omega) (ys_gtr (.t rfl) Ev.c)) rfl <| .z) fun a w S => st_else S (.t rfl) (wp_skip (then_normal (hK1 _ _ (wp_seq_k fun _ hK1 => sg S (.ld gt92 2 rfl rfl rfl <| .xx (ys_call call121 (.cons (.t rfl) .nil) (fun hp w W => c121 _ _ _ _ _ _ (by exact Wd.cell W (k := 0) rfl rfl) (by exact Wd.cell W (k := 0) rfl rfl) (by exact Wd.cell W (k := 0) rfl rfl) (by omega) (by assumption))) rfl <| .mv rfl <| .ad (by unfold I64; omega) rfl <| .ge (by omega) rfl rfl <| .z) fun a w S => st_else S (.t rfl) (wp_skip (then_normal (hK1 _ _ (wp_seq_k fun _ hK1 => wp_region_lit (run S (.ld gt92 2 rfl rfl rfl <| .mv rfl <| .z) fun a w S => ?_))))))))))))
  (refine st_m (op_callO S call140 (.cons (.t rfl) (.cons (.t rfl) .nil)) (c140 S.wd _ (by first | assumption | omega | (dsimp only; omega) | exact Sl.nil_ | exact .old S.wd (by assumption) | exact Sl.of_own S.wd (k := 0) rfl (fun _ => rfl) | exact Sl.of_own S.wd (k := 1) rfl (fun _ => rfl) | exact Sl.of_own S.wd (k := 2) rfl (fun _ => rfl) | exact Sl.of_own S.wd (k := 3) rfl (fun _ => rfl) | exact Sl.of_own S.wd (k := 4) rfl (fun _ => rfl) | (simp at *; omega)) (by first | assumption | omega | (dsimp only; omega) | exact Sl.nil_ | exact .old S.wd (by assumption) | exact Sl.of_own S.wd (k := 0) rfl (fun _ => rfl) | exact Sl.of_own S.wd (k := 1) rfl (fun _ => rfl) | exact Sl.of_own S.wd (k := 2) rfl (fun _ => rfl) | exact Sl.of_own S.wd (k := 3) rfl (fun _ => rfl) | exact Sl.of_own S.wd (k := 4) rfl (fun _ => rfl) | (simp at *; omega))) rfl ?_) <;> clear S a w)
  rintro _ _ ⟨A11, c11, rfl, rfl⟩ a w S
  rw [rw_u] at S
  refine st_m (op_st S sizeOf28 (.t rfl) (.t rfl) (k := 4) rfl rfl (by simp) fun a w S => st_nil (then_normal (hK1 _ _ (sg S (.ac rfl <| .z) fun a w S => wp_seq_k fun _ hK1 => wp_seq_k fun _ hK2 => wp_region_lit (run S (.ld gt92 3 rfl rfl rfl <| .z) fun a w S => ?_)))))
  (refine st_m (op_callO S call140 (.cons (.t rfl) (.cons Ev.c .nil)) (c140 S.wd _ (by first | assumption | omega | (dsimp only; omega) | exact Sl.nil_ | exact .old S.wd (by assumption) | exact Sl.of_own S.wd (k := 0) rfl (fun _ => rfl) | exact Sl.of_own S.wd (k := 1) rfl (fun _ => rfl) | exact Sl.of_own S.wd (k := 2) rfl (fun _ => rfl) | exact Sl.of_own S.wd (k := 3) rfl (fun _ => rfl) | exact Sl.of_own S.wd (k := 4) rfl (fun _ => rfl) | exact Sl.of_own S.wd (k := 5) rfl (fun _ => rfl) | (simp at *; omega)) (by first | assumption | omega | (dsimp only; omega) | exact Sl.nil_ | exact .old S.wd (by assumption) | exact Sl.of_own S.wd (k := 0) rfl (fun _ => rfl) | exact Sl.of_own S.wd (k := 1) rfl (fun _ => rfl) | exact Sl.of_own S.wd (k := 2) rfl (fun _ => rfl) | exact Sl.of_own S.wd (k := 3) rfl (fun _ => rfl) | exact Sl.of_own S.wd (k := 4) rfl (fun _ => rfl) | exact Sl.of_own S.wd (k := 5) rfl (fun _ => rfl) | (simp at *; omega))) rfl ?_) <;> clear S a w)
  rintro _ _ ⟨A12, c12, rfl, rfl⟩ a w S
  rw [rw_t] at S
  refine run S (.ln underlying28 rfl <| .mc rfl <| .z) fun a w S => st_nil (then_normal (hK2 _ _ (wp_block ?_)))
  rotate_left
  rintro _ _ ⟨rfl, hr1, rfl⟩ a w S
  refine then_panic ?_
  refine post_panic S ?_
  rotate_left
  refine st_lpM S [4, 24] (X := Nat) (fun i => [(24, true, .int .i64 (i : Int)), (4, true, .int .i64 (leV b (k1 + m) i : Int))]) (fun _ => rdr g A cap b (k1 + m + 4) (rowOf 5 1 encB A12 c12 t4 :: rowOf 5 1 encB A11 c11 t :: .blk g1 (.cells #[.pointer (some ⟨g, 0, none⟩)] 92) :: .blk g2 (.cells #[.slice A11 t.length c11] 28) :: .blk g3 (.cells #[.slice none 0 0] 28) :: L)) (fun i => i ≤ 4) (fun i => 4 - i) 0 (Nat.zero_le _) ?_
  clear S
  intro i a w hi S
  have hlv := leV_lt4 b (k1 + m) hi
  by_cases hi4 : i < 4
  · obtain ⟨ga, rfl⟩ := S.wd.row_at (k := 2) rfl (by have := (S.wd.room (k := 2) rfl).1; omega)
    obtain ⟨y, hy⟩ : ∃ y, t4[i]? = some y := ⟨t4[i], by simp⟩
    have hyb : b[k1 + m + i]? = some y := by rw [← hte i hi4]; exact hy
    have hy8 : y.toNat < 256 := y.toNat_lt
    have rw_8 : 8 * (i : Int) = ((8 * i : Nat) : Int) := by omega
    have rw_9 : (i : Int) + 1 = ((i + 1 : Nat) : Int) := rfl
    have rw_h := shl_le4 hy8 hi4
    have hlw : leV b (k1 + m) (i + 1) = leV b (k1 + m) i + y.toNat * 256 ^ i := by rw [leV, List.getD_eq_getElem?_getD, hyb]; rfl
    have rw_o : orK .i64 (leV b (k1 + m) i : Int) ((y.toNat * 256 ^ i : Nat) : Int) = ((leV b (k1 + m) (i + 1) : Nat) : Int) := by
      rw [or_le4 (leV_lt b (k1 + m) i) hy8 hi4, hlw]
    have hpl := pow_le4 hy8 hi4
    refine sg S (.lt (by omega) rfl rfl <| .z) fun a w S => wp_seq_k fun _ hK2 => st_then S (.t rfl) (wp_skip (then_normal (hK2 _ _ (wp_seq_k fun _ hK2 => wp_block (sg S (.mv rfl <| .ix underlying28 sizeOf5 (by omega) rfl rfl <| .yy (ys_ldW0 ⟨isAgg5, sizeOf5⟩ (.t rfl) (k := 2) rfl hy (fun _ => rfl) rfl) rfl <| .as rfl <| .as rfl <| .z) fun a w S => wp_region_lit (run S (.mv rfl <| .mv rfl <| .yy (ys_cvI underlying5 underlying3 (.t rfl) (fun _ => by unfold I64; omega)) rfl <| .mv rfl <| .yy (ys_mulI Ev.c (.t rfl) (fun _ => by unfold I64; omega)) rfl <| .z) fun a w S => ?_))))))
    rw [rw_8] at S
    refine run S (.yy (ys_shl (.t rfl) (.t rfl) (Nat.ble_eq_true_of_le (by show _ ≤ 64; omega))) rfl <| .z) fun a w S => ?_
    rw [rw_h] at S
    refine run S (.yy (ys_bor (.t rfl) (.t rfl)) rfl <| .z) fun a w S => ?_
    rw [rw_o] at S
    refine run S (.as rfl <| .z) fun a w S => st_nil (in_normal (then_normal (hK2 _ _ (wp_region_lit (run S (.ad (by unfold I64; omega) rfl <| .z) fun a w S => ?_)))))
    rw [rw_9] at S
    refine run S (.mv rfl <| .z) fun a w S => st_nil (then_normal ?_)
    exact ⟨i + 1, by omega, by omega, S.pk⟩
  obtain rfl : i = 4 := by omega
  by_cases h3 : leV b (k1 + m) 4 = crcL t
  · have rw_3 : decide ((leV b (k1 + m) 4 : Int) ≠ (crcL t : Int)) = false := decide_eq_false (by omega)
    rw [if_neg (by simpa using h3)] at hun
    have rw_s : k1 + m + 4 + (b.length - (k1 + m + 4)) = b.length := by omega
    have htd : (b.drop (k1 + m + 4)).take (b.length - (k1 + m + 4)) = b.drop (k1 + m + 4) := List.take_of_length_le (by rw [List.length_drop]; exact Nat.le_refl _)
    have rw_d := htd
    refine sg S (.ge (by omega) rfl rfl <| .z) fun a w S => wp_seq_k fun _ hK2 => st_else S (.t rfl) (wp_exit (then_exit (then_exit (in_here (then_normal (hK1 _ _ (wp_seq_k fun _ hK1 => sg S (.mv rfl <| .ld gt28 5 rfl rfl rfl <| .xx (ys_call call134 (.cons (.t rfl) .nil) (fun hp w W => c134 _ _ _ (by exact Sl.of_own W (k := 3) rfl (fun _ => rfl)))) rfl <| .yy (ys_F (by omega) (ys_neq (.t rfl) (.t rfl))) rfl <| .z) fun a w S => st_else S (.t rfl) (wp_skip (then_normal (hK1 _ _ (h_begin S (by kernel_rfl) [rowOf 5 1 encB A cap b, rowOf 5 1 encB A11 c11 t, .blk g1 (.cells #[.pointer (some ⟨g, 0, none⟩)] 92)] ?_)))))))))))
    clear S
    intro a w S
    refine hy 0 S rfl (ys_ld ⟨isAgg92, sizeOf92⟩ (.t rfl) (k := 2) rfl rfl) rfl fun a w S => hy 1 S rfl (ys_ld ⟨isAgg92, sizeOf92⟩ (.t rfl) (k := 2) rfl rfl) rfl fun a w S => h_q (i := 2) S (by repeat (first | exact List.Sublist.refl _ | exact List.nil_sublist _ | refine .cons_cons _ ?_ | refine .cons _ ?_)) rfl (by kernel_rfl) (ys_call call121 (.cons (.t rfl) .nil) (fun hp w W => c121 _ _ _ _ _ _ (by exact Wd.cell W (k := 0) rfl rfl) (by exact Wd.cell W (k := 0) rfl rfl) (by exact Wd.cell W (k := 0) rfl rfl) (by assumption) (by assumption))) rfl fun a w S => h_m (i := 3) rfl (by kernel_rfl) (op_callO S call140 (.cons (.t rfl) (.cons (.t rfl) .nil)) (c140 S.wd (b.length - (k1 + m + 4)) (by omega) hb) rfl ?_)
    clear S
    rintro _ _ ⟨A13, c13, rfl, rfl⟩ a w S
    rw [rw_d, rw_s] at S
    refine h_n1 S ?_
    (refine h_m0 (i := 4) rfl (by kernel_rfl) (op_st S sizeOf28 (.t rfl) (.t rfl) (k := 7) rfl rfl (by simp) ?_); clear S a w; intro a w S; refine h_n1 S ?_)
    refine h_done (by kernel_rfl) (st_end S (results0 results138) ?_)
    rw [hun]
    exact .inl ⟨_, _, rfl, S.wd.picks (L' := .blk g2 (.cells #[.slice A11 t.length c11] 28) :: .blk g3 (.cells #[.slice A13 (b.drop (k1 + m + 4)).length c13] 28) :: rowOf 5 1 encB A11 c11 t :: rowOf 5 1 encB A13 c13 (b.drop (k1 + m + 4)) :: L) (by repeat (first | exact Picks.nil | (refine Picks.rest ?_; (repeat (first | exact List.Sublist.refl _ | refine List.Sublist.cons_cons _ ?_ | refine List.Sublist.cons _ ?_)); done) | refine Picks.take 0 rfl ?_ | refine Picks.take 1 rfl ?_ | refine Picks.take 2 rfl ?_ | refine Picks.take 3 rfl ?_ | refine Picks.take 4 rfl ?_ | refine Picks.take 5 rfl ?_ | refine Picks.take 6 rfl ?_ | refine Picks.take 7 rfl ?_ | refine Picks.take 8 rfl ?_ | refine Picks.take 9 rfl ?_ | refine Picks.take 10 rfl ?_ | refine Picks.take 11 rfl ?_)), rfl, rfl, _, _, _, _, rfl⟩
  · have rw_3 : decide ((leV b (k1 + m) 4 : Int) ≠ (crcL t : Int)) = true := decide_eq_true (by omega)
    rw [if_pos (by simpa using h3)] at hun
    refine sg S (.ge (by omega) rfl rfl <| .z) fun a w S => wp_seq_k fun _ hK2 => st_else S (.t rfl) (wp_exit (then_exit (then_exit (in_here (then_normal (hK1 _ _ (wp_seq_k fun _ hK1 => sg S (.mv rfl <| .ld gt28 5 rfl rfl rfl <| .xx (ys_call call134 (.cons (.t rfl) .nil) (fun hp w W => c134 _ _ _ (by exact Sl.of_own W (k := 3) rfl (fun _ => rfl)))) rfl <| .yy (ys_T (by omega) (ys_neq (.t rfl) (.t rfl))) rfl <| .z) fun a w S => st_then S (.t rfl) (wp_region_lit ?_))))))))
    (refine st_m (op_callRP S call139 (.cons Ev.c .nil) (c139 S.wd _) rfl ?_ ?_) <;> clear S a w)
    (intro _ _ h; exact h.elim)
    rintro _ _ ⟨rfl, rfl⟩ a w S
    refine then_panic ?_
    refine post_panic S ?_
    rw [hun]
    exact .inr ⟨_, _, rfl, S.wd.picks (L' := L) (by repeat (first | exact Picks.nil | (refine Picks.rest ?_; (repeat (first | exact List.Sublist.refl _ | refine List.Sublist.cons_cons _ ?_ | refine List.Sublist.cons _ ?_)); done) | refine Picks.take 0 rfl ?_ | refine Picks.take 1 rfl ?_ | refine Picks.take 2 rfl ?_ | refine Picks.take 3 rfl ?_ | refine Picks.take 4 rfl ?_ | refine Picks.take 5 rfl ?_ | refine Picks.take 6 rfl ?_ | refine Picks.take 7 rfl ?_ | refine Picks.take 8 rfl ?_ | refine Picks.take 9 rfl ?_ | refine Picks.take 10 rfl ?_ | refine Picks.take 11 rfl ?_)), rfl, by decide, rfl⟩
  exact absurd he' hr1
end Go.Proofs.YtfblmkocmnbdcaaGreat
