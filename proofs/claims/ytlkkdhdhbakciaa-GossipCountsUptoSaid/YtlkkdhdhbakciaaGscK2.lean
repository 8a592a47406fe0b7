/- Contracts and laws that the statement Gsc leans on, part 2. -/
import Derived.Test.YtlkkdhdhbakciaaGscK1
set_option linter.unusedVariables false
set_option linter.unusedSimpArgs false
set_option maxRecDepth 100000
set_option maxHeartbeats 4000000
namespace Go.Proofs.Ytlkkdhdhbakciaa
open Go.Fw Go.Proofs Go.RowKit Go.Proofs.Try
theorem c10 (w0 : World) (n : Int) : Calls Try.prog 10 #[.int .i64 n] w0 fun e w' => e = .returned (.bool (decide (0 ≤ n) && decide (n < 8))) ∧ Bel w0.heap.size w0 w' := by
  refine enter1 func10 rfl ntmps10 rfl fun a S => sg S (.ac rfl <| .z) fun a w S => wp_seq_k fun _ hK1 => wp_region_lit (run S (.mv rfl <| .yy (ys_geq (.t rfl) Ev.c) rfl <| .mv rfl <| .z) fun a w S => st_yg S rfl rfl (Yr.ys (ys_move (.t rfl))) rfl fun a w S => st_yg S rfl rfl (Yr.ys (ys_lss (Ev.g rfl) Ev.c)) rfl fun a w S => run S (.yy (ys_and (.t rfl) (Ev.g rfl) Ev.c) rfl <| .as rfl <| .z) fun a w S => st_nil (then_normal (hK1 _ _ (wp_ret (st_ret S (results1 S results10 (Rv.tmp rfl)) ?_)))))
  exact ⟨rfl, S.wd.below⟩
theorem c11 (w0 : World) (n s : Int) (g gf : Nat) (hf : w0.cell? ⟨gf, 0, none⟩ = some (.pointer (some ⟨g, 0, none⟩))) (h0 : w0.cell? ⟨g, 0, none⟩ = some (.int .i64 s)) :
    Calls Try.prog 11 #[.int .i64 n, .pointer (some ⟨gf, 0, none⟩)] w0 fun e w' => e = .returned (.bool (okN s n)) ∧ Bel w0.heap.size w0 w' := by
  refine enter2 func11 rfl ntmps11 rfl fun a S => sg S (.ac rfl <| .z) fun a w S => wp_seq_k fun _ hK1 => wp_region_lit (run S (.mv rfl <| .yy (ys_ldO ⟨isAgg23, sizeOf23⟩ (.t rfl) (fun _ => hf)) rfl <| .yy (ys_nilc (.t rfl)) rfl <| .fa underlying59 sizeOf3 0 rfl rfl rfl <| .yy (ys_ldO ⟨isAgg3, sizeOf3⟩ (.t rfl) (fun _ => h0)) rfl <| .yy (ys_neq (.t rfl) (.t rfl)) rfl <| .mv rfl <| .z) fun a w S => st_yg S rfl rfl (Yr.ys (ys_move (.t rfl))) rfl fun a w S => st_yg S rfl rfl (ys_call call10 (.cons (Ev.g rfl) .nil) (fun hp w W => c10 _ _)) rfl fun a w S => run S (.yy (ys_and (.t rfl) (Ev.g rfl) Ev.c) rfl <| .as rfl <| .z) fun a w S => st_nil (then_normal (hK1 _ _ (wp_ret (st_ret S (results1 S results11 (Rv.tmp rfl)) ?_)))))
  exact ⟨rfl, S.wd.below⟩
abbrev boxK (g gf : Nat) (s : Int) (A : Option Addr) (cap : Nat) (rl : List Rum) (told : Bool) (last to : Int) (L : List Chunk) : List Chunk :=
  .blk g (.cells #[.int .i64 s, .slice A rl.length cap, .bool told, .int .i64 last, .int .i64 to, .bool true, .func (.func 11) #[] #[.pointer (some ⟨gf, 0, none⟩)]] 59) ::
  .blk gf (.cells #[.pointer (some ⟨g, 0, none⟩)] 23) :: rowOf 63 4 Rum.enc A cap rl :: L
theorem c4 (w0 : World) (n : Int) (h : 0 ≤ n ∧ n < 8) : Rets Try.prog 4 #[.int .i64 n] w0 fun v L => ∃ g gf, v = .tuple #[.pointer (some ⟨g, 0, none⟩), .int .i64 0] ∧ L = boxK g gf n none 0 [] false 0 0 [] := by
  have rw_n : (decide (0 ≤ n) && decide (n < 8)) = true := by simp; omega
  unfold Go.Fw.Rets
  refine enter1 func4 rfl ntmps4 rfl fun a S => sg S (.ac rfl <| .ac rfl <| .z) fun a w S => wp_seq_k fun _ hK1 => wp_seq_k fun _ hK2 => wp_region_lit (run S (.mv rfl <| .xx (ys_call call10 (.cons (.t rfl) .nil) (fun hp w W => c10 _ _)) rfl <| .z) fun a w S => ?_)
  rw [rw_n] at S
  refine run S (.nt rfl <| .z) fun a w S => st_nil (then_normal (hK2 _ _ (st_else S (.t rfl) (wp_skip (then_normal (hK1 _ _ (wp_seq_k fun _ hK1 => wp_region_lit (run S (.mv rfl <| .yy (ys_bld (ps := [(0, Go.Operand.tmp 8), (5, _)]) (us := [_, _, _, _, _, _, _]) bld59 (.cons (.t rfl) (.cons Ev.c .nil)) rfl) rfl <| .z) fun a w S => st_m (op_box S (.t rfl) rfl fun g1 a w S => st_m (op_alloc S zeroValue23 (cs := _) rfl rfl fun g2 a w S => st_m (op_st S sizeOf23 (.t rfl) (.t rfl) (k := 0) rfl rfl (by simp) fun a w S => st_nil (then_normal (hK1 _ _ (wp_seq_k fun _ hK1 => wp_region_lit (run S (.ld gt23 0 rfl rfl rfl <| .yy (ys_mkFunc (.cons (.t rfl) .nil)) rfl <| .yy (ys_nilc (.t rfl)) rfl <| .fa underlying59 sizeOf56 6 rfl rfl rfl <| .z) fun a w S => st_m (op_st S sizeOf56 (.t rfl) (.t rfl) (k := 1) rfl rfl (by simp) fun a w S => st_nil (then_normal (hK1 _ _ (sg S (.ld gt23 0 rfl rfl rfl <| .as rfl <| .ac rfl <| .z) fun a w S => wp_ret (st_ret S (results2 S results4 (Rv.tmp rfl) (Rv.tmp rfl)) ?_))))))))))))))))))))
  exact ⟨_, _, rfl, (S.nil_ 63 4 Rum.enc none).wd.pk, _, _, rfl, rfl⟩
theorem c17 (w0 : World) (g gf : Nat) (s to : Int) (told : Bool) (v : Value) (l : List Int) (h0 : w0.cell? ⟨g, 0, none⟩ = some (.int .i64 s)) (h2 : w0.cell? ⟨g, 2, none⟩ = some (.bool told)) (h4 : w0.cell? ⟨g, 4, none⟩ = some (.int .i64 to))
    (h6 : w0.cell? ⟨g, 6, none⟩ = some (.func (.func 11) #[] #[.pointer (some ⟨gf, 0, none⟩)])) (hf : w0.cell? ⟨gf, 0, none⟩ = some (.pointer (some ⟨g, 0, none⟩))) (hs : Sl encI 1 w0 w0.heap.size v l) :
    Calls Try.prog 17 #[.pointer (some ⟨g, 0, none⟩), v] w0 fun e w' => e = .returned (.tuple #[.int .i64 (nextL s told to l).1, .bool (nextL s told to l).2]) ∧ Bel w0.heap.size w0 w' := by
  obtain ⟨A, cap, rfl, _, _, hA⟩ := id hs
  refine enter2 func17 rfl ntmps17 rfl fun a S => sg S (.ac rfl <| .ac rfl <| .z) fun a w S => sg S (.ac rfl <| .ac rfl <| .z) fun a w S => wp_seq_k fun _ hK1 => sg S (.mv rfl <| .ln underlying30 rfl <| .mc rfl <| .z) fun a w S => wp_block ?_
  refine st_lpM S [6, 7, 12] (X := Nat × Int × Int) (fun q => [(12, true, .int .i64 (q.1 : Int)), (7, true, .int .i64 q.2.2), (6, true, .int .i64 q.2.1)]) (fun _ => [])
    (fun q => q.1 ≤ l.length ∧ (l.take q.1).foldl (lowF s) (-1) = q.2.1 ∧ (l.take q.1).foldl (abvF s told to) (-1) = q.2.2) (fun q => l.length - q.1) (0, -1, -1) ⟨Nat.zero_le _, rfl, rfl⟩ ?_
  clear S
  intro ⟨k, lo, ab⟩ a w ⟨hk, hlo, hab⟩ S
  dsimp only at hk hlo hab S
  by_cases hlt : k < l.length
  · obtain ⟨gq, oq, n, rfl, hn, hdq, hc⟩ := row_at hA hlt
    have e1 : (l.take (k + 1)).foldl (lowF s) (-1) = lowF s lo n := by rw [List.take_add_one, hn, List.foldl_append, hlo]; rfl
    have e2 : (l.take (k + 1)).foldl (abvF s told to) (-1) = abvF s told to ab n := by rw [List.take_add_one, hn, List.foldl_append, hab]; rfl
    cases rw_o : okN s n with
    | false =>
      refine sg S (.lt (by omega) rfl rfl <| .z) fun a w S => wp_seq_k fun _ hK2 => st_then S (.t rfl) (wp_skip (then_normal (hK2 _ _ (wp_seq_k fun _ hK2 => wp_block (sg S (.ix underlying30 sizeOf3 (by omega) rfl rfl <| .yy (ys_ldO ⟨isAgg3, sizeOf3⟩ (.t rfl) (fun _ => hc 0 _ rfl)) rfl <| .as rfl <| .z) fun a w S => wp_seq_k fun _ hK3 => wp_seq_k fun _ hK4 => wp_region_lit (run S (.mv rfl <| .yy (ys_nilc (.t rfl)) rfl <| .fa underlying59 sizeOf56 6 rfl rfl rfl <| .yy (ys_ldO ⟨isAgg56, sizeOf56⟩ (.t rfl) (fun _ => h6)) rfl <| .mv rfl <| .xx (ys_callVC (cs := [_]) (.t rfl) call11 (.cons (.t rfl) .nil) (fun hp w W => c11 _ _ _ _ _ (by exact Wd.cellOld W (by assumption)) (by exact Wd.cellOld W (by assumption)))) rfl <| .z) fun a w S => ?_))))))
      rw [rw_o] at S
      refine run S (.nt rfl <| .z) fun a w S => st_nil (then_normal (hK4 _ _ (st_then S (.t rfl) (wp_exit (then_exit (in_here (then_normal (hK2 _ _ (wp_region_lit (run S (.ad (by unfold I64; omega) rfl <| .mv rfl <| .z) fun a w S => st_nil (then_normal ?_)))))))))))
      exact ⟨(k + 1, lo, ab), ⟨by dsimp only; omega, by dsimp only; rw [e1, lowF, rw_o]; simp, by dsimp only; rw [e2, abvF, rw_o]; simp⟩, by dsimp only; omega, S.wk⟩
    | true =>
      cases rw_1 : (decide (lo < 0) || decide (n < lo)) with
      | false =>
        have f1 : lowF s lo n = lo := by unfold lowF; rw [if_neg]; simp at rw_1; omega
        cases rw_2 : ((told && decide (to < n)) && (decide (ab < 0) || decide (n < ab))) with
        | false =>
          have f2 : abvF s told to ab n = ab := by unfold abvF; rw [if_neg]; intro h; simp [h.2.1.1, h.2.1.2] at rw_2; omega
          refine sg S (.lt (by omega) rfl rfl <| .z) fun a w S => wp_seq_k fun _ hK2 => st_then S (.t rfl) (wp_skip (then_normal (hK2 _ _ (wp_seq_k fun _ hK2 => wp_block (sg S (.ix underlying30 sizeOf3 (by omega) rfl rfl <| .yy (ys_ldO ⟨isAgg3, sizeOf3⟩ (.t rfl) (fun _ => hc 0 _ rfl)) rfl <| .as rfl <| .z) fun a w S => wp_seq_k fun _ hK3 => wp_seq_k fun _ hK4 => wp_region_lit (run S (.mv rfl <| .yy (ys_nilc (.t rfl)) rfl <| .fa underlying59 sizeOf56 6 rfl rfl rfl <| .yy (ys_ldO ⟨isAgg56, sizeOf56⟩ (.t rfl) (fun _ => h6)) rfl <| .mv rfl <| .xx (ys_callVC (cs := [_]) (.t rfl) call11 (.cons (.t rfl) .nil) (fun hp w W => c11 _ _ _ _ _ (by exact Wd.cellOld W (by assumption)) (by exact Wd.cellOld W (by assumption)))) rfl <| .z) fun a w S => ?_))))))
          rw [rw_o] at S
          refine run S (.nt rfl <| .z) fun a w S => st_nil (then_normal (hK4 _ _ (st_else S (.t rfl) (wp_skip (then_normal (hK3 _ _ (wp_seq_k fun _ hK3 => wp_seq_k fun _ hK4 => wp_region_lit (run S (.mv rfl <| .yy (ys_lss (.t rfl) Ev.c) rfl <| .mv rfl <| .z) fun a w S => st_yf S rfl rfl (Yr.ys (ys_move (.t rfl))) rfl fun a w S => st_yf S rfl rfl (Yr.ys (ys_move (.t rfl))) rfl fun a w S => st_yf S rfl rfl (Yr.ys (ys_lss (Ev.g rfl) (Ev.g rfl))) rfl fun a w S => run S (.yy (ys_or (.t rfl) Ev.c (Ev.g rfl)) rfl <| .z) fun a w S => ?_))))))))
          rw [rw_1] at S
          refine st_nil (then_normal (hK4 _ _ (st_else S (.t rfl) (wp_skip (then_normal (hK3 _ _ (wp_seq_k fun _ hK3 => wp_region_lit (run S (.mv rfl <| .yy (ys_nilc (.t rfl)) rfl <| .fa underlying59 sizeOf4 2 rfl rfl rfl <| .yy (ys_ldO ⟨isAgg4, sizeOf4⟩ (.t rfl) (fun _ => h2)) rfl <| .mv rfl <| .z) fun a w S => st_yg S rfl rfl (Yr.ys (ys_move (.t rfl))) rfl fun a w S => st_yg S rfl rfl (Yr.ys (ys_move (.t rfl))) rfl fun a w S => st_yg S rfl rfl (Yr.ys (ys_nilc (Ev.g rfl))) rfl fun a w S => st_yg S rfl rfl (Yr.ys (ys_fieldN (FieldT.mk underlying59 rfl sizeOf3 rfl) (Ev.g rfl) (i' := 4) rfl)) rfl fun a w S => st_yg S rfl rfl (Yr.ys (ys_ldO ⟨isAgg3, sizeOf3⟩ (Ev.g rfl) (fun _ => h4))) rfl fun a w S => st_yg S rfl rfl (Yr.ys (ys_gtr (Ev.g rfl) (Ev.g rfl))) rfl fun a w S => run S (.yy (ys_and (.t rfl) (Ev.g rfl) Ev.c) rfl <| .mv rfl <| .z) fun a w S => st_yg S rfl rfl (Yr.ys (ys_move (.t rfl))) rfl fun a w S => st_yg S rfl rfl (Yr.ys (ys_lss (Ev.g rfl) Ev.c)) rfl fun a w S => st_yg S rfl rfl (Yr.ys (ys_move (Ev.g rfl))) rfl fun a w S => st_yf2 S rfl rfl (Yr.ys (ys_move (.t rfl))) rfl fun a w S => st_yf2 S rfl rfl (Yr.ys (ys_move (.t rfl))) rfl fun a w S => st_yf2 S rfl rfl (Yr.ys (ys_lss (Ev.g rfl) (Ev.g rfl))) rfl fun a w S => st_yg S rfl rfl (Yr.ys (ys_or2 (Ev.g rfl) Ev.c (Ev.g rfl))) rfl fun a w S => run S (.yy (ys_and (.t rfl) (Ev.g rfl) Ev.c) rfl <| .z) fun a w S => ?_))))))))
          rw [rw_2] at S
          refine st_nil (then_normal (hK3 _ _ (st_else S (.t rfl) (wp_skip (in_normal (then_normal (hK2 _ _ (wp_region_lit (run S (.ad (by unfold I64; omega) rfl <| .mv rfl <| .z) fun a w S => st_nil (then_normal ?_))))))))))
          exact ⟨(k + 1, lo, ab), ⟨by dsimp only; omega, by rw [e1, f1], by rw [e2, f2]⟩, by dsimp only; omega, S.wk⟩
        | true =>
          have f2 : abvF s told to ab n = n := by unfold abvF; rw [if_pos]; simp at rw_2; exact ⟨rw_o, rw_2.1, rw_2.2⟩
          refine sg S (.lt (by omega) rfl rfl <| .z) fun a w S => wp_seq_k fun _ hK2 => st_then S (.t rfl) (wp_skip (then_normal (hK2 _ _ (wp_seq_k fun _ hK2 => wp_block (sg S (.ix underlying30 sizeOf3 (by omega) rfl rfl <| .yy (ys_ldO ⟨isAgg3, sizeOf3⟩ (.t rfl) (fun _ => hc 0 _ rfl)) rfl <| .as rfl <| .z) fun a w S => wp_seq_k fun _ hK3 => wp_seq_k fun _ hK4 => wp_region_lit (run S (.mv rfl <| .yy (ys_nilc (.t rfl)) rfl <| .fa underlying59 sizeOf56 6 rfl rfl rfl <| .yy (ys_ldO ⟨isAgg56, sizeOf56⟩ (.t rfl) (fun _ => h6)) rfl <| .mv rfl <| .xx (ys_callVC (cs := [_]) (.t rfl) call11 (.cons (.t rfl) .nil) (fun hp w W => c11 _ _ _ _ _ (by exact Wd.cellOld W (by assumption)) (by exact Wd.cellOld W (by assumption)))) rfl <| .z) fun a w S => ?_))))))
          rw [rw_o] at S
          refine run S (.nt rfl <| .z) fun a w S => st_nil (then_normal (hK4 _ _ (st_else S (.t rfl) (wp_skip (then_normal (hK3 _ _ (wp_seq_k fun _ hK3 => wp_seq_k fun _ hK4 => wp_region_lit (run S (.mv rfl <| .yy (ys_lss (.t rfl) Ev.c) rfl <| .mv rfl <| .z) fun a w S => st_yf S rfl rfl (Yr.ys (ys_move (.t rfl))) rfl fun a w S => st_yf S rfl rfl (Yr.ys (ys_move (.t rfl))) rfl fun a w S => st_yf S rfl rfl (Yr.ys (ys_lss (Ev.g rfl) (Ev.g rfl))) rfl fun a w S => run S (.yy (ys_or (.t rfl) Ev.c (Ev.g rfl)) rfl <| .z) fun a w S => ?_))))))))
          rw [rw_1] at S
          refine st_nil (then_normal (hK4 _ _ (st_else S (.t rfl) (wp_skip (then_normal (hK3 _ _ (wp_seq_k fun _ hK3 => wp_region_lit (run S (.mv rfl <| .yy (ys_nilc (.t rfl)) rfl <| .fa underlying59 sizeOf4 2 rfl rfl rfl <| .yy (ys_ldO ⟨isAgg4, sizeOf4⟩ (.t rfl) (fun _ => h2)) rfl <| .mv rfl <| .z) fun a w S => st_yg S rfl rfl (Yr.ys (ys_move (.t rfl))) rfl fun a w S => st_yg S rfl rfl (Yr.ys (ys_move (.t rfl))) rfl fun a w S => st_yg S rfl rfl (Yr.ys (ys_nilc (Ev.g rfl))) rfl fun a w S => st_yg S rfl rfl (Yr.ys (ys_fieldN (FieldT.mk underlying59 rfl sizeOf3 rfl) (Ev.g rfl) (i' := 4) rfl)) rfl fun a w S => st_yg S rfl rfl (Yr.ys (ys_ldO ⟨isAgg3, sizeOf3⟩ (Ev.g rfl) (fun _ => h4))) rfl fun a w S => st_yg S rfl rfl (Yr.ys (ys_gtr (Ev.g rfl) (Ev.g rfl))) rfl fun a w S => run S (.yy (ys_and (.t rfl) (Ev.g rfl) Ev.c) rfl <| .mv rfl <| .z) fun a w S => st_yg S rfl rfl (Yr.ys (ys_move (.t rfl))) rfl fun a w S => st_yg S rfl rfl (Yr.ys (ys_lss (Ev.g rfl) Ev.c)) rfl fun a w S => st_yg S rfl rfl (Yr.ys (ys_move (Ev.g rfl))) rfl fun a w S => st_yf2 S rfl rfl (Yr.ys (ys_move (.t rfl))) rfl fun a w S => st_yf2 S rfl rfl (Yr.ys (ys_move (.t rfl))) rfl fun a w S => st_yf2 S rfl rfl (Yr.ys (ys_lss (Ev.g rfl) (Ev.g rfl))) rfl fun a w S => st_yg S rfl rfl (Yr.ys (ys_or2 (Ev.g rfl) Ev.c (Ev.g rfl))) rfl fun a w S => run S (.yy (ys_and (.t rfl) (Ev.g rfl) Ev.c) rfl <| .z) fun a w S => ?_))))))))
          rw [rw_2] at S
          refine st_nil (then_normal (hK3 _ _ (st_then S (.t rfl) (wp_region_lit (run S (.mv rfl <| .as rfl <| .z) fun a w S => st_nil (in_normal (then_normal (hK2 _ _ (wp_region_lit (run S (.ad (by unfold I64; omega) rfl <| .mv rfl <| .z) fun a w S => st_nil (then_normal ?_)))))))))))
          exact ⟨(k + 1, lo, n), ⟨by dsimp only; omega, by rw [e1, f1], by rw [e2, f2]⟩, by dsimp only; omega, S.wk⟩
      | true =>
        have f1 : lowF s lo n = n := by unfold lowF; rw [if_pos]; simp at rw_1; exact ⟨rw_o, rw_1⟩
        cases rw_2 : ((told && decide (to < n)) && (decide (ab < 0) || decide (n < ab))) with
        | false =>
          have f2 : abvF s told to ab n = ab := by unfold abvF; rw [if_neg]; intro h; simp [h.2.1.1, h.2.1.2] at rw_2; omega
          refine sg S (.lt (by omega) rfl rfl <| .z) fun a w S => wp_seq_k fun _ hK2 => st_then S (.t rfl) (wp_skip (then_normal (hK2 _ _ (wp_seq_k fun _ hK2 => wp_block (sg S (.ix underlying30 sizeOf3 (by omega) rfl rfl <| .yy (ys_ldO ⟨isAgg3, sizeOf3⟩ (.t rfl) (fun _ => hc 0 _ rfl)) rfl <| .as rfl <| .z) fun a w S => wp_seq_k fun _ hK3 => wp_seq_k fun _ hK4 => wp_region_lit (run S (.mv rfl <| .yy (ys_nilc (.t rfl)) rfl <| .fa underlying59 sizeOf56 6 rfl rfl rfl <| .yy (ys_ldO ⟨isAgg56, sizeOf56⟩ (.t rfl) (fun _ => h6)) rfl <| .mv rfl <| .xx (ys_callVC (cs := [_]) (.t rfl) call11 (.cons (.t rfl) .nil) (fun hp w W => c11 _ _ _ _ _ (by exact Wd.cellOld W (by assumption)) (by exact Wd.cellOld W (by assumption)))) rfl <| .z) fun a w S => ?_))))))
          rw [rw_o] at S
          refine run S (.nt rfl <| .z) fun a w S => st_nil (then_normal (hK4 _ _ (st_else S (.t rfl) (wp_skip (then_normal (hK3 _ _ (wp_seq_k fun _ hK3 => wp_seq_k fun _ hK4 => wp_region_lit (run S (.mv rfl <| .yy (ys_lss (.t rfl) Ev.c) rfl <| .mv rfl <| .z) fun a w S => st_yf S rfl rfl (Yr.ys (ys_move (.t rfl))) rfl fun a w S => st_yf S rfl rfl (Yr.ys (ys_move (.t rfl))) rfl fun a w S => st_yf S rfl rfl (Yr.ys (ys_lss (Ev.g rfl) (Ev.g rfl))) rfl fun a w S => run S (.yy (ys_or (.t rfl) Ev.c (Ev.g rfl)) rfl <| .z) fun a w S => ?_))))))))
          rw [rw_1] at S
          refine st_nil (then_normal (hK4 _ _ (st_then S (.t rfl) (rg S (.mv rfl <| .as rfl <| .z) hK3 fun a w S => wp_seq_k fun _ hK3 => wp_region_lit (run S (.mv rfl <| .yy (ys_nilc (.t rfl)) rfl <| .fa underlying59 sizeOf4 2 rfl rfl rfl <| .yy (ys_ldO ⟨isAgg4, sizeOf4⟩ (.t rfl) (fun _ => h2)) rfl <| .mv rfl <| .z) fun a w S => st_yg S rfl rfl (Yr.ys (ys_move (.t rfl))) rfl fun a w S => st_yg S rfl rfl (Yr.ys (ys_move (.t rfl))) rfl fun a w S => st_yg S rfl rfl (Yr.ys (ys_nilc (Ev.g rfl))) rfl fun a w S => st_yg S rfl rfl (Yr.ys (ys_fieldN (FieldT.mk underlying59 rfl sizeOf3 rfl) (Ev.g rfl) (i' := 4) rfl)) rfl fun a w S => st_yg S rfl rfl (Yr.ys (ys_ldO ⟨isAgg3, sizeOf3⟩ (Ev.g rfl) (fun _ => h4))) rfl fun a w S => st_yg S rfl rfl (Yr.ys (ys_gtr (Ev.g rfl) (Ev.g rfl))) rfl fun a w S => run S (.yy (ys_and (.t rfl) (Ev.g rfl) Ev.c) rfl <| .mv rfl <| .z) fun a w S => st_yg S rfl rfl (Yr.ys (ys_move (.t rfl))) rfl fun a w S => st_yg S rfl rfl (Yr.ys (ys_lss (Ev.g rfl) Ev.c)) rfl fun a w S => st_yg S rfl rfl (Yr.ys (ys_move (Ev.g rfl))) rfl fun a w S => st_yf2 S rfl rfl (Yr.ys (ys_move (.t rfl))) rfl fun a w S => st_yf2 S rfl rfl (Yr.ys (ys_move (.t rfl))) rfl fun a w S => st_yf2 S rfl rfl (Yr.ys (ys_lss (Ev.g rfl) (Ev.g rfl))) rfl fun a w S => st_yg S rfl rfl (Yr.ys (ys_or2 (Ev.g rfl) Ev.c (Ev.g rfl))) rfl fun a w S => run S (.yy (ys_and (.t rfl) (Ev.g rfl) Ev.c) rfl <| .z) fun a w S => ?_)))))
          rw [rw_2] at S
          refine st_nil (then_normal (hK3 _ _ (st_else S (.t rfl) (wp_skip (in_normal (then_normal (hK2 _ _ (wp_region_lit (run S (.ad (by unfold I64; omega) rfl <| .mv rfl <| .z) fun a w S => st_nil (then_normal ?_))))))))))
          exact ⟨(k + 1, n, ab), ⟨by dsimp only; omega, by rw [e1, f1], by rw [e2, f2]⟩, by dsimp only; omega, S.wk⟩
        | true =>
          have f2 : abvF s told to ab n = n := by unfold abvF; rw [if_pos]; simp at rw_2; exact ⟨rw_o, rw_2.1, rw_2.2⟩
          refine sg S (.lt (by omega) rfl rfl <| .z) fun a w S => wp_seq_k fun _ hK2 => st_then S (.t rfl) (wp_skip (then_normal (hK2 _ _ (wp_seq_k fun _ hK2 => wp_block (sg S (.ix underlying30 sizeOf3 (by omega) rfl rfl <| .yy (ys_ldO ⟨isAgg3, sizeOf3⟩ (.t rfl) (fun _ => hc 0 _ rfl)) rfl <| .as rfl <| .z) fun a w S => wp_seq_k fun _ hK3 => wp_seq_k fun _ hK4 => wp_region_lit (run S (.mv rfl <| .yy (ys_nilc (.t rfl)) rfl <| .fa underlying59 sizeOf56 6 rfl rfl rfl <| .yy (ys_ldO ⟨isAgg56, sizeOf56⟩ (.t rfl) (fun _ => h6)) rfl <| .mv rfl <| .xx (ys_callVC (cs := [_]) (.t rfl) call11 (.cons (.t rfl) .nil) (fun hp w W => c11 _ _ _ _ _ (by exact Wd.cellOld W (by assumption)) (by exact Wd.cellOld W (by assumption)))) rfl <| .z) fun a w S => ?_))))))
          rw [rw_o] at S
          refine run S (.nt rfl <| .z) fun a w S => st_nil (then_normal (hK4 _ _ (st_else S (.t rfl) (wp_skip (then_normal (hK3 _ _ (wp_seq_k fun _ hK3 => wp_seq_k fun _ hK4 => wp_region_lit (run S (.mv rfl <| .yy (ys_lss (.t rfl) Ev.c) rfl <| .mv rfl <| .z) fun a w S => st_yf S rfl rfl (Yr.ys (ys_move (.t rfl))) rfl fun a w S => st_yf S rfl rfl (Yr.ys (ys_move (.t rfl))) rfl fun a w S => st_yf S rfl rfl (Yr.ys (ys_lss (Ev.g rfl) (Ev.g rfl))) rfl fun a w S => run S (.yy (ys_or (.t rfl) Ev.c (Ev.g rfl)) rfl <| .z) fun a w S => ?_))))))))
          rw [rw_1] at S
          refine st_nil (then_normal (hK4 _ _ (st_then S (.t rfl) (rg S (.mv rfl <| .as rfl <| .z) hK3 fun a w S => wp_seq_k fun _ hK3 => wp_region_lit (run S (.mv rfl <| .yy (ys_nilc (.t rfl)) rfl <| .fa underlying59 sizeOf4 2 rfl rfl rfl <| .yy (ys_ldO ⟨isAgg4, sizeOf4⟩ (.t rfl) (fun _ => h2)) rfl <| .mv rfl <| .z) fun a w S => st_yg S rfl rfl (Yr.ys (ys_move (.t rfl))) rfl fun a w S => st_yg S rfl rfl (Yr.ys (ys_move (.t rfl))) rfl fun a w S => st_yg S rfl rfl (Yr.ys (ys_nilc (Ev.g rfl))) rfl fun a w S => st_yg S rfl rfl (Yr.ys (ys_fieldN (FieldT.mk underlying59 rfl sizeOf3 rfl) (Ev.g rfl) (i' := 4) rfl)) rfl fun a w S => st_yg S rfl rfl (Yr.ys (ys_ldO ⟨isAgg3, sizeOf3⟩ (Ev.g rfl) (fun _ => h4))) rfl fun a w S => st_yg S rfl rfl (Yr.ys (ys_gtr (Ev.g rfl) (Ev.g rfl))) rfl fun a w S => run S (.yy (ys_and (.t rfl) (Ev.g rfl) Ev.c) rfl <| .mv rfl <| .z) fun a w S => st_yg S rfl rfl (Yr.ys (ys_move (.t rfl))) rfl fun a w S => st_yg S rfl rfl (Yr.ys (ys_lss (Ev.g rfl) Ev.c)) rfl fun a w S => st_yg S rfl rfl (Yr.ys (ys_move (Ev.g rfl))) rfl fun a w S => st_yf2 S rfl rfl (Yr.ys (ys_move (.t rfl))) rfl fun a w S => st_yf2 S rfl rfl (Yr.ys (ys_move (.t rfl))) rfl fun a w S => st_yf2 S rfl rfl (Yr.ys (ys_lss (Ev.g rfl) (Ev.g rfl))) rfl fun a w S => st_yg S rfl rfl (Yr.ys (ys_or2 (Ev.g rfl) Ev.c (Ev.g rfl))) rfl fun a w S => run S (.yy (ys_and (.t rfl) (Ev.g rfl) Ev.c) rfl <| .z) fun a w S => ?_)))))
          rw [rw_2] at S
          refine st_nil (then_normal (hK3 _ _ (st_then S (.t rfl) (wp_region_lit (run S (.mv rfl <| .as rfl <| .z) fun a w S => st_nil (in_normal (then_normal (hK2 _ _ (wp_region_lit (run S (.ad (by unfold I64; omega) rfl <| .mv rfl <| .z) fun a w S => st_nil (then_normal ?_)))))))))))
          exact ⟨(k + 1, n, n), ⟨by dsimp only; omega, by rw [e1, f1], by rw [e2, f2]⟩, by dsimp only; omega, S.wk⟩
  · have hend : k = l.length := by omega
    subst hend
    rw [List.take_length] at hlo hab
    have e3 : lowL s l = lo := hlo
    have e4 : abvL s told to l = ab := hab
    by_cases h0 : 0 ≤ ab
    · refine sg S (.ge (by omega) rfl rfl <| .z) fun a w S => wp_seq_k fun _ hK2 => st_else S (.t rfl) (wp_exit (then_exit (then_exit (in_here (then_normal (hK1 _ _ (wp_seq_k fun _ hK1 => sg S (.mv rfl <| .yy (ys_T (by omega) (ys_geq (.t rfl) Ev.c)) rfl <| .z) fun a w S => st_then S (.t rfl) (sg S (.mv rfl <| .as rfl <| .ac rfl <| .z) fun a w S => wp_ret (then_ret (st_ret S (results2 S results17 (Rv.tmp rfl) (Rv.tmp rfl)) ?_))))))))))
      unfold nextL
      rw [e3, e4, if_pos h0]
      exact ⟨rfl, S.wd.below⟩
    · refine sg S (.ge (by omega) rfl rfl <| .z) fun a w S => wp_seq_k fun _ hK2 => st_else S (.t rfl) (wp_exit (then_exit (then_exit (in_here (then_normal (hK1 _ _ (wp_seq_k fun _ hK1 => sg S (.mv rfl <| .yy (ys_F (by omega) (ys_geq (.t rfl) Ev.c)) rfl <| .z) fun a w S => st_else S (.t rfl) (wp_skip (then_normal (hK1 _ _ (sg S (.mv rfl <| .mv rfl <| .yy (ys_geq (.t rfl) Ev.c) rfl <| .as rfl <| .as rfl <| .z) fun a w S => wp_ret (st_ret S (results2 S results17 (Rv.tmp rfl) (Rv.tmp rfl)) ?_))))))))))))
      unfold nextL
      rw [e3, e4, if_neg h0]
      exact ⟨rfl, S.wd.below⟩
theorem c18 {w0 w : World} {L : List Chunk} {g gf cap : Nat} {A : Option Addr} {s last to : Int} {rl : List Rum} {told : Bool} (W : Wd w0 (boxK g gf s A cap rl told last to L) w) (hr : rl.length ≤ 8) :
    RetsO Try.prog 18 #[.pointer (some ⟨g, 0, none⟩)] w0 w fun v L' => ∃ B c, v = .slice B (rumL rl).length c ∧ L' = boxK g gf s A cap rl told last to (rowOf 39 3 Dot.enc B c (rumL rl) :: L) := by
  unfold Go.Fw.RetsO
  refine enterW1 W func18 rfl ntmps18 rfl fun a S => sg S (.ac rfl <| .z) fun a w S => wp_seq_k fun _ hK1 => sg S (.mv rfl <| .yy (ys_pNilS underlying23 (.t rfl) Ev.c) rfl <| .mv rfl <| .gy rfl rfl (ys_move (.t rfl)) <| .gy rfl rfl (ys_nilc (.t rfl)) <| .gy rfl rfl (ys_fieldN (FieldT.mk underlying59 rfl sizeOf4 rfl) (.t rfl) (i' := 5) rfl) <| .gy rfl rfl (ys_ld ⟨isAgg4, sizeOf4⟩ (.t rfl) (k := 0) rfl rfl) <| .gy rfl rfl (ys_not (.t rfl)) <| .yy (ys_pickF (.t rfl) (.t rfl)) rfl <| .z) fun a w S => st_else S (.t rfl) (wp_skip (then_normal (hK1 _ _ (sg S (.ac rfl <| .z) fun a w S => wp_seq_k fun _ hK1 => sg S (.mc rfl <| .z) fun a w S => wp_block ?_))))
  refine st_lpM (S.nil_ 39 3 Dot.enc none) [3, 16] (X := Nat × Option Addr × Nat) (fun q => [(16, true, .int .i64 (q.1 : Int)), (3, true, .slice q.2.1 (rumN rl q.1).length q.2.2)])
    (fun q => rowOf 39 3 Dot.enc q.2.1 q.2.2 (rumN rl q.1) :: boxK g gf s A cap rl told last to L) (fun q => q.1 ≤ 3) (fun q => 3 - q.1) (0, none, 0) (by decide) ?_
  clear S
  intro ⟨n, B, cB⟩ a w hn S
  dsimp only at hn S
  by_cases hlt : n < 3
  · have hln := rumN_len rl n
    have hln2 : (rumN rl n).length ≤ 24 := by
      have : n * rl.length ≤ 3 * 8 := Nat.mul_le_mul (by omega) hr
      omega
    refine sg S (.yy (ys_T (by omega) (ys_lss (.t rfl) Ev.c)) rfl <| .z) fun a w S => wp_seq_k fun _ hK2 => st_then S (.t rfl) (wp_skip (then_normal (hK2 _ _ (wp_seq_k fun _ hK2 => wp_block (sg S (.mv rfl <| .as rfl <| .z) fun a w S => sg S (.mv rfl <| .yy (ys_nilc (.t rfl)) rfl <| .fa underlying59 sizeOf57 1 rfl rfl rfl <| .ld gt57 1 rfl rfl rfl <| .ln underlying57 rfl <| .mc rfl <| .z) fun a w S => wp_block ?_)))))
    refine st_loopM S [3, 24] (X := Nat × Option Addr × Nat) (fun q => [(24, true, .int .i64 (q.1 : Int)), (3, true, .slice q.2.1 (rumN rl n ++ rumS n (rl.take q.1)).length q.2.2)])
      (fun q => rowOf 39 3 Dot.enc q.2.1 q.2.2 (rumN rl n ++ rumS n (rl.take q.1)) :: boxK g gf s A cap rl told last to L) (fun q => q.1 ≤ rl.length) (fun q => rl.length - q.1) (0, B, cB) (Nat.zero_le _)
      (by simp only [List.take_zero, show rumS n [] = [] from rfl, List.append_nil]; exact (by repeat (first | exact Fits.nil | refine Fits.skip rfl ?_ | refine Fits.cons rfl ?_))) (by simp only [List.take_zero, show rumS n [] = [] from rfl, List.append_nil]; exact (by repeat (first | exact Picks.nil | (refine Picks.rest ?_; (repeat (first | exact List.Sublist.refl _ | refine List.Sublist.cons_cons _ ?_ | refine List.Sublist.cons _ ?_)); done) | refine Picks.take 0 rfl ?_ | refine Picks.take 1 rfl ?_ | refine Picks.take 2 rfl ?_ | refine Picks.take 3 rfl ?_ | refine Picks.take 4 rfl ?_ | refine Picks.take 5 rfl ?_ | refine Picks.take 6 rfl ?_ | refine Picks.take 7 rfl ?_ | refine Picks.take 8 rfl ?_ | refine Picks.take 9 rfl ?_ | refine Picks.take 10 rfl ?_ | refine Picks.take 11 rfl ?_))) ?_
    clear S
    intro ⟨k, D, cD⟩ a w hk S
    dsimp only at hk S
    by_cases hlk : k < rl.length
    · obtain ⟨ga, rfl⟩ := S.wd.row_at (k := 3) rfl (by have := (S.wd.room (k := 3) rfl).1; omega)
      obtain ⟨x, hx⟩ : ∃ x, rl[k]? = some x := ⟨rl[k], by simp⟩
      have hst := rumS_take (n := n) hx
      have hsl := rumS_len (rl.take k) n
      rw [List.length_take] at hsl
      by_cases hsx : x.sent = (n : Int)
      · rw [if_pos hsx] at hst
        have rw_t : rumN rl n ++ rumS n (rl.take k) ++ [x.p] = rumN rl n ++ rumS n (rl.take (k + 1)) := by rw [hst, List.append_assoc]
        refine sg S (.lt (by omega) rfl rfl <| .z) fun a w S => wp_seq_k fun _ hK3 => st_then S (.t rfl) (wp_skip (then_normal (hK3 _ _ (wp_seq_k fun _ hK3 => wp_block (wp_seq_k fun _ hK4 => wp_region_lit (run S (.ix underlying57 sizeOf63 (by omega) rfl rfl <| .yy (ys_ldWA ⟨isAgg63, sizeOf63⟩ (.t rfl) (k := 3) rfl hx (fun _ => rfl)) rfl <| .z) fun a w S => st_m (op_alloc S zeroValue63 (cs := _) rfl rfl fun g1 a w S => st_m (op_stW S sizeOf63 (.t rfl) (.t rfl) (k := 0) rfl rfl rfl (by simp [Value.oneCell']) fun a w S => st_nil (then_normal (hK4 _ _ (sg S (.fa underlying63 sizeOf3 3 rfl rfl rfl <| .ld gt3 0 rfl rfl rfl <| .mv rfl <| .yy (ys_T (by omega) (ys_eql (.t rfl) (.t rfl))) rfl <| .z) fun a w S => st_then S (.t rfl) (wp_region_lit (run S (.mv rfl <| .fa underlying63 sizeOf39 0 rfl rfl rfl <| .la gt39 0 rfl rfl rfl <| .z) fun a w S => st_m (op_bslice1 S underlying29 inf39 rfl rfl rfl (.t rfl) rfl rfl rfl fun g2 a w S => st_m (op_push S underlying29 inf39 rfl (k := 2) (j := 0) rfl (.t rfl) (.t rfl) rfl rfl rfl rfl (by first | omega | (simp only [List.length_append, List.length_cons, List.length_nil]; omega)) rfl rfl rfl fun A1 cap1 a w S => ?_)))))))))))))))
        rw [rw_t] at S
        refine run S (.as rfl <| .z) fun a w S => st_nil (in_normal (then_normal (hK3 _ _ (wp_region_lit (run S (.ad (by unfold I64; omega) rfl <| .mv rfl <| .z) fun a w S => st_nil (then_normal ?_))))))
        exact ⟨(k + 1, A1, cap1), by dsimp only; omega, by dsimp only; omega, S.pk⟩
      · rw [if_neg hsx, List.append_nil] at hst
        refine sg S (.lt (by omega) rfl rfl <| .z) fun a w S => wp_seq_k fun _ hK3 => st_then S (.t rfl) (wp_skip (then_normal (hK3 _ _ (wp_seq_k fun _ hK3 => wp_block (wp_seq_k fun _ hK4 => wp_region_lit (run S (.ix underlying57 sizeOf63 (by omega) rfl rfl <| .yy (ys_ldWA ⟨isAgg63, sizeOf63⟩ (.t rfl) (k := 3) rfl hx (fun _ => rfl)) rfl <| .z) fun a w S => st_m (op_alloc S zeroValue63 (cs := _) rfl rfl fun g1 a w S => st_m (op_stW S sizeOf63 (.t rfl) (.t rfl) (k := 0) rfl rfl rfl (by simp [Value.oneCell']) fun a w S => st_nil (then_normal (hK4 _ _ (sg S (.fa underlying63 sizeOf3 3 rfl rfl rfl <| .ld gt3 0 rfl rfl rfl <| .mv rfl <| .yy (ys_F (by omega) (ys_eql (.t rfl) (.t rfl))) rfl <| .z) fun a w S => st_else S (.t rfl) (wp_skip (in_normal (then_normal (hK3 _ _ (wp_region_lit (run S (.ad (by unfold I64; omega) rfl <| .mv rfl <| .z) fun a w S => st_nil (then_normal ?_))))))))))))))))))
        rw [← hst] at S
        exact ⟨(k + 1, D, cD), by dsimp only; omega, by dsimp only; omega, S.pk⟩
    · have hend : k = rl.length := by omega
      subst hend
      rw [List.take_length, ← rumN_succ] at S
      refine sg S (.ge (by omega) rfl rfl <| .z) fun a w S => wp_seq_k fun _ hK3 => st_else S (.t rfl) (wp_exit (then_exit (then_exit (in_here (in_normal (then_normal (hK2 _ _ (wp_region_lit (run S (.ad (by unfold I64; omega) rfl <| .mv rfl <| .z) fun a w S => st_nil (then_normal ?_))))))))))
      exact ⟨(n + 1, D, cD), by dsimp only; omega, by dsimp only; omega, S.pk⟩
  · obtain rfl : n = 3 := by omega
    refine sg S (.yy (ys_F (by omega) (ys_lss (.t rfl) Ev.c)) rfl <| .z) fun a w S => wp_seq_k fun _ hK2 => st_else S (.t rfl) (wp_exit (then_exit (then_exit (in_here (then_normal (hK1 _ _ (sg S (.mv rfl <| .as rfl <| .z) fun a w S => wp_ret (st_ret S (results1 S results18 (Rv.tmp rfl)) ?_))))))))
    exact ⟨_, _, rfl, S.wd.pk, _, _, rfl, rfl⟩
end Go.Proofs.Ytlkkdhdhbakciaa
set_option linter.unusedVariables false
set_option linter.unusedSimpArgs false
set_option maxRecDepth 100000
set_option maxHeartbeats 4000000
namespace Go.Proofs.Ytlkkdhdhbakciaa
open Go.Fw Go.Proofs Go.RowKit Go.Proofs.Try
theorem c23 (w0 : World) (v1 : Value) (l : List Dot) (x y z : Int) (h : Sl Dot.enc 3 w0 w0.heap.size v1 l) :
    Calls Try.prog 23 #[v1, .agg #[.int .i64 x, .int .i64 y, .int .i64 z]] w0 fun e w' => e = .returned (.int .i64 (idxFrom ⟨x, y, z⟩ 0 l)) ∧ Bel w0.heap.size w0 w' := by
  obtain ⟨A, cap, rfl, hl, hcap, hA⟩ := h
  refine enter2 func23 rfl ntmps23 rfl fun a S => wp_seq_k fun _ hK1 => wp_region_lit (st_m (op_box S (.t rfl) rfl fun g1 a w S => run S (.ac rfl <| .z) fun a w S => st_nil (then_normal (hK1 _ _ (wp_seq_k fun _ hK1 => sg S (.mv rfl <| .ln underlying29 rfl <| .mc rfl <| .z) fun a w S => wp_block ?_)))))
  refine st_lpK S (X := Nat) (fun k => [(8, true, .int .i64 (k : Int))]) (fun _ L => L) (fun k => k ≤ l.length ∧ idxFrom ⟨x, y, z⟩ k (l.drop k) = idxFrom ⟨x, y, z⟩ 0 l) (fun k => l.length - k) 0 ⟨Nat.zero_le _, rfl⟩ ?_
  clear S
  intro k a w ⟨hk, hno⟩ S
  by_cases hlt : k < l.length
  · obtain ⟨g, o, m, rfl, hm, hd, hc⟩ := row_at hA hlt
    clear hA
    refine sg S (.lt (by omega) rfl rfl <| .z) fun a w S => wp_seq_k fun _ hK2 => st_then S (.t rfl) (wp_skip (then_normal (hK2 _ _ (wp_seq_k fun _ hK2 => wp_block (sg S (.mv rfl <| .as rfl <| .z) fun a w S => wp_seq_k fun _ hK3 => st_quiet S (by kernel_rfl) (by kernel_rfl) fun a S => qrun S (.la gt39 0 rfl rfl rfl <| .mv rfl <| .mv rfl <| .ix underlying29 sizeOf39 (by omega) rfl rfl <| .yy (ys_ldOA ⟨isAgg39, sizeOf39⟩ (.t rfl) (vs := [_, _, _]) rfl (fun _ => hc)) rfl <| .yy (ys_eqA (.t rfl) (.t rfl) eq39) rfl <| .z) fun a S => ?_)))))
    (refine q_nil ?_; intro w W; replace S := St.mk S W; clear W)
    refine then_normal (hK3 _ _ ?_)
    refine st_if S (.t rfl) (fun h1 => ?_) (fun h1 => ?_)
    refine sg S (.mv rfl <| .as rfl <| .z) fun a w S => wp_ret (in_ret (then_ret (then_ret (in_ret (then_ret (st_ret S (results1 S results23 (Rv.tmp rfl)) ?_))))))
    rotate_left
    refine wp_skip (in_normal (then_normal (hK2 _ _ (wp_region_lit (run S (.ad (by unfold I64; omega) rfl <| .mv rfl <| .z) fun a w S => st_nil (then_normal ?_))))))
    rotate_left
    · refine ⟨?_, S.wd.below⟩
      obtain ⟨rfl, rfl, rfl⟩ := h1
      rw [← hno, hd, idxFrom, if_pos rfl]
    · rw [hd, idxFrom, if_neg (fun e => h1 (by cases e; exact ⟨rfl, rfl, rfl⟩))] at hno
      exact ⟨k + 1, ⟨by omega, hno⟩, by omega, S.wk⟩
  · refine sg S (.ge (by omega) rfl rfl <| .z) fun a w S => wp_seq_k fun _ hK2 => st_else S (.t rfl) (wp_exit (then_exit (then_exit (in_here (then_normal (hK1 _ _ (sg S (.ac rfl <| .z) fun a w S => wp_ret (st_ret S (results1 S results23 (Rv.tmp rfl)) ?_))))))))
    refine ⟨?_, S.wd.below⟩
    rw [← hno, List.drop_eq_nil_of_le (by omega)]; rfl
theorem c19 (w0 : World) (v1 : Value) (l : List Dot) (x y z : Int) (h : Sl Dot.enc 3 w0 w0.heap.size v1 l) :
    Calls Try.prog 19 #[v1, .agg #[.int .i64 x, .int .i64 y, .int .i64 z]] w0 fun e w' => e = .returned (.bool (decide ((⟨x, y, z⟩ : Dot) ∈ l))) ∧ Bel w0.heap.size w0 w' := by
  refine enter2 func19 rfl ntmps19 rfl fun a S => wp_seq_k fun _ hK1 => wp_region_lit (st_m (op_box S (.t rfl) rfl fun g1 a w S => run S (.ac rfl <| .z) fun a w S => st_nil (then_normal (hK1 _ _ (sg S (.mv rfl <| .la gt39 0 rfl rfl rfl <| .xx (ys_call call23 (.cons (.t rfl) (.cons (.t rfl) .nil)) (fun hp w W => c23 _ _ _ _ _ _ (by exact .old W (by assumption)))) rfl <| .yy (ys_geq (.t rfl) Ev.c) rfl <| .as rfl <| .z) fun a w S => wp_ret (st_ret S (results1 S results19 (Rv.tmp rfl)) ?_))))))
  refine ⟨?_, S.wd.below⟩
  rw [idx_mem]
theorem c20 (w0 : World) : Calls Try.prog 20 #[.slice none 0 0] w0 fun e w' => e = .returned (.slice none 0 0) ∧ Bel w0.heap.size w0 w' := by
  refine enter1 func20 rfl ntmps20 rfl fun a S => sg S (.ac rfl <| .z) fun a w S => wp_seq_k fun _ hK1 => sg S (.mv rfl <| .yy (ys_sNil underlying31 (.t rfl) Ev.c) rfl <| .z) fun a w S => st_then S (.t rfl) (sg S (.ac rfl <| .z) fun a w S => wp_ret (then_ret (st_ret S (results1 S results20 (Rv.tmp rfl)) ?_)))
  exact ⟨rfl, S.wd.below⟩
def tickD (told : Bool) (last now : Int) : Bool := decide (now < 0) || (told && decide (IntKind.i64.wrap (now - last) < 100))
abbrev ring0 : Value := .agg #[.int .i64 0, .int .i64 0, .int .i64 0, .slice none 0 0]
abbrev msgK (gm : Nat) (s to : Int) (B : Option Addr) (n c : Nat) : Chunk := .blk gm (.cells #[.int .i64 5, .int .i64 s, .int .i64 to, .int .i64 0, .string ⟨#[]⟩, .slice none 0 0, .slice none 0 0, .slice none 0 0, .int .i64 0, .int .i64 0, .int .i64 0, .int .i64 0, .int .i64 0, .int .i64 0, .slice none 0 0, .slice B n c, .slice none 0 0] 54)
section tick
variable {w0 w : World} {L : List Chunk} {g gf cap : Nat} {A : Option Addr} {s last to now : Int} {rl : List Rum} {told : Bool} {v : Value} {l : List Int}
theorem _root_.List.set_getElem_self_of {α : Type} {l : List α} {k : Nat} {x : α} (h : l[k]? = some x) : l.set k x = l := by
  obtain ⟨h1, rfl⟩ := List.getElem?_eq_some_iff.1 h
  exact List.set_getElem_self h1
theorem bump_set {t : List Dot} {l : List Rum} {k : Nat} {x : Rum} (h : l[k]? = some x) : ((l.take k).map (bumpR t) ++ l.drop k).set k (bumpR t x) = (l.take (k + 1)).map (bumpR t) ++ l.drop (k + 1) := by
  have hk : k < l.length := (List.getElem?_eq_some_iff.1 h).1
  rw [List.take_add_one, h, List.set_append_right _ _ (by simp; omega)]
  obtain ⟨_, rfl⟩ := List.getElem?_eq_some_iff.1 h
  rw [List.length_map, List.length_take, Nat.min_eq_left (Nat.le_of_lt hk), Nat.sub_self, List.drop_eq_getElem_cons hk, List.set_cons_zero, List.map_append, List.append_assoc]
  rfl
theorem bump_at {t : List Dot} {l : List Rum} {k : Nat} {x : Rum} (h : l[k]? = some x) : ((l.take k).map (bumpR t) ++ l.drop k)[k]? = some x := by
  have hk : k < l.length := (List.getElem?_eq_some_iff.1 h).1
  rw [List.getElem?_append_right (by simp; omega)]
  simp [Nat.min_eq_left (Nat.le_of_lt hk), h]
theorem c9 (W : Wd w0 (boxK g gf s A cap rl told last to L) w) (hs : ∀ w', Wd w0 (boxK g gf s A cap rl told last to L) w' → Sl encI 1 w' w'.heap.size v l) (hd : tickD told last now = false) (hn : (nextL s told to l).2 = true) (hr : rl.length ≤ 8) (hb : ∀ x ∈ rl, 0 ≤ x.sent ∧ x.sent ≤ 1000) :
    RetsO Try.prog 9 #[.pointer (some ⟨g, 0, none⟩), .int .i64 now, ring0, v] w0 w fun u L' => ∃ gm B c, u = .slice (some ⟨gm, 0, none⟩) 1 1 ∧
      L' = boxK g gf s A cap (rl.map (bumpR (topR rl))) true now (nextL s told to l).1 (msgK gm s (nextL s told to l).1 B (topR rl).length c :: rowOf 39 3 Dot.enc B c (topR rl) :: L) := by
  have rw_d : (decide (now < 0) || (told && decide (IntKind.i64.wrap (now - last) < 100))) = false := hd
  have rw_n := hn
  unfold Go.Fw.RetsO
  refine enterW4 W func9 rfl ntmps9 rfl fun a S => wp_seq_k fun _ hK1 => wp_region_lit (st_m (op_box S (.t rfl) rfl fun g1 a w S => run S (.ac rfl <| .z) fun a w S => st_nil (then_normal (hK1 _ _ (wp_seq_k fun _ hK1 => wp_seq_k fun _ hK2 => wp_region_lit (run S (.mv rfl <| .yy (ys_pNilS underlying23 (.t rfl) Ev.c) rfl <| .mv rfl <| .gy rfl rfl (ys_move (.t rfl)) <| .gy rfl rfl (ys_nilc (.t rfl)) <| .gy rfl rfl (ys_fieldN (FieldT.mk underlying59 rfl sizeOf4 rfl) (.t rfl) (i' := 5) rfl) <| .gy rfl rfl (ys_ld ⟨isAgg4, sizeOf4⟩ (.t rfl) (k := 1) rfl rfl) <| .gy rfl rfl (ys_not (.t rfl)) <| .yy (ys_pickF (.t rfl) (.t rfl)) rfl <| .mv rfl <| .gy rfl rfl (ys_move (.t rfl)) <| .gy rfl rfl (ys_lss (.t rfl) Ev.c) <| .yy (ys_pickF (.t rfl) (.t rfl)) rfl <| .mv rfl <| .z) fun a w S => st_yf S rfl rfl (Yr.ys (ys_move (.t rfl))) rfl fun a w S => st_yf S rfl rfl (Yr.ys (ys_nilc (Ev.g rfl))) rfl fun a w S => st_yf S rfl rfl (Yr.ys (ys_fieldN (FieldT.mk underlying59 rfl sizeOf4 rfl) (Ev.g rfl) (i' := 2) rfl)) rfl fun a w S => st_yf S rfl rfl (Yr.ys (ys_ld ⟨isAgg4, sizeOf4⟩ (Ev.g rfl) (k := 1) rfl rfl)) rfl fun a w S => st_yf S rfl rfl (Yr.ys (ys_move (Ev.g rfl))) rfl fun a w S => st_yg2 S rfl rfl (Yr.ys (ys_move (.t rfl))) rfl fun a w S => st_yg2 S rfl rfl (Yr.ys (ys_move (.t rfl))) rfl fun a w S => st_yg2 S rfl rfl (Yr.ys (ys_nilc (Ev.g rfl))) rfl fun a w S => ?_))))))
  refine st_yg2 S rfl rfl (Yr.ys (ys_fieldN (FieldT.mk underlying59 rfl sizeOf3 rfl) (Ev.g rfl) (i' := 3) rfl)) rfl fun a w S => st_yg2 S rfl rfl (Yr.ys (ys_ld ⟨isAgg3, sizeOf3⟩ (Ev.g rfl) (k := 1) rfl rfl)) rfl fun a w S => st_yg2 S rfl rfl (Yr.ys (ys_sub (Ev.g rfl) (Ev.g rfl))) rfl fun a w S => st_yg2 S rfl rfl (Yr.ys (ys_lss (Ev.g rfl) Ev.c)) rfl fun a w S => st_yf S rfl rfl (Yr.ys (ys_and2 (Ev.g rfl) (Ev.g rfl) Ev.c)) rfl fun a w S => run S (.yy (ys_or (.t rfl) Ev.c (Ev.g rfl)) rfl <| .z) fun a w S => ?_
  rw [rw_d] at S
  refine st_nil (then_normal (hK2 _ _ (st_else S (.t rfl) (wp_skip (then_normal (hK1 _ _ (wp_seq_k fun _ hK1 => wp_region_lit (run S (.mv rfl <| .mv rfl <| .z) fun a w S => ?_))))))))
  refine st_y S (ys_call call17 (.cons (.t rfl) (.cons (.t rfl) .nil)) (fun hp w W => c17 w g gf s to told v l (Wd.cell W (k := 1) rfl rfl) (Wd.cell W (k := 1) rfl rfl) (Wd.cell W (k := 1) rfl rfl) (Wd.cell W (k := 1) rfl rfl) (Wd.cell W (k := 2) rfl rfl) (hs w (W.pk)))) rfl ?_
  clear S a w
  intro a w S
  rw [rw_n] at S
  have rw_m : min ((rumL rl).length : Int) 4 = ((topR rl).length : Int) := by unfold topR; rw [List.length_take]; omega
  have htl : (topR rl).length ≤ (rumL rl).length := by unfold topR; rw [List.length_take]; omega
  refine run S (.mv rfl <| .ex rfl rfl <| .ex rfl rfl <| .as rfl <| .as rfl <| .z) fun a w S => st_nil (then_normal (hK1 _ _ (wp_seq_k fun _ hK1 => sg S (.mv rfl <| .nt rfl <| .z) fun a w S => st_else S (.t rfl) (wp_skip (then_normal (hK1 _ _ (wp_seq_k fun _ hK1 => wp_region_lit (run S (.mv rfl <| .mv rfl <| .mv rfl <| .mv rfl <| .mv rfl <| .yy (ys_nilc (.t rfl)) rfl <| .fa underlying59 sizeOf4 2 rfl rfl rfl <| .z) fun a w S => st_m (op_st S sizeOf4 (.t rfl) Ev.c (k := 1) rfl rfl (by simp) fun a w S => run S (.yy (ys_nilc (.t rfl)) rfl <| .fa underlying59 sizeOf3 3 rfl rfl rfl <| .z) fun a w S => st_m (op_st S sizeOf3 (.t rfl) (.t rfl) (k := 1) rfl rfl (by simp) fun a w S => run S (.yy (ys_nilc (.t rfl)) rfl <| .fa underlying59 sizeOf3 4 rfl rfl rfl <| .z) fun a w S => st_m (op_st S sizeOf3 (.t rfl) (.t rfl) (k := 1) rfl rfl (by simp) fun a w S => st_nil (then_normal (hK1 _ _ (wp_seq_k fun _ hK1 => wp_region_lit (run S (.mv rfl <| .z) fun a w S => ?_)))))))))))))))
  (replace S := S.pull 3 rfl; try simp only [List.set_cons_zero, List.set_cons_succ, List.eraseIdx_cons_succ, List.eraseIdx_cons_zero] at S; replace S := S.pull 3 rfl; try simp only [List.set_cons_zero, List.set_cons_succ, List.eraseIdx_cons_succ, List.eraseIdx_cons_zero] at S; replace S := S.pull 3 rfl; try simp only [List.set_cons_zero, List.set_cons_succ, List.eraseIdx_cons_succ, List.eraseIdx_cons_zero] at S; refine st_m (op_callO S call18 (.cons (.t rfl) .nil) (c18 S.wd (by first | assumption | omega | (dsimp only; omega) | exact Sl.nil_ | exact .old S.wd (by assumption) | exact Sl.of_own S.wd (k := 0) rfl (fun _ => rfl) | exact Sl.of_own S.wd (k := 1) rfl (fun _ => rfl) | exact Sl.of_own S.wd (k := 2) rfl (fun _ => rfl) | exact Sl.of_own S.wd (k := 3) rfl (fun _ => rfl) | (simp at *; omega))) rfl ?_) <;> clear S a w)
  rintro _ _ ⟨B1, c1, rfl, rfl⟩ a w S
  refine run S (.as rfl <| .z) fun a w S => st_nil (then_normal (hK1 _ _ (wp_seq_k fun _ hK1 => wp_region_lit (run S (.mv rfl <| .mv rfl <| .ln underlying29 rfl <| .yy (ys_min (.t rfl) Ev.c) rfl <| .z) fun a w S => ?_))))
  rw [rw_m] at S
  have hcap := (S.wd.room (k := 3) rfl).1
  replace S := S.cut (k := 3) (enc := Dot.enc) (l := rumL rl) (fun _ => rfl) rfl 4
  refine run S (.yy (ys_slHi underlying29 sizeOf39 (.t rfl) (.t rfl) (fun _ => by first | omega | (simp; done) | (simp; omega))) rfl <| .as rfl <| .z) fun a w S => st_nil (then_normal (hK1 _ _ (wp_seq_k fun _ hK1 => sg S (.mv rfl <| .yy (ys_nilc (.t rfl)) rfl <| .fa underlying59 sizeOf57 1 rfl rfl rfl <| .ld gt57 0 rfl rfl rfl <| .ln underlying57 rfl <| .mc rfl <| .z) fun a w S => wp_block ?_)))
  refine st_lpM S [72] (X := Nat) (fun k => [(72, true, .int .i64 (k : Int))])
    (fun k => .blk g (.cells #[.int .i64 s, .slice A rl.length cap, .bool true, .int .i64 now, .int .i64 (nextL s told to l).1, .bool true, .func (.func 11) #[] #[.pointer (some ⟨gf, 0, none⟩)]] 59) ::
      .blk gf (.cells #[.pointer (some ⟨g, 0, none⟩)] 23) :: rowOf 63 4 Rum.enc A cap ((rl.take k).map (bumpR (topR rl)) ++ rl.drop k) :: rowOf 39 3 Dot.enc B1 c1 (topR rl) :: .blk g1 (.cells #[.int .i64 0, .int .i64 0, .int .i64 0, .slice none 0 0] 33) :: L)
    (fun k => k ≤ rl.length) (fun k => rl.length - k) 0 (Nat.zero_le _) ?_
  clear S
  intro k a w hk S
  by_cases hlt : k < rl.length
  · obtain ⟨ga, rfl⟩ := S.wd.row_at (k := 2) rfl (by have := (S.wd.room (k := 2) rfl).1; simp at this; omega)
    obtain ⟨x, hx⟩ : ∃ x, rl[k]? = some x := ⟨rl[k], by simp⟩
    have hxx := bump_at (t := topR rl) hx
    have hsent := hb x (List.mem_of_getElem? hx)
    have hbs := bump_set (t := topR rl) hx
    by_cases hin : x.p ∈ topR rl
    · have rw_i : decide ((⟨x.p.node, x.p.life, x.p.count⟩ : Dot) ∈ topR rl) = true := decide_eq_true hin
      have hbx : bumpR (topR rl) x = ⟨x.p, x.sent + 1⟩ := by unfold bumpR; rw [if_pos hin]
      refine sg S (.lt (by omega) rfl rfl <| .z) fun a w S => wp_seq_k fun _ hK2 => st_then S (.t rfl) (wp_skip (then_normal (hK2 _ _ (wp_seq_k fun _ hK2 => wp_block (sg S (.mv rfl <| .as rfl <| .z) fun a w S => wp_seq_k fun _ hK3 => wp_region_lit (run S (.mv rfl <| .mv rfl <| .yy (ys_nilc (.t rfl)) rfl <| .fa underlying59 sizeOf57 1 rfl rfl rfl <| .ld gt57 0 rfl rfl rfl <| .mv rfl <| .ix underlying57 sizeOf63 (by omega) rfl rfl <| .yy (ys_field (FieldT.mk underlying63 rfl sizeOf39 rfl) (.t rfl)) rfl <| .yy (ys_ldWS ⟨isAgg39, sizeOf39⟩ (.t rfl) (vs := [_, _, _]) (k := 2) rfl hxx (fun _ => rfl) rfl) rfl <| .xx (ys_call call19 (.cons (.t rfl) (.cons (.t rfl) .nil)) (fun hp w W => c19 _ _ _ _ _ _ (by exact Sl.of_own W (k := 3) rfl (fun _ => rfl)))) rfl <| .z) fun a w S => ?_))))))
      rw [rw_i] at S
      refine st_nil (then_normal (hK3 _ _ (st_then S (.t rfl) (wp_region_lit (run S (.mv rfl <| .yy (ys_nilc (.t rfl)) rfl <| .fa underlying59 sizeOf57 1 rfl rfl rfl <| .ld gt57 0 rfl rfl rfl <| .mv rfl <| .ix underlying57 sizeOf63 (by omega) rfl rfl <| .yy (ys_field (FieldT.mk underlying63 rfl sizeOf3 rfl) (.t rfl)) rfl <| .yy (ys_ldW ⟨isAgg3, sizeOf3⟩ (.t rfl) (k := 2) rfl hxx (fun _ => rfl) rfl) rfl <| .ad (by unfold I64; omega) rfl <| .ix underlying57 sizeOf63 (by omega) rfl rfl <| .yy (ys_field (FieldT.mk underlying63 rfl sizeOf3 rfl) (.t rfl)) rfl <| .z) fun a w S => st_m (op_stFld (enc := Rum.enc) (size := 4) (i := k) (j := 3) (⟨x.p, x.sent + 1⟩ : Rum) S (fun _ => rfl) sizeOf3 (.t rfl) (.t rfl) rfl (k := 2) rfl hxx (by omega) rfl rfl ?_))))))
      clear S
      intro a w S
      rw [← hbx, hbs] at S
      refine st_nil (in_normal (then_normal (hK2 _ _ (wp_region_lit (run S (.ad (by unfold I64; omega) rfl <| .mv rfl <| .z) fun a w S => st_nil (then_normal ?_))))))
      exact ⟨k + 1, by omega, by omega, S.pk⟩
    · have rw_i : decide ((⟨x.p.node, x.p.life, x.p.count⟩ : Dot) ∈ topR rl) = false := decide_eq_false hin
      have hbx : bumpR (topR rl) x = x := by unfold bumpR; rw [if_neg hin]
      have hsame : (rl.take k).map (bumpR (topR rl)) ++ rl.drop k = (rl.take (k + 1)).map (bumpR (topR rl)) ++ rl.drop (k + 1) := by
        rw [← hbs, hbx]
        refine (List.set_getElem_self_of hxx).symm
      refine sg S (.lt (by omega) rfl rfl <| .z) fun a w S => wp_seq_k fun _ hK2 => st_then S (.t rfl) (wp_skip (then_normal (hK2 _ _ (wp_seq_k fun _ hK2 => wp_block (sg S (.mv rfl <| .as rfl <| .z) fun a w S => wp_seq_k fun _ hK3 => wp_region_lit (run S (.mv rfl <| .mv rfl <| .yy (ys_nilc (.t rfl)) rfl <| .fa underlying59 sizeOf57 1 rfl rfl rfl <| .ld gt57 0 rfl rfl rfl <| .mv rfl <| .ix underlying57 sizeOf63 (by omega) rfl rfl <| .yy (ys_field (FieldT.mk underlying63 rfl sizeOf39 rfl) (.t rfl)) rfl <| .yy (ys_ldWS ⟨isAgg39, sizeOf39⟩ (.t rfl) (vs := [_, _, _]) (k := 2) rfl hxx (fun _ => rfl) rfl) rfl <| .xx (ys_call call19 (.cons (.t rfl) (.cons (.t rfl) .nil)) (fun hp w W => c19 _ _ _ _ _ _ (by exact Sl.of_own W (k := 3) rfl (fun _ => rfl)))) rfl <| .z) fun a w S => ?_))))))
      rw [rw_i] at S
      refine st_nil (then_normal (hK3 _ _ (st_else S (.t rfl) (wp_skip (in_normal (then_normal (hK2 _ _ (wp_region_lit (run S (.ad (by unfold I64; omega) rfl <| .mv rfl <| .z) fun a w S => st_nil (then_normal ?_))))))))))
      rw [hsame] at S
      exact ⟨k + 1, by omega, by omega, S.pk⟩
  · have hend : k = rl.length := by omega
    subst hend
    rw [List.take_length, List.drop_length, List.append_nil] at S
    refine sg S (.ge (by omega) rfl rfl <| .z) fun a w S => wp_seq_k fun _ hK2 => st_else S (.t rfl) (wp_exit (then_exit (then_exit (in_here (then_normal (hK1 _ _ (wp_seq_k fun _ hK1 => wp_region_lit (run S (.fa underlying33 sizeOf31 3 rfl rfl rfl <| .ld gt31 4 rfl rfl rfl <| .xx (ys_call call20 (.cons (.t rfl) .nil) (fun hp w W => c20 _)) rfl <| .fa underlying33 sizeOf31 3 rfl rfl rfl <| .z) fun a w S => st_m (op_st S sizeOf31 (.t rfl) (.t rfl) (k := 4) rfl rfl (by simp) fun a w S => st_nil (then_normal (hK1 _ _ (wp_seq_k fun _ hK1 => h_begin0 S (by kernel_rfl) fun a w S => hy 0 S rfl (ys_move (.t rfl)) rfl fun a w S => hy 1 S rfl (ys_nilc (.t rfl)) rfl fun a w S => hy 2 S rfl (ys_fieldN (FieldT.mk underlying59 rfl sizeOf3 rfl) (.t rfl) (i' := 0) rfl) rfl fun a w S => ?_))))))))))))
    refine hy 3 S rfl (ys_ld ⟨isAgg3, sizeOf3⟩ (.t rfl) (k := 0) rfl rfl) rfl fun a w S => hy 4 S rfl (ys_move (.t rfl)) rfl fun a w S => hy 5 S rfl (ys_ldA ⟨isAgg33, sizeOf33⟩ (.t rfl) (k := 4) rfl rfl) rfl fun a w S => hy 6 S rfl (ys_move (.t rfl)) rfl fun a w S => ?_
    refine hy 7 S rfl (ys_bld (ps := [(0, _), (1, Go.Operand.tmp 104), (2, Go.Operand.tmp 105), (9, Go.Operand.tmp 106), (10, Go.Operand.tmp 107)]) (us := [_, _, _, _, _, _, _, _, _, _, _, _, _, _, _, _, _]) bld54 (.cons Ev.c (.cons (.t rfl) (.cons (.t rfl) (.cons (.t rfl) (.cons (.t rfl) .nil))))) rfl) rfl fun a w S => ?_
    (refine h_m (i := 8) rfl (by kernel_rfl) (op_bslice1 S underlying43 inf54 rfl rfl rfl (.t rfl) rfl rfl rfl ?_); clear S a w; intro g2 a w S; refine h_n2 S ?_)
    refine hy 9 S rfl (ys_assign (.t rfl)) rfl fun a w S => h_done (by kernel_rfl) (then_normal (hK1 _ _ (wp_ret (st_ret S (results1 S results9 (Rv.tmp rfl)) ?_))))
    have e : rl.length = (rl.map (bumpR (topR rl))).length := by simp
    rw [e] at S
    exact ⟨_, _, rfl, S.wd.pk, _, _, _, rfl, rfl⟩
end tick
end Go.Proofs.Ytlkkdhdhbakciaa
set_option linter.unusedVariables false
set_option linter.unusedSimpArgs false
set_option maxRecDepth 100000
set_option maxHeartbeats 4000000
namespace Go.Proofs.Ytlkkdhdhbakciaa
open Go.Fw Go.Proofs Go.RowKit Go.Proofs.Try
theorem c6 (w0 : World) (v1 : Value) (l : List Dot) (h : Sl Dot.enc 3 w0 w0.heap.size v1 l) (hn : l.length ≤ 4194304) :
    Rets Try.prog 6 #[v1] w0 fun v L => ∃ A c, v = .slice A l.length c ∧ L = [rowOf 39 3 Dot.enc A c l] := by
  have h0 := h
  obtain ⟨A, cap, rfl, hl, hcap, hA⟩ := h
  unfold Go.Fw.Rets
  refine enter1 func6 rfl ntmps6 rfl fun a S => sg S (.ac rfl <| .z) fun a w S => wp_seq_k fun _ hK1 => sg S (.mv rfl <| .yy (ys_sNil underlying29 (.t rfl) Ev.c) rfl <| .z) fun a w S => ?_
  refine st_cond S (.t rfl) (fun h1 => ?_) (fun h1 => ?_)
  refine sg S (.ac rfl <| .z) fun a w S => wp_ret (then_ret (st_ret S (results1 S results6 (Rv.tmp rfl)) ?_))
  rotate_left
  refine wp_skip (then_normal (hK1 _ _ (wp_seq_k fun _ hK1 => wp_region_lit (st_m (op_bslice0 S underlying29 sizeOf39 rfl fun g1 a w S => run S (.mv rfl <| .z) fun a w S => st_m (op_extend _ (S.nil_ 39 _ Go.Fw.Dot.enc _) underlying29 underlying29 (.inr ⟨_, rfl⟩) inf39 rfl (k := 0) rfl (.t rfl) (.t rfl) (Src.sl (Sl.old S.wd h0) (by decide) Go.Fw.Dot.enc_len Go.Fw.Dot.enc_one) (by first | omega | (simp only [List.length_append, List.length_cons, List.length_nil]; omega) | (simp; omega)) rfl rfl rfl fun A1 cap1 a w S => ?_))))))
  simp only [List.nil_append] at S
  refine run S (.as rfl <| .z) fun a w S => st_nil (then_normal (hK1 _ _ (wp_ret (st_ret S (results1 S results6 (Rv.tmp rfl)) ?_))))
  rotate_left
  · have hnil : l = [] := by
      refine List.eq_nil_of_length_eq_zero (Decidable.byContradiction fun hne => ?_)
      obtain ⟨g, o, rfl, _⟩ := hA (by omega)
      cases h1
    subst hnil
    exact ⟨_, _, rfl, (S.nil_ 39 3 Dot.enc none).wd.sub (by repeat (first | exact List.Sublist.refl _ | exact List.nil_sublist _ | refine .cons_cons _ ?_ | refine .cons _ ?_)), none, 0, rfl, rfl⟩
  · try simp only [List.nil_append] at S ⊢
    exact ⟨_, _, rfl, S.wd.sub (by repeat (first | exact List.Sublist.refl _ | exact List.nil_sublist _ | refine .cons_cons _ ?_ | refine .cons _ ?_)), _, _, rfl, rfl⟩
section nobody
variable {w0 w : World} {L : List Chunk} {g gf cap : Nat} {A : Option Addr} {s last to now : Int} {rl : List Rum} {told : Bool} {v r : Value} {l : List Int}
end nobody
end Go.Proofs.Ytlkkdhdhbakciaa
set_option linter.unusedVariables false
set_option linter.unusedSimpArgs false
set_option maxRecDepth 100000
namespace Go.Proofs.Ytlkkdhdhbakciaa
open Go.Fw Go.Proofs Go.RowKit Go.Proofs.Try
set_option maxHeartbeats 1000000 in
theorem k14 {α : Type} {enc : α → List Value} (he : ∀ x, (enc x).length = 4) (h1 : ∀ x, ∀ u ∈ enc x, u.oneCell' = true) {w0 w : World} {L : List Chunk} {A : Option Addr} {cap gv : Nat} {l : List α} {x : α} {vs : List Value} {E' : TypeId}
    (W : Wd w0 (rowOf 63 4 enc A cap l :: .blk gv (.cells vs.toArray E') :: L) w) (hvs : vs = enc x) (i : Nat) (hi : i ≤ l.length) (hn : l.length ≤ 4194304) :
    RetsO Try.prog 14 #[.slice A l.length cap, .int .i64 (i : Int), .slice (some ⟨gv, 0, none⟩) 1 1] w0 w fun v L' => ∃ A' c', v = .slice A' (l.length + 1) c' ∧ L' = rowOf 63 4 enc A' c' (l.take i ++ x :: l.drop i) :: L := by
  obtain ⟨hlc, hcm⟩ := W.room (k := 0) rfl
  have hf1 : ∀ u ∈ l.flatMap enc, u.oneCell' = true := fun u hu => by
    obtain ⟨y, _, hy⟩ := List.mem_flatMap.1 hu
    exact h1 y u hy
  have hd1 : ∀ u ∈ (l.drop i).flatMap enc, u.oneCell' = true := fun u hu => by
    obtain ⟨y, _, hy⟩ := List.mem_flatMap.1 hu
    exact h1 y u hy
  have hx := he x
  have hfl := flat_len he l
  have hdl := flat_len he (l.drop i)
  have hdi : (l.drop i).length = l.length - i := List.length_drop
  have rw_1 : ((1 : Nat) : Int) = 1 := rfl
  unfold RetsO
  refine enterW3 W func14 rfl ntmps14 rfl fun a S => ?_
  by_cases hil : i = l.length
  · refine sg S (.ac rfl <| .z) fun a w S => sg S (.mv rfl <| .mv rfl <| .yy (ys_slLo underlying57 sizeOf63 (.t rfl) (.t rfl) (fun _ => by first | omega | (simp; done) | (simp; omega))) rfl <| .z) fun a w S => wp_seq_k fun _ hK1 => wp_region_lit (run S (.mv rfl <| .ln underlying57 rfl <| .z) fun a w S => ?_)
    rw [rw_1] at S
    refine run S (.as rfl <| .z) fun a w S => st_nil (then_normal (hK1 _ _ (wp_seq_k fun _ hK1 => sg S (.mv rfl <| .yy (ys_F (by omega) (ys_eql (.t rfl) Ev.c)) rfl <| .z) fun a w S => st_else S (.t rfl) (wp_skip (then_normal (hK1 _ _ (sg S (.mv rfl <| .ln underlying57 rfl <| .as rfl <| .z) fun a w S => wp_seq_k fun _ hK1 => sg S (.mv rfl <| .mv rfl <| .yy (ys_T (by omega) (ys_eql (.t rfl) (.t rfl))) rfl <| .z) fun a w S => st_then S (.t rfl) (wp_seq_k fun _ hK2 => wp_region_lit (run S (.mv rfl <| .mv rfl <| .z) fun a w S => ?_)))))))))
    refine st_m (op_extend [x] S underlying57 underlying57 (.inr ⟨_, rfl⟩) inf63 rfl (k := 0) rfl (.t rfl) (.t rfl) (by
      have h := Src.blk (P := Try.prog) (size := 4) (m := 1) (c := 1) S.wd (k := 1) rfl (by rw [hvs, he]) (by rw [hvs]; exact h1 x)
      simpa [hvs] using h) (by simp; omega) rfl rfl rfl ?_)
    clear S
    intro A1 cap1 a w S
    refine run S (.as rfl <| .z) fun a w S => st_nil (then_normal (hK2 _ _ (wp_ret (then_ret (st_ret S (results1 S results14 (Rv.tmp rfl)) ?_)))))
    refine ⟨_, rowOf 63 4 enc A1 cap1 (l ++ [x]) :: L, rfl, S.wd.sub (by repeat (first | exact List.Sublist.refl _ | exact List.nil_sublist _ | refine .cons_cons _ ?_ | refine .cons _ ?_)), A1, cap1, by simp, ?_⟩
    rw [hil, List.take_length, List.drop_length]
  by_cases hroom : l.length + 1 ≤ cap
  · have rw_2 : (l.length : Int) + 1 = ((l.length + 1 : Nat) : Int) := by omega
    have rw_3 : (i : Int) + 1 = ((i + 1 : Nat) : Int) := by omega
    obtain ⟨g, cs, rfl, hcs, _, hcm', htk, W2⟩ := S.wd.open_row (k := 0) rfl (by omega)
    replace S := St.mk S.kn W2
    clear W W2
    have hlen : cs.length = cap * 4 := hcs
    refine sg S (.ac rfl <| .z) fun a w S => sg S (.mv rfl <| .mv rfl <| .yy (ys_slLoB underlying57 sizeOf63 (.t rfl) (.t rfl) (fun _ => by omega)) rfl <| .z) fun a w S => wp_seq_k fun _ hK1 => wp_region_lit (run S (.mv rfl <| .ln underlying57 rfl <| .z) fun a w S => ?_)
    rw [rw_1] at S
    refine run S (.as rfl <| .z) fun a w S => st_nil (then_normal (hK1 _ _ (wp_seq_k fun _ hK1 => sg S (.mv rfl <| .yy (ys_F (by omega) (ys_eql (.t rfl) Ev.c)) rfl <| .z) fun a w S => st_else S (.t rfl) (wp_skip (then_normal (hK1 _ _ (sg S (.mv rfl <| .ln underlying57 rfl <| .as rfl <| .z) fun a w S => wp_seq_k fun _ hK1 => sg S (.mv rfl <| .mv rfl <| .yy (ys_F (by omega) (ys_eql (.t rfl) (.t rfl))) rfl <| .z) fun a w S => st_else S (.t rfl) (wp_skip (then_normal (hK1 _ _ (wp_seq_k fun _ hK1 => wp_seq_k fun _ hK2 => wp_region_lit (run S (.mv rfl <| .mv rfl <| .yy (ys_addI (.t rfl) (.t rfl) (fun _ => by unfold I64; omega)) rfl <| .z) fun a w S => ?_))))))))))))
    rw [rw_2] at S
    refine run S (.mv rfl <| .yy (ys_cap underlying57 (.t rfl)) rfl <| .yy (ys_F (by omega) (ys_gtr (.t rfl) (.t rfl))) rfl <| .z) fun a w S => st_nil (then_normal (hK2 _ _ (st_else S (.t rfl) (wp_skip (then_normal (hK1 _ _ (wp_seq_k fun _ hK1 => wp_region_lit (run S (.mv rfl <| .mv rfl <| .mv rfl <| .yy (ys_addI (.t rfl) (.t rfl) (fun _ => by unfold I64; omega)) rfl <| .z) fun a w S => ?_))))))))
    rw [rw_2] at S
    refine run S (.yy (ys_slHi underlying57 sizeOf63 (.t rfl) (.t rfl) (fun _ => by first | omega | (simp; done) | (simp; omega))) rfl <| .as rfl <| .z) fun a w S => st_nil (then_normal (hK1 _ _ (wp_seq_k fun _ hK1 => wp_seq_k fun _ hK2 => wp_region_lit (run S (.mv rfl <| .mv rfl <| .mv rfl <| .mv rfl <| .yy (ys_addI (.t rfl) (.t rfl) (fun _ => by unfold I64; omega)) rfl <| .z) fun a w S => ?_))))
    rw [rw_3] at S
    refine run S (.yy (ys_slLoB underlying57 sizeOf63 (.t rfl) (.t rfl) (fun _ => by omega)) rfl <| .z) fun a w S => st_y S (Yr.ys (ys_overlaps (tS := 57) (tR := 4) (ka := 1) (kb := 0) func21 (by kernel_rfl) (by kernel_rfl) (by kernel_rfl) (by kernel_rfl) underlying57 sizeOf63 (.t rfl) (.t rfl) rfl rfl (by decide) (fun h => by rw [h] at hlen; simp at hlen; omega))) rfl ?_
    clear S
    intro a w S
    refine run S (.nt rfl <| .z) fun a w S => st_nil (then_normal (hK2 _ _ (st_then S (.t rfl) (wp_seq_k fun _ hK2 => h_begin S (by kernel_rfl) [] fun a w S => hy 0 S rfl (ys_move (.t rfl)) rfl fun a w S => hy 1 S rfl (ys_move (.t rfl)) rfl fun a w S => hy 2 S rfl (ys_move (.t rfl)) rfl fun a w S => hy 3 S rfl (ys_addI (.t rfl) (.t rfl) (fun _ => by unfold I64; omega)) rfl fun a w S => ?_))))
    rw [rw_3] at S
    refine hy 4 S rfl (ys_slLoB underlying57 sizeOf63 (.t rfl) (.t rfl) (fun _ => by omega)) rfl fun a w S => hy 5 S rfl (ys_move (.t rfl)) rfl fun a w S => hy 6 S rfl (ys_move (.t rfl)) rfl fun a w S => hy 7 S rfl (ys_slLoB underlying57 sizeOf63 (.t rfl) (.t rfl) (fun _ => by omega)) rfl fun a w S => ?_
    have hnew : (cs.drop (0 + i * 4)).take ((l.length - i) * 4) = (l.drop i).flatMap enc := by
      rw [← flat_drop he, ← htk, Nat.zero_add, List.drop_take, ← Nat.sub_mul]
    refine h_m (i := 8) rfl (by kernel_rfl) (op_copyG (m := l.length - i) (q := l.length + 1 - i) S underlying57 sizeOf63 (.t rfl) (.t rfl) (k := 0) rfl (fun W => rfl) (by omega) (first_blk S.wd (k := 0) rfl (by omega)) (by rw [hnew]; omega) (by rw [hnew]; exact hd1) rfl ?_)
    clear S
    intro a w S
    refine h_n1 S ?_
    rw [hnew] at S
    refine h_done (by kernel_rfl) (then_normal (hK2 _ _ (wp_seq_k fun _ hK2 => wp_region_lit (run S (.mv rfl <| .mv rfl <| .yy (ys_slLoB underlying57 sizeOf63 (.t rfl) (.t rfl) (fun _ => by omega)) rfl <| .mv rfl <| .z) fun a w S => st_m (op_copyG (m := 1) (q := 1) S underlying57 sizeOf63 (.t rfl) (.t rfl) (k := 0) rfl (fun W => rfl) (by omega) (first_blk S.wd (k := 1) rfl (by rw [hvs]; omega)) (by rw [lay_len, hvs]; simp; omega) (by rw [hvs]; exact fun u hu => h1 x u (by simpa using List.mem_of_mem_take hu)) rfl ?_)))))
    clear S
    intro a w S
    have hv3 : (vs.drop 0).take (1 * 4) = enc x := by rw [List.drop_zero, hvs, List.take_of_length_le (by omega)]
    rw [hv3] at S
    refine st_nil ?_
    rw [rw_1] at S
    refine then_normal (hK2 _ _ (sg S (.mv rfl <| .as rfl <| .z) fun a w S => wp_ret (then_ret (st_ret S (results1 S results14 (Rv.tmp rfl)) ?_))))
    have hfin := (ins_cells (cs := cs) (a := (l.take i).flatMap enc) (x := enc x) (d := (l.drop i).flatMap enc) (o := 0 + i * 4) (by rw [Nat.zero_add, ← flat_take he, ← htk, List.take_take, Nat.min_eq_left (Nat.mul_le_mul_right _ hi)]) (by omega) (by omega)).2
    have W3 := S.wd.close_row (k := 0) rfl (size := 4) (l.length + 1) cap ((l.take i ++ x :: l.drop i).flatMap enc) (by omega) (by rw [lay_len, lay_len]; exact hlen) (by omega) hcm' (by
      rw [List.flatMap_append, List.flatMap_cons, ← List.append_assoc, ← hfin, hx]
      rw [show (i + 1) * 4 = i * 4 + 4 by omega, Nat.zero_add, Nat.zero_add, Nat.add_assoc (i * 4) 4]
      congr 1
      omega)
    refine ⟨_, .row 63 4 (some ⟨g, 0, none⟩) (l.length + 1) cap ((l.take i ++ x :: l.drop i).flatMap enc) :: L, rfl, W3.sub (by repeat (first | exact List.Sublist.refl _ | exact List.nil_sublist _ | refine .cons_cons _ ?_ | refine .cons _ ?_)), some ⟨g, 0, none⟩, cap, rfl, ?_⟩
    simp only [rowOf]
    congr 2
    simp; omega
  · have rw_4 : (l.length : Int) + 1 - i = ((l.length + 1 - i : Nat) : Int) := by omega
    have rw_3 : (i : Int) + 1 = ((i + 1 : Nat) : Int) := by omega
    obtain ⟨ga, rfl⟩ := S.wd.row_at (k := 0) rfl (by omega)
    clear W
    refine sg S (.ac rfl <| .z) fun a w S => sg S (.mv rfl <| .mv rfl <| .yy (ys_slLoB underlying57 sizeOf63 (.t rfl) (.t rfl) (fun _ => by omega)) rfl <| .z) fun a w S => wp_seq_k fun _ hK1 => wp_region_lit (run S (.mv rfl <| .ln underlying57 rfl <| .z) fun a w S => ?_)
    rw [rw_1] at S
    refine run S (.as rfl <| .z) fun a w S => st_nil (then_normal (hK1 _ _ (wp_seq_k fun _ hK1 => sg S (.mv rfl <| .yy (ys_F (by omega) (ys_eql (.t rfl) Ev.c)) rfl <| .z) fun a w S => st_else S (.t rfl) (wp_skip (then_normal (hK1 _ _ (sg S (.mv rfl <| .ln underlying57 rfl <| .as rfl <| .z) fun a w S => wp_seq_k fun _ hK1 => sg S (.mv rfl <| .mv rfl <| .yy (ys_F (by omega) (ys_eql (.t rfl) (.t rfl))) rfl <| .z) fun a w S => st_else S (.t rfl) (wp_skip (then_normal (hK1 _ _ (wp_seq_k fun _ hK1 => sg S (.mv rfl <| .mv rfl <| .yy (ys_addI (.t rfl) (.t rfl) (fun _ => by unfold I64; omega)) rfl <| .mv rfl <| .yy (ys_cap underlying57 (.t rfl)) rfl <| .yy (ys_T (by omega) (ys_gtr (.t rfl) (.t rfl))) rfl <| .z) fun a w S => st_then S (.t rfl) (wp_seq_k fun _ hK2 => wp_region_lit (run S (.mv rfl <| .mv rfl <| .yy (ys_slHi underlying57 sizeOf63 (.t rfl) (.t rfl) (fun _ => by first | omega | (simp; done) | (simp; omega))) rfl <| .mv rfl <| .mv rfl <| .yy (ys_addI (.t rfl) (.t rfl) (fun _ => by unfold I64; omega)) rfl <| .mv rfl <| .yy (ys_subI (.t rfl) (.t rfl) (fun _ => by unfold I64; omega)) rfl <| .z) fun a w S => ?_)))))))))))))
    rw [rw_4] at S
    refine st_m (op_appZ (i := i) (z := l.length + 1 - i) S underlying57 underlying3 inf63 rfl (by simp [Value.cells, Value.oneCell']) (k := 0) rfl (.t rfl) (.t rfl) hi (by omega) (by omega) rfl rfl hf1 rfl ?_)
    clear S
    intro g cs cap' a w hcs hcap' hcm' htk hcs1 S
    have hlen : cs.length = cap' * 4 := hcs
    clear hcs
    refine run S (.as rfl <| .z) fun a w S => st_nil (then_normal (hK2 _ _ (wp_seq_k fun _ hK2 => wp_region_lit (run S (.mv rfl <| .mv rfl <| .yy (ys_slLoB underlying57 sizeOf63 (.t rfl) (.t rfl) (fun _ => by omega)) rfl <| .mv rfl <| .z) fun a w S => st_m (op_copyG (m := 1) (q := 1) S underlying57 sizeOf63 (.t rfl) (.t rfl) (k := 0) rfl (fun W => rfl) (by omega) (first_blk S.wd (k := 2) rfl (by rw [hvs]; omega)) (by rw [hvs]; simp; omega) (by rw [hvs]; exact fun u hu => h1 x u (by simpa using List.mem_of_mem_take hu)) rfl ?_)))))
    clear S
    intro a w S
    have hv3 : (vs.drop 0).take (1 * 4) = enc x := by rw [List.drop_zero, hvs, List.take_of_length_le (by omega)]
    rw [hv3] at S
    refine st_nil ?_
    rw [rw_1] at S
    refine then_normal (hK2 _ _ (wp_seq_k fun _ hK2 => h_begin S (by kernel_rfl) [] fun a w S => hy 0 S rfl (ys_move (.t rfl)) rfl fun a w S => hy 1 S rfl (ys_move (.t rfl)) rfl fun a w S => hy 2 S rfl (ys_move (.t rfl)) rfl fun a w S => hy 3 S rfl (ys_addI (.t rfl) (.t rfl) (fun _ => by unfold I64; omega)) rfl fun a w S => ?_))
    rw [rw_3] at S
    refine hy 4 S rfl (ys_slLoB underlying57 sizeOf63 (.t rfl) (.t rfl) (fun _ => by omega)) rfl fun a w S => hy 5 S rfl (ys_move (.t rfl)) rfl fun a w S => hy 6 S rfl (ys_move (.t rfl)) rfl fun a w S => hy 7 S rfl (ys_slLoB underlying57 sizeOf63 (.t rfl) (.t rfl) (fun _ => by omega)) rfl fun a w S => ?_
    have hnew : (l.drop i).take (l.length - i) = l.drop i := List.take_of_length_le (by simp)
    refine h_m (i := 8) rfl (by kernel_rfl) (op_copyG (m := l.length - i) (q := l.length - i) S underlying57 sizeOf63 (.t rfl) (.t rfl) (k := 0) rfl (fun W => rfl) (by omega) (first_row he S.wd (k := 1) rfl (by omega)) (by rw [hnew, lay_len]; omega) (by rw [hnew]; exact hd1) rfl ?_)
    clear S
    intro a w S
    refine h_n1 S ?_
    rw [hnew] at S
    refine h_done (by kernel_rfl) (then_normal (hK2 _ _ (sg S (.mv rfl <| .as rfl <| .z) fun a w S => wp_ret (then_ret (st_ret S (results1 S results14 (Rv.tmp rfl)) ?_)))))
    have hfin := (ins_cells (cs := cs) (a := (l.take i).flatMap enc) (x := enc x) (d := (l.drop i).flatMap enc) (o := 0 + i * 4) (by rw [Nat.zero_add, htk, flat_take he]) (by omega) (by omega)).1
    have W3 := S.wd.close_row (k := 0) rfl (size := 4) (l.length + 1) cap' ((l.take i ++ x :: l.drop i).flatMap enc) (by omega) (by rw [lay_len, lay_len]; exact hlen) (by omega) hcm' (by
      rw [List.flatMap_append, List.flatMap_cons, ← List.append_assoc, ← hfin, hx]
      rw [show (i + 1) * 4 = i * 4 + 4 by omega, Nat.zero_add, Nat.zero_add, Nat.add_assoc (i * 4) 4]
      congr 1
      omega)
    refine ⟨_, .row 63 4 (some ⟨g, 0, none⟩) (l.length + 1) cap' ((l.take i ++ x :: l.drop i).flatMap enc) :: L, rfl, W3.sub (by repeat (first | exact List.Sublist.refl _ | exact List.nil_sublist _ | refine .cons_cons _ ?_ | refine .cons _ ?_)), some ⟨g, 0, none⟩, cap', ?_, ?_⟩
    · congr 1
      omega
    · simp only [rowOf]
      congr 2
      simp; omega
end Go.Proofs.Ytlkkdhdhbakciaa
set_option linter.unusedVariables false
set_option linter.unusedSimpArgs false
set_option maxRecDepth 100000
set_option maxHeartbeats 4000000
namespace Go.Proofs.Ytlkkdhdhbakciaa
open Go.Fw Go.Proofs Go.RowKit Go.Proofs.Try
theorem c15 (w0 : World) (x y z x' y' z' : Int) : Calls Try.prog 15 #[.agg #[.int .i64 x, .int .i64 y, .int .i64 z], .agg #[.int .i64 x', .int .i64 y', .int .i64 z']] w0 fun e w' => e = .returned (.bool (gtD ⟨x, y, z⟩ ⟨x', y', z'⟩)) ∧ Bel w0.heap.size w0 w' := by
  refine enter2 func15 rfl ntmps15 rfl fun a S => wp_seq_k fun _ hK1 => wp_region_lit (st_m (op_box S (.t rfl) rfl fun g1 a w S => st_m (op_box S (.t rfl) rfl fun g2 a w S => run S (.ac rfl <| .z) fun a w S => st_nil (then_normal (hK1 _ _ (wp_seq_k fun _ hK1 => wp_region_lit (run S (.fa underlying39 sizeOf3 0 rfl rfl rfl <| .ld gt3 1 rfl rfl rfl <| .fa underlying39 sizeOf3 0 rfl rfl rfl <| .ld gt3 0 rfl rfl rfl <| .yy (ys_eql (.t rfl) (.t rfl)) rfl <| .mv rfl <| .z) fun a w S => st_yg S rfl rfl (Yr.ys (ys_fieldN (FieldT.mk underlying39 rfl sizeOf3 rfl) (.t rfl) (i' := 1) rfl)) rfl fun a w S => st_yg S rfl rfl (Yr.ys (ys_ld ⟨isAgg3, sizeOf3⟩ (Ev.g rfl) (k := 1) rfl rfl)) rfl fun a w S => st_yg S rfl rfl (Yr.ys (ys_fieldN (FieldT.mk underlying39 rfl sizeOf3 rfl) (.t rfl) (i' := 1) rfl)) rfl fun a w S => st_yg S rfl rfl (Yr.ys (ys_ld ⟨isAgg3, sizeOf3⟩ (Ev.g rfl) (k := 0) rfl rfl)) rfl fun a w S => st_yg S rfl rfl (Yr.ys (ys_gtr (Ev.g rfl) (Ev.g rfl))) rfl fun a w S => st_yg S rfl rfl (Yr.ys (ys_move (Ev.g rfl))) rfl fun a w S => st_yf2 S rfl rfl (Yr.ys (ys_fieldN (FieldT.mk underlying39 rfl sizeOf3 rfl) (.t rfl) (i' := 1) rfl)) rfl fun a w S => st_yf2 S rfl rfl (Yr.ys (ys_ld ⟨isAgg3, sizeOf3⟩ (Ev.g rfl) (k := 1) rfl rfl)) rfl fun a w S => st_yf2 S rfl rfl (Yr.ys (ys_fieldN (FieldT.mk underlying39 rfl sizeOf3 rfl) (.t rfl) (i' := 1) rfl)) rfl fun a w S => ?_)))))))
  refine st_yf2 S rfl rfl (Yr.ys (ys_ld ⟨isAgg3, sizeOf3⟩ (Ev.g rfl) (k := 0) rfl rfl)) rfl fun a w S => st_yf2 S rfl rfl (Yr.ys (ys_eql (Ev.g rfl) (Ev.g rfl))) rfl fun a w S => st_yf2 S rfl rfl (Yr.ys (ys_move (Ev.g rfl))) rfl fun a w S => st_yg2 S rfl rfl (Yr.ys (ys_fieldN (FieldT.mk underlying39 rfl sizeOf3 rfl) (.t rfl) (i' := 2) rfl)) rfl fun a w S => st_yg2 S rfl rfl (Yr.ys (ys_ld ⟨isAgg3, sizeOf3⟩ (Ev.g rfl) (k := 1) rfl rfl)) rfl fun a w S => st_yg2 S rfl rfl (Yr.ys (ys_fieldN (FieldT.mk underlying39 rfl sizeOf3 rfl) (.t rfl) (i' := 2) rfl)) rfl fun a w S => st_yg2 S rfl rfl (Yr.ys (ys_ld ⟨isAgg3, sizeOf3⟩ (Ev.g rfl) (k := 0) rfl rfl)) rfl fun a w S => st_yg2 S rfl rfl (Yr.ys (ys_gtr (Ev.g rfl) (Ev.g rfl))) rfl fun a w S => st_yf2 S rfl rfl (Yr.ys (ys_and2 (Ev.g rfl) (Ev.g rfl) Ev.c)) rfl fun a w S => st_yg S rfl rfl (Yr.ys (ys_or2 (Ev.g rfl) Ev.c (Ev.g rfl))) rfl fun a w S => run S (.yy (ys_and (.t rfl) (Ev.g rfl) Ev.c) rfl <| .as rfl <| .z) fun a w S => st_nil (then_normal (hK1 _ _ (wp_ret (st_ret S (results1 S results15 (Rv.tmp rfl)) ?_))))
  exact ⟨rfl, S.wd.below⟩
theorem c8 (w0 : World) (x y z x' y' z' : Int) : Calls Try.prog 8 #[.agg #[.int .i64 x, .int .i64 y, .int .i64 z], .agg #[.int .i64 x', .int .i64 y', .int .i64 z']] w0 fun e w' => e = .returned (.bool (gtD ⟨x, y, z⟩ ⟨x', y', z'⟩)) ∧ Bel w0.heap.size w0 w' := by
  refine enter2 func8 rfl ntmps8 rfl fun a S => wp_seq_k fun _ hK1 => wp_region_lit (st_m (op_box S (.t rfl) rfl fun g1 a w S => st_m (op_box S (.t rfl) rfl fun g2 a w S => run S (.ac rfl <| .z) fun a w S => st_nil (then_normal (hK1 _ _ (wp_seq_k fun _ hK1 => wp_region_lit (run S (.fa underlying39 sizeOf3 0 rfl rfl rfl <| .ld gt3 1 rfl rfl rfl <| .fa underlying39 sizeOf3 0 rfl rfl rfl <| .ld gt3 0 rfl rfl rfl <| .yy (ys_eql (.t rfl) (.t rfl)) rfl <| .mv rfl <| .z) fun a w S => st_yg S rfl rfl (Yr.ys (ys_fieldN (FieldT.mk underlying39 rfl sizeOf3 rfl) (.t rfl) (i' := 1) rfl)) rfl fun a w S => st_yg S rfl rfl (Yr.ys (ys_ld ⟨isAgg3, sizeOf3⟩ (Ev.g rfl) (k := 1) rfl rfl)) rfl fun a w S => st_yg S rfl rfl (Yr.ys (ys_fieldN (FieldT.mk underlying39 rfl sizeOf3 rfl) (.t rfl) (i' := 1) rfl)) rfl fun a w S => st_yg S rfl rfl (Yr.ys (ys_ld ⟨isAgg3, sizeOf3⟩ (Ev.g rfl) (k := 0) rfl rfl)) rfl fun a w S => st_yg S rfl rfl (Yr.ys (ys_gtr (Ev.g rfl) (Ev.g rfl))) rfl fun a w S => st_yg S rfl rfl (Yr.ys (ys_move (Ev.g rfl))) rfl fun a w S => st_yf2 S rfl rfl (Yr.ys (ys_fieldN (FieldT.mk underlying39 rfl sizeOf3 rfl) (.t rfl) (i' := 1) rfl)) rfl fun a w S => st_yf2 S rfl rfl (Yr.ys (ys_ld ⟨isAgg3, sizeOf3⟩ (Ev.g rfl) (k := 1) rfl rfl)) rfl fun a w S => st_yf2 S rfl rfl (Yr.ys (ys_fieldN (FieldT.mk underlying39 rfl sizeOf3 rfl) (.t rfl) (i' := 1) rfl)) rfl fun a w S => ?_)))))))
  refine st_yf2 S rfl rfl (Yr.ys (ys_ld ⟨isAgg3, sizeOf3⟩ (Ev.g rfl) (k := 0) rfl rfl)) rfl fun a w S => st_yf2 S rfl rfl (Yr.ys (ys_eql (Ev.g rfl) (Ev.g rfl))) rfl fun a w S => st_yf2 S rfl rfl (Yr.ys (ys_move (Ev.g rfl))) rfl fun a w S => st_yg2 S rfl rfl (Yr.ys (ys_fieldN (FieldT.mk underlying39 rfl sizeOf3 rfl) (.t rfl) (i' := 2) rfl)) rfl fun a w S => st_yg2 S rfl rfl (Yr.ys (ys_ld ⟨isAgg3, sizeOf3⟩ (Ev.g rfl) (k := 1) rfl rfl)) rfl fun a w S => st_yg2 S rfl rfl (Yr.ys (ys_fieldN (FieldT.mk underlying39 rfl sizeOf3 rfl) (.t rfl) (i' := 2) rfl)) rfl fun a w S => st_yg2 S rfl rfl (Yr.ys (ys_ld ⟨isAgg3, sizeOf3⟩ (Ev.g rfl) (k := 0) rfl rfl)) rfl fun a w S => st_yg2 S rfl rfl (Yr.ys (ys_gtr (Ev.g rfl) (Ev.g rfl))) rfl fun a w S => st_yf2 S rfl rfl (Yr.ys (ys_and2 (Ev.g rfl) (Ev.g rfl) Ev.c)) rfl fun a w S => st_yg S rfl rfl (Yr.ys (ys_or2 (Ev.g rfl) Ev.c (Ev.g rfl))) rfl fun a w S => run S (.yy (ys_and (.t rfl) (Ev.g rfl) Ev.c) rfl <| .as rfl <| .z) fun a w S => st_nil (then_normal (hK1 _ _ (wp_ret (st_ret S (results1 S results8 (Rv.tmp rfl)) ?_))))
  exact ⟨rfl, S.wd.below⟩
theorem c16 (w0 : World) (x y z : Int) : Calls Try.prog 16 #[.agg #[.int .i64 x, .int .i64 y, .int .i64 z]] w0 fun e w' => e = .returned (.bool (mayP ⟨x, y, z⟩)) ∧ Bel w0.heap.size w0 w' := by
  refine enter1 func16 rfl ntmps16 rfl fun a S => wp_seq_k fun _ hK1 => wp_region_lit (st_m (op_box S (.t rfl) rfl fun g1 a w S => run S (.ac rfl <| .z) fun a w S => st_nil (then_normal (hK1 _ _ (wp_seq_k fun _ hK1 => wp_region_lit (run S (.fa underlying39 sizeOf3 0 rfl rfl rfl <| .ld gt3 0 rfl rfl rfl <| .yy (ys_geq (.t rfl) Ev.c) rfl <| .mv rfl <| .z) fun a w S => st_yg S rfl rfl (Yr.ys (ys_fieldN (FieldT.mk underlying39 rfl sizeOf3 rfl) (.t rfl) (i' := 0) rfl)) rfl fun a w S => st_yg S rfl rfl (Yr.ys (ys_ld ⟨isAgg3, sizeOf3⟩ (Ev.g rfl) (k := 0) rfl rfl)) rfl fun a w S => st_yg S rfl rfl (Yr.ys (ys_lss (Ev.g rfl) Ev.c)) rfl fun a w S => run S (.yy (ys_and (.t rfl) (Ev.g rfl) Ev.c) rfl <| .mv rfl <| .z) fun a w S => st_yg S rfl rfl (Yr.ys (ys_fieldN (FieldT.mk underlying39 rfl sizeOf3 rfl) (.t rfl) (i' := 1) rfl)) rfl fun a w S => st_yg S rfl rfl (Yr.ys (ys_ld ⟨isAgg3, sizeOf3⟩ (Ev.g rfl) (k := 0) rfl rfl)) rfl fun a w S => st_yg S rfl rfl (Yr.ys (ys_geq (Ev.g rfl) Ev.c)) rfl fun a w S => run S (.yy (ys_and (.t rfl) (Ev.g rfl) Ev.c) rfl <| .mv rfl <| .z) fun a w S => st_yg S rfl rfl (Yr.ys (ys_fieldN (FieldT.mk underlying39 rfl sizeOf3 rfl) (.t rfl) (i' := 1) rfl)) rfl fun a w S => st_yg S rfl rfl (Yr.ys (ys_ld ⟨isAgg3, sizeOf3⟩ (Ev.g rfl) (k := 0) rfl rfl)) rfl fun a w S => st_yg S rfl rfl (Yr.ys (ys_leq (Ev.g rfl) Ev.c)) rfl fun a w S => ?_))))))
  refine run S (.yy (ys_and (.t rfl) (Ev.g rfl) Ev.c) rfl <| .mv rfl <| .z) fun a w S => st_yg S rfl rfl (Yr.ys (ys_fieldN (FieldT.mk underlying39 rfl sizeOf3 rfl) (.t rfl) (i' := 2) rfl)) rfl fun a w S => st_yg S rfl rfl (Yr.ys (ys_ld ⟨isAgg3, sizeOf3⟩ (Ev.g rfl) (k := 0) rfl rfl)) rfl fun a w S => st_yg S rfl rfl (Yr.ys (ys_geq (Ev.g rfl) Ev.c)) rfl fun a w S => run S (.yy (ys_and (.t rfl) (Ev.g rfl) Ev.c) rfl <| .mv rfl <| .z) fun a w S => st_yg S rfl rfl (Yr.ys (ys_fieldN (FieldT.mk underlying39 rfl sizeOf3 rfl) (.t rfl) (i' := 2) rfl)) rfl fun a w S => st_yg S rfl rfl (Yr.ys (ys_ld ⟨isAgg3, sizeOf3⟩ (Ev.g rfl) (k := 0) rfl rfl)) rfl fun a w S => st_yg S rfl rfl (Yr.ys (ys_leq (Ev.g rfl) Ev.c)) rfl fun a w S => run S (.yy (ys_and (.t rfl) (Ev.g rfl) Ev.c) rfl <| .as rfl <| .z) fun a w S => st_nil (then_normal (hK1 _ _ (wp_ret (st_ret S (results1 S results16 (Rv.tmp rfl)) ?_))))
  exact ⟨rfl, S.wd.below⟩
theorem c7 (w0 : World) (x y z : Int) : Calls Try.prog 7 #[.agg #[.int .i64 x, .int .i64 y, .int .i64 z]] w0 fun e w' => e = .returned (.bool (mayP ⟨x, y, z⟩)) ∧ Bel w0.heap.size w0 w' := by
  refine enter1 func7 rfl ntmps7 rfl fun a S => wp_seq_k fun _ hK1 => wp_region_lit (st_m (op_box S (.t rfl) rfl fun g1 a w S => run S (.ac rfl <| .z) fun a w S => st_nil (then_normal (hK1 _ _ (sg S (.la gt39 0 rfl rfl rfl <| .xx (ys_call call16 (.cons (.t rfl) .nil) (fun hp w W => c16 _ _ _ _)) rfl <| .as rfl <| .z) fun a w S => wp_ret (st_ret S (results1 S results7 (Rv.tmp rfl)) ?_))))))
  exact ⟨rfl, S.wd.below⟩
theorem c13 (w0 : World) (x y z s x' y' z' : Int) (h1 : 0 ≤ x ∧ x < 8) (h2 : 0 ≤ x' ∧ x' < 8) : Calls Try.prog 13 #[.agg #[.int .i64 x, .int .i64 y, .int .i64 z, .int .i64 s], .agg #[.int .i64 x', .int .i64 y', .int .i64 z']] w0 fun e w' => e = .returned (.int .i64 (x - x')) ∧ Bel w0.heap.size w0 w' := by
  refine enter2 func13 rfl ntmps13 rfl fun a S => wp_seq_k fun _ hK1 => wp_region_lit (st_m (op_box S (.t rfl) rfl fun g1 a w S => st_m (op_box S (.t rfl) rfl fun g2 a w S => run S (.ac rfl <| .z) fun a w S => st_nil (then_normal (hK1 _ _ (sg S (.fa underlying63 sizeOf39 0 rfl rfl rfl <| .fa underlying39 sizeOf3 0 rfl rfl rfl <| .ld gt3 1 rfl rfl rfl <| .fa underlying39 sizeOf3 0 rfl rfl rfl <| .ld gt3 0 rfl rfl rfl <| .yy (ys_subI (.t rfl) (.t rfl) (fun _ => by unfold I64; omega)) rfl <| .as rfl <| .z) fun a w S => wp_ret (st_ret S (results1 S results13 (Rv.tmp rfl)) ?_)))))))
  exact ⟨rfl, S.wd.below⟩
theorem c12 (w0 : World) (v1 : Value) (l : List Rum) (x y z : Int) (h : Sl Rum.enc 4 w0 w0.heap.size v1 l) (hl : l.Pairwise fun a b => a.p.node < b.p.node) (hm : ∀ m ∈ l, 0 ≤ m.p.node ∧ m.p.node < 8) (hd : 0 ≤ x ∧ x < 8) (hn : l.length ≤ 8) :
    Calls Try.prog 12 #[v1, .agg #[.int .i64 x, .int .i64 y, .int .i64 z], .func (.func 13) #[] #[]] w0 fun e w' => e = .returned (.tuple #[.int .i64 (posR l x : Nat), .bool (hasR l x)]) ∧ Bel w0.heap.size w0 w' := by
  obtain ⟨A, cap, rfl, hl0, hcap, hA⟩ := h
  have hpl := posR_le l x
  refine enter3 func12 rfl ntmps12 rfl fun a S => wp_seq_k fun _ hK1 => wp_region_lit (st_m (op_box S (.t rfl) rfl fun g1 a w S => run S (.ac rfl <| .ac rfl <| .z) fun a w S => st_nil (then_normal (hK1 _ _ (sg S (.mv rfl <| .ln underlying57 rfl <| .as rfl <| .z) fun a w S => sg S (.mv rfl <| .ac rfl <| .as rfl <| .z) fun a w S => wp_seq_k fun _ hK1 => wp_block ?_)))))
  refine st_lpK S (X := Nat × Nat) (fun q => [(9, true, .int .i64 (q.1 : Int)), (10, true, .int .i64 (q.2 : Int))]) (fun _ L => L) (fun q => q.1 ≤ posR l x ∧ posR l x ≤ q.2 ∧ q.2 ≤ l.length) (fun q => q.2 - q.1) (0, l.length) ⟨Nat.zero_le _, hpl, Nat.le_refl _⟩ ?_
  clear S
  intro ⟨i, j⟩ a w ⟨hi, hj, hjl⟩ S
  dsimp only at hi hj hjl S
  by_cases hlt : i < j
  · have hlt2 : (i + j) / 2 < l.length := by omega
    obtain ⟨g, o, m, rfl, hmm, hd', hc⟩ := row_at hA hlt2
    have hmb := hm m (List.mem_of_getElem? hmm)
    have hpos := posR_lt (n := x) hl _ m hmm
    clear hA
    have rw_h : ((i : Int) + j) / 2 = (((i + j) / 2 : Nat) : Int) := by omega
    refine wp_seq_k fun _ hK2 => sg S (.mv rfl <| .mv rfl <| .lt (by omega) rfl rfl <| .z) fun a w S => st_then S (.t rfl) (wp_skip (then_normal (hK2 _ _ (wp_block (wp_seq_k fun _ hK2 => wp_region_lit (run S (.mv rfl <| .mv rfl <| .yy (ys_addI (.t rfl) (.t rfl) (fun _ => by unfold I64; omega)) rfl <| .yy (ys_cvU underlying3 underlying72 (.t rfl) (fun _ => by omega)) rfl <| .yy (ys_shrC (m := 1) (c := 2) (.t rfl) Ev.c rfl rfl) rfl <| .z) fun a w S => ?_))))))
    rw [rw_h] at S
    refine run S (.yy (ys_cvI underlying72 underlying3 (.t rfl) (fun _ => by unfold I64; omega)) rfl <| .as rfl <| .z) fun a w S => st_nil (then_normal (hK2 _ _ (wp_seq_k fun _ hK2 => st_quiet S (by kernel_rfl) (by kernel_rfl) fun a S => qrun S (.mv rfl <| .mv rfl <| .mv rfl <| .ix underlying57 sizeOf63 (by omega) rfl rfl <| .yy (ys_ldOA ⟨isAgg63, sizeOf63⟩ (.t rfl) (vs := [_, _, _, _]) rfl (fun _ => hc)) rfl <| .la gt39 0 rfl rfl rfl <| .xx (ys_callV (.t rfl) call13 (.cons (.t rfl) (.cons (.t rfl) .nil)) (fun hp w W => c13 _ _ _ _ _ _ _ _ (by assumption) (by assumption))) rfl <| .yy (ys_lss (.t rfl) Ev.c) rfl <| .z) fun a S => ?_)))
    (refine q_nil ?_; intro w W; replace S := St.mk S W; clear W)
    refine then_normal (hK2 _ _ ?_)
    refine st_if S (.t rfl) (fun h1 => ?_) (fun h1 => ?_)
    refine wp_region_lit (run S (.mv rfl <| .ad (by unfold I64; omega) rfl <| .as rfl <| .z) fun a w S => st_nil (in_normal (then_normal ?_)))
    rotate_left
    refine wp_region_lit (run S (.mv rfl <| .as rfl <| .z) fun a w S => st_nil (in_normal (then_normal ?_)))
    rotate_left
    · exact ⟨((i + j) / 2 + 1, j), ⟨by dsimp only; omega, hj, hjl⟩, by dsimp only; omega, S.wk⟩
    · exact ⟨(i, (i + j) / 2), ⟨hi, by dsimp only; omega, by dsimp only; omega⟩, by dsimp only; omega, S.wk⟩
  · obtain rfl : i = posR l x := by omega
    by_cases hin : posR l x < l.length
    · obtain ⟨g, o, m, rfl, hmm, hd', hc⟩ := row_at hA hin
      have hmb := hm m (List.mem_of_getElem? hmm)
      clear hA
      refine wp_seq_k fun _ hK2 => sg S (.mv rfl <| .mv rfl <| .ge (by omega) rfl rfl <| .z) fun a w S => st_else S (.t rfl) (wp_exit (then_exit (then_exit (in_here (then_normal (hK1 _ _ (wp_seq_k fun _ hK1 => st_quiet S (by kernel_rfl) (by kernel_rfl) fun a S => qrun S (.mv rfl <| .mv rfl <| .mv rfl <| .lt (by omega) rfl rfl <| .mv rfl <| .gy rfl rfl (ys_move (.t rfl)) <| .gy rfl rfl (ys_move (.t rfl)) <| .gy rfl rfl (ys_move (.t rfl)) <| .gy rfl rfl (ys_ixS underlying57 sizeOf63 (.t rfl) (.t rfl) (fun _ => by omega)) <| .gy rfl rfl (ys_ldOA ⟨isAgg63, sizeOf63⟩ (.t rfl) (vs := [_, _, _, _]) rfl (fun _ => hc)) <| .gy rfl rfl (ys_ldA ⟨isAgg39, sizeOf39⟩ (.t rfl) (k := 0) rfl rfl) <| .gx rfl rfl (ys_callV (.t rfl) call13 (.cons (.t rfl) (.cons (.t rfl) .nil)) (fun hp w W => c13 _ _ _ _ _ _ _ _ (by assumption) (by assumption))) <| .gy rfl rfl (ys_eql (.t rfl) Ev.c) <| .yy (ys_pickT (.t rfl) (.t rfl)) rfl <| .as rfl <| .as rfl <| .z) fun a S => ?_)))))))
      (refine q_nil ?_; intro w W; replace S := St.mk S W; clear W)
      refine then_normal (hK1 _ _ (wp_ret (st_ret S (results2 S results12 (Rv.tmp rfl) (Rv.tmp rfl)) ?_)))
      refine ⟨?_, S.wd.below⟩
      have e : hasR l x = decide (m.p.node - x = 0) := by
        unfold hasR
        simp only [hmm]
        exact decide_eq_decide.2 (by omega)
      rw [e]
    · refine wp_seq_k fun _ hK2 => sg S (.mv rfl <| .mv rfl <| .ge (by omega) rfl rfl <| .z) fun a w S => st_else S (.t rfl) (wp_exit (then_exit (then_exit (in_here (then_normal (hK1 _ _ (wp_seq_k fun _ hK1 => st_quiet S (by kernel_rfl) (by kernel_rfl) fun a S => qrun S (.mv rfl <| .mv rfl <| .mv rfl <| .ge (by omega) rfl rfl <| .mv rfl <| .sk rfl rfl rfl <| .sk rfl rfl rfl <| .sk rfl rfl rfl <| .sk rfl rfl rfl <| .sk rfl rfl rfl <| .sk rfl rfl rfl <| .sk rfl rfl rfl <| .sk rfl rfl rfl <| .yy (ys_pickF (.t rfl) Ev.c) rfl <| .as rfl <| .as rfl <| .z) fun a S => ?_)))))))
      (refine q_nil ?_; intro w W; replace S := St.mk S W; clear W)
      refine then_normal (hK1 _ _ (wp_ret (st_ret S (results2 S results12 (Rv.tmp rfl) (Rv.tmp rfl)) ?_)))
      refine ⟨?_, S.wd.below⟩
      have e : hasR l x = false := by
        unfold hasR
        rw [List.getElem?_eq_none (by omega)]
      rw [e]
end Go.Proofs.Ytlkkdhdhbakciaa
set_option linter.unusedVariables false
set_option linter.unusedSimpArgs false
set_option maxRecDepth 100000
set_option maxHeartbeats 4000000
namespace Go.Fw
theorem may_not (x : Dot) : (!(decide (0 ≤ x.node) && decide (x.node < 8)) || decide (x.life < 0) || decide (1099511627776 < x.life) || decide (x.count < 1) || decide (3 < x.count)) = !mayP x := by
  rw [Bool.eq_iff_iff]
  simp [mayP]
end Go.Fw
namespace Go.Proofs.Ytlkkdhdhbakciaa
open Go.Fw Go.Proofs Go.RowKit Go.Proofs.Try
theorem c5 {w0 w : World} {L : List Chunk} {g gf cap cb : Nat} {A B : Option Addr} {s last to : Int} {rl : List Rum} {told : Bool} {l : List Dot} {nw : List (Int × Dot)} {se : List (Dot × Int)} (W : Wd w0 (boxK g gf s A cap rl told last to (rowOf 39 3 Dot.enc B cb l :: L)) w) (hI : GInv rl nw se) (hl : l.length ≤ 4194304) :
    RetsO Try.prog 5 #[.pointer (some ⟨g, 0, none⟩), .slice B l.length cb] w0 w fun u L' => ((∀ p ∈ l, mayP p = true) ∧ u = .int .i64 0 ∧ ∃ A' cap', L' = boxK g gf s A' cap' (l.foldl hearR rl) told last to (rowOf 39 3 Dot.enc B cb l :: L)) ∨
      (¬ (∀ p ∈ l, mayP p = true) ∧ u = .int .i64 120 ∧ L' = boxK g gf s A cap rl told last to (rowOf 39 3 Dot.enc B cb l :: L)) := by
  unfold Go.Fw.RetsO
  refine enterW2 W func5 rfl ntmps5 rfl fun a S => sg S (.ac rfl <| .z) fun a w S => wp_seq_k fun _ hK1 => sg S (.mv rfl <| .yy (ys_pNilS underlying23 (.t rfl) Ev.c) rfl <| .mv rfl <| .gy rfl rfl (ys_move (.t rfl)) <| .gy rfl rfl (ys_nilc (.t rfl)) <| .gy rfl rfl (ys_fieldN (FieldT.mk underlying59 rfl sizeOf4 rfl) (.t rfl) (i' := 5) rfl) <| .gy rfl rfl (ys_ld ⟨isAgg4, sizeOf4⟩ (.t rfl) (k := 0) rfl rfl) <| .gy rfl rfl (ys_not (.t rfl)) <| .yy (ys_pickF (.t rfl) (.t rfl)) rfl <| .z) fun a w S => st_else S (.t rfl) (wp_skip (then_normal (hK1 _ _ (wp_seq_k fun _ hK1 => sg S (.mv rfl <| .ln underlying29 rfl <| .mc rfl <| .z) fun a w S => wp_block ?_))))
  refine st_lpM S [22] (X := Nat) (fun k => [(22, true, .int .i64 (k : Int))]) (fun _ => boxK g gf s A cap rl told last to (rowOf 39 3 Dot.enc B cb l :: L)) (fun k => k ≤ l.length ∧ ∀ p ∈ l.take k, mayP p = true) (fun k => l.length - k) 0 ⟨Nat.zero_le _, by simp⟩ ?_
  clear S
  rintro k a w ⟨hk, hm⟩ S
  by_cases hlt : k < l.length
  · obtain ⟨gb, rfl⟩ := S.wd.row_at (k := 3) rfl (by have := (S.wd.room (k := 3) rfl).1; omega)
    obtain ⟨x, hx⟩ : ∃ x, l[k]? = some x := ⟨l[k], by simp⟩
    have hst : l.take (k + 1) = l.take k ++ [x] := by rw [List.take_add_one, hx]; rfl
    have rw_k : (k : Int) + 1 = ((k + 1 : Nat) : Int) := rfl
    refine sg S (.lt (by omega) rfl rfl <| .z) fun a w S => wp_seq_k fun _ hK2 => st_then S (.t rfl) (wp_skip (then_normal (hK2 _ _ (wp_seq_k fun _ hK2 => wp_block (wp_seq_k fun _ hK3 => wp_region_lit (run S (.ix underlying29 sizeOf39 (by omega) rfl rfl <| .yy (ys_ldWA ⟨isAgg39, sizeOf39⟩ (.t rfl) (k := 3) rfl hx (fun _ => rfl)) rfl <| .z) fun a w S => st_m (op_alloc S zeroValue39 (cs := _) rfl rfl fun g1 a w S => st_m (op_stW S sizeOf39 (.t rfl) (.t rfl) (k := 0) rfl rfl rfl (by simp [Value.oneCell']) fun a w S => st_nil (then_normal (hK3 _ _ (wp_seq_k fun _ hK3 => wp_region_lit (run S (.fa underlying39 sizeOf3 0 rfl rfl rfl <| .ld gt3 0 rfl rfl rfl <| .xx (ys_call call10 (.cons (.t rfl) .nil) (fun hp w W => c10 _ _)) rfl <| .nt rfl <| .mv rfl <| .z) fun a w S => st_yf S rfl rfl (Yr.ys (ys_fieldN (FieldT.mk underlying39 rfl sizeOf3 rfl) (.t rfl) (i' := 1) rfl)) rfl fun a w S => st_yf S rfl rfl (Yr.ys (ys_ld ⟨isAgg3, sizeOf3⟩ (Ev.g rfl) (k := 0) rfl rfl)) rfl fun a w S => st_yf S rfl rfl (Yr.ys (ys_lss (Ev.g rfl) Ev.c)) rfl fun a w S => run S (.yy (ys_or (.t rfl) Ev.c (Ev.g rfl)) rfl <| .mv rfl <| .z) fun a w S => st_yf S rfl rfl (Yr.ys (ys_fieldN (FieldT.mk underlying39 rfl sizeOf3 rfl) (.t rfl) (i' := 1) rfl)) rfl fun a w S => ?_))))))))))))
    refine st_yf S rfl rfl (Yr.ys (ys_ld ⟨isAgg3, sizeOf3⟩ (Ev.g rfl) (k := 0) rfl rfl)) rfl fun a w S => st_yf S rfl rfl (Yr.ys (ys_gtr (Ev.g rfl) Ev.c)) rfl fun a w S => run S (.yy (ys_or (.t rfl) Ev.c (Ev.g rfl)) rfl <| .mv rfl <| .z) fun a w S => st_yf S rfl rfl (Yr.ys (ys_fieldN (FieldT.mk underlying39 rfl sizeOf3 rfl) (.t rfl) (i' := 2) rfl)) rfl fun a w S => st_yf S rfl rfl (Yr.ys (ys_ld ⟨isAgg3, sizeOf3⟩ (Ev.g rfl) (k := 0) rfl rfl)) rfl fun a w S => st_yf S rfl rfl (Yr.ys (ys_lss (Ev.g rfl) Ev.c)) rfl fun a w S => run S (.yy (ys_or (.t rfl) Ev.c (Ev.g rfl)) rfl <| .mv rfl <| .z) fun a w S => st_yf S rfl rfl (Yr.ys (ys_fieldN (FieldT.mk underlying39 rfl sizeOf3 rfl) (.t rfl) (i' := 2) rfl)) rfl fun a w S => st_yf S rfl rfl (Yr.ys (ys_ld ⟨isAgg3, sizeOf3⟩ (Ev.g rfl) (k := 0) rfl rfl)) rfl fun a w S => st_yf S rfl rfl (Yr.ys (ys_gtr (Ev.g rfl) Ev.c)) rfl fun a w S => run S (.yy (ys_or (.t rfl) Ev.c (Ev.g rfl)) rfl <| .z) fun a w S => st_nil (then_normal (hK3 _ _ ?_))
    refine st_cond S (.t rfl) (fun h1 => ?_) (fun h1 => ?_)
    refine sg S (.ac rfl <| .z) fun a w S => wp_ret (in_ret (then_ret (then_ret (in_ret (then_ret (st_ret S (results1 S results5 (Rv.tmp rfl)) ?_))))))
    rotate_left
    refine wp_skip (in_normal (then_normal (hK2 _ _ (wp_region_lit (run S (.ad (by unfold I64; omega) rfl <| .z) fun a w S => ?_)))))
    rw [rw_k] at S
    refine run S (.mv rfl <| .z) fun a w S => st_nil (then_normal ?_)
    rotate_left
    · rw [may_not] at h1
      exact ⟨_, _, rfl, S.wd.pk, .inr ⟨fun h => by rw [h x (List.mem_of_getElem? hx)] at h1; simp at h1, rfl, rfl⟩⟩
    · rw [may_not] at h1
      refine ⟨k + 1, ⟨by omega, fun p hp => ?_⟩, by omega, S.pk⟩
      rw [hst, List.mem_append, List.mem_singleton] at hp
      rcases hp with hp | rfl
      · exact hm p hp
      · simpa using h1
  obtain rfl : k = l.length := by omega
  rw [List.take_length] at hm
  refine sg S (.ge (by omega) rfl rfl <| .z) fun a w S => wp_seq_k fun _ hK2 => st_else S (.t rfl) (wp_exit (then_exit (then_exit (in_here (then_normal (hK1 _ _ (wp_seq_k fun _ hK1 => sg S (.mv rfl <| .ln underlying29 rfl <| .mc rfl <| .z) fun a w S => wp_block ?_)))))))
  refine st_lpM S [53] (X := Nat × Option Addr × Nat) (fun q => [(53, true, .int .i64 (q.1 : Int))]) (fun q => boxK g gf s q.2.1 q.2.2 ((l.take q.1).foldl hearR rl) told last to (rowOf 39 3 Dot.enc B cb l :: L)) (fun q => q.1 ≤ l.length) (fun q => l.length - q.1) (0, A, cap) (Nat.zero_le _) ?_
  clear S
  rintro ⟨k, A, cap⟩ a w hk S
  dsimp only at hk S
  by_cases hlt : k < l.length
  · obtain ⟨gb, rfl⟩ := S.wd.row_at (k := 3) rfl (by have := (S.wd.room (k := 3) rfl).1; omega)
    obtain ⟨x, hx⟩ : ∃ x, l[k]? = some x := ⟨l[k], by simp⟩
    have hst : (l.take (k + 1)).foldl hearR rl = hearR ((l.take k).foldl hearR rl) x := by rw [List.take_add_one, hx, List.foldl_append]; rfl
    have hG := GInv.hears hI (l := l.take k) fun p hp => hm p (List.mem_of_mem_take hp)
    have hmx := hm x (List.mem_of_getElem? hx)
    have hxn : 0 ≤ x.node ∧ x.node < 8 := by simp [mayP] at hmx; omega
    generalize (l.take k).foldl hearR rl = cur at S hst hG
    have h1 := hG.sorted
    have h2 := hG.nodes
    have h3 := hG.len
    have hat := hearR_at (p := x) (l := cur)
    have hpl := posR_le cur x.node
    have rw_k : (k : Int) + 1 = ((k + 1 : Nat) : Int) := rfl
    by_cases hh : hasR cur x.node = true
    · obtain ⟨m, hmm, hmn⟩ : ∃ m, cur[posR cur x.node]? = some m ∧ m.p.node = x.node := by
        unfold hasR at hh
        split at hh
        · rename_i m hmm
          exact ⟨m, hmm, by simpa using hh⟩
        · cases hh
      obtain ⟨ga, rfl⟩ := S.wd.row_at (k := 2) rfl (by have := (S.wd.room (k := 2) rfl).1; have := (List.getElem?_eq_some_iff.1 hmm).1; omega)
      have rw_h := hh
      have hpp : posR cur x.node < cur.length := (List.getElem?_eq_some_iff.1 hmm).1
      rw [hmm] at hat
      dsimp only at hat
      rw [if_pos hmn] at hat
      by_cases hg : gtD x m.p = true
      · rw [if_pos hg] at hat
        have rw_g : gtD ⟨x.node, x.life, x.count⟩ ⟨m.p.node, m.p.life, m.p.count⟩ = true := hg
        refine sg S (.lt (by omega) rfl rfl <| .z) fun a w S => wp_seq_k fun _ hK3 => st_then S (.t rfl) (wp_skip (then_normal (hK3 _ _ (wp_seq_k fun _ hK3 => wp_block (wp_seq_k fun _ hK4 => wp_region_lit (run S (.ix underlying29 sizeOf39 (by omega) rfl rfl <| .yy (ys_ldWA ⟨isAgg39, sizeOf39⟩ (.t rfl) (k := 3) rfl hx (fun _ => rfl)) rfl <| .z) fun a w S => st_m (op_alloc S zeroValue39 (cs := _) rfl rfl fun g1 a w S => st_m (op_stW S sizeOf39 (.t rfl) (.t rfl) (k := 0) rfl rfl rfl (by simp [Value.oneCell']) fun a w S => st_nil (then_normal (hK4 _ _ (wp_seq_k fun _ hK4 => st_quiet S (by kernel_rfl) (by kernel_rfl) fun a S => qrun S (.mv rfl <| .yy (ys_nilc (.t rfl)) rfl <| .fa underlying59 sizeOf57 1 rfl rfl rfl <| .ld gt57 1 rfl rfl rfl <| .la gt39 0 rfl rfl rfl <| .xx (ys_call call12 (.cons (.t rfl) (.cons (.t rfl) (.cons Ev.f .nil))) (fun hp w W => c12 _ _ _ _ _ _ (by exact Sl.of_own W (k := 3) rfl (fun _ => rfl)) (by assumption) (by assumption) (by assumption) (by assumption))) rfl <| .z) fun a S => ?_)))))))))))
        rw [rw_h] at S
        refine qrun S (.mv rfl <| .ex rfl rfl <| .ex rfl rfl <| .as rfl <| .as rfl <| .z) fun a S => ?_
        (refine q_nil ?_; intro w W; replace S := St.mk S W; clear W)
        refine then_normal (hK4 _ _ (wp_block (sg S (.mv rfl <| .nt rfl <| .as rfl <| .z) fun a w S => st_else S (.t rfl) (wp_seq_k fun _ hK4 => st_quiet S (by kernel_rfl) (by kernel_rfl) fun a S => qrun S (.la gt39 0 rfl rfl rfl <| .mv rfl <| .yy (ys_nilc (.t rfl)) rfl <| .fa underlying59 sizeOf57 1 rfl rfl rfl <| .ld gt57 1 rfl rfl rfl <| .mv rfl <| .ix underlying57 sizeOf63 (by omega) rfl rfl <| .yy (ys_field (FieldT.mk underlying63 rfl sizeOf39 rfl) (.t rfl)) rfl <| .yy (ys_ldWS ⟨isAgg39, sizeOf39⟩ (.t rfl) (vs := [_, _, _]) (k := 3) rfl hmm (fun _ => rfl) rfl) rfl <| .xx (ys_call call15 (.cons (.t rfl) (.cons (.t rfl) .nil)) (fun hp w W => c15 _ _ _ _ _ _ _)) rfl <| .z) fun a S => ?_))))
        rw [rw_g] at S
        refine qrun S (.as rfl <| .z) fun a S => ?_
        (refine q_nil ?_; intro w W; replace S := St.mk S W; clear W)
        refine then_normal (hK4 _ _ (st_then S (.t rfl) (h_beginE S (by kernel_rfl) 3 ?_)))
        clear S
        intro a w S
        refine hy 0 S rfl (ys_move (.t rfl)) rfl fun a w S => hy 1 S rfl (ys_nilc (.t rfl)) rfl fun a w S => hy 2 S rfl (ys_fieldN (FieldT.mk underlying59 rfl sizeOf57 rfl) (.t rfl) (i' := 1) rfl) rfl fun a w S => hy 3 S rfl (ys_ld ⟨isAgg57, sizeOf57⟩ (.t rfl) (k := 1) rfl rfl) rfl fun a w S => hy 4 S rfl (ys_move (.t rfl)) rfl fun a w S => ?_
        refine hy 5 S rfl (ys_ldA ⟨isAgg39, sizeOf39⟩ (.t rfl) (k := 0) rfl rfl) rfl fun a w S => hy 6 S rfl (ys_bld (ps := [(0, Go.Operand.tmp 97)]) (us := [_, _, _, _]) bld63 (.cons (.t rfl) .nil) rfl) rfl fun a w S => hy 7 S rfl (ys_ixS underlying57 sizeOf63 (.t rfl) (.t rfl) (fun _ => by omega)) rfl fun a w S => h_m0 (i := 8) rfl (by kernel_rfl) (op_stRow (enc := Rum.enc) (size := 4) (i := posR cur x.node) (yn := (⟨x, 0⟩ : Rum)) (vs := [.int .i64 x.node, .int .i64 x.life, .int .i64 x.count, .int .i64 0]) S Rum.enc_len rfl sizeOf63 (.t rfl) (.t rfl) rfl (Rum.enc_one _) (k := 3) rfl hmm (by omega) ?_)
        clear S
        intro a w S
        refine h_n1 S ?_
        refine h_done (by kernel_rfl) (in_normal (in_normal (then_normal (hK3 _ _ (wp_region_lit (run S (.ad (by unfold I64; omega) rfl <| .z) fun a w S => ?_))))))
        rw [rw_k] at S
        refine run S (.mv rfl <| .z) fun a w S => st_nil (then_normal ?_)
        exact ⟨(k + 1, some ⟨ga, 0, none⟩, cap), by dsimp only; omega, by dsimp only; omega, by dsimp only; rw [hst, hat]; unfold boxK; rw [List.length_set]; exact S.pk⟩
      · rw [if_neg hg] at hat
        have rw_g : gtD ⟨x.node, x.life, x.count⟩ ⟨m.p.node, m.p.life, m.p.count⟩ = false := by simpa using hg
        refine sg S (.lt (by omega) rfl rfl <| .z) fun a w S => wp_seq_k fun _ hK3 => st_then S (.t rfl) (wp_skip (then_normal (hK3 _ _ (wp_seq_k fun _ hK3 => wp_block (wp_seq_k fun _ hK4 => wp_region_lit (run S (.ix underlying29 sizeOf39 (by omega) rfl rfl <| .yy (ys_ldWA ⟨isAgg39, sizeOf39⟩ (.t rfl) (k := 3) rfl hx (fun _ => rfl)) rfl <| .z) fun a w S => st_m (op_alloc S zeroValue39 (cs := _) rfl rfl fun g1 a w S => st_m (op_stW S sizeOf39 (.t rfl) (.t rfl) (k := 0) rfl rfl rfl (by simp [Value.oneCell']) fun a w S => st_nil (then_normal (hK4 _ _ (wp_seq_k fun _ hK4 => st_quiet S (by kernel_rfl) (by kernel_rfl) fun a S => qrun S (.mv rfl <| .yy (ys_nilc (.t rfl)) rfl <| .fa underlying59 sizeOf57 1 rfl rfl rfl <| .ld gt57 1 rfl rfl rfl <| .la gt39 0 rfl rfl rfl <| .xx (ys_call call12 (.cons (.t rfl) (.cons (.t rfl) (.cons Ev.f .nil))) (fun hp w W => c12 _ _ _ _ _ _ (by exact Sl.of_own W (k := 3) rfl (fun _ => rfl)) (by assumption) (by assumption) (by assumption) (by assumption))) rfl <| .z) fun a S => ?_)))))))))))
        rw [rw_h] at S
        refine qrun S (.mv rfl <| .ex rfl rfl <| .ex rfl rfl <| .as rfl <| .as rfl <| .z) fun a S => ?_
        (refine q_nil ?_; intro w W; replace S := St.mk S W; clear W)
        refine then_normal (hK4 _ _ (wp_block (sg S (.mv rfl <| .nt rfl <| .as rfl <| .z) fun a w S => st_else S (.t rfl) (wp_seq_k fun _ hK4 => st_quiet S (by kernel_rfl) (by kernel_rfl) fun a S => qrun S (.la gt39 0 rfl rfl rfl <| .mv rfl <| .yy (ys_nilc (.t rfl)) rfl <| .fa underlying59 sizeOf57 1 rfl rfl rfl <| .ld gt57 1 rfl rfl rfl <| .mv rfl <| .ix underlying57 sizeOf63 (by omega) rfl rfl <| .yy (ys_field (FieldT.mk underlying63 rfl sizeOf39 rfl) (.t rfl)) rfl <| .yy (ys_ldWS ⟨isAgg39, sizeOf39⟩ (.t rfl) (vs := [_, _, _]) (k := 3) rfl hmm (fun _ => rfl) rfl) rfl <| .xx (ys_call call15 (.cons (.t rfl) (.cons (.t rfl) .nil)) (fun hp w W => c15 _ _ _ _ _ _ _)) rfl <| .z) fun a S => ?_))))
        rw [rw_g] at S
        refine qrun S (.as rfl <| .z) fun a S => ?_
        (refine q_nil ?_; intro w W; replace S := St.mk S W; clear W)
        refine then_normal (hK4 _ _ (st_else S (.t rfl) (wp_skip (in_normal (in_normal (then_normal (hK3 _ _ (wp_region_lit (run S (.ad (by unfold I64; omega) rfl <| .z) fun a w S => ?_)))))))))
        rw [rw_k] at S
        refine run S (.mv rfl <| .z) fun a w S => st_nil (then_normal ?_)
        exact ⟨(k + 1, some ⟨ga, 0, none⟩, cap), by dsimp only; omega, by dsimp only; omega, by dsimp only; rw [hst, hat]; exact S.pk⟩
    · have rw_h : hasR cur x.node = false := by simpa using hh
      have hat' : hearR cur x = cur.take (posR cur x.node) ++ ⟨x, 0⟩ :: cur.drop (posR cur x.node) := by
        rw [hat]
        unfold hasR at rw_h
        split
        · rename_i m hmm
          rw [hmm] at rw_h
          rw [if_neg (by simpa using rw_h)]
        · rfl
      have hlen : (cur.take (posR cur x.node) ++ (⟨x, 0⟩ : Rum) :: cur.drop (posR cur x.node)).length = cur.length + 1 := by simp; omega
      refine sg S (.lt (by omega) rfl rfl <| .z) fun a w S => wp_seq_k fun _ hK3 => st_then S (.t rfl) (wp_skip (then_normal (hK3 _ _ (wp_seq_k fun _ hK3 => wp_block (wp_seq_k fun _ hK4 => wp_region_lit (run S (.ix underlying29 sizeOf39 (by omega) rfl rfl <| .yy (ys_ldWA ⟨isAgg39, sizeOf39⟩ (.t rfl) (k := 3) rfl hx (fun _ => rfl)) rfl <| .z) fun a w S => st_m (op_alloc S zeroValue39 (cs := _) rfl rfl fun g1 a w S => st_m (op_stW S sizeOf39 (.t rfl) (.t rfl) (k := 0) rfl rfl rfl (by simp [Value.oneCell']) fun a w S => st_nil (then_normal (hK4 _ _ (wp_seq_k fun _ hK4 => st_quiet S (by kernel_rfl) (by kernel_rfl) fun a S => qrun S (.mv rfl <| .yy (ys_nilc (.t rfl)) rfl <| .fa underlying59 sizeOf57 1 rfl rfl rfl <| .ld gt57 1 rfl rfl rfl <| .la gt39 0 rfl rfl rfl <| .xx (ys_call call12 (.cons (.t rfl) (.cons (.t rfl) (.cons Ev.f .nil))) (fun hp w W => c12 _ _ _ _ _ _ (by exact Sl.of_own W (k := 3) rfl (fun _ => rfl)) (by assumption) (by assumption) (by assumption) (by assumption))) rfl <| .z) fun a S => ?_)))))))))))
      rw [rw_h] at S
      refine qrun S (.mv rfl <| .ex rfl rfl <| .ex rfl rfl <| .as rfl <| .as rfl <| .z) fun a S => ?_
      (refine q_nil ?_; intro w W; replace S := St.mk S W; clear W)
      refine then_normal (hK4 _ _ (wp_block (sg S (.mv rfl <| .nt rfl <| .as rfl <| .z) fun a w S => st_then S (.t rfl) (h_begin S (by kernel_rfl) [.blk g1 (.cells (Dot.enc x).toArray 39), .blk gf (.cells #[.pointer (some ⟨g, 0, none⟩)] 23), rowOf 39 3 Dot.enc (some ⟨gb, 0, none⟩) cb l] ?_))))
      clear S
      intro a w S
      refine hy 0 S rfl (ys_move (.t rfl)) rfl fun a w S => hy 1 S rfl (ys_move (.t rfl)) rfl fun a w S => hy 2 S rfl (ys_nilc (.t rfl)) rfl fun a w S => hy 3 S rfl (ys_fieldN (FieldT.mk underlying59 rfl sizeOf57 rfl) (.t rfl) (i' := 1) rfl) rfl fun a w S => hy 5 S rfl (ys_move (.t rfl)) rfl fun a w S => ?_
      refine hy 6 S rfl (ys_ldA ⟨isAgg39, sizeOf39⟩ (.t rfl) (k := 0) rfl rfl) rfl fun a w S => hy 7 S rfl (ys_bld (ps := [(0, Go.Operand.tmp 75)]) (us := [_, _, _, _]) bld63 (.cons (.t rfl) .nil) rfl) rfl fun a w S => ?_
      refine h_split (i := 4) (j := 8) (by kernel_rfl) rfl rfl ?_ ?_
      (refine op_y S (Yr.ys (ys_ld ⟨isAgg57, sizeOf57⟩ (.t rfl) (k := 1) rfl rfl)) rfl ?_; clear S a w; intro a w S; refine h_n1 S ?_)
      (refine h_m (i := 8) rfl (by kernel_rfl) (op_bslice1 S underlying57 inf63 rfl rfl rfl (.t rfl) rfl rfl rfl ?_); clear S a w; intro g2 a w S; refine h_n1 S ?_)
      rotate_left
      (refine op_bslice1 S underlying57 inf63 rfl rfl rfl (.t rfl) rfl rfl rfl ?_; clear S a w; intro g2 a w S; refine h_n1 S ?_)
      refine h_q (i := 4) S (by repeat (first | exact List.Sublist.refl _ | exact List.nil_sublist _ | refine .cons_cons _ ?_ | refine .cons _ ?_)) rfl (by kernel_rfl) (Yr.ys (ys_ld ⟨isAgg57, sizeOf57⟩ (.t rfl) (k := 2) rfl rfl)) rfl fun a w S => ?_
      rotate_left
      · replace S := S.pull 4 rfl
        refine h_m (i := 9) rfl (by kernel_rfl) (op_callO S call14 (.cons (.t rfl) (.cons (.t rfl) (.cons (.t rfl) .nil))) (k14 (enc := Rum.enc) (x := (⟨x, 0⟩ : Rum)) Rum.enc_len Rum.enc_one S.wd rfl (posR cur x.node) hpl (by omega)) rfl ?_)
        clear S
        rintro _ _ ⟨A1, e1, rfl, rfl⟩ a w S
        refine h_n1 S ?_
        refine hy 10 S rfl (ys_nilc (.t rfl)) rfl fun a w S => hy 11 S rfl (ys_fieldN (FieldT.mk underlying59 rfl sizeOf57 rfl) (.t rfl) (i' := 1) rfl) rfl fun a w S => ?_
        (refine h_m0 (i := 12) rfl (by kernel_rfl) (op_st S sizeOf57 (.t rfl) (.t rfl) (k := 2) rfl rfl (by simp) ?_); clear S a w; intro a w S; refine h_n1 S ?_)
        refine h_done (by kernel_rfl) (in_normal (in_normal (then_normal (hK3 _ _ (wp_region_lit (run S (.ad (by unfold I64; omega) rfl <| .z) fun a w S => ?_))))))
        rw [rw_k] at S
        refine run S (.mv rfl <| .z) fun a w S => st_nil (then_normal ?_)
        exact ⟨(k + 1, A1, e1), by dsimp only; omega, by dsimp only; omega, by dsimp only; rw [hst, hat']; unfold boxK; rw [hlen]; exact S.pk⟩
      · replace S := S.pull 4 rfl
        refine h_m (i := 9) rfl (by kernel_rfl) (op_callO S call14 (.cons (.t rfl) (.cons (.t rfl) (.cons (.t rfl) .nil))) (k14 (enc := Rum.enc) (x := (⟨x, 0⟩ : Rum)) Rum.enc_len Rum.enc_one S.wd rfl (posR cur x.node) hpl (by omega)) rfl ?_)
        clear S
        rintro _ _ ⟨A1, e1, rfl, rfl⟩ a w S
        refine h_n1 S ?_
        refine hy 10 S rfl (ys_nilc (.t rfl)) rfl fun a w S => hy 11 S rfl (ys_fieldN (FieldT.mk underlying59 rfl sizeOf57 rfl) (.t rfl) (i' := 1) rfl) rfl fun a w S => ?_
        (refine h_m0 (i := 12) rfl (by kernel_rfl) (op_st S sizeOf57 (.t rfl) (.t rfl) (k := 2) rfl rfl (by simp) ?_); clear S a w; intro a w S; refine h_n1 S ?_)
        refine h_done (by kernel_rfl) (in_normal (in_normal (then_normal (hK3 _ _ (wp_region_lit (run S (.ad (by unfold I64; omega) rfl <| .z) fun a w S => ?_))))))
        rw [rw_k] at S
        refine run S (.mv rfl <| .z) fun a w S => st_nil (then_normal ?_)
        exact ⟨(k + 1, A1, e1), by dsimp only; omega, by dsimp only; omega, by dsimp only; rw [hst, hat']; unfold boxK; rw [hlen]; exact S.pk⟩
  obtain rfl : k = l.length := by omega
  rw [List.take_length] at S
  refine sg S (.ge (by omega) rfl rfl <| .z) fun a w S => wp_seq_k fun _ hK3 => st_else S (.t rfl) (wp_exit (then_exit (then_exit (in_here (then_normal (hK1 _ _ (sg S (.ac rfl <| .z) fun a w S => wp_ret (st_ret S (results1 S results5 (Rv.tmp rfl)) ?_))))))))
  exact ⟨_, _, rfl, S.wd.pk, .inl ⟨hm, rfl, A, cap, rfl⟩⟩
end Go.Proofs.Ytlkkdhdhbakciaa
set_option linter.unusedVariables false
set_option linter.unusedSimpArgs false
set_option maxRecDepth 100000
namespace Go.Fw
open Go.Proofs Go.RowKit Go.ChangeMaps
section
variable {P : Program} {n : Nat} {w0 : World} {K : KL} {L : List Chunk} {ty : TypeId} {pos : String} {aft : Array Edge} {gd : Option (Nat × Bool)} {a : Act} {w : World} {Z : Act → World → Prop} {Q : Exit → Act → World → Prop} {d : Nat} {dst : Option Tmp} {b : Bool}
variable {α β : Type} [DecidableEq α] {kv : α → Value} {vv : β → Value} {t : TypeId} {z : β}
set_option linter.unusedSectionVars false
theorem run_entry {g : Nat} {l : List (α × β)} {k : α} (T : MapT kv vv P t z) (hb : w.heap[g]? = some (mapK kv vv l)) :
    ∃ j : Nat, (∀ v, (aput l k ((aget l k).getD z)).set j (k, v) = aput l k v) ∧ (aput l k ((aget l k).getD z))[j]? = some (k, (aget l k).getD z) ∧
    (Instr.mapEntry t (.map (some g)) (kv k)).run P w = .ok (.tuple #[vv ((aget l k).getD z), .int .i64 (j : Int)]) (setBlock w g (mapK kv vv (aput l k ((aget l k).getD z)))) := by
  obtain ⟨kt, et, ht, hK, hz⟩ := T.ty
  have hf := hK.find k β vv l w
  have hg := afind_get l k 0
  have hset : ∀ o, (setObj g o).run P w = .ok () (setBlock w g o) := fun o => MapKept.run_setObj_map o hb
  cases h : afind k 0 l with
  | none =>
    rw [h] at hg hf
    simp only [Option.map_none] at hg hf
    have hu : (aget l k).getD z = z := by rw [← hg]; rfl
    rw [hu]
    refine ⟨l.length, fun v => ?_, ?_, ?_⟩
    · rw [aput_none h, aput_none h, List.set_append_right _ _ (Nat.le_refl _), Nat.sub_self, List.set_cons_zero]
    · rw [aput_none h]; simp
    · simp only [Instr.mapEntry, Sem.run_bind, run_underlying ht, Result.andThen_ok, MapKept.run_getObj_map hb, hK.check, hf, hz, hset, Sem.run_pure]
      simp only [aput_none h, mapK, mL_app, List.length_append, List.length_singleton, Nat.zero_add, goInt]
      simp
  | some p =>
    obtain ⟨j, u⟩ := p
    rw [h] at hg hf
    simp only [Option.map_some] at hg hf
    have hu : (aget l k).getD z = u := by rw [← hg]; rfl
    rw [hu]
    have h1 := afind_some h
    simp only [Nat.sub_zero] at h1
    have hj : j < l.length := (List.getElem?_eq_some_iff.1 h1.2).1
    have he : (mL kv vv 0 l)[j]? = some ⟨kv k, vv u, j⟩ := by rw [mL_get, h1.2]; simp
    have hsame : l.set j (k, u) = l := by
      obtain ⟨h2, h3⟩ := List.getElem?_eq_some_iff.1 h1.2
      rw [← h3]; exact List.set_getElem_self h2
    refine ⟨j, fun v => ?_, ?_, ?_⟩
    · rw [aput_some h, aput_some h, Nat.sub_zero, List.set_set]
    · rw [aput_some h, Nat.sub_zero, List.getElem?_set_self hj]
    · simp only [Instr.mapEntry, Instr.keyThatStays, Sem.run_bind, run_underlying ht, Result.andThen_ok, MapKept.run_getObj_map hb, hK.check, hf, List.getElem?_toArray, he, Option.map_some, Option.getD_some, hK.same, if_true, Sem.run_pure, hset]
      rw [aput_some h, Nat.sub_zero, hsame]
      congr 2
      simp only [mapK]
      congr 1
      apply Array.toList_inj.1
      rw [Array.toList_modify]
      apply List.ext_getElem?
      intro i
      rw [List.getElem?_modify]
      by_cases e : j = i
      · subst e; simp [he]
      · simp [e]
theorem run_estore {g j : Nat} {l : List (α × β)} {k : α} {u v : β} (hb : w.heap[g]? = some (mapK kv vv l)) (hj : l[j]? = some (k, u)) :
    (Instr.entryStore t (.map (some g)) (.int .i64 (j : Int)) (vv v)).run P w = .ok () (setBlock w g (mapK kv vv (l.set j (k, v)))) := by
  have hset : ∀ o, (setObj g o).run P w = .ok () (setBlock w g o) := fun o => MapKept.run_setObj_map o hb
  have hjl : j < l.length := (List.getElem?_eq_some_iff.1 hj).1
  have he : (mL kv vv 0 l)[j]? = some ⟨kv k, vv u, j⟩ := by rw [mL_get, hj]; simp
  have hfi : (mL kv vv 0 l).toArray.findIdx? (fun e => (e.born : Int) == (j : Int)) = some j := by
    rw [List.findIdx?_toArray, List.findIdx?_eq_some_iff_getElem]
    have hl : j < (mL kv vv 0 l).length := by rw [mL_len]; exact hjl
    refine ⟨hl, ?_, fun i hi => ?_⟩
    · rw [List.getElem?_eq_getElem hl] at he
      rw [Option.some.inj he]; simp
    · have := mL_get (kv := kv) (vv := vv) l 0 i
      rw [List.getElem?_eq_getElem (by omega), List.getElem?_eq_getElem (by omega)] at this
      rw [Option.some.inj this]
      simp; omega
  have hai : (asIntOf (.int .i64 (j : Int))).run P w = .ok (.i64, (j : Int)) w := rfl
  simp only [Instr.entryStore, Sem.run_bind, MapKept.run_getObj_map hb, Result.andThen_ok, asInt, Sem.run_pure, hai, hfi, hset]
  congr 2
  simp only [mapK, List.length_set]
  congr 1
  rw [mL_set _ _ _ _ _ _ _ hjl]
  apply Array.toList_inj.1
  rw [Array.toList_modify]
  apply List.ext_getElem?
  intro i
  rw [List.getElem?_modify, List.getElem?_set]
  by_cases e : j = i
  · subst e
    have hl : j < (mL kv vv 0 l).length := by rw [mL_len]; exact hjl
    simp only [if_true, if_pos hl, he]
    simp
  · simp [e]
theorem op_mapEntry {i g : Nat} {l : List (α × β)} {k : α} {x y : Operand} (S : St n w0 K L a w) (T : MapT kv vv P t z) (hx : Ev n true K x (.map (some g))) (hy : Ev n true K y (kv k)) (hk : L[i]? = some (.blk g (mapK kv vv l))) (hd : Nat.blt d n = true)
    (next : ∀ j : Nat, (∀ v, (aput l k ((aget l k).getD z)).set j (k, v) = aput l k v) → (aput l k ((aget l k).getD z))[j]? = some (k, (aget l k).getD z) → ∀ a w, St n w0 ((d, true, .tuple #[vv ((aget l k).getD z), .int .i64 (j : Int)]) :: K) (L.set i (.blk g (mapK kv vv (aput l k ((aget l k).getD z))))) a w → Z a w) :
    Oper.wp P ⟨some d, .mapEntry t x y, ty, pos, aft, gd⟩ a w Z Q := by
  obtain ⟨j, h1, h2, h3⟩ := run_entry (k := k) T (S.wd.get hk).2
  refine run_wp (v := .tuple #[vv ((aget l k).getD z), .int .i64 (j : Int)]) (w' := setBlock w g (mapK kv vv (aput l k ((aget l k).getD z)))) ?_ (next j h1 h2 _ _ ⟨S.kn.put hd _, S.wd.setBlk hk⟩)
  simp only [execOp, hx a rfl S.kn, hy a rfl S.kn]
  simp [h3]
theorem op_entrySt {i j g : Nat} {l : List (α × β)} {k : α} {u v : β} {x y e : Operand} (S : St n w0 K L a w) (hx : Ev n true K x (.map (some g))) (hy : Ev n true K y (.int .i64 (j : Int))) (he : Ev n true K e (vv v)) (hk : L[i]? = some (.blk g (mapK kv vv l))) (hj : l[j]? = some (k, u))
    (next : ∀ a w, St n w0 K (L.set i (.blk g (mapK kv vv (l.set j (k, v))))) a w → Z a w) :
    Oper.wp P ⟨none, .entryStore t x y e, ty, pos, aft, gd⟩ a w Z Q := by
  have h := run_estore (P := P) (t := t) (v := v) (S.wd.get hk).2 hj
  refine run_wp0 (w' := setBlock w g (mapK kv vv (l.set j (k, v)))) ?_ (next _ _ ⟨S.kn, S.wd.setBlk hk⟩)
  simp only [execOp, hx a rfl S.kn, hy a rfl S.kn, he a rfl S.kn]
  simp [h]
end
end Go.Fw
set_option linter.unusedVariables false
set_option linter.unusedSimpArgs false
set_option maxRecDepth 100000
set_option maxHeartbeats 4000000
namespace Go.Proofs.Ytlkkdhdhbakciaa
open Go.Fw Go.Proofs Go.RowKit Go.Proofs.Try
abbrev kvP : Dot → Value := fun d => .agg #[.int .i64 d.node, .int .i64 d.life, .int .i64 d.count]
theorem kvP_inj {a b : Dot} (h : kvP a = kvP b) : a = b := by
  cases a; cases b; simp [kvP] at h; simp [h]
theorem run_eqP (a b : Dot) (w : World) : (Op.equal 39 (kvP a) (kvP b)).run Try.prog w = .ok (decide (a = b)) w := by
  have h := eq39 (x0 := a.node) (y0 := b.node) (x1 := a.life) (y1 := b.life) (x2 := a.count) (y2 := b.count)
  have e : decide (a.node = b.node ∧ a.life = b.life ∧ a.count = b.count) = decide (a = b) := decide_eq_decide.2 (by cases a; cases b; simp)
  rw [e] at h
  exact (h w).2
theorem ask_dot (k : Dot) (β : Type) (vv : β → Value) (w : World) : ∀ (l : List (Dot × β)) (i : Nat), (Instr.findAsking 39 (kvP k) (mL kvP vv i l) i).run Try.prog w = .ok ((afind k i l).map fun p => (p.1, vv p.2)) w
  | [], i => by simp [mL, Instr.findAsking, afind]
  | (x, v) :: r, i => by
    simp only [mL, Instr.findAsking, Sem.run_bind, run_eqP, Result.andThen_ok, afind]
    by_cases e : k = x
    · subst e
      simp
    · rw [if_neg e, decide_eq_false e]
      simpa using ask_dot k β vv w r (i + 1)
theorem keyP : KeyL kvP Try.prog 39 := by
  refine ⟨fun k β vv l w => ?_, fun b k w => ?_, fun k => ?_, fun k k' e => kvP_inj e⟩
  · have h := ask_dot k β vv w l 0
    cases l with
    | nil => simp [Instr.findKey, run_underlying underlying39, mL, Instr.findNow, afind]
    | cons p r => simp [Instr.findKey, run_underlying underlying39, mL, Instr.findNow, Instr.sameNow] at h ⊢; exact h
  · have hI : ∀ (n : Nat) (i : Int), (Instr.checkKey b (n + 1) 3 (.int .i64 i)).run Try.prog w = .ok () w := fun n i => by
      simp only [Instr.checkKey, Sem.run_bind, run_underlying underlying3, Result.andThen_ok]
      rfl
    have hc : (Instr.checkKey b (9998 + 1 + 1) 39 (kvP k)).run Try.prog w = .ok () w := by
      rw [Instr.checkKey]
      simp only [Sem.run_bind, run_underlying underlying39, Result.andThen_ok, kvP]
      simp [part, isAgg3, hI]
    exact hc
  · have : Instr.sameBits (9999 + 1) (kvP k) (kvP k) = true := by simp [kvP, Instr.sameBits]
    exact this
end Go.Proofs.Ytlkkdhdhbakciaa
set_option linter.unusedVariables false
set_option linter.unusedSimpArgs false
set_option maxRecDepth 100000
set_option maxHeartbeats 4000000
namespace Go.Fw
structure SDo where
  op : Int
  now : Int
  pa : Option Addr
  pc : Nat
  peers : List Dot
  oa : Option Addr
  on : Nat
  oc : Nat
  r1 : Int
  r2 : Int
  r3 : Int
  ma : Option Addr
  mn : Nat
  mc : Nat
abbrev SDo.enc (x : SDo) : List Value := [.int .i64 x.op, .int .i64 x.now, .slice x.pa x.peers.length x.pc, .slice x.oa x.on x.oc, .int .i64 x.r1, .int .i64 x.r2, .int .i64 x.r3, .slice x.ma x.mn x.mc]
structure BoxS where
  rl : List Rum
  A : Option Addr
  cap : Nat
  told : Bool
  last : Int
  to : Int
  nw : List (Int × Dot)
  se : List (Dot × Int)
theorem SDo.enc_len (x : SDo) : (SDo.enc x).length = 8 := rfl
theorem SDo.enc_one (x : SDo) : ∀ u ∈ SDo.enc x, u.oneCell' = true := fun u hu => by simp [SDo.enc] at hu; rcases hu with rfl | rfl | rfl | rfl | rfl | rfl | rfl | rfl <;> rfl
end Go.Fw
namespace Go.Proofs.Ytlkkdhdhbakciaa
open Go.Fw Go.Proofs Go.RowKit Go.Proofs.Try
theorem ints_lit {w0 w : World} {L : List Chunk} {k g : Nat} {e : TypeId} {l : List Int} (W : Wd w0 L w) (hk : L[k]? = some (.blk g (.cells (l.map fun i => Value.int .i64 i).toArray e))) (hl : l.length ≤ 9223372036854775807) : Sl encI 1 w w.heap.size (.slice (some ⟨g, 0, none⟩) l.length l.length) l := by
  have h := W.get hk
  refine ⟨_, _, rfl, Nat.le_refl _, hl, fun _ => ⟨g, 0, rfl, (Array.getElem?_eq_some_iff.1 h.2).1, fun i x hi j u hu => ?_⟩⟩
  have hj : j = 0 := by
    have := (List.getElem?_eq_some_iff.1 hu).1
    simp [encI] at this; exact this
  subst hj
  have hu' : u = .int .i64 x := by simpa [encI] using hu.symm
  subst hu'
  rw [cell_of_row w g _ _ e (0, 0) h.2]
  obtain ⟨h1, rfl⟩ := List.getElem?_eq_some_iff.1 hi
  simp [h1]
theorem tick_ok {told : Bool} {last : Int} {i : Nat} (hi : i ≤ 1048576) (h : told = true → 0 ≤ last ∧ last ≤ 100 * (i : Int)) : tickD told last (100 * ((i + 1 : Nat) : Int)) = false := by
  unfold tickD
  cases told with
  | false => simp; omega
  | true =>
    obtain ⟨h1, h2⟩ := h rfl
    have e : IntKind.i64.wrap (100 * ((i + 1 : Nat) : Int) - last) = 100 * ((i + 1 : Nat) : Int) - last := by
      rw [IntKind.wrap_i64]; omega
    rw [e]
    simp; omega
theorem next_123 (told : Bool) (to : Int) : (nextL 0 told to [1, 2, 3]).2 = true := by
  have h := lowL_spec 0 [1, 2, 3]
  unfold nextL
  split
  · rfl
  · rcases h with ⟨_, h⟩ | ⟨h, _⟩
    · have := h 1 (by simp)
      simp [okN] at this
    · simp [h]
theorem next_1 (told : Bool) (to : Int) : (nextL 0 told to [1]).2 = true := by
  have h := lowL_spec 0 [1]
  unfold nextL
  split
  · rfl
  · rcases h with ⟨_, h⟩ | ⟨h, _⟩
    · have := h 1 (by simp)
      simp [okN] at this
    · simp [h]
abbrev kv28 : Int → Value := fun x => .int .i64 x
abbrev vv28 : Dot → Value := fun d => .agg #[.int .i64 d.node, .int .i64 d.life, .int .i64 d.count]
theorem mapT28 : MapT kv28 vv28 Try.prog 28 ⟨0, 0, 0⟩ := mapT_mk underlying28 (keyI underlying3) zeroValue39
abbrev kv27 : Dot → Value := fun d => .agg #[.int .i64 d.node, .int .i64 d.life, .int .i64 d.count]
abbrev vv27 : Int → Value := fun x => .int .i64 x
theorem mapT27 : MapT kv27 vv27 Try.prog 27 0 := mapT_mk underlying27 keyP zeroValue3
theorem c3 (w0 : World) (v : Value) (l : List SDo) (h : Sl SDo.enc 8 w0 w0.heap.size v l) (hx : ∀ x ∈ l, Sl Dot.enc 3 w0 w0.heap.size (.slice x.pa x.peers.length x.pc) x.peers) (hl : l.length ≤ 1048576) (hp : ∀ x ∈ l, x.peers.length ≤ 1048576) :
    Calls Try.prog 3 #[v] w0 fun e w' => e = .returned (.bool true) ∧ Bel w0.heap.size w0 w' := by
  obtain ⟨B, cB, rfl, hlc, hcap, hA⟩ := h
  have h0 : (0 : Int) ≤ 0 ∧ (0 : Int) < 8 := by omega
  refine enter1 func3 rfl ntmps3 rfl fun a S => sg S (.ac rfl <| .z) fun a w S => wp_seq_k fun _ hK1 => wp_region_lit ?_
  (refine st_m (op_calls S call4 (.cons Ev.c .nil) (c4 _ _ (by assumption)) rfl ?_); clear S a w; rintro _ _ ⟨g1, gf1, rfl, rfl⟩ a w S)
  refine run S (.mv rfl <| .ex rfl rfl <| .ex rfl rfl <| .as rfl <| .as rfl <| .z) fun a w S => st_nil (then_normal (hK1 _ _ (wp_seq_k fun _ hK1 => sg S (.mv rfl <| .yy (ys_F (by omega) (ys_neq (.t rfl) Ev.c)) rfl <| .mv rfl <| .gy rfl rfl (ys_move (.t rfl)) <| .gy rfl rfl (ys_pNilS underlying23 (.t rfl) Ev.c) <| .yy (ys_pickF (.t rfl) (.t rfl)) rfl <| .z) fun a w S => st_else S (.t rfl) (wp_skip (then_normal (hK1 _ _ (wp_seq_k fun _ hK1 => wp_region_lit (st_m (op_makeMap kv27 vv27 S rfl fun g2 a w S => run S (.as rfl <| .z) fun a w S => st_nil (then_normal (hK1 _ _ (wp_seq_k fun _ hK1 => wp_region_lit (st_m (op_makeMap kv28 vv28 S rfl fun g3 a w S => run S (.as rfl <| .z) fun a w S => st_nil (then_normal (hK1 _ _ (wp_seq_k fun _ hK1 => sg S (.mv rfl <| .ln underlying22 rfl <| .mc rfl <| .z) fun a w S => wp_block ?_)))))))))))))))))
  refine st_lpM S [2, 31] (X := Nat × BoxS) (fun q => [(31, true, .int .i64 (q.1 : Int)), (2, true, .bool false)]) (fun q => boxK g1 gf1 0 q.2.A q.2.cap q.2.rl q.2.told q.2.last q.2.to [.blk g3 (mapK kv28 vv28 q.2.nw), .blk g2 (mapK kv27 vv27 q.2.se)])
    (fun q => q.1 ≤ l.length ∧ GInv q.2.rl q.2.nw q.2.se ∧ (q.2.told = true → 0 ≤ q.2.last ∧ q.2.last ≤ 100 * (q.1 : Int))) (fun q => l.length - q.1) (0, ⟨[], none, 0, false, 0, 0, [], []⟩) ⟨Nat.zero_le _, ginv_nil, fun h => by cases h⟩ ?_
  clear S
  rintro ⟨i, ⟨rl, A, cap, told, last, to, nw, se⟩⟩ a w ⟨hi, hG, hT⟩ S
  dsimp only at hi hG hT S
  have rw_i : 100 * ((i : Int) + 1) = 100 * ((i + 1 : Nat) : Int) := rfl
  have rw_i1 : (i : Int) + 1 = ((i + 1 : Nat) : Int) := rfl
  have hrl := hG.len
  have htk := tick_ok (i := i) (by omega) hT
  have hn3 := next_123 told to
  have hn1 := next_1 told to
  have hsb : ∀ x ∈ rl, 0 ≤ x.sent ∧ x.sent ≤ 1000 := fun x hx => by have := hG.sent x hx; omega
  by_cases hlt : i < l.length
  · obtain ⟨gb, ob, x, rfl, hxx, hd, hcx⟩ := row_at hA hlt
    have hxr := hx x (List.mem_of_getElem? hxx)
    have hxp := hp x (List.mem_of_getElem? hxx)
    obtain ⟨op, now, pa, pc, peers, oa, on, oc, r1, r2, r3, ma, mn, mc⟩ := x
    dsimp only at hxr hxp
    obtain ⟨_, _, hpe, _, _, hAp⟩ := id hxr
    simp only [Value.slice.injEq, true_and] at hpe
    obtain ⟨rfl, rfl⟩ := hpe
    by_cases hop : op.tmod 2 = 0
    · have rw_op := hop
      refine sg S (.lt (by omega) rfl rfl <| .z) fun a w S => wp_seq_k fun _ hK2 => st_then S (.t rfl) (wp_skip (then_normal (hK2 _ _ (wp_seq_k fun _ hK2 => wp_block (wp_seq_k fun _ hK3 => wp_region_lit (run S (.mv rfl <| .ix underlying22 sizeOf35 (by omega) rfl rfl <| .yy (ys_ldOA ⟨isAgg35, sizeOf35⟩ (.t rfl) (vs := [_, _, _, _, _, _, _, _]) rfl (fun _ => hcx)) rfl <| .z) fun a w S => st_m (op_alloc S zeroValue35 (cs := _) rfl rfl fun g4 a w S => run S (.as rfl <| .z) fun a w S => st_m (op_stW S sizeOf35 (.t rfl) (.t rfl) (k := 0) rfl rfl rfl (by simp [Value.oneCell']) fun a w S => st_nil (then_normal (hK3 _ _ (wp_seq_k fun _ hK3 => wp_seq_k fun _ hK4 => wp_region_lit (run S (.fa underlying35 sizeOf3 0 rfl rfl rfl <| .ld gt3 0 rfl rfl rfl <| .yy (ys_rem (.t rfl) Ev.c (fun _ => by omega)) rfl <| .z) fun a w S => ?_))))))))))))
      rw [rw_op] at S
      refine run S (.yy (ys_T (by omega) (ys_eql (.t rfl) Ev.c)) rfl <| .z) fun a w S => st_nil (then_normal (hK4 _ _ (st_then S (.t rfl) (wp_seq_k fun _ hK4 => wp_seq_k fun _ hK5 => wp_region_lit (run S (.mv rfl <| .fa underlying35 sizeOf29 2 rfl rfl rfl <| .ld gt29 0 rfl rfl rfl <| .z) fun a w S => ?_)))))
      (refine st_m (op_calls S call6 (.cons (.t rfl) .nil) (c6 _ _ _ (by exact .old S.wd (by assumption)) (by omega)) rfl ?_); clear S a w; rintro _ _ ⟨A1, c1, rfl, rfl⟩ a w S)
      simp only [List.nil_append] at S
      (replace S := S.pull 0 rfl; try simp only [List.set_cons_zero, List.set_cons_succ, List.eraseIdx_cons_succ, List.eraseIdx_cons_zero] at S; replace S := S.pull 4 rfl; try simp only [List.set_cons_zero, List.set_cons_succ, List.eraseIdx_cons_succ, List.eraseIdx_cons_zero] at S; replace S := S.pull 4 rfl; try simp only [List.set_cons_zero, List.set_cons_succ, List.eraseIdx_cons_succ, List.eraseIdx_cons_zero] at S; replace S := S.pull 4 rfl; try simp only [List.set_cons_zero, List.set_cons_succ, List.eraseIdx_cons_succ, List.eraseIdx_cons_zero] at S; refine st_m (op_callO S call5 (.cons (.t rfl) (.cons (.t rfl) .nil)) (c5 S.wd (by first | assumption | omega | (dsimp only; omega) | exact Sl.nil_ | exact .old S.wd (by assumption) | exact Sl.of_own S.wd (k := 0) rfl (fun _ => rfl) | exact Sl.of_own S.wd (k := 1) rfl (fun _ => rfl) | exact Sl.of_own S.wd (k := 2) rfl (fun _ => rfl) | exact Sl.of_own S.wd (k := 3) rfl (fun _ => rfl) | exact Sl.of_own S.wd (k := 4) rfl (fun _ => rfl) | exact Sl.of_own S.wd (k := 5) rfl (fun _ => rfl) | exact Sl.of_own S.wd (k := 6) rfl (fun _ => rfl) | (simp at *; omega)) (by first | assumption | omega | (dsimp only; omega) | exact Sl.nil_ | exact .old S.wd (by assumption) | exact Sl.of_own S.wd (k := 0) rfl (fun _ => rfl) | exact Sl.of_own S.wd (k := 1) rfl (fun _ => rfl) | exact Sl.of_own S.wd (k := 2) rfl (fun _ => rfl) | exact Sl.of_own S.wd (k := 3) rfl (fun _ => rfl) | exact Sl.of_own S.wd (k := 4) rfl (fun _ => rfl) | exact Sl.of_own S.wd (k := 5) rfl (fun _ => rfl) | exact Sl.of_own S.wd (k := 6) rfl (fun _ => rfl) | (simp at *; omega))) rfl ?_) <;> clear S a w)
      intro v L hR a w S
      rcases hR with ⟨hm, rfl, A', cap', rfl⟩ | ⟨hm, rfl, rfl⟩
      rotate_left
      · refine run S (.yy (ys_T (by omega) (ys_neq (.t rfl) Ev.c)) rfl <| .z) fun a w S => st_nil (then_normal (hK5 _ _ (st_then S (.t rfl) (wp_exit (then_exit (then_exit (in_here (then_normal (hK2 _ _ (wp_region_lit (run S (.ad (by unfold I64; omega) rfl <| .z) fun a w S => ?_)))))))))))
        rw [rw_i1] at S
        refine run S (.mv rfl <| .z) fun a w S => st_nil (then_normal ?_)
        exact ⟨(i + 1, ⟨rl, A, cap, told, last, to, nw, se⟩), ⟨by dsimp only; omega, hG, fun h => by have := hT h; dsimp only; omega⟩, by dsimp only; omega, S.pk⟩
      · refine run S (.yy (ys_F (by omega) (ys_neq (.t rfl) Ev.c)) rfl <| .z) fun a w S => st_nil (then_normal (hK5 _ _ (st_else S (.t rfl) (wp_skip (then_normal (hK4 _ _ (wp_seq_k fun _ hK4 => sg S (.fa underlying35 sizeOf29 2 rfl rfl rfl <| .ld gt29 4 rfl rfl rfl <| .ln underlying29 rfl <| .mc rfl <| .z) fun a w S => wp_block ?_)))))))
        have hGG := fun k => GInv.hears hG (l := peers.take k) fun p hp => hm p (List.mem_of_mem_take hp)
        refine st_lpM S [49] (X := Nat) (fun k => [(49, true, .int .i64 (k : Int))]) (fun k => boxK g1 gf1 0 A' cap' (peers.foldl hearR rl) told last to [.blk g3 (mapK kv28 vv28 ((peers.take k).foldl newF nw)), .blk g2 (mapK kv27 vv27 se)]) (fun k => k ≤ peers.length) (fun k => peers.length - k) 0 (Nat.zero_le _) ?_
        clear S
        intro k a w hk S
        by_cases hltk : k < peers.length
        · obtain ⟨gp, op', p, rfl, hpp, hpd, hpc⟩ := row_at hAp hltk
          have hmp := hm p (List.mem_of_getElem? hpp)
          have hst : (peers.take (k + 1)).foldl newF nw = newF ((peers.take k).foldl newF nw) p := by rw [List.take_add_one, hpp, List.foldl_append]; rfl
          generalize (peers.take k).foldl newF nw = m at S hst
          have rw_k : (k : Int) + 1 = ((k + 1 : Nat) : Int) := rfl
          have rw_m : mayP ⟨p.node, p.life, p.count⟩ = true := hmp
          cases hq : aget m p.node with
          | none =>
            have hnew : newF m p = aput m p.node p := by unfold newF; rw [hq]
            have rw_q := hq
            have rw_q1 : (none : Option Dot).isSome = false := rfl
            refine sg S (.lt (by omega) rfl rfl <| .z) fun a w S => wp_seq_k fun _ hK5 => st_then S (.t rfl) (wp_skip (then_normal (hK5 _ _ (wp_seq_k fun _ hK5 => wp_block (wp_seq_k fun _ hK6 => wp_region_lit (run S (.ix underlying29 sizeOf39 (by omega) rfl rfl <| .yy (ys_ldOA ⟨isAgg39, sizeOf39⟩ (.t rfl) (vs := [_, _, _]) rfl (fun _ => hpc)) rfl <| .z) fun a w S => st_m (op_alloc S zeroValue39 (cs := _) rfl rfl fun g5 a w S => st_m (op_stW S sizeOf39 (.t rfl) (.t rfl) (k := 0) rfl rfl rfl (by simp [Value.oneCell']) fun a w S => st_nil (then_normal (hK6 _ _ (wp_seq_k fun _ hK6 => wp_seq_k fun _ hK7 => wp_region_lit (run S (.la gt39 0 rfl rfl rfl <| .xx (ys_call call7 (.cons (.t rfl) .nil) (fun hp w W => c7 _ _ _ _)) rfl <| .z) fun a w S => ?_))))))))))))
            rw [rw_m] at S
            refine run S (.nt rfl <| .z) fun a w S => st_nil (then_normal (hK7 _ _ (st_else S (.t rfl) (wp_skip (then_normal (hK6 _ _ (wp_seq_k fun _ hK6 => wp_region_lit (run S (.mv rfl <| .fa underlying39 sizeOf3 0 rfl rfl rfl <| .ld gt3 0 rfl rfl rfl <| .yy (ys_lookOk mapT28 (.t rfl) (.t rfl) (j := 4) rfl) rfl <| .z) fun a w S => ?_))))))))
            rw [rw_q] at S
            rw [rw_q1] at S
            refine run S (.mv rfl <| .ex rfl rfl <| .ex rfl rfl <| .z) fun a w S => st_m (op_alloc S zeroValue39 (cs := _) rfl rfl fun g6 a w S => st_m (op_stW S sizeOf39 (.t rfl) (.t rfl) (k := 0) rfl rfl rfl (by simp [Value.oneCell']) fun a w S => run S (.as rfl <| .z) fun a w S => st_nil (then_normal (hK6 _ _ (sg S (.mv rfl <| .nt rfl <| .mv rfl <| .sk rfl rfl rfl <| .sk rfl rfl rfl <| .sk rfl rfl rfl <| .yy (ys_pickT (.t rfl) Ev.c) rfl <| .z) fun a w S => st_then S (.t rfl) (wp_region_lit (run S (.mv rfl <| .fa underlying39 sizeOf3 0 rfl rfl rfl <| .ld gt3 1 rfl rfl rfl <| .la gt39 1 rfl rfl rfl <| .z) fun a w S => st_m (op_mapUpd S mapT28 (.t rfl) (.t rfl) (.t rfl) (j := 5) rfl fun a w S => st_nil (in_normal (then_normal (hK5 _ _ (wp_region_lit (run S (.ad (by unfold I64; omega) rfl <| .z) fun a w S => ?_)))))))))))))
            rw [rw_k] at S
            refine run S (.mv rfl <| .z) fun a w S => st_nil (then_normal ?_)
            exact ⟨k + 1, by omega, by omega, by rw [hst, hnew]; exact S.pk⟩
          | some q =>
            have rw_q := hq
            have rw_q1 : (some q).isSome = true := rfl
            have rw_q2 : (some q).getD ⟨0, 0, 0⟩ = q := rfl
            by_cases hg : gtD p q = true
            · have hnew : newF m p = aput m p.node p := by unfold newF; rw [hq]; exact if_pos hg
              have rw_g : gtD ⟨p.node, p.life, p.count⟩ ⟨q.node, q.life, q.count⟩ = true := hg
              refine sg S (.lt (by omega) rfl rfl <| .z) fun a w S => wp_seq_k fun _ hK5 => st_then S (.t rfl) (wp_skip (then_normal (hK5 _ _ (wp_seq_k fun _ hK5 => wp_block (wp_seq_k fun _ hK6 => wp_region_lit (run S (.ix underlying29 sizeOf39 (by omega) rfl rfl <| .yy (ys_ldOA ⟨isAgg39, sizeOf39⟩ (.t rfl) (vs := [_, _, _]) rfl (fun _ => hpc)) rfl <| .z) fun a w S => st_m (op_alloc S zeroValue39 (cs := _) rfl rfl fun g5 a w S => st_m (op_stW S sizeOf39 (.t rfl) (.t rfl) (k := 0) rfl rfl rfl (by simp [Value.oneCell']) fun a w S => st_nil (then_normal (hK6 _ _ (wp_seq_k fun _ hK6 => wp_seq_k fun _ hK7 => wp_region_lit (run S (.la gt39 0 rfl rfl rfl <| .xx (ys_call call7 (.cons (.t rfl) .nil) (fun hp w W => c7 _ _ _ _)) rfl <| .z) fun a w S => ?_))))))))))))
              rw [rw_m] at S
              refine run S (.nt rfl <| .z) fun a w S => st_nil (then_normal (hK7 _ _ (st_else S (.t rfl) (wp_skip (then_normal (hK6 _ _ (wp_seq_k fun _ hK6 => wp_region_lit (run S (.mv rfl <| .fa underlying39 sizeOf3 0 rfl rfl rfl <| .ld gt3 0 rfl rfl rfl <| .yy (ys_lookOk mapT28 (.t rfl) (.t rfl) (j := 4) rfl) rfl <| .z) fun a w S => ?_))))))))
              rw [rw_q] at S
              rw [rw_q1] at S
              rw [rw_q2] at S
              refine run S (.mv rfl <| .ex rfl rfl <| .ex rfl rfl <| .z) fun a w S => st_m (op_alloc S zeroValue39 (cs := _) rfl rfl fun g6 a w S => st_m (op_stW S sizeOf39 (.t rfl) (.t rfl) (k := 0) rfl rfl rfl (by simp [Value.oneCell']) fun a w S => run S (.as rfl <| .z) fun a w S => st_nil (then_normal (hK6 _ _ (wp_seq_k fun _ hK6 => wp_region_lit (run S (.mv rfl <| .nt rfl <| .mv rfl <| .gy rfl rfl (ys_ldA ⟨isAgg39, sizeOf39⟩ (.t rfl) (k := 1) rfl rfl) <| .gy rfl rfl (ys_ldA ⟨isAgg39, sizeOf39⟩ (.t rfl) (k := 0) rfl rfl) <| .gx rfl rfl (ys_call call8 (.cons (.t rfl) (.cons (.t rfl) .nil)) (fun hp w W => c8 _ _ _ _ _ _ _)) <| .z) fun a w S => ?_))))))
              rw [rw_g] at S
              refine run S (.yy (ys_pickF (.t rfl) (.t rfl)) rfl <| .z) fun a w S => st_nil (then_normal (hK6 _ _ (st_then S (.t rfl) (wp_region_lit (run S (.mv rfl <| .fa underlying39 sizeOf3 0 rfl rfl rfl <| .ld gt3 1 rfl rfl rfl <| .la gt39 1 rfl rfl rfl <| .z) fun a w S => st_m (op_mapUpd S mapT28 (.t rfl) (.t rfl) (.t rfl) (j := 5) rfl fun a w S => st_nil (in_normal (then_normal (hK5 _ _ (wp_region_lit (run S (.ad (by unfold I64; omega) rfl <| .z) fun a w S => ?_)))))))))))
              rw [rw_k] at S
              refine run S (.mv rfl <| .z) fun a w S => st_nil (then_normal ?_)
              exact ⟨k + 1, by omega, by omega, by rw [hst, hnew]; exact S.pk⟩
            · have hnew : newF m p = m := by unfold newF; rw [hq]; exact if_neg hg
              have rw_g : gtD ⟨p.node, p.life, p.count⟩ ⟨q.node, q.life, q.count⟩ = false := by simpa using hg
              refine sg S (.lt (by omega) rfl rfl <| .z) fun a w S => wp_seq_k fun _ hK5 => st_then S (.t rfl) (wp_skip (then_normal (hK5 _ _ (wp_seq_k fun _ hK5 => wp_block (wp_seq_k fun _ hK6 => wp_region_lit (run S (.ix underlying29 sizeOf39 (by omega) rfl rfl <| .yy (ys_ldOA ⟨isAgg39, sizeOf39⟩ (.t rfl) (vs := [_, _, _]) rfl (fun _ => hpc)) rfl <| .z) fun a w S => st_m (op_alloc S zeroValue39 (cs := _) rfl rfl fun g5 a w S => st_m (op_stW S sizeOf39 (.t rfl) (.t rfl) (k := 0) rfl rfl rfl (by simp [Value.oneCell']) fun a w S => st_nil (then_normal (hK6 _ _ (wp_seq_k fun _ hK6 => wp_seq_k fun _ hK7 => wp_region_lit (run S (.la gt39 0 rfl rfl rfl <| .xx (ys_call call7 (.cons (.t rfl) .nil) (fun hp w W => c7 _ _ _ _)) rfl <| .z) fun a w S => ?_))))))))))))
              rw [rw_m] at S
              refine run S (.nt rfl <| .z) fun a w S => st_nil (then_normal (hK7 _ _ (st_else S (.t rfl) (wp_skip (then_normal (hK6 _ _ (wp_seq_k fun _ hK6 => wp_region_lit (run S (.mv rfl <| .fa underlying39 sizeOf3 0 rfl rfl rfl <| .ld gt3 0 rfl rfl rfl <| .yy (ys_lookOk mapT28 (.t rfl) (.t rfl) (j := 4) rfl) rfl <| .z) fun a w S => ?_))))))))
              rw [rw_q] at S
              rw [rw_q1] at S
              rw [rw_q2] at S
              refine run S (.mv rfl <| .ex rfl rfl <| .ex rfl rfl <| .z) fun a w S => st_m (op_alloc S zeroValue39 (cs := _) rfl rfl fun g6 a w S => st_m (op_stW S sizeOf39 (.t rfl) (.t rfl) (k := 0) rfl rfl rfl (by simp [Value.oneCell']) fun a w S => run S (.as rfl <| .z) fun a w S => st_nil (then_normal (hK6 _ _ (wp_seq_k fun _ hK6 => wp_region_lit (run S (.mv rfl <| .nt rfl <| .mv rfl <| .gy rfl rfl (ys_ldA ⟨isAgg39, sizeOf39⟩ (.t rfl) (k := 1) rfl rfl) <| .gy rfl rfl (ys_ldA ⟨isAgg39, sizeOf39⟩ (.t rfl) (k := 0) rfl rfl) <| .gx rfl rfl (ys_call call8 (.cons (.t rfl) (.cons (.t rfl) .nil)) (fun hp w W => c8 _ _ _ _ _ _ _)) <| .z) fun a w S => ?_))))))
              rw [rw_g] at S
              refine run S (.yy (ys_pickF (.t rfl) (.t rfl)) rfl <| .z) fun a w S => st_nil (then_normal (hK6 _ _ (st_else S (.t rfl) (wp_skip (in_normal (then_normal (hK5 _ _ (wp_region_lit (run S (.ad (by unfold I64; omega) rfl <| .z) fun a w S => ?_)))))))))
              rw [rw_k] at S
              refine run S (.mv rfl <| .z) fun a w S => st_nil (then_normal ?_)
              exact ⟨k + 1, by omega, by omega, by rw [hst, hnew]; exact S.pk⟩
        obtain rfl : k = peers.length := by omega
        have hGl := hGG peers.length
        rw [List.take_length] at S hGl
        refine sg S (.ge (by omega) rfl rfl <| .z) fun a w S => wp_seq_k fun _ hK5 => st_else S (.t rfl) (wp_exit (then_exit (then_exit (in_here (then_normal (hK4 _ _ (wp_exit (then_exit (in_here (then_normal (hK2 _ _ (wp_region_lit (run S (.ad (by unfold I64; omega) rfl <| .z) fun a w S => ?_)))))))))))))
        rw [rw_i1] at S
        refine run S (.mv rfl <| .z) fun a w S => st_nil (then_normal ?_)
        exact ⟨(i + 1, ⟨peers.foldl hearR rl, A', cap', told, last, to, peers.foldl newF nw, se⟩), ⟨by dsimp only; omega, hGl, fun h => by have := hT h; dsimp only; omega⟩, by dsimp only; omega, S.pk⟩
    · have rw_op : decide (op.tmod 2 = 0) = false := decide_eq_false hop
      refine sg S (.lt (by omega) rfl rfl <| .z) fun a w S => wp_seq_k fun _ hK2 => st_then S (.t rfl) (wp_skip (then_normal (hK2 _ _ (wp_seq_k fun _ hK2 => wp_block (wp_seq_k fun _ hK3 => wp_region_lit (run S (.mv rfl <| .ix underlying22 sizeOf35 (by omega) rfl rfl <| .yy (ys_ldOA ⟨isAgg35, sizeOf35⟩ (.t rfl) (vs := [_, _, _, _, _, _, _, _]) rfl (fun _ => hcx)) rfl <| .z) fun a w S => st_m (op_alloc S zeroValue35 (cs := _) rfl rfl fun g4 a w S => run S (.as rfl <| .z) fun a w S => st_m (op_stW S sizeOf35 (.t rfl) (.t rfl) (k := 0) rfl rfl rfl (by simp [Value.oneCell']) fun a w S => st_nil (then_normal (hK3 _ _ (wp_seq_k fun _ hK3 => sg S (.fa underlying35 sizeOf3 0 rfl rfl rfl <| .ld gt3 0 rfl rfl rfl <| .yy (ys_rem (.t rfl) Ev.c (fun _ => by omega)) rfl <| .yy (ys_F (by omega) (ys_eql (.t rfl) Ev.c)) rfl <| .z) fun a w S => st_else S (.t rfl) (wp_skip (then_normal (hK3 _ _ (wp_seq_k fun _ hK3 => wp_region_lit (run S (.mv rfl <| .mv rfl <| .ad (by unfold I64; omega) rfl <| .z) fun a w S => ?_))))))))))))))))
      rw [rw_i1] at S
      refine run S (.yy (ys_mulI Ev.c (.t rfl) (fun _ => by unfold I64; omega)) rfl <| .yy (ys_bld (ps := []) (us := [_, _, _, _]) bld33 .nil rfl) rfl <| .z) fun a w S => st_m (op_bsliceZ (ps := [(0, _), (1, _), (2, _)]) (us := [_, _, _]) S underlying30 sizeOf3 zeroValue3 rfl rfl (.cons Ev.c (.cons Ev.c (.cons Ev.c .nil))) rfl rfl fun g5 a w S => ?_)
      (replace S := S.pull 4 rfl; try simp only [List.set_cons_zero, List.set_cons_succ, List.eraseIdx_cons_succ, List.eraseIdx_cons_zero] at S; replace S := S.pull 4 rfl; try simp only [List.set_cons_zero, List.set_cons_succ, List.eraseIdx_cons_succ, List.eraseIdx_cons_zero] at S; replace S := S.pull 4 rfl; try simp only [List.set_cons_zero, List.set_cons_succ, List.eraseIdx_cons_succ, List.eraseIdx_cons_zero] at S; refine st_m (op_callO S call9 (.cons (.t rfl) (.cons (.t rfl) (.cons (.t rfl) (.cons (.t rfl) .nil)))) (c9 S.wd (by first | assumption | omega | (dsimp only; omega) | exact Sl.nil_ | exact .old S.wd (by assumption) | exact Sl.of_own S.wd (k := 0) rfl (fun _ => rfl) | exact Sl.of_own S.wd (k := 1) rfl (fun _ => rfl) | exact Sl.of_own S.wd (k := 2) rfl (fun _ => rfl) | exact Sl.of_own S.wd (k := 3) rfl (fun _ => rfl) | exact Sl.of_own S.wd (k := 4) rfl (fun _ => rfl) | exact Sl.of_own S.wd (k := 5) rfl (fun _ => rfl) | exact Sl.of_own S.wd (k := 6) rfl (fun _ => rfl) | (intro _ W'; first | exact .old W' (by assumption) | exact Sl.of_own W' (k := 0) rfl (fun _ => rfl) | exact Sl.of_own W' (k := 1) rfl (fun _ => rfl) | exact Sl.of_own W' (k := 2) rfl (fun _ => rfl) | exact Sl.of_own W' (k := 3) rfl (fun _ => rfl) | exact Sl.of_own W' (k := 4) rfl (fun _ => rfl) | exact Sl.of_own W' (k := 5) rfl (fun _ => rfl) | exact Sl.of_own W' (k := 6) rfl (fun _ => rfl)) | (simp at *; omega)) (by first | assumption | omega | (dsimp only; omega) | exact Sl.nil_ | exact .old S.wd (by assumption) | exact Sl.of_own S.wd (k := 0) rfl (fun _ => rfl) | exact Sl.of_own S.wd (k := 1) rfl (fun _ => rfl) | exact Sl.of_own S.wd (k := 2) rfl (fun _ => rfl) | exact Sl.of_own S.wd (k := 3) rfl (fun _ => rfl) | exact Sl.of_own S.wd (k := 4) rfl (fun _ => rfl) | exact Sl.of_own S.wd (k := 5) rfl (fun _ => rfl) | exact Sl.of_own S.wd (k := 6) rfl (fun _ => rfl) | (simp at *; omega)) (by first | assumption | omega | (dsimp only; omega) | exact Sl.nil_ | exact .old S.wd (by assumption) | exact Sl.of_own S.wd (k := 0) rfl (fun _ => rfl) | exact Sl.of_own S.wd (k := 1) rfl (fun _ => rfl) | exact Sl.of_own S.wd (k := 2) rfl (fun _ => rfl) | exact Sl.of_own S.wd (k := 3) rfl (fun _ => rfl) | exact Sl.of_own S.wd (k := 4) rfl (fun _ => rfl) | exact Sl.of_own S.wd (k := 5) rfl (fun _ => rfl) | exact Sl.of_own S.wd (k := 6) rfl (fun _ => rfl) | (simp at *; omega)) (by first | assumption | omega | (dsimp only; omega) | exact Sl.nil_ | exact .old S.wd (by assumption) | exact Sl.of_own S.wd (k := 0) rfl (fun _ => rfl) | exact Sl.of_own S.wd (k := 1) rfl (fun _ => rfl) | exact Sl.of_own S.wd (k := 2) rfl (fun _ => rfl) | exact Sl.of_own S.wd (k := 3) rfl (fun _ => rfl) | exact Sl.of_own S.wd (k := 4) rfl (fun _ => rfl) | exact Sl.of_own S.wd (k := 5) rfl (fun _ => rfl) | exact Sl.of_own S.wd (k := 6) rfl (fun _ => rfl) | (simp at *; omega)) (by first | assumption | omega | (dsimp only; omega) | exact Sl.nil_ | exact .old S.wd (by assumption) | exact Sl.of_own S.wd (k := 0) rfl (fun _ => rfl) | exact Sl.of_own S.wd (k := 1) rfl (fun _ => rfl) | exact Sl.of_own S.wd (k := 2) rfl (fun _ => rfl) | exact Sl.of_own S.wd (k := 3) rfl (fun _ => rfl) | exact Sl.of_own S.wd (k := 4) rfl (fun _ => rfl) | exact Sl.of_own S.wd (k := 5) rfl (fun _ => rfl) | exact Sl.of_own S.wd (k := 6) rfl (fun _ => rfl) | (intro _ W'; first | exact .old W' (by assumption) | exact Sl.of_own W' (k := 0) rfl (fun _ => rfl) | exact Sl.of_own W' (k := 1) rfl (fun _ => rfl) | exact Sl.of_own W' (k := 2) rfl (fun _ => rfl) | exact Sl.of_own W' (k := 3) rfl (fun _ => rfl) | exact Sl.of_own W' (k := 4) rfl (fun _ => rfl) | exact Sl.of_own W' (k := 5) rfl (fun _ => rfl) | exact Sl.of_own W' (k := 6) rfl (fun _ => rfl)) | (simp at *; omega))) rfl ?_) <;> clear S a w)
      have W2 := S.wd.picks (L' := boxK g1 gf1 0 A cap rl told last to [.blk g5 (.cells #[.int .i64 1, .int .i64 2, .int .i64 3] 3), .blk g3 (mapK kv28 vv28 nw), .blk g2 (mapK kv27 vv27 se)]) (by repeat (first | exact Picks.nil | (refine Picks.rest ?_; (repeat (first | exact List.Sublist.refl _ | refine List.Sublist.cons_cons _ ?_ | refine List.Sublist.cons _ ?_)); done) | refine Picks.take 0 rfl ?_ | refine Picks.take 1 rfl ?_ | refine Picks.take 2 rfl ?_ | refine Picks.take 3 rfl ?_ | refine Picks.take 4 rfl ?_ | refine Picks.take 5 rfl ?_ | refine Picks.take 6 rfl ?_ | refine Picks.take 7 rfl ?_ | refine Picks.take 8 rfl ?_ | refine Picks.take 9 rfl ?_ | refine Picks.take 10 rfl ?_ | refine Picks.take 11 rfl ?_))
      replace S := St.mk S.kn W2
      refine st_m (op_callO S call9 (.cons (.t rfl) (.cons (.t rfl) (.cons (.t rfl) (.cons (.t rfl) .nil)))) (c9 (l := [1, 2, 3]) S.wd (fun w' W' => ints_lit (l := [1, 2, 3]) W' (k := 3) rfl (by decide)) htk hn3 hrl hsb) rfl ?_)
      clear S W2
      rintro _ _ ⟨gm, Bm, cm, rfl, rfl⟩ a w S
      refine run S (.ln underlying43 rfl <| .mc rfl <| .z) fun a w S => st_nil (then_normal (hK3 _ _ (wp_block (st_rounds 2 (st_round (sg S (.lt (by omega) rfl rfl <| .z) fun a w S => wp_seq_k fun _ hK3 => st_then S (.t rfl) (wp_skip (then_normal (hK3 _ _ (wp_seq_k fun _ hK3 => wp_block (wp_seq_k fun _ hK4 => wp_region_lit (run S (.yy (ys_ixS (j := 0) underlying43 sizeOf54 (.t rfl) (.t rfl) (fun _ => by omega)) rfl <| .la gt54 3 rfl rfl rfl <| .z) fun a w S => st_m (op_alloc S zeroValue54 (cs := _) rfl rfl fun g6 a w S => st_m (op_stW S sizeOf54 (.t rfl) (.t rfl) (k := 0) rfl rfl rfl (by simp [Value.oneCell']) fun a w S => st_nil (then_normal (hK4 _ _ (sg S (.fa underlying54 sizeOf29 15 rfl rfl rfl <| .ld gt29 0 rfl rfl rfl <| .ln underlying29 rfl <| .mc rfl <| .z) fun a w S => wp_block ?_)))))))))))))))))
      refine st_lpM S [90] (X := Nat) (fun k => [(90, true, .int .i64 (k : Int))]) (fun k => boxK g1 gf1 0 A cap (rl.map (bumpR (topR rl))) true (100 * ((i + 1 : Nat) : Int)) (nextL 0 told to [1, 2, 3]).1 [rowOf 39 3 Dot.enc Bm cm (topR rl), .blk g3 (mapK kv28 vv28 nw), .blk g2 (mapK kv27 vv27 (((topR rl).take k).foldl sentF se))]) (fun k => k ≤ (topR rl).length) (fun k => (topR rl).length - k) 0 (Nat.zero_le _) ?_
      clear S
      intro k a w hk S
      by_cases hltk : k < (topR rl).length
      · obtain ⟨gt, rfl⟩ := S.wd.row_at (k := 3) rfl (by have := (S.wd.room (k := 3) rfl).1; omega)
        obtain ⟨p, hpp⟩ : ∃ p, (topR rl)[k]? = some p := ⟨_, List.getElem?_eq_getElem hltk⟩
        have hto := hG.told hpp
        have hst : ((topR rl).take (k + 1)).foldl sentF se = sentF (((topR rl).take k).foldl sentF se) p := by rw [List.take_add_one, hpp, List.foldl_append]; rfl
        generalize ((topR rl).take k).foldl sentF se = m at S hst hto
        have rw_k : (k : Int) + 1 = ((k + 1 : Nat) : Int) := rfl
        obtain ⟨c, hc⟩ : ∃ c, (aget m p).getD 0 = c := ⟨_, rfl⟩
        rw [hc] at hto
        obtain ⟨q1, q2, q3⟩ := hto
        have hsf : sentF m p = aput m p (c + 1) := by unfold sentF; rw [hc]
        have rw_c : (aget m ⟨p.node, p.life, p.count⟩).getD 0 = c := hc
        have rw_c2 : (aget (sentF m p) ⟨p.node, p.life, p.count⟩).getD 0 = c + 1 := by rw [hsf]; show (aget (aput m p (c + 1)) p).getD 0 = c + 1; rw [aget_put, if_pos rfl]; rfl
        have rw_n := q3
        have rw_n1 : (some p).getD ⟨0, 0, 0⟩ = p := rfl
        have rw_e : (!decide (p.node = p.node ∧ p.life = p.life ∧ p.count = p.count)) = false := by simp
        have htl : (topR rl).length ≤ 4 := by unfold topR; rw [List.length_take]; omega
        refine sg S (.lt (by omega) rfl rfl <| .z) fun a w S => wp_seq_k fun _ hK4 => st_then S (.t rfl) (wp_skip (then_normal (hK4 _ _ (wp_seq_k fun _ hK4 => wp_block (wp_seq_k fun _ hK5 => wp_region_lit (run S (.ix underlying29 sizeOf39 (by omega) rfl rfl <| .yy (ys_ldWA ⟨isAgg39, sizeOf39⟩ (.t rfl) (k := 3) rfl hpp (fun _ => rfl)) rfl <| .z) fun a w S => st_m (op_alloc S zeroValue39 (cs := _) rfl rfl fun g7 a w S => st_m (op_stW S sizeOf39 (.t rfl) (.t rfl) (k := 0) rfl rfl rfl (by simp [Value.oneCell']) fun a w S => st_nil (then_normal (hK5 _ _ (wp_seq_k fun _ hK5 => h_beginE S (by kernel_rfl) 6 ?_)))))))))))
        clear S
        intro a w S
        refine hy 0 S rfl (ys_move (.t rfl)) rfl fun a w S => hy 1 S rfl (ys_ldA ⟨isAgg39, sizeOf39⟩ (.t rfl) (k := 0) rfl rfl) rfl fun a w S => ?_
        refine h_split (i := 2) (j := 4) (by kernel_rfl) rfl rfl ?_ ?_
        · refine op_y S (Yr.ys (ys_look (k := p) mapT27 (.t rfl) (.t rfl) (j := 6) rfl)) rfl ?_
          clear S
          intro a w S
          rw [hc] at S
          refine h_n1 S ?_
          refine hy 3 S rfl (ys_addI (.t rfl) Ev.c (fun _ => by unfold I64; omega)) rfl fun a w S => h_m (i := 4) rfl (by kernel_rfl) (op_mapEntry (k := p) S mapT27 (.t rfl) (.t rfl) (i := 6) rfl rfl ?_)
          clear S
          intro j hj1 hj2 a w S
          rw [hc] at S hj1 hj2
          refine h_n1 S ?_
          refine hy 5 S rfl (ys_ext (.t rfl) rfl) rfl fun a w S => h_m0 (i := 6) rfl (by kernel_rfl) (op_entrySt (k := p) (u := c) (v := c + 1) S (.t rfl) (.t rfl) (.t rfl) (i := 6) rfl hj2 ?_)
          clear S
          intro a w S
          rw [hj1, ← hsf] at S
          refine h_n1 S ?_
          refine h_done (by kernel_rfl) (then_normal (hK5 _ _ (wp_seq_k fun _ hK5 => wp_region_lit (run S (.mv rfl <| .la gt39 0 rfl rfl rfl <| .yy (ys_look mapT27 (.t rfl) (.t rfl) (j := 6) rfl) rfl <| .z) fun a w S => ?_))))
          rw [rw_c2] at S
          refine run S (.yy (ys_F (by omega) (ys_gtr (.t rfl) Ev.c)) rfl <| .mv rfl <| .gy rfl rfl (ys_move (.t rfl)) <| .gy rfl rfl (ys_fieldN (FieldT.mk underlying39 rfl sizeOf3 rfl) (.t rfl) (i' := 0) rfl) <| .gy rfl rfl (ys_ld ⟨isAgg3, sizeOf3⟩ (.t rfl) (k := 0) rfl rfl) <| .gy rfl rfl (ys_look mapT28 (.t rfl) (.t rfl) (j := 5) rfl) <| .z) fun a w S => ?_
          rw [rw_n] at S
          rw [rw_n1] at S
          refine run S (.gy rfl rfl (ys_ldA ⟨isAgg39, sizeOf39⟩ (.t rfl) (k := 0) rfl rfl) <| .gy rfl rfl (ys_neA (.t rfl) (.t rfl) eq39) <| .z) fun a w S => ?_
          rw [rw_e] at S
          refine run S (.yy (ys_pickF (.t rfl) (.t rfl)) rfl <| .z) fun a w S => st_nil (then_normal (hK5 _ _ (st_else S (.t rfl) (wp_skip (in_normal (then_normal (hK4 _ _ (wp_region_lit (run S (.ad (by unfold I64; omega) rfl <| .z) fun a w S => ?_)))))))))
          rw [rw_k] at S
          refine run S (.mv rfl <| .z) fun a w S => st_nil (then_normal ?_)
          exact ⟨k + 1, by omega, by omega, by rw [hst]; exact S.pk⟩
        · refine op_mapEntry (k := p) S mapT27 (.t rfl) (.t rfl) (i := 6) rfl rfl ?_
          clear S
          intro j hj1 hj2 a w S
          rw [hc] at S hj1 hj2
          refine h_n1 S ?_
          refine hy 5 S rfl (ys_ext (.t rfl) rfl) rfl fun a w S => h_m (i := 2) rfl (by kernel_rfl) (op_y S (Yr.ys (ys_look (k := p) mapT27 (.t rfl) (.t rfl) (j := 6) rfl)) rfl ?_)
          clear S
          intro a w S
          have hcc : (aget (aput m p c) p).getD 0 = c := by rw [aget_put, if_pos rfl]; rfl
          rw [hcc] at S
          refine h_n1 S ?_
          refine hy 3 S rfl (ys_addI (.t rfl) Ev.c (fun _ => by unfold I64; omega)) rfl fun a w S => h_m0 (i := 6) rfl (by kernel_rfl) (op_entrySt (k := p) (u := c) (v := c + 1) S (.t rfl) (.t rfl) (.t rfl) (i := 6) rfl hj2 ?_)
          clear S
          intro a w S
          rw [hj1, ← hsf] at S
          refine h_n1 S ?_
          refine h_done (by kernel_rfl) (then_normal (hK5 _ _ (wp_seq_k fun _ hK5 => wp_region_lit (run S (.mv rfl <| .la gt39 0 rfl rfl rfl <| .yy (ys_look mapT27 (.t rfl) (.t rfl) (j := 6) rfl) rfl <| .z) fun a w S => ?_))))
          rw [rw_c2] at S
          refine run S (.yy (ys_F (by omega) (ys_gtr (.t rfl) Ev.c)) rfl <| .mv rfl <| .gy rfl rfl (ys_move (.t rfl)) <| .gy rfl rfl (ys_fieldN (FieldT.mk underlying39 rfl sizeOf3 rfl) (.t rfl) (i' := 0) rfl) <| .gy rfl rfl (ys_ld ⟨isAgg3, sizeOf3⟩ (.t rfl) (k := 0) rfl rfl) <| .gy rfl rfl (ys_look mapT28 (.t rfl) (.t rfl) (j := 5) rfl) <| .z) fun a w S => ?_
          rw [rw_n] at S
          rw [rw_n1] at S
          refine run S (.gy rfl rfl (ys_ldA ⟨isAgg39, sizeOf39⟩ (.t rfl) (k := 0) rfl rfl) <| .gy rfl rfl (ys_neA (.t rfl) (.t rfl) eq39) <| .z) fun a w S => ?_
          rw [rw_e] at S
          refine run S (.yy (ys_pickF (.t rfl) (.t rfl)) rfl <| .z) fun a w S => st_nil (then_normal (hK5 _ _ (st_else S (.t rfl) (wp_skip (in_normal (then_normal (hK4 _ _ (wp_region_lit (run S (.ad (by unfold I64; omega) rfl <| .z) fun a w S => ?_)))))))))
          rw [rw_k] at S
          refine run S (.mv rfl <| .z) fun a w S => st_nil (then_normal ?_)
          exact ⟨k + 1, by omega, by omega, by rw [hst]; exact S.pk⟩
      obtain rfl : k = (topR rl).length := by omega
      rw [List.take_length] at S
      refine sg S (.ge (by omega) rfl rfl <| .z) fun a w S => wp_seq_k fun _ hK4 => st_else S (.t rfl) (wp_exit (then_exit (then_exit (in_here (in_normal (then_normal (hK3 _ _ (wp_region_lit (run S (.ad (by unfold I64; omega) rfl <| .mv rfl <| .z) fun a w S => st_nil (then_normal (st_round (sg S (.ge (by omega) rfl rfl <| .z) fun a w S => wp_seq_k fun _ hK3 => st_else S (.t rfl) (wp_exit (then_exit (then_exit (in_here (in_normal (then_normal (hK2 _ _ (wp_region_lit (run S (.ad (by unfold I64; omega) rfl <| .z) fun a w S => ?_)))))))))))))))))))))
      rw [rw_i1] at S
      refine run S (.mv rfl <| .z) fun a w S => st_nil (then_normal ?_)
      exact ⟨(i + 1, ⟨rl.map (bumpR (topR rl)), A, cap, true, 100 * ((i + 1 : Nat) : Int), (nextL 0 told to [1, 2, 3]).1, nw, (topR rl).foldl sentF se⟩), ⟨by dsimp only; omega, hG.tick, fun _ => by dsimp only; omega⟩, by dsimp only; omega, S.pk⟩
  obtain rfl : i = l.length := by omega
  refine sg S (.ge (by omega) rfl rfl <| .z) fun a w S => wp_seq_k fun _ hK2 => st_else S (.t rfl) (wp_exit (then_exit (then_exit (in_here (then_normal (hK1 _ _ (wp_seq_k fun _ hK1 => wp_region_lit (run S (.mv rfl <| .mv rfl <| .ln underlying22 rfl <| .ad (by unfold I64; omega) rfl <| .z) fun a w S => ?_))))))))
  rw [rw_i1] at S
  refine run S (.yy (ys_mulI Ev.c (.t rfl) (fun _ => by unfold I64; omega)) rfl <| .yy (ys_bld (ps := []) (us := [_, _, _, _]) bld33 .nil rfl) rfl <| .z) fun a w S => st_m (op_bslice1 S underlying30 inf3 rfl rfl rfl Ev.c rfl rfl rfl fun g4 a w S => ?_)
  (replace S := S.pull 3 rfl; try simp only [List.set_cons_zero, List.set_cons_succ, List.eraseIdx_cons_succ, List.eraseIdx_cons_zero] at S; replace S := S.pull 3 rfl; try simp only [List.set_cons_zero, List.set_cons_succ, List.eraseIdx_cons_succ, List.eraseIdx_cons_zero] at S; replace S := S.pull 3 rfl; try simp only [List.set_cons_zero, List.set_cons_succ, List.eraseIdx_cons_succ, List.eraseIdx_cons_zero] at S; refine st_m (op_callO S call9 (.cons (.t rfl) (.cons (.t rfl) (.cons (.t rfl) (.cons (.t rfl) .nil)))) (c9 S.wd (by first | assumption | omega | (dsimp only; omega) | exact Sl.nil_ | exact .old S.wd (by assumption) | exact Sl.of_own S.wd (k := 0) rfl (fun _ => rfl) | exact Sl.of_own S.wd (k := 1) rfl (fun _ => rfl) | exact Sl.of_own S.wd (k := 2) rfl (fun _ => rfl) | exact Sl.of_own S.wd (k := 3) rfl (fun _ => rfl) | exact Sl.of_own S.wd (k := 4) rfl (fun _ => rfl) | exact Sl.of_own S.wd (k := 5) rfl (fun _ => rfl) | (intro _ W'; first | exact .old W' (by assumption) | exact Sl.of_own W' (k := 0) rfl (fun _ => rfl) | exact Sl.of_own W' (k := 1) rfl (fun _ => rfl) | exact Sl.of_own W' (k := 2) rfl (fun _ => rfl) | exact Sl.of_own W' (k := 3) rfl (fun _ => rfl) | exact Sl.of_own W' (k := 4) rfl (fun _ => rfl) | exact Sl.of_own W' (k := 5) rfl (fun _ => rfl)) | (simp at *; omega)) (by first | assumption | omega | (dsimp only; omega) | exact Sl.nil_ | exact .old S.wd (by assumption) | exact Sl.of_own S.wd (k := 0) rfl (fun _ => rfl) | exact Sl.of_own S.wd (k := 1) rfl (fun _ => rfl) | exact Sl.of_own S.wd (k := 2) rfl (fun _ => rfl) | exact Sl.of_own S.wd (k := 3) rfl (fun _ => rfl) | exact Sl.of_own S.wd (k := 4) rfl (fun _ => rfl) | exact Sl.of_own S.wd (k := 5) rfl (fun _ => rfl) | (simp at *; omega)) (by first | assumption | omega | (dsimp only; omega) | exact Sl.nil_ | exact .old S.wd (by assumption) | exact Sl.of_own S.wd (k := 0) rfl (fun _ => rfl) | exact Sl.of_own S.wd (k := 1) rfl (fun _ => rfl) | exact Sl.of_own S.wd (k := 2) rfl (fun _ => rfl) | exact Sl.of_own S.wd (k := 3) rfl (fun _ => rfl) | exact Sl.of_own S.wd (k := 4) rfl (fun _ => rfl) | exact Sl.of_own S.wd (k := 5) rfl (fun _ => rfl) | (simp at *; omega)) (by first | assumption | omega | (dsimp only; omega) | exact Sl.nil_ | exact .old S.wd (by assumption) | exact Sl.of_own S.wd (k := 0) rfl (fun _ => rfl) | exact Sl.of_own S.wd (k := 1) rfl (fun _ => rfl) | exact Sl.of_own S.wd (k := 2) rfl (fun _ => rfl) | exact Sl.of_own S.wd (k := 3) rfl (fun _ => rfl) | exact Sl.of_own S.wd (k := 4) rfl (fun _ => rfl) | exact Sl.of_own S.wd (k := 5) rfl (fun _ => rfl) | (simp at *; omega)) (by first | assumption | omega | (dsimp only; omega) | exact Sl.nil_ | exact .old S.wd (by assumption) | exact Sl.of_own S.wd (k := 0) rfl (fun _ => rfl) | exact Sl.of_own S.wd (k := 1) rfl (fun _ => rfl) | exact Sl.of_own S.wd (k := 2) rfl (fun _ => rfl) | exact Sl.of_own S.wd (k := 3) rfl (fun _ => rfl) | exact Sl.of_own S.wd (k := 4) rfl (fun _ => rfl) | exact Sl.of_own S.wd (k := 5) rfl (fun _ => rfl) | (intro _ W'; first | exact .old W' (by assumption) | exact Sl.of_own W' (k := 0) rfl (fun _ => rfl) | exact Sl.of_own W' (k := 1) rfl (fun _ => rfl) | exact Sl.of_own W' (k := 2) rfl (fun _ => rfl) | exact Sl.of_own W' (k := 3) rfl (fun _ => rfl) | exact Sl.of_own W' (k := 4) rfl (fun _ => rfl) | exact Sl.of_own W' (k := 5) rfl (fun _ => rfl)) | (simp at *; omega))) rfl ?_) <;> clear S a w)
  have W2 := S.wd.picks (L' := boxK g1 gf1 0 A cap rl told last to [.blk g4 (.cells #[.int .i64 1] 3), .blk g3 (mapK kv28 vv28 nw), .blk g2 (mapK kv27 vv27 se)]) (by repeat (first | exact Picks.nil | (refine Picks.rest ?_; (repeat (first | exact List.Sublist.refl _ | refine List.Sublist.cons_cons _ ?_ | refine List.Sublist.cons _ ?_)); done) | refine Picks.take 0 rfl ?_ | refine Picks.take 1 rfl ?_ | refine Picks.take 2 rfl ?_ | refine Picks.take 3 rfl ?_ | refine Picks.take 4 rfl ?_ | refine Picks.take 5 rfl ?_ | refine Picks.take 6 rfl ?_ | refine Picks.take 7 rfl ?_ | refine Picks.take 8 rfl ?_ | refine Picks.take 9 rfl ?_ | refine Picks.take 10 rfl ?_ | refine Picks.take 11 rfl ?_))
  replace S := St.mk S.kn W2
  refine st_m (op_callO S call9 (.cons (.t rfl) (.cons (.t rfl) (.cons (.t rfl) (.cons (.t rfl) .nil)))) (c9 (l := [1]) S.wd (fun w' W' => ints_lit (l := [1]) W' (k := 3) rfl (by decide)) htk hn1 hrl hsb) rfl ?_)
  clear S W2
  rintro _ _ ⟨gm, Bm, cm, rfl, rfl⟩ a w S
  refine run S (.ln underlying43 rfl <| .yy (ys_T (by omega) (ys_eql (.t rfl) Ev.c)) rfl <| .as rfl <| .z) fun a w S => st_nil (then_normal (hK1 _ _ (wp_ret (st_ret S (results1 S results3 (Rv.tmp rfl)) ?_))))
  exact ⟨rfl, S.wd.below⟩
end Go.Proofs.Ytlkkdhdhbakciaa
set_option linter.unusedVariables false
set_option linter.unusedSimpArgs false
set_option maxRecDepth 100000
namespace Go.Proofs.Ytlkkdhdhbakciaa
open Go.Fw Go.Proofs Go.RowKit Go.ChangeShapes Go.WideShapes Go.ChangeAt Go.Deep Go.Joins Go.Proofs.Try
section
variable {H : Type} {enc : TypeId × Value → H} {w : World}
theorem rdInt : Rdr enc Try.prog w 3 fun cs _ => ∃ x : Int, cs = encI x ∧ True := (Rdr.int underlying3).mono fun cs b ⟨n, e, _⟩ => ⟨n, e, trivial⟩
theorem rdPeer : Rdr enc Try.prog w 39 fun cs _ => ∃ d : Dot, cs = Dot.enc d ∧ True := by
  refine (Rdr.struct underlying39 (by kernel_rfl) (.cons (Rdr.int underlying3) (.cons (Rdr.int underlying3) (.cons (Rdr.int underlying3) .nil)))).mono ?_
  rintro cs b ⟨_, _, rfl, ⟨_, _, x, rfl, _⟩, _, _, rfl, ⟨_, _, y, rfl, _⟩, _, _, rfl, ⟨_, _, z, rfl, _⟩, rfl⟩
  exact ⟨⟨x, y, z⟩, rfl, trivial⟩
theorem rdMember : Rdr enc Try.prog w 71 fun cs _ => ∃ d : Rum, cs = Rum.enc d ∧ True := by
  refine (Rdr.struct underlying71 (by kernel_rfl) (.cons (Rdr.int underlying3) (.cons (Rdr.int underlying3) (.cons (Rdr.int underlying3) (.cons (Rdr.int underlying3) .nil))))).mono ?_
  rintro cs b ⟨_, _, rfl, ⟨_, _, x, rfl, _⟩, _, _, rfl, ⟨_, _, y, rfl, _⟩, _, _, rfl, ⟨_, _, z, rfl, _⟩, _, _, rfl, ⟨_, _, u, rfl, _⟩, rfl⟩
  exact ⟨⟨⟨x, y, z⟩, u⟩, rfl, trivial⟩
theorem rdRing : Rdr enc Try.prog w 33 fun cs _ => ∃ x y z A n c, cs = [.int .i64 x, .int .i64 y, .int .i64 z, .slice A n c] := by
  refine (Rdr.struct underlying33 (by kernel_rfl) (.cons (Rdr.int underlying3) (.cons (Rdr.int underlying3) (.cons (Rdr.int underlying3) (.cons (Rdr.slice (k := 4) underlying31 (by kernel_rfl) rfl (fun _ => rfl) rdMember) .nil))))).mono ?_
  rintro cs b ⟨_, _, rfl, ⟨_, _, x, rfl, _⟩, _, _, rfl, ⟨_, _, y, rfl, _⟩, _, _, rfl, ⟨_, _, z, rfl, _⟩, _, _, rfl, ⟨_, _, v, l, rfl, hv, _⟩, rfl⟩
  obtain ⟨A, c, rfl, _⟩ := hv
  exact ⟨x, y, z, A, l.length, c, rfl⟩
theorem rdDo : Rdr enc Try.prog w 35 fun cs b => ∃ x : SDo, cs = SDo.enc x ∧ Sl Dot.enc 3 w w.heap.size (.slice x.pa x.peers.length x.pc) x.peers ∧ x.peers.length ≤ b := by
  refine (Rdr.struct underlying35 (by kernel_rfl) (.cons (Rdr.int underlying3) (.cons (Rdr.int underlying3) (.cons (Rdr.slice (k := 3) underlying29 (by kernel_rfl) rfl (fun _ => rfl) rdPeer) (.cons (Rdr.slice (k := 1) underlying30 (by kernel_rfl) rfl (fun _ => rfl) rdInt) (.cons rdRing .nil)))))).mono ?_
  rintro cs b ⟨_, _, rfl, ⟨_, _, x, rfl, _⟩, _, _, rfl, ⟨_, _, y, rfl, _⟩, _, _, rfl, ⟨_, hb, v, l, rfl, hv, hl, _⟩, _, _, rfl, ⟨_, _, u, m, rfl, hu, _⟩, _, _, rfl, ⟨_, _, r1, r2, r3, A3, n3, c3, rfl⟩, rfl⟩
  have hv' := hv
  obtain ⟨A, c, rfl, _⟩ := hv
  obtain ⟨A2, e2, rfl, _⟩ := hu
  exact ⟨⟨x, y, A, c, l, A2, m.length, e2, r1, r2, r3, A3, n3, c3⟩, rfl, hv', by dsimp only; omega⟩
theorem read_dos {v : Value} {d : DataW H} {p : List MemPlace} (hv : ∃ A len cap, v = .slice A len cap) (h : DataW.Trod enc Try.prog w 0 (fun _ => true) true 22 v d p) :
    ∃ l, Sl SDo.enc 8 w w.heap.size v l ∧ l.length + 1 ≤ Rows.uptoBulk d ∧ ∀ x ∈ l, Sl Dot.enc 3 w w.heap.size (.slice x.pa x.peers.length x.pc) x.peers ∧ x.peers.length ≤ Rows.uptoBulk d := by
  obtain ⟨v', l, hc, hs, hl, hf⟩ := Rdr.top (Rdr.slice (k := 8) underlying22 (by kernel_rfl) rfl (fun _ => rfl) rdDo) h
  obtain ⟨A, n, c, rfl⟩ := hv
  simp only [Value.cells, List.cons.injEq, and_true] at hc
  subst hc
  exact ⟨l, hs, hl, fun x hx => by obtain ⟨b', h1, h2, h3⟩ := hf x hx; exact ⟨h2, by omega⟩⟩
end
end Go.Proofs.Ytlkkdhdhbakciaa
