/- Contracts and laws that the statement Tka leans on, part 4. -/
import Derived.Test.YtfblmkocmnbdcaaGreatTkaK3
set_option linter.unusedVariables false
set_option linter.unusedSimpArgs false
set_option maxRecDepth 100000
set_option maxHeartbeats 4000000
namespace Go.Proofs.YtfblmkocmnbdcaaGreat
open Go.Fw Go.Proofs Go.RowKit Go.Proofs.Tryz
theorem c139 {w0 w : World} {L : List Chunk} (W : Wd w0 L w) (e : Int) : RetsP Tryz.prog 139 #[.int .i64 e] 41 w0 w (fun _ _ => False) (fun x L' => x = e ∧ L' = L) := by
  unfold Go.Fw.RetsP
  refine enterW1 W func139 rfl ntmps139 rfl fun a S => wp_region_lit (run S (.mv rfl <| .yy (ys_iface underlying41 (.t rfl)) rfl <| .z) fun a w S => st_m (op_panic S (.t rfl) ?_))
  refine post_panic S ?_
  exact .inr ⟨_, _, rfl, S.wd, rfl, rfl⟩
theorem c120 (w0 : World) (g : Nat) (h2 : w0.cell? ⟨g, 2, none⟩ = some (.bool true)) : Calls Tryz.prog 120 #[.pointer (some ⟨g, 0, none⟩)] w0 fun r w' => r = .returned (.bool true) ∧ Bel w0.heap.size w0 w' := by
  refine enter1 func120 rfl ntmps120 rfl fun a S => sg S (.ac rfl <| .z) fun a w S => sg S (.mv rfl <| .yy (ys_pNotS underlying92 (.t rfl) Ev.c) rfl <| .mv rfl <| .gy rfl rfl (ys_move (.t rfl)) <| .gy rfl rfl (ys_nilc (.t rfl)) <| .gy rfl rfl (ys_fieldN (FieldT.mk underlying144 rfl sizeOf4 rfl) (.t rfl) (i' := 2) rfl) <| .gy rfl rfl (ys_ldO ⟨isAgg4, sizeOf4⟩ (.t rfl) (fun _ => h2)) <| .yy (ys_pickT (.t rfl) (.t rfl)) rfl <| .as rfl <| .z) fun a w S => wp_ret (st_ret S (results1 S results120 (Rv.tmp rfl)) ?_)
  exact ⟨rfl, S.wd.below⟩
theorem c121 (w0 : World) (g : Nat) (A : Option Addr) (cap k n : Nat) (h0 : w0.cell? ⟨g, 0, none⟩ = some (.slice A n cap)) (h1 : w0.cell? ⟨g, 1, none⟩ = some (.int .i64 (k : Int))) (h2 : w0.cell? ⟨g, 2, none⟩ = some (.bool true)) (hk : k ≤ n) (hn : n ≤ 16777216) :
    Calls Tryz.prog 121 #[.pointer (some ⟨g, 0, none⟩)] w0 fun r w' => r = .returned (.int .i64 ((n - k : Nat) : Int)) ∧ Bel w0.heap.size w0 w' := by
  refine enter1 func121 rfl ntmps121 rfl fun a S => sg S (.ac rfl <| .z) fun a w S => wp_seq_k fun _ hK1 => sg S (.mv rfl <| .xx (ys_call call120 (.cons (.t rfl) .nil) (fun hp w W => c120 _ _ (by exact Wd.cellOld W (by assumption)))) rfl <| .nt rfl <| .z) fun a w S => st_else S (.t rfl) (wp_skip (then_normal (hK1 _ _ (wp_seq_k fun _ hK1 => st_quiet S (by kernel_rfl) (by kernel_rfl) fun a S => qrun S (.mv rfl <| .yy (ys_nilc (.t rfl)) rfl <| .fa underlying144 sizeOf28 0 rfl rfl rfl <| .yy (ys_ldO ⟨isAgg28, sizeOf28⟩ (.t rfl) (fun _ => h0)) rfl <| .ln underlying28 rfl <| .mv rfl <| .yy (ys_nilc (.t rfl)) rfl <| .fa underlying144 sizeOf3 1 rfl rfl rfl <| .yy (ys_ldO ⟨isAgg3, sizeOf3⟩ (.t rfl) (fun _ => h1)) rfl <| .yy (ys_subI (.t rfl) (.t rfl) (fun _ => by unfold I64; omega)) rfl <| .as rfl <| .z) fun a S => ?_))))
  (refine q_nil ?_; intro w W; replace S := St.mk S W; clear W)
  refine then_normal (hK1 _ _ (wp_ret (st_ret S (results1 S results121 (Rv.tmp rfl)) ?_)))
  have e : (n : Int) - (k : Int) = ((n - k : Nat) : Int) := by omega
  rw [e]
  exact ⟨rfl, S.wd.below⟩
abbrev rdr (g : Nat) (A : Option Addr) (cap : Nat) (b : List UInt8) (k : Nat) (L : List Chunk) : List Chunk := .blk g (.cells #[.slice A b.length cap, .int .i64 (k : Int), .bool true] 144) :: rowOf 5 1 encB A cap b :: L
theorem c56 (w0 : World) (v1 : Value) (l : List UInt8) (h : Sl encB 1 w0 w0.heap.size v1 l) (hl : l.length ≤ 16777216) :
    Rets Tryz.prog 56 #[v1] w0 fun v L => ∃ g A c, v = .pointer (some ⟨g, 0, none⟩) ∧ L = rdr g A c l 0 [] := by
  obtain ⟨A, cap, rfl, _⟩ := id h
  unfold Go.Fw.Rets
  refine enter1 func56 rfl ntmps56 rfl fun a S => sg S (.ac rfl <| .z) fun a w S => wp_seq_k fun _ hK1 => wp_region_lit (run S (.mv rfl <| .z) fun a w S => st_m (op_extend _ (S.nil_ 5 _ Go.Fw.encB _) underlying28 underlying28 (.inr ⟨_, rfl⟩) inf5 rfl (k := 0) rfl Ev.c (.t rfl) (Src.sl (Sl.old S.wd h) (by decide) Go.Fw.encB_len Go.Fw.encB_one) (by first | omega | (simp only [List.length_append, List.length_cons, List.length_nil]; omega) | (simp; omega)) rfl rfl rfl fun A1 cap1 a w S => ?_))
  simp only [List.nil_append] at S
  refine run S (.yy (ys_bld (ps := [(0, Go.Operand.tmp 4), (2, _)]) (us := [_, _, _]) bld144 (.cons (.t rfl) (.cons Ev.c .nil)) rfl) rfl <| .z) fun a w S => st_m (op_box S (.t rfl) rfl fun g1 a w S => run S (.as rfl <| .z) fun a w S => st_nil (then_normal (hK1 _ _ (wp_ret (st_ret S (results1 S results56 (Rv.tmp rfl)) ?_)))))
  exact ⟨_, _, rfl, S.wd, _, _, _, rfl, rfl⟩
theorem c140 {w0 w : World} {L : List Chunk} {g cap k : Nat} {A : Option Addr} {b : List UInt8} (W : Wd w0 (rdr g A cap b k L) w) (n : Nat) (hn : k + n ≤ b.length) (hb : b.length ≤ 16777216) :
    RetsO Tryz.prog 140 #[.pointer (some ⟨g, 0, none⟩), .int .i64 (n : Int)] w0 w fun v L' => ∃ A1 c1, v = .slice A1 ((b.drop k).take n).length c1 ∧ L' = rdr g A cap b (k + n) (rowOf 5 1 encB A1 c1 ((b.drop k).take n) :: L) := by
  have hr := (W.room (k := 1) rfl).1
  have rw_k : (k : Int) + (n : Int) = ((k + n : Nat) : Int) := by omega
  unfold Go.Fw.RetsO
  refine enterW2 W func140 rfl ntmps140 rfl fun a S => sg S (.ac rfl <| .z) fun a w S => wp_seq_k fun _ hK1 => h_begin0 S (by kernel_rfl) fun a w S => hy 0 S rfl (ys_move (.t rfl)) rfl fun a w S => hy 1 S rfl (ys_nilc (.t rfl)) rfl fun a w S => hy 2 S rfl (ys_fieldN (FieldT.mk underlying144 rfl sizeOf28 rfl) (.t rfl) (i' := 0) rfl) rfl fun a w S => hy 3 S rfl (ys_ld ⟨isAgg28, sizeOf28⟩ (.t rfl) (k := 0) rfl rfl) rfl fun a w S => ?_
  refine hy 4 S rfl (ys_move (.t rfl)) rfl fun a w S => hy 5 S rfl (ys_nilc (.t rfl)) rfl fun a w S => hy 6 S rfl (ys_fieldN (FieldT.mk underlying144 rfl sizeOf3 rfl) (.t rfl) (i' := 1) rfl) rfl fun a w S => hy 7 S rfl (ys_ld ⟨isAgg3, sizeOf3⟩ (.t rfl) (k := 0) rfl rfl) rfl fun a w S => hy 8 S rfl (ys_move (.t rfl)) rfl fun a w S => ?_
  refine hy 9 S rfl (ys_nilc (.t rfl)) rfl fun a w S => hy 10 S rfl (ys_fieldN (FieldT.mk underlying144 rfl sizeOf3 rfl) (.t rfl) (i' := 1) rfl) rfl fun a w S => hy 11 S rfl (ys_ld ⟨isAgg3, sizeOf3⟩ (.t rfl) (k := 0) rfl rfl) rfl fun a w S => hy 12 S rfl (ys_move (.t rfl)) rfl fun a w S => hy 13 S rfl (ys_addI (.t rfl) (.t rfl) (fun _ => by unfold I64; omega)) rfl fun a w S => ?_
  rw [rw_k] at S
  refine hy 14 S rfl (ys_slLH underlying28 sizeOf5 (.t rfl) (.t rfl) (.t rfl) (fun _ => by first | omega | (simp; done) | (simp; omega))) rfl fun a w S => ?_
  (refine h_m (i := 15) rfl (by kernel_rfl) (op_extend _ (S.nil_ 5 _ Go.Fw.encB _) underlying28 underlying28 (.inr ⟨_, rfl⟩) inf5 rfl (k := 0) rfl Ev.c (.t rfl) (by exact Src.sub S.wd (k := 1) rfl (by decide) Go.Fw.encB_len Go.Fw.encB_one (by omega) (by omega)) (by first | omega | (simp only [List.length_append, List.length_cons, List.length_nil]; omega) | (simp; omega)) rfl rfl rfl ?_); clear S a w; intro A1 cap1 a w S; refine h_n2 S ?_)
  simp only [List.nil_append] at S
  refine hy 16 S rfl (ys_assign (.t rfl)) rfl fun a w S => h_done (by kernel_rfl) (then_normal (hK1 _ _ (wp_seq_k fun _ hK1 => wp_region_lit (run S (.mv rfl <| .yy (ys_nilc (.t rfl)) rfl <| .fa underlying144 sizeOf3 1 rfl rfl rfl <| .ld gt3 1 rfl rfl rfl <| .mv rfl <| .yy (ys_addI (.t rfl) (.t rfl) (fun _ => by unfold I64; omega)) rfl <| .z) fun a w S => ?_))))
  rw [rw_k] at S
  refine run S (.yy (ys_nilc (.t rfl)) rfl <| .fa underlying144 sizeOf3 1 rfl rfl rfl <| .z) fun a w S => st_m (op_st S sizeOf3 (.t rfl) (.t rfl) (k := 1) rfl rfl (by simp) fun a w S => st_nil (then_normal (hK1 _ _ (sg S (.mv rfl <| .as rfl <| .z) fun a w S => wp_ret (st_ret S (results1 S results140 (Rv.tmp rfl)) ?_)))))
  have e : k + n - k = n := by omega
  rw [e] at S
  exact ⟨_, _, by rw [e], (S.wd.picks (L' := rdr g A cap b (k + n) (rowOf 5 1 encB A1 cap1 ((b.drop k).take n) :: L)) (by repeat (first | exact Picks.nil | (refine Picks.rest ?_; (repeat (first | exact List.Sublist.refl _ | refine List.Sublist.cons_cons _ ?_ | refine List.Sublist.cons _ ?_)); done) | refine Picks.take 0 rfl ?_ | refine Picks.take 1 rfl ?_ | refine Picks.take 2 rfl ?_ | refine Picks.take 3 rfl ?_ | refine Picks.take 4 rfl ?_ | refine Picks.take 5 rfl ?_ | refine Picks.take 6 rfl ?_ | refine Picks.take 7 rfl ?_ | refine Picks.take 8 rfl ?_ | refine Picks.take 9 rfl ?_ | refine Picks.take 10 rfl ?_ | refine Picks.take 11 rfl ?_))), _, _, rfl, rfl⟩
theorem c116 {w0 w : World} {L : List Chunk} {g cap k : Nat} {A : Option Addr} {b : List UInt8} (W : Wd w0 (rdr g A cap b k L) w) (hk : k ≤ b.length) (hb : b.length ≤ 16777216) :
    RetsP Tryz.prog 116 #[.pointer (some ⟨g, 0, none⟩)] 41 w0 w (fun v L' => (numR 0 0 (b.drop k)).2.2 = 0 ∧ v = .int .i64 (numR 0 0 (b.drop k)).1 ∧ L' = rdr g A cap b (k + (numR 0 0 (b.drop k)).2.1) L) (fun x L' => x = (numR 0 0 (b.drop k)).2.2 ∧ x ≠ 0 ∧ L' = rdr g A cap b k L) := by
  unfold Go.Fw.RetsP
  refine enterW1 W func116 rfl ntmps116 rfl fun a S => sg S (.ac rfl <| .z) fun a w S => wp_seq_k fun _ hK1 => st_quiet S (by kernel_rfl) (by kernel_rfl) fun a S => qrun S (.mv rfl <| .yy (ys_nilc (.t rfl)) rfl <| .fa underlying144 sizeOf3 1 rfl rfl rfl <| .ld gt3 0 rfl rfl rfl <| .ac rfl <| .as rfl <| .z) fun a S => ?_
  (refine q_nil ?_; intro w W; replace S := St.mk S W; clear W)
  refine then_normal (hK1 _ _ (sg S (.ac rfl <| .z) fun a w S => wp_block ?_))
  replace S := S.wk (K' := [(5, true, .int .i64 ((0 : Nat) : Int)), (4, true, .int .i64 ((k + 0 : Nat) : Int)), (3, true, .int .i64 (0 : Int)), (0, true, .pointer (some ⟨g, 0, none⟩))]) (L' := rdr g A cap b k L)
  refine st_lpK S (X := Nat × Int) (fun q => [(5, true, .int .i64 (q.1 : Int)), (4, true, .int .i64 ((k + q.1 : Nat) : Int)), (3, true, .int .i64 q.2)]) (fun _ L => L)
    (fun q => q.1 ≤ 8 ∧ k + q.1 ≤ b.length ∧ 0 ≤ q.2 ∧ q.2 < 128 ^ q.1 ∧ numR q.1 q.2 (b.drop (k + q.1)) = numR 0 0 (b.drop k)) (fun q => 9 - q.1) (0, 0) ⟨by simp, by omega, by simp, by simp, rfl⟩ ?_
  clear S
  intro ⟨i, m⟩ a w ⟨hi8, hik, hm0, hm1, hno⟩ S
  dsimp only at hi8 hik hm0 hm1 hno S
  by_cases hlt : k + i < b.length
  · obtain ⟨ga, rfl⟩ := S.wd.row_at (k := 1) rfl (by have := (S.wd.room (k := 1) rfl).1; omega)
    obtain ⟨x, hx⟩ : ∃ x, b[k + i]? = some x := ⟨b[k + i], by simp⟩
    have hx8 : x.toNat < 256 := x.toNat_lt
    have hst := numR_step (i := i) (n := m) hx
    rw [hno] at hst
    obtain ⟨p1, p2, p3⟩ := pow_num hi8
    obtain ⟨rw_s, hs0, hs1⟩ := sh_num (i := i) (y := (x.toNat : Int) % 128) hi8 (by omega) (by omega)
    have rw_o := or_num (i := i) (m := m) (y := (x.toNat : Int) % 128) hi8 hm0 hm1 (by omega) (by omega)
    have rw_7 : 7 * (i : Int) = ((7 * i : Nat) : Int) := by omega
    have rw_k : ((k + i : Nat) : Int) + 1 = ((k + (i + 1) : Nat) : Int) := by omega
    by_cases h128 : x.toNat < 128
    · rw [if_neg (by omega), if_pos h128] at hst
      by_cases h0 : 0 < i ∧ x.toNat = 0
      · rw [if_pos h0] at hst
        obtain ⟨h0a, h0b⟩ := h0
        refine wp_seq_k fun _ hK1 => wp_block (wp_seq_k fun _ hK2 => sg S (.mv rfl <| .mv rfl <| .yy (ys_nilc (.t rfl)) rfl <| .fa underlying144 sizeOf28 0 rfl rfl rfl <| .ld gt28 0 rfl rfl rfl <| .ln underlying28 rfl <| .yy (ys_F (by omega) (ys_eql (.t rfl) (.t rfl))) rfl <| .z) fun a w S => st_else S (.t rfl) (wp_skip (then_normal (hK2 _ _ (sg S (.mv rfl <| .yy (ys_nilc (.t rfl)) rfl <| .fa underlying144 sizeOf28 0 rfl rfl rfl <| .ld gt28 0 rfl rfl rfl <| .mv rfl <| .ix underlying28 sizeOf5 (by omega) rfl rfl <| .yy (ys_ldW0 ⟨isAgg5, sizeOf5⟩ (.t rfl) (k := 1) rfl hx (fun _ => rfl) rfl) rfl <| .yy (ys_cvI underlying5 underlying3 (.t rfl) (fun _ => by unfold I64; omega)) rfl <| .as rfl <| .z) fun a w S => wp_seq_k fun _ hK2 => wp_region_lit (run S (.mv rfl <| .ad (by unfold I64; omega) rfl <| .z) fun a w S => ?_))))))
        rw [rw_k] at S
        refine run S (.as rfl <| .z) fun a w S => st_nil (then_normal (hK2 _ _ (wp_seq_k fun _ hK2 => wp_seq_k fun _ hK3 => wp_region_lit (run S (.mv rfl <| .yy (ys_eql (.t rfl) Ev.c) rfl <| .mv rfl <| .z) fun a w S => st_yg S rfl rfl (Yr.ys (ys_move (.t rfl))) rfl fun a w S => st_yg S rfl rfl (Yr.ys (ys_F (by omega) (ys_geq (Ev.g rfl) Ev.c))) rfl fun a w S => run S (.yy (ys_andF (.t rfl) (Ev.g rfl) Ev.c) rfl <| .z) fun a w S => st_nil (then_normal (hK3 _ _ (st_else S (.t rfl) (wp_skip (then_normal (hK2 _ _ (wp_seq_k fun _ hK2 => wp_region_lit (run S (.mv rfl <| .mv rfl <| .yy (ys_andM 7 (c := 128) (.t rfl) Ev.c rfl rfl rfl (fun _ => by omega)) rfl <| .mv rfl <| .yy (ys_mulI Ev.c (.t rfl) (fun _ => by unfold I64; omega)) rfl <| .z) fun a w S => ?_))))))))))))
        rw [rw_7] at S
        refine run S (.yy (ys_shl (.t rfl) (.t rfl) (Nat.ble_eq_true_of_le (by show _ ≤ 64; omega))) rfl <| .z) fun a w S => ?_
        rw [rw_s] at S
        refine run S (.yy (ys_bor (.t rfl) (.t rfl)) rfl <| .z) fun a w S => ?_
        rw [rw_o] at S
        refine run S (.as rfl <| .z) fun a w S => st_nil (then_normal (hK2 _ _ (sg S (.mv rfl <| .yy (ys_T (by omega) (ys_lss (.t rfl) Ev.c)) rfl <| .z) fun a w S => st_then S (.t rfl) (wp_seq_k fun _ hK2 => sg S (.mv rfl <| .yy (ys_T (by omega) (ys_gtr (.t rfl) Ev.c)) rfl <| .mv rfl <| .gy rfl rfl (ys_move (.t rfl)) <| .gy rfl rfl (ys_T (by omega) (ys_eql (.t rfl) Ev.c)) <| .yy (ys_pickT (.t rfl) (.t rfl)) rfl <| .z) fun a w S => st_then S (.t rfl) (wp_region_lit ?_)))))
        (refine st_m (op_callRP S call139 (.cons Ev.c .nil) (c139 S.wd _) rfl ?_ ?_) <;> clear S a w)
        (intro _ _ h; exact h.elim)
        rintro _ _ ⟨rfl, rfl⟩ a w S
        refine then_panic (in_panic (then_panic (then_panic (in_panic ?_))))
        refine post_panic S ?_
        rw [hst]
        exact .inr ⟨_, _, rfl, S.wd, rfl, by decide, rfl⟩
      · rw [if_neg h0] at hst
        have rw_f : (decide (0 < (i : Int)) && decide ((x.toNat : Int) = 0)) = false := by rw [Bool.eq_false_iff]; intro h; simp at h; omega
        refine wp_seq_k fun _ hK1 => wp_block (wp_seq_k fun _ hK2 => sg S (.mv rfl <| .mv rfl <| .yy (ys_nilc (.t rfl)) rfl <| .fa underlying144 sizeOf28 0 rfl rfl rfl <| .ld gt28 0 rfl rfl rfl <| .ln underlying28 rfl <| .yy (ys_F (by omega) (ys_eql (.t rfl) (.t rfl))) rfl <| .z) fun a w S => st_else S (.t rfl) (wp_skip (then_normal (hK2 _ _ (sg S (.mv rfl <| .yy (ys_nilc (.t rfl)) rfl <| .fa underlying144 sizeOf28 0 rfl rfl rfl <| .ld gt28 0 rfl rfl rfl <| .mv rfl <| .ix underlying28 sizeOf5 (by omega) rfl rfl <| .yy (ys_ldW0 ⟨isAgg5, sizeOf5⟩ (.t rfl) (k := 1) rfl hx (fun _ => rfl) rfl) rfl <| .yy (ys_cvI underlying5 underlying3 (.t rfl) (fun _ => by unfold I64; omega)) rfl <| .as rfl <| .z) fun a w S => wp_seq_k fun _ hK2 => wp_region_lit (run S (.mv rfl <| .ad (by unfold I64; omega) rfl <| .z) fun a w S => ?_))))))
        rw [rw_k] at S
        refine run S (.as rfl <| .z) fun a w S => st_nil (then_normal (hK2 _ _ (wp_seq_k fun _ hK2 => wp_seq_k fun _ hK3 => wp_region_lit (run S (.mv rfl <| .yy (ys_eql (.t rfl) Ev.c) rfl <| .mv rfl <| .z) fun a w S => st_yg S rfl rfl (Yr.ys (ys_move (.t rfl))) rfl fun a w S => st_yg S rfl rfl (Yr.ys (ys_F (by omega) (ys_geq (Ev.g rfl) Ev.c))) rfl fun a w S => run S (.yy (ys_andF (.t rfl) (Ev.g rfl) Ev.c) rfl <| .z) fun a w S => st_nil (then_normal (hK3 _ _ (st_else S (.t rfl) (wp_skip (then_normal (hK2 _ _ (wp_seq_k fun _ hK2 => wp_region_lit (run S (.mv rfl <| .mv rfl <| .yy (ys_andM 7 (c := 128) (.t rfl) Ev.c rfl rfl rfl (fun _ => by omega)) rfl <| .mv rfl <| .yy (ys_mulI Ev.c (.t rfl) (fun _ => by unfold I64; omega)) rfl <| .z) fun a w S => ?_))))))))))))
        rw [rw_7] at S
        refine run S (.yy (ys_shl (.t rfl) (.t rfl) (Nat.ble_eq_true_of_le (by show _ ≤ 64; omega))) rfl <| .z) fun a w S => ?_
        rw [rw_s] at S
        refine run S (.yy (ys_bor (.t rfl) (.t rfl)) rfl <| .z) fun a w S => ?_
        rw [rw_o] at S
        refine run S (.as rfl <| .z) fun a w S => st_nil (then_normal (hK2 _ _ (sg S (.mv rfl <| .yy (ys_T (by omega) (ys_lss (.t rfl) Ev.c)) rfl <| .z) fun a w S => st_then S (.t rfl) (wp_seq_k fun _ hK2 => wp_seq_k fun _ hK3 => wp_region_lit (run S (.mv rfl <| .yy (ys_gtr (.t rfl) Ev.c) rfl <| .mv rfl <| .z) fun a w S => st_yg S rfl rfl (Yr.ys (ys_move (.t rfl))) rfl fun a w S => st_yg S rfl rfl (Yr.ys (ys_eql (Ev.g rfl) Ev.c)) rfl fun a w S => run S (.yy (ys_and (.t rfl) (Ev.g rfl) Ev.c) rfl <| .z) fun a w S => ?_)))))
        rw [rw_f] at S
        refine st_nil (then_normal (hK3 _ _ (st_else S (.t rfl) (wp_skip (then_normal (hK2 _ _ (wp_seq_k fun _ hK2 => wp_region_lit (run S (.mv rfl <| .mv rfl <| .yy (ys_nilc (.t rfl)) rfl <| .fa underlying144 sizeOf3 1 rfl rfl rfl <| .z) fun a w S => st_m (op_st S sizeOf3 (.t rfl) (.t rfl) (k := 0) rfl rfl (by simp) fun a w S => st_nil (then_normal (hK2 _ _ (sg S (.mv rfl <| .as rfl <| .z) fun a w S => wp_ret (in_ret (then_ret (then_ret (in_ret (st_ret S (results1 S results116 (Rv.tmp rfl)) ?_)))))))))))))))))
        rw [hst]
        exact .inl ⟨_, _, rfl, S.wd, rfl, rfl, rfl⟩
    · by_cases h8 : i = 8
      · rw [if_pos (by omega)] at hst
        refine wp_seq_k fun _ hK1 => wp_block (wp_seq_k fun _ hK2 => sg S (.mv rfl <| .mv rfl <| .yy (ys_nilc (.t rfl)) rfl <| .fa underlying144 sizeOf28 0 rfl rfl rfl <| .ld gt28 0 rfl rfl rfl <| .ln underlying28 rfl <| .yy (ys_F (by omega) (ys_eql (.t rfl) (.t rfl))) rfl <| .z) fun a w S => st_else S (.t rfl) (wp_skip (then_normal (hK2 _ _ (sg S (.mv rfl <| .yy (ys_nilc (.t rfl)) rfl <| .fa underlying144 sizeOf28 0 rfl rfl rfl <| .ld gt28 0 rfl rfl rfl <| .mv rfl <| .ix underlying28 sizeOf5 (by omega) rfl rfl <| .yy (ys_ldW0 ⟨isAgg5, sizeOf5⟩ (.t rfl) (k := 1) rfl hx (fun _ => rfl) rfl) rfl <| .yy (ys_cvI underlying5 underlying3 (.t rfl) (fun _ => by unfold I64; omega)) rfl <| .as rfl <| .z) fun a w S => wp_seq_k fun _ hK2 => wp_region_lit (run S (.mv rfl <| .ad (by unfold I64; omega) rfl <| .z) fun a w S => ?_))))))
        rw [rw_k] at S
        refine run S (.as rfl <| .z) fun a w S => st_nil (then_normal (hK2 _ _ (wp_seq_k fun _ hK2 => sg S (.mv rfl <| .yy (ys_T (by omega) (ys_eql (.t rfl) Ev.c)) rfl <| .mv rfl <| .gy rfl rfl (ys_move (.t rfl)) <| .gy rfl rfl (ys_T (by omega) (ys_geq (.t rfl) Ev.c)) <| .yy (ys_pickT (.t rfl) (.t rfl)) rfl <| .z) fun a w S => st_then S (.t rfl) (wp_region_lit ?_))))
        (refine st_m (op_callRP S call139 (.cons Ev.c .nil) (c139 S.wd _) rfl ?_ ?_) <;> clear S a w)
        (intro _ _ h; exact h.elim)
        rintro _ _ ⟨rfl, rfl⟩ a w S
        refine then_panic (in_panic (then_panic (then_panic (in_panic ?_))))
        refine post_panic S ?_
        rw [hst]
        exact .inr ⟨_, _, rfl, S.wd, rfl, by decide, rfl⟩
      · rw [if_neg (by omega), if_neg h128] at hst
        have h5 : (128 : Int) ^ (i + 1) = 128 * 128 ^ i := by rw [Int.pow_succ]; omega
        have h6 : (x.toNat : Int) % 128 * 128 ^ i ≤ 127 * 128 ^ i := Int.mul_le_mul_of_nonneg_right (by omega) (by omega)
        refine wp_seq_k fun _ hK1 => wp_block (wp_seq_k fun _ hK2 => sg S (.mv rfl <| .mv rfl <| .yy (ys_nilc (.t rfl)) rfl <| .fa underlying144 sizeOf28 0 rfl rfl rfl <| .ld gt28 0 rfl rfl rfl <| .ln underlying28 rfl <| .yy (ys_F (by omega) (ys_eql (.t rfl) (.t rfl))) rfl <| .z) fun a w S => st_else S (.t rfl) (wp_skip (then_normal (hK2 _ _ (sg S (.mv rfl <| .yy (ys_nilc (.t rfl)) rfl <| .fa underlying144 sizeOf28 0 rfl rfl rfl <| .ld gt28 0 rfl rfl rfl <| .mv rfl <| .ix underlying28 sizeOf5 (by omega) rfl rfl <| .yy (ys_ldW0 ⟨isAgg5, sizeOf5⟩ (.t rfl) (k := 1) rfl hx (fun _ => rfl) rfl) rfl <| .yy (ys_cvI underlying5 underlying3 (.t rfl) (fun _ => by unfold I64; omega)) rfl <| .as rfl <| .z) fun a w S => wp_seq_k fun _ hK2 => wp_region_lit (run S (.mv rfl <| .ad (by unfold I64; omega) rfl <| .z) fun a w S => ?_))))))
        rw [rw_k] at S
        refine run S (.as rfl <| .z) fun a w S => st_nil (then_normal (hK2 _ _ (wp_seq_k fun _ hK2 => sg S (.mv rfl <| .yy (ys_F (by omega) (ys_eql (.t rfl) Ev.c)) rfl <| .mv rfl <| .sk rfl rfl rfl <| .sk rfl rfl rfl <| .yy (ys_pickF (.t rfl) Ev.c) rfl <| .z) fun a w S => st_else S (.t rfl) (wp_skip (then_normal (hK2 _ _ (wp_seq_k fun _ hK2 => wp_region_lit (run S (.mv rfl <| .mv rfl <| .yy (ys_andM 7 (c := 128) (.t rfl) Ev.c rfl rfl rfl (fun _ => by omega)) rfl <| .mv rfl <| .yy (ys_mulI Ev.c (.t rfl) (fun _ => by unfold I64; omega)) rfl <| .z) fun a w S => ?_))))))))
        rw [rw_7] at S
        refine run S (.yy (ys_shl (.t rfl) (.t rfl) (Nat.ble_eq_true_of_le (by show _ ≤ 64; omega))) rfl <| .z) fun a w S => ?_
        rw [rw_s] at S
        refine run S (.yy (ys_bor (.t rfl) (.t rfl)) rfl <| .z) fun a w S => ?_
        rw [rw_o] at S
        refine run S (.as rfl <| .z) fun a w S => st_nil (then_normal (hK2 _ _ (sg S (.mv rfl <| .yy (ys_F (by omega) (ys_lss (.t rfl) Ev.c)) rfl <| .z) fun a w S => st_else S (.t rfl) (wp_skip (in_normal (then_normal (hK1 _ _ (wp_region_lit (run S (.mv rfl <| .ad (by unfold I64; omega) rfl <| .as rfl <| .z) fun a w S => st_nil (then_normal ?_))))))))))
        exact ⟨(i + 1, m + (x.toNat : Int) % 128 * 128 ^ i), ⟨by dsimp only; omega, by dsimp only; omega, by dsimp only; omega, by dsimp only; omega, by dsimp only; rw [hst]; rfl⟩, by dsimp only; omega, S.wk⟩
  · refine wp_seq_k fun _ hK1 => wp_block (wp_seq_k fun _ hK2 => sg S (.mv rfl <| .mv rfl <| .yy (ys_nilc (.t rfl)) rfl <| .fa underlying144 sizeOf28 0 rfl rfl rfl <| .ld gt28 0 rfl rfl rfl <| .ln underlying28 rfl <| .yy (ys_T (by omega) (ys_eql (.t rfl) (.t rfl))) rfl <| .z) fun a w S => st_then S (.t rfl) (wp_region_lit ?_))
    (refine st_m (op_callRP S call139 (.cons Ev.c .nil) (c139 S.wd _) rfl ?_ ?_) <;> clear S a w)
    (intro _ _ h; exact h.elim)
    rintro _ _ ⟨rfl, rfl⟩ a w S
    refine then_panic (in_panic (then_panic (then_panic (in_panic ?_))))
    refine post_panic S ?_
    have hkk : k + i = b.length := by omega
    rw [List.drop_of_length_le (by omega), numR_nil] at hno
    rw [← hno]
    exact .inr ⟨_, _, rfl, S.wd, rfl, by decide, rfl⟩
end Go.Proofs.YtfblmkocmnbdcaaGreat
set_option linter.unusedVariables false
set_option linter.unusedSimpArgs false
set_option maxRecDepth 100000
set_option maxHeartbeats 4000000
namespace Go.Proofs.YtfblmkocmnbdcaaGreat
open Go.Fw Go.Proofs Go.RowKit Go.Proofs.Tryz
theorem caught {w0 : World} {L : List Chunk} (g : Nat) (e : Int) (w : World) (W : Wd w0 (.blk g (.cells #[.int .i64 0] 41) :: L) w) :
    CallsD Tryz.prog 167 #[.pointer (some ⟨g, 0, none⟩)] (.panicking (Pan 41 e)) w fun r u' w' =>
      r = .returned (.tuple #[]) ∧ u' = .panicking [{ v := .iface 41 (.int .i64 e), recovered := true }] ∧ Wd w0 (.blk g (.cells #[.int .i64 e] 41) :: L) w' := by
  refine callsD_of_wpS func167 rfl fun c₀ cs hu => ?_
  have kn := kn_start (args := [.pointer (some ⟨g, 0, none⟩)]) ntmps167 rfl
  generalize ({ tmps := _, defers := [] } : Act) = a at kn ⊢
  apply wpS_seq
  refine wpS_recover (cs' := { c₀ with mode := .panicking [{ v := .iface 41 (.int .i64 e), recovered := true }] } :: cs) (v := .iface 41 (.int .i64 e)) kn rfl (by simp [recoverD, hu]) ?_
  have S : St 18 w0 _ _ _ w := ⟨(kn.put (d := 4) rfl (.iface 41 (.int .i64 e))).put (d := 1) rfl (.iface 41 (.int .i64 e)), W⟩
  generalize ((a.put (some 4) _).put (some 1) _ : Act) = a at S ⊢
  refine wpS_of_wp ?_
  refine sg S (.mv rfl <| .yy (ys_tassHit underlying41 (.t rfl)) rfl <| .mv rfl <| .ex rfl rfl <| .ex rfl rfl <| .as rfl <| .as rfl <| .z) fun a w S => wp_seq_k fun _ hK1 => sg S (.mv rfl <| .yy (ys_iNotV (underlying20.trans (by kernel_rfl)) (.t rfl) Ev.c) rfl <| .mv rfl <| .gy rfl rfl (ys_move (.t rfl)) <| .gy rfl rfl (ys_not (.t rfl)) <| .yy (ys_pickT (.t rfl) (.t rfl)) rfl <| .z) fun a w S => st_else S (.t rfl) (wp_skip (then_normal (hK1 _ _ (wp_region_lit (run S (.mv rfl <| .z) fun a w S => st_m (op_st S sizeOf41 (.t rfl) (.t rfl) (k := 0) rfl rfl (by simp) fun a w S => st_nil ?_))))))
  exact ⟨S.kn.defers, _, rfl, _, results0 results167, rfl, rfl, S.wd⟩
theorem idle {w0 : World} {L : List Chunk} (g : Nat) (w : World) (W : Wd w0 (.blk g (.cells #[.int .i64 0] 41) :: L) w) :
    CallsD Tryz.prog 167 #[.pointer (some ⟨g, 0, none⟩)] .returning w fun r u' w' =>
      r = .returned (.tuple #[]) ∧ u' = .returning ∧ Wd w0 (.blk g (.cells #[.int .i64 0] 41) :: L) w' := by
  refine callsD_of_wpS func167 rfl fun c₀ cs hu => ?_
  have kn := kn_start (args := [.pointer (some ⟨g, 0, none⟩)]) ntmps167 rfl
  generalize ({ tmps := _, defers := [] } : Act) = a at kn ⊢
  apply wpS_seq
  refine wpS_recoverN kn rfl (by simp [recoverD, hu]) ?_
  have S : St 18 w0 _ _ _ w := ⟨(kn.put (d := 4) rfl .nilIface).put (d := 1) rfl .nilIface, W⟩
  generalize ((a.put (some 4) _).put (some 1) _ : Act) = a at S ⊢
  refine wpS_of_wp ?_
  refine sg S (.mv rfl <| .yy (ys_tassNil underlying41 zeroValue41 (.t rfl)) rfl <| .mv rfl <| .ex rfl rfl <| .ex rfl rfl <| .as rfl <| .as rfl <| .z) fun a w S => wp_seq_k fun _ hK1 => sg S (.mv rfl <| .yy (ys_iNotN (underlying20.trans (by kernel_rfl)) (.t rfl)) rfl <| .mv rfl <| .sk rfl rfl rfl <| .sk rfl rfl rfl <| .yy (ys_pickF (.t rfl) Ev.c) rfl <| .z) fun a w S => st_else S (.t rfl) (wp_skip (then_normal (hK1 _ _ (wp_region_lit (run S (.mv rfl <| .z) fun a w S => st_m (op_st S sizeOf41 (.t rfl) (.t rfl) (k := 0) rfl rfl (by simp) fun a w S => st_nil ?_))))))
  exact ⟨S.kn.defers, .returning, by cases c₀; simp_all, _, results0 results167, rfl, rfl, S.wd⟩
theorem tryW {w0 w : World} {L : List Chunk} {f : FuncId} {cs : List Value} {R : Int → List Chunk → Prop} (W : Wd w0 L w) (hf : ∀ args w, (callFunc f args).run Tryz.prog w = .ok (.enter f args) w)
    (hc : ∀ C w1, Wd w0 (C :: L) w1 → RetsP Tryz.prog f cs.toArray 41 w0 w1 (fun v L' => ∃ L'', L' = C :: L'' ∧ v = .tuple #[] ∧ R 0 L'') (fun x L' => ∃ L'', L' = C :: L'' ∧ R x L'')) :
    RetsO Tryz.prog 137 #[.func (.func f) #[] cs.toArray] w0 w fun v L' => ∃ x, v = .int .i64 x ∧ R x L' := by
  unfold RetsO
  refine enterD (args := [_]) W func137 rfl ntmps137 rfl fun a S => wp_seq_k fun _ hK1 => wp_region_lit (st_m (op_alloc S zeroValue41 (cs := _) rfl rfl fun g1 a w S => st_nil (then_normal (hK1 _ _ (wp_seq_k fun _ hK1 => wp_region_lit (run S (.yy (ys_mkFunc (.cons (.t rfl) .nil)) rfl <| .z) fun a w S => st_m (op_defer (cs := [_]) S (.t rfl) (st_nil (then_normal (hK1 _ _ (wp_seq_k fun _ hK1 => wp_region_lit (st_m (op_dfr ?_)))))))))))))
  (refine op_y S (Yr.ys (ys_move (.t rfl))) rfl ?_; clear S a w; intro a w S)
  refine st_m (op_dfr ?_)
  refine op_callRPV S (.t rfl) hf .nil (hc _ _ S.wd) rfl ?_ ?_
  · clear S
    rintro _ _ ⟨L1, rfl, rfl, hR⟩ a w S
    refine st_nil (then_normal (hK1 _ _ (wp_seq_k fun _ hK1 => wp_region_lit (st_m (op_dfr ?_)))))
    (refine op_st S sizeOf41 (.t rfl) Ev.c (k := 0) rfl rfl (by simp) ?_; clear S a w; intro a w S)
    refine st_nil (then_normal (hK1 _ _ (wp_ret ?_)))
    show Leaves _ _ _ _ (a.defers ++ _) _ _
    rw [S.kn.defers]
    refine leaves_cons (f := 167) (args := #[.pointer (some ⟨g1, 0, none⟩)]) (by simp) (by simp [go_sem]) ?_
    refine (idle (w0 := w0) (L := L1) g1 w (S.wd.sub (List.Sublist.refl _))).mono ?_
    rintro r u' w' ⟨rfl, rfl, W'⟩
    have S' : St 6 w0 _ _ a w' := ⟨S.kn, W'⟩
    have hres := results1 S' results137 (Rv.cell1 (k := 0) ⟨isAgg41, sizeOf41⟩ rfl rfl)
    exact ⟨_, hres, _, L1, rfl, W'.sub (List.sublist_cons_self _ _), 0, rfl, hR⟩
  · clear S
    rintro x _ ⟨L1, rfl, hR⟩ a w S
    refine then_panic ?_
    show Leaves _ _ _ _ (a.defers ++ _) _ _
    rw [S.kn.defers]
    refine leaves_cons (f := 167) (args := #[.pointer (some ⟨g1, 0, none⟩)]) (by simp) (by simp [go_sem]) ?_
    refine (caught (w0 := w0) (L := L1) g1 x w (S.wd.sub (List.Sublist.refl _))).mono ?_
    rintro r u' w' ⟨rfl, rfl, W'⟩
    have S' : St 6 w0 _ _ a w' := ⟨S.kn, W'⟩
    have hres := results1 S' results137 (Rv.cell1 (k := 0) ⟨isAgg41, sizeOf41⟩ rfl rfl)
    exact ⟨_, hres, _, L1, rfl, W'.sub (List.sublist_cons_self _ _), x, rfl, hR⟩
theorem triedW {w0 w : World} {L : List Chunk} {g cap k : Nat} {A : Option Addr} {b : List UInt8} {f : FuncId} {cs : List Value} {R : List Chunk → Prop} {E : Int → List Chunk → Prop} (W : Wd w0 (rdr g A cap b k L) w) (hf : ∀ args w, (callFunc f args).run Tryz.prog w = .ok (.enter f args) w)
    (hc : ∀ C w1, Wd w0 (C :: rdr g A cap b k L) w1 → RetsP Tryz.prog f cs.toArray 41 w0 w1 (fun v L' => v = .tuple #[] ∧ ∃ k' L'', L' = C :: rdr g A cap b k' L'' ∧ R (rdr g A cap b k' L'')) (fun x L' => x ≠ 0 ∧ ∃ k' L'', L' = C :: rdr g A cap b k' L'' ∧ E x (rdr g A cap b k L''))) :
    RetsO Tryz.prog 114 #[.pointer (some ⟨g, 0, none⟩), .func (.func f) #[] cs.toArray] w0 w fun v L' => ∃ x, v = .int .i64 x ∧ (x = 0 ∧ R L' ∨ x ≠ 0 ∧ E x L') := by
  unfold Go.Fw.RetsO
  refine enterW2 W func114 rfl ntmps114 rfl fun a S => sg S (.ac rfl <| .z) fun a w S => wp_seq_k fun _ hK1 => sg S (.mv rfl <| .xx (ys_call call120 (.cons (.t rfl) .nil) (fun hp w W => c120 _ _ (by exact Wd.cell W (k := 0) rfl rfl))) rfl <| .nt rfl <| .z) fun a w S => st_else S (.t rfl) (wp_skip (then_normal (hK1 _ _ (sg S (.mv rfl <| .yy (ys_nilc (.t rfl)) rfl <| .fa underlying144 sizeOf3 1 rfl rfl rfl <| .ld gt3 0 rfl rfl rfl <| .as rfl <| .z) fun a w S => wp_seq_k fun _ hK1 => wp_region_lit (run S (.mv rfl <| .z) fun a w S => ?_)))))
  refine st_m (op_callO S call137 (.cons (.t rfl) .nil) (tryW (R := fun x L' => ∃ k' L'', L' = rdr g A cap b k' L'' ∧ (x = 0 ∧ R L' ∨ x ≠ 0 ∧ E x (rdr g A cap b k L''))) S.wd hf fun C w1 W1 => (hc C w1 W1).mono ?_) rfl ?_)
  · intro e w' h
    rcases h with ⟨v, L', rfl, hw, rfl, k', L'', rfl, hR⟩ | ⟨x, L', rfl, hw, hx, k', L'', rfl, hE⟩
    · exact .inl ⟨_, _, rfl, hw, _, rfl, rfl, k', L'', rfl, .inl ⟨rfl, hR⟩⟩
    · exact .inr ⟨_, _, rfl, hw, _, rfl, k', L'', rfl, .inr ⟨hx, hE⟩⟩
  clear S
  rintro _ _ ⟨x, rfl, k', L'', rfl, hh⟩ a w S
  rcases hh with ⟨rfl, hR⟩ | ⟨hx, hE⟩
  · refine run S (.as rfl <| .z) fun a w S => st_nil (then_normal (hK1 _ _ (wp_seq_k fun _ hK1 => sg S (.mv rfl <| .yy (ys_F (by omega) (ys_neq (.t rfl) Ev.c)) rfl <| .z) fun a w S => st_else S (.t rfl) (wp_skip (then_normal (hK1 _ _ (sg S (.mv rfl <| .as rfl <| .z) fun a w S => wp_ret (st_ret S (results1 S results114 (Rv.tmp rfl)) ?_))))))))
    exact ⟨_, _, rfl, S.wd, _, rfl, .inl ⟨rfl, hR⟩⟩
  · refine run S (.as rfl <| .z) fun a w S => st_nil (then_normal (hK1 _ _ (wp_seq_k fun _ hK1 => sg S (.mv rfl <| .yy (ys_T (by omega) (ys_neq (.t rfl) Ev.c)) rfl <| .z) fun a w S => st_then S (.t rfl) (wp_region_lit (run S (.mv rfl <| .mv rfl <| .yy (ys_nilc (.t rfl)) rfl <| .fa underlying144 sizeOf3 1 rfl rfl rfl <| .z) fun a w S => st_m (op_st S sizeOf3 (.t rfl) (.t rfl) (k := 0) rfl rfl (by simp) fun a w S => st_nil (then_normal (hK1 _ _ (sg S (.mv rfl <| .as rfl <| .z) fun a w S => wp_ret (st_ret S (results1 S results114 (Rv.tmp rfl)) ?_))))))))))
    exact ⟨_, _, rfl, S.wd, _, rfl, .inr ⟨hx, hE⟩⟩
theorem q115 {w0 w : World} {L : List Chunk} {g g1 g2 cap k : Nat} {A : Option Addr} {b : List UInt8} {z : Int} (W : Wd w0 (rdr g A cap b k (.blk g1 (.cells #[.pointer (some ⟨g, 0, none⟩)] 92) :: .blk g2 (.cells #[.int .i64 z] 3) :: L)) w) (hk : k ≤ b.length) (hb : b.length ≤ 16777216) :
    RetsP Tryz.prog 115 #[.pointer (some ⟨g1, 0, none⟩), .pointer (some ⟨g2, 0, none⟩)] 41 w0 w (fun v L' => (numR 0 0 (b.drop k)).2.2 = 0 ∧ v = .tuple #[] ∧ L' = rdr g A cap b (k + (numR 0 0 (b.drop k)).2.1) (.blk g1 (.cells #[.pointer (some ⟨g, 0, none⟩)] 92) :: .blk g2 (.cells #[.int .i64 (numR 0 0 (b.drop k)).1] 3) :: L))
      (fun x L' => x = (numR 0 0 (b.drop k)).2.2 ∧ x ≠ 0 ∧ L' = rdr g A cap b k (.blk g1 (.cells #[.pointer (some ⟨g, 0, none⟩)] 92) :: .blk g2 (.cells #[.int .i64 z] 3) :: L)) := by
  unfold Go.Fw.RetsP
  refine enterW2 W func115 rfl ntmps115 rfl fun a S => wp_region_lit (run S (.ld gt92 2 rfl rfl rfl <| .z) fun a w S => ?_)
  (refine st_m (op_callRP S call116 (.cons (.t rfl) .nil) (c116 S.wd (by first | assumption | omega | (dsimp only; omega) | exact Sl.nil_ | exact .old S.wd (by assumption) | exact Sl.of_own S.wd (k := 0) rfl (fun _ => rfl) | exact Sl.of_own S.wd (k := 1) rfl (fun _ => rfl) | exact Sl.of_own S.wd (k := 2) rfl (fun _ => rfl) | exact Sl.of_own S.wd (k := 3) rfl (fun _ => rfl) | (simp at *; omega)) (by first | assumption | omega | (dsimp only; omega) | exact Sl.nil_ | exact .old S.wd (by assumption) | exact Sl.of_own S.wd (k := 0) rfl (fun _ => rfl) | exact Sl.of_own S.wd (k := 1) rfl (fun _ => rfl) | exact Sl.of_own S.wd (k := 2) rfl (fun _ => rfl) | exact Sl.of_own S.wd (k := 3) rfl (fun _ => rfl) | (simp at *; omega))) rfl ?_ ?_) <;> clear S a w)
  rintro _ _ ⟨hr1, rfl, rfl⟩ a w S
  refine st_m (op_st S sizeOf3 (.t rfl) (.t rfl) (k := 3) rfl rfl (by simp) fun a w S => st_nil (st_end S (results0 results115) ?_))
  rotate_left
  rintro _ _ ⟨rfl, hr1, rfl⟩ a w S
  refine post_panic S ?_
  rotate_left
  · exact .inl ⟨_, _, rfl, S.wd, hr1, rfl, rfl⟩
  · exact .inr ⟨_, _, rfl, S.wd, rfl, hr1, rfl⟩
theorem u57 {w0 w : World} {L : List Chunk} {g cap k : Nat} {A : Option Addr} {b : List UInt8} (W : Wd w0 (rdr g A cap b k L) w) (hk : k ≤ b.length) (hb : b.length ≤ 16777216) :
    RetsO Tryz.prog 57 #[.pointer (some ⟨g, 0, none⟩)] w0 w (fun v L' => v = .tuple #[.int .i64 (numR 0 0 (b.drop k)).1, .int .i64 (numR 0 0 (b.drop k)).2.2] ∧ L' = rdr g A cap b (k + (numR 0 0 (b.drop k)).2.1) L) := by
  unfold Go.Fw.RetsO
  refine enterW1 W func57 rfl ntmps57 rfl fun a S => wp_seq_k fun _ hK1 => wp_region_lit (st_m (op_box1 S (.t rfl) rfl rfl fun g1 a w S => run S (.ac rfl <| .ac rfl <| .z) fun a w S => st_nil (then_normal (hK1 _ _ (wp_seq_k fun _ hK1 => wp_region_lit (st_m (op_alloc S zeroValue3 (cs := _) rfl rfl fun g2 a w S => st_m (op_st S sizeOf3 (.t rfl) Ev.c (k := 0) rfl rfl (by simp) fun a w S => st_nil (then_normal (hK1 _ _ (wp_seq_k fun _ hK1 => wp_region_lit (run S (.ld gt92 1 rfl rfl rfl <| .yy (ys_mkFunc (.cons (.t rfl) (.cons (.t rfl) .nil))) rfl <| .z) fun a w S => ?_))))))))))))
  have W2 := S.wd.picks (L' := rdr g A cap b k (.blk g1 (.cells #[.pointer (some ⟨g, 0, none⟩)] 92) :: .blk g2 (.cells #[.int .i64 0] 3) :: L)) (by repeat (first | exact Picks.nil | (refine Picks.rest ?_; (repeat (first | exact List.Sublist.refl _ | refine List.Sublist.cons_cons _ ?_ | refine List.Sublist.cons _ ?_)); done) | refine Picks.take 0 rfl ?_ | refine Picks.take 1 rfl ?_ | refine Picks.take 2 rfl ?_ | refine Picks.take 3 rfl ?_ | refine Picks.take 4 rfl ?_ | refine Picks.take 5 rfl ?_ | refine Picks.take 6 rfl ?_ | refine Picks.take 7 rfl ?_ | refine Picks.take 8 rfl ?_ | refine Picks.take 9 rfl ?_ | refine Picks.take 10 rfl ?_ | refine Picks.take 11 rfl ?_))
  replace S := St.mk S.kn W2
  refine st_m (op_callO S call114 (.cons (.t rfl) (.cons (.t rfl) .nil)) (triedW (f := 115) (cs := [.pointer (some ⟨g1, 0, none⟩), .pointer (some ⟨g2, 0, none⟩)])
    (R := fun L' => (numR 0 0 (b.drop k)).2.2 = 0 ∧ L' = rdr g A cap b (k + (numR 0 0 (b.drop k)).2.1) (.blk g1 (.cells #[.pointer (some ⟨g, 0, none⟩)] 92) :: .blk g2 (.cells #[.int .i64 (numR 0 0 (b.drop k)).1] 3) :: L))
    (E := fun x L' => x = (numR 0 0 (b.drop k)).2.2 ∧ L' = rdr g A cap b k (.blk g1 (.cells #[.pointer (some ⟨g, 0, none⟩)] 92) :: .blk g2 (.cells #[.int .i64 0] 3) :: L))
    S.wd call115 fun C w1 W1 => Calls.mono (q115 (L := C :: L) (W1.pk) hk hb) ?_) rfl ?_)
  · intro e w' h
    rcases h with ⟨v, L', rfl, hw, h1, rfl, rfl⟩ | ⟨x, L', rfl, hw, rfl, h1, rfl⟩
    · exact .inl ⟨_, _, rfl, hw.picks (L' := C :: rdr g A cap b (k + (numR 0 0 (b.drop k)).2.1) (.blk g1 (.cells #[.pointer (some ⟨g, 0, none⟩)] 92) :: .blk g2 (.cells #[.int .i64 (numR 0 0 (b.drop k)).1] 3) :: L)) (by repeat (first | exact Picks.nil | (refine Picks.rest ?_; (repeat (first | exact List.Sublist.refl _ | refine List.Sublist.cons_cons _ ?_ | refine List.Sublist.cons _ ?_)); done) | refine Picks.take 0 rfl ?_ | refine Picks.take 1 rfl ?_ | refine Picks.take 2 rfl ?_ | refine Picks.take 3 rfl ?_ | refine Picks.take 4 rfl ?_ | refine Picks.take 5 rfl ?_ | refine Picks.take 6 rfl ?_ | refine Picks.take 7 rfl ?_ | refine Picks.take 8 rfl ?_ | refine Picks.take 9 rfl ?_ | refine Picks.take 10 rfl ?_ | refine Picks.take 11 rfl ?_)), rfl, _, _, rfl, h1, rfl⟩
    · exact .inr ⟨_, _, rfl, hw.picks (L' := C :: rdr g A cap b k (.blk g1 (.cells #[.pointer (some ⟨g, 0, none⟩)] 92) :: .blk g2 (.cells #[.int .i64 0] 3) :: L)) (by repeat (first | exact Picks.nil | (refine Picks.rest ?_; (repeat (first | exact List.Sublist.refl _ | refine List.Sublist.cons_cons _ ?_ | refine List.Sublist.cons _ ?_)); done) | refine Picks.take 0 rfl ?_ | refine Picks.take 1 rfl ?_ | refine Picks.take 2 rfl ?_ | refine Picks.take 3 rfl ?_ | refine Picks.take 4 rfl ?_ | refine Picks.take 5 rfl ?_ | refine Picks.take 6 rfl ?_ | refine Picks.take 7 rfl ?_ | refine Picks.take 8 rfl ?_ | refine Picks.take 9 rfl ?_ | refine Picks.take 10 rfl ?_ | refine Picks.take 11 rfl ?_)), h1, _, _, rfl, rfl, rfl⟩
  clear S W2
  rintro _ _ ⟨x, rfl, h⟩ a w S
  rcases h with ⟨rfl, h1, rfl⟩ | ⟨hx, rfl, rfl⟩
  · refine run S (.as rfl <| .z) fun a w S => st_nil (then_normal (hK1 _ _ (sg S (.ld gt3 3 rfl rfl rfl <| .mv rfl <| .as rfl <| .as rfl <| .z) fun a w S => wp_ret (st_ret S (results2 S results57 (Rv.tmp rfl) (Rv.tmp rfl)) ?_))))
    rw [h1]
    exact ⟨_, _, rfl, S.wd.picks (L' := rdr g A cap b (k + (numR 0 0 (b.drop k)).2.1) L) (by repeat (first | exact Picks.nil | (refine Picks.rest ?_; (repeat (first | exact List.Sublist.refl _ | refine List.Sublist.cons_cons _ ?_ | refine List.Sublist.cons _ ?_)); done) | refine Picks.take 0 rfl ?_ | refine Picks.take 1 rfl ?_ | refine Picks.take 2 rfl ?_ | refine Picks.take 3 rfl ?_ | refine Picks.take 4 rfl ?_ | refine Picks.take 5 rfl ?_ | refine Picks.take 6 rfl ?_ | refine Picks.take 7 rfl ?_ | refine Picks.take 8 rfl ?_ | refine Picks.take 9 rfl ?_ | refine Picks.take 10 rfl ?_ | refine Picks.take 11 rfl ?_)), rfl, rfl⟩
  · refine run S (.as rfl <| .z) fun a w S => st_nil (then_normal (hK1 _ _ (sg S (.ld gt3 3 rfl rfl rfl <| .mv rfl <| .as rfl <| .as rfl <| .z) fun a w S => wp_ret (st_ret S (results2 S results57 (Rv.tmp rfl) (Rv.tmp rfl)) ?_))))
    have hz := numR_bad hx
    rw [hz.1, hz.2, Nat.add_zero]
    exact ⟨_, _, rfl, S.wd.picks (L' := rdr g A cap b k L) (by repeat (first | exact Picks.nil | (refine Picks.rest ?_; (repeat (first | exact List.Sublist.refl _ | refine List.Sublist.cons_cons _ ?_ | refine List.Sublist.cons _ ?_)); done) | refine Picks.take 0 rfl ?_ | refine Picks.take 1 rfl ?_ | refine Picks.take 2 rfl ?_ | refine Picks.take 3 rfl ?_ | refine Picks.take 4 rfl ?_ | refine Picks.take 5 rfl ?_ | refine Picks.take 6 rfl ?_ | refine Picks.take 7 rfl ?_ | refine Picks.take 8 rfl ?_ | refine Picks.take 9 rfl ?_ | refine Picks.take 10 rfl ?_ | refine Picks.take 11 rfl ?_)), rfl, rfl⟩
theorem c57 {w0 w : World} {L : List Chunk} {g cap k : Nat} {A : Option Addr} {b : List UInt8} (W : Wd w0 (rdr g A cap b k L) w) (hk : k ≤ b.length) (hb : b.length ≤ 16777216) :
    RetsO Tryz.prog 57 #[.pointer (some ⟨g, 0, none⟩)] w0 w (fun v L' => v = .tuple #[.int .i64 (numAt b k).1, .int .i64 (numAt b k).2.2] ∧ L' = rdr g A cap b (numAt b k).2.1 L) := u57 W hk hb
theorem q162 {w0 w : World} {L : List Chunk} {g g1 g2 cap k : Nat} {A : Option Addr} {b : List UInt8} {z : Int} (W : Wd w0 (rdr g A cap b k (.blk g1 (.cells #[.pointer (some ⟨g, 0, none⟩)] 92) :: .blk g2 (.cells #[.int .i64 z] 3) :: L)) w) (hk : k ≤ b.length) (hb : b.length ≤ 16777216) :
    RetsP Tryz.prog 162 #[.pointer (some ⟨g1, 0, none⟩), .pointer (some ⟨g2, 0, none⟩)] 41 w0 w (fun v L' => ∃ x : UInt8, b[k]? = some x ∧ v = .tuple #[] ∧ L' = rdr g A cap b (k + 1) (.blk g1 (.cells #[.pointer (some ⟨g, 0, none⟩)] 92) :: .blk g2 (.cells #[.int .i64 (x.toNat : Int)] 3) :: L))
      (fun x L' => x = 2 ∧ k = b.length ∧ L' = rdr g A cap b k (.blk g1 (.cells #[.pointer (some ⟨g, 0, none⟩)] 92) :: .blk g2 (.cells #[.int .i64 z] 3) :: L)) := by
  by_cases hlt : k < b.length
  · obtain ⟨x, hx⟩ : ∃ x, b[k]? = some x := ⟨b[k], by simp⟩
    have hd : (b.drop k).take 1 = [x] := by
      obtain ⟨h, rfl⟩ := List.getElem?_eq_some_iff.1 hx
      rw [List.drop_eq_getElem_cons h]; rfl
    have rw_d := hd
    unfold Go.Fw.RetsP
    refine enterW2 W func162 rfl ntmps162 rfl fun a S => wp_seq_k fun _ hK1 => sg S (.ld gt92 2 rfl rfl rfl <| .xx (ys_call call121 (.cons (.t rfl) .nil) (fun hp w W => c121 _ _ _ _ _ _ (by exact Wd.cell W (k := 0) rfl rfl) (by exact Wd.cell W (k := 0) rfl rfl) (by exact Wd.cell W (k := 0) rfl rfl) (by assumption) (by assumption))) rfl <| .yy (ys_F (by omega) (ys_eql (.t rfl) Ev.c)) rfl <| .z) fun a w S => st_else S (.t rfl) (wp_skip (then_normal (hK1 _ _ (wp_region_lit (run S (.ld gt92 2 rfl rfl rfl <| .z) fun a w S => ?_)))))
    (refine st_m (op_callO S call140 (.cons (.t rfl) (.cons Ev.c .nil)) (c140 S.wd _ (by first | assumption | omega | (dsimp only; omega) | exact Sl.nil_ | exact .old S.wd (by assumption) | exact Sl.of_own S.wd (k := 0) rfl (fun _ => rfl) | exact Sl.of_own S.wd (k := 1) rfl (fun _ => rfl) | exact Sl.of_own S.wd (k := 2) rfl (fun _ => rfl) | exact Sl.of_own S.wd (k := 3) rfl (fun _ => rfl) | (simp at *; omega)) (by first | assumption | omega | (dsimp only; omega) | exact Sl.nil_ | exact .old S.wd (by assumption) | exact Sl.of_own S.wd (k := 0) rfl (fun _ => rfl) | exact Sl.of_own S.wd (k := 1) rfl (fun _ => rfl) | exact Sl.of_own S.wd (k := 2) rfl (fun _ => rfl) | exact Sl.of_own S.wd (k := 3) rfl (fun _ => rfl) | (simp at *; omega))) rfl ?_) <;> clear S a w)
    rintro _ _ ⟨A11, c11, rfl, rfl⟩ a w S
    rw [rw_d] at S
    obtain ⟨ga, rfl⟩ := S.wd.row_at (k := 2) rfl (by have := (S.wd.room (k := 2) rfl).1; simp at this; omega)
    have hq : ([x] : List UInt8)[0]? = some x := rfl
    simp only [List.length_singleton] at S
    have hx8 : x.toNat < 256 := x.toNat_lt
    refine run S (.yy (ys_ixS (j := 0) underlying28 sizeOf5 (.t rfl) Ev.c (fun _ => by omega)) rfl <| .yy (ys_ldW ⟨isAgg5, sizeOf5⟩ (.t rfl) (k := 2) rfl hq (fun _ => rfl) rfl) rfl <| .yy (ys_cvI underlying5 underlying3 (.t rfl) (fun _ => by unfold I64; omega)) rfl <| .z) fun a w S => st_m (op_st S sizeOf3 (.t rfl) (.t rfl) (k := 4) rfl rfl (by simp) fun a w S => st_nil (st_end S (results0 results162) ?_))
    exact .inl ⟨_, _, rfl, S.wd.picks (L' := rdr g A cap b (k + 1) (.blk g1 (.cells #[.pointer (some ⟨g, 0, none⟩)] 92) :: .blk g2 (.cells #[.int .i64 (x.toNat : Int)] 3) :: L)) (by repeat (first | exact Picks.nil | (refine Picks.rest ?_; (repeat (first | exact List.Sublist.refl _ | refine List.Sublist.cons_cons _ ?_ | refine List.Sublist.cons _ ?_)); done) | refine Picks.take 0 rfl ?_ | refine Picks.take 1 rfl ?_ | refine Picks.take 2 rfl ?_ | refine Picks.take 3 rfl ?_ | refine Picks.take 4 rfl ?_ | refine Picks.take 5 rfl ?_ | refine Picks.take 6 rfl ?_ | refine Picks.take 7 rfl ?_ | refine Picks.take 8 rfl ?_ | refine Picks.take 9 rfl ?_ | refine Picks.take 10 rfl ?_ | refine Picks.take 11 rfl ?_)), x, hx, rfl, rfl⟩
  · unfold Go.Fw.RetsP
    refine enterW2 W func162 rfl ntmps162 rfl fun a S => wp_seq_k fun _ hK1 => sg S (.ld gt92 2 rfl rfl rfl <| .xx (ys_call call121 (.cons (.t rfl) .nil) (fun hp w W => c121 _ _ _ _ _ _ (by exact Wd.cell W (k := 0) rfl rfl) (by exact Wd.cell W (k := 0) rfl rfl) (by exact Wd.cell W (k := 0) rfl rfl) (by assumption) (by assumption))) rfl <| .yy (ys_T (by omega) (ys_eql (.t rfl) Ev.c)) rfl <| .z) fun a w S => st_then S (.t rfl) (wp_region_lit ?_)
    (refine st_m (op_callRP S call139 (.cons Ev.c .nil) (c139 S.wd _) rfl ?_ ?_) <;> clear S a w)
    (intro _ _ h; exact h.elim)
    rintro _ _ ⟨rfl, rfl⟩ a w S
    refine then_panic ?_
    refine post_panic S ?_
    have : k = b.length := by omega
    exact .inr ⟨_, _, rfl, S.wd, rfl, this, rfl⟩
theorem c118 {w0 w : World} {L : List Chunk} {g cap k : Nat} {A : Option Addr} {b : List UInt8} (W : Wd w0 (rdr g A cap b k L) w) (hk : k ≤ b.length) (hb : b.length ≤ 16777216) :
    RetsO Tryz.prog 118 #[.pointer (some ⟨g, 0, none⟩)] w0 w (fun v L' => v = .tuple #[.int .i64 (byteR b k).1, .int .i64 (byteR b k).2.2] ∧ L' = rdr g A cap b (k + (byteR b k).2.1) L) := by
  unfold Go.Fw.RetsO
  refine enterW1 W func118 rfl ntmps118 rfl fun a S => wp_seq_k fun _ hK1 => wp_region_lit (st_m (op_box1 S (.t rfl) rfl rfl fun g1 a w S => run S (.ac rfl <| .ac rfl <| .z) fun a w S => st_nil (then_normal (hK1 _ _ (wp_seq_k fun _ hK1 => wp_region_lit (st_m (op_alloc S zeroValue3 (cs := _) rfl rfl fun g2 a w S => st_m (op_st S sizeOf3 (.t rfl) Ev.c (k := 0) rfl rfl (by simp) fun a w S => st_nil (then_normal (hK1 _ _ (wp_seq_k fun _ hK1 => wp_region_lit (run S (.ld gt92 1 rfl rfl rfl <| .yy (ys_mkFunc (.cons (.t rfl) (.cons (.t rfl) .nil))) rfl <| .z) fun a w S => ?_))))))))))))
  have W2 := S.wd.picks (L' := rdr g A cap b k (.blk g1 (.cells #[.pointer (some ⟨g, 0, none⟩)] 92) :: .blk g2 (.cells #[.int .i64 0] 3) :: L)) (by repeat (first | exact Picks.nil | (refine Picks.rest ?_; (repeat (first | exact List.Sublist.refl _ | refine List.Sublist.cons_cons _ ?_ | refine List.Sublist.cons _ ?_)); done) | refine Picks.take 0 rfl ?_ | refine Picks.take 1 rfl ?_ | refine Picks.take 2 rfl ?_ | refine Picks.take 3 rfl ?_ | refine Picks.take 4 rfl ?_ | refine Picks.take 5 rfl ?_ | refine Picks.take 6 rfl ?_ | refine Picks.take 7 rfl ?_ | refine Picks.take 8 rfl ?_ | refine Picks.take 9 rfl ?_ | refine Picks.take 10 rfl ?_ | refine Picks.take 11 rfl ?_))
  replace S := St.mk S.kn W2
  refine st_m (op_callO S call114 (.cons (.t rfl) (.cons (.t rfl) .nil)) (triedW (f := 162) (cs := [.pointer (some ⟨g1, 0, none⟩), .pointer (some ⟨g2, 0, none⟩)])
    (R := fun L' => ∃ x : UInt8, b[k]? = some x ∧ L' = rdr g A cap b (k + 1) (.blk g1 (.cells #[.pointer (some ⟨g, 0, none⟩)] 92) :: .blk g2 (.cells #[.int .i64 (x.toNat : Int)] 3) :: L))
    (E := fun x L' => x = 2 ∧ k = b.length ∧ L' = rdr g A cap b k (.blk g1 (.cells #[.pointer (some ⟨g, 0, none⟩)] 92) :: .blk g2 (.cells #[.int .i64 0] 3) :: L))
    S.wd call162 fun C w1 W1 => Calls.mono (q162 (L := C :: L) (W1.pk) hk hb) ?_) rfl ?_)
  · intro e w' h
    rcases h with ⟨v, L', rfl, hw, x, h1, rfl, rfl⟩ | ⟨x, L', rfl, hw, rfl, h1, rfl⟩
    · exact .inl ⟨_, _, rfl, hw.picks (L' := C :: rdr g A cap b (k + 1) (.blk g1 (.cells #[.pointer (some ⟨g, 0, none⟩)] 92) :: .blk g2 (.cells #[.int .i64 (x.toNat : Int)] 3) :: L)) (by repeat (first | exact Picks.nil | (refine Picks.rest ?_; (repeat (first | exact List.Sublist.refl _ | refine List.Sublist.cons_cons _ ?_ | refine List.Sublist.cons _ ?_)); done) | refine Picks.take 0 rfl ?_ | refine Picks.take 1 rfl ?_ | refine Picks.take 2 rfl ?_ | refine Picks.take 3 rfl ?_ | refine Picks.take 4 rfl ?_ | refine Picks.take 5 rfl ?_ | refine Picks.take 6 rfl ?_ | refine Picks.take 7 rfl ?_ | refine Picks.take 8 rfl ?_ | refine Picks.take 9 rfl ?_ | refine Picks.take 10 rfl ?_ | refine Picks.take 11 rfl ?_)), rfl, _, _, rfl, x, h1, rfl⟩
    · exact .inr ⟨_, _, rfl, hw.picks (L' := C :: rdr g A cap b k (.blk g1 (.cells #[.pointer (some ⟨g, 0, none⟩)] 92) :: .blk g2 (.cells #[.int .i64 0] 3) :: L)) (by repeat (first | exact Picks.nil | (refine Picks.rest ?_; (repeat (first | exact List.Sublist.refl _ | refine List.Sublist.cons_cons _ ?_ | refine List.Sublist.cons _ ?_)); done) | refine Picks.take 0 rfl ?_ | refine Picks.take 1 rfl ?_ | refine Picks.take 2 rfl ?_ | refine Picks.take 3 rfl ?_ | refine Picks.take 4 rfl ?_ | refine Picks.take 5 rfl ?_ | refine Picks.take 6 rfl ?_ | refine Picks.take 7 rfl ?_ | refine Picks.take 8 rfl ?_ | refine Picks.take 9 rfl ?_ | refine Picks.take 10 rfl ?_ | refine Picks.take 11 rfl ?_)), by decide, _, _, rfl, rfl, h1, rfl⟩
  clear S W2
  rintro _ _ ⟨x, rfl, h⟩ a w S
  rcases h with ⟨rfl, x, h1, rfl⟩ | ⟨hx, rfl, h1, rfl⟩
  · refine run S (.as rfl <| .z) fun a w S => st_nil (then_normal (hK1 _ _ (sg S (.ld gt3 3 rfl rfl rfl <| .mv rfl <| .as rfl <| .as rfl <| .z) fun a w S => wp_ret (st_ret S (results2 S results118 (Rv.tmp rfl) (Rv.tmp rfl)) ?_))))
    rw [byteR_some h1]
    exact ⟨_, _, rfl, S.wd.picks (L' := rdr g A cap b (k + 1) L) (by repeat (first | exact Picks.nil | (refine Picks.rest ?_; (repeat (first | exact List.Sublist.refl _ | refine List.Sublist.cons_cons _ ?_ | refine List.Sublist.cons _ ?_)); done) | refine Picks.take 0 rfl ?_ | refine Picks.take 1 rfl ?_ | refine Picks.take 2 rfl ?_ | refine Picks.take 3 rfl ?_ | refine Picks.take 4 rfl ?_ | refine Picks.take 5 rfl ?_ | refine Picks.take 6 rfl ?_ | refine Picks.take 7 rfl ?_ | refine Picks.take 8 rfl ?_ | refine Picks.take 9 rfl ?_ | refine Picks.take 10 rfl ?_ | refine Picks.take 11 rfl ?_)), rfl, rfl⟩
  · refine run S (.as rfl <| .z) fun a w S => st_nil (then_normal (hK1 _ _ (sg S (.ld gt3 3 rfl rfl rfl <| .mv rfl <| .as rfl <| .as rfl <| .z) fun a w S => wp_ret (st_ret S (results2 S results118 (Rv.tmp rfl) (Rv.tmp rfl)) ?_))))
    rw [byteR_none h1]
    exact ⟨_, _, rfl, S.wd.picks (L' := rdr g A cap b k L) (by repeat (first | exact Picks.nil | (refine Picks.rest ?_; (repeat (first | exact List.Sublist.refl _ | refine List.Sublist.cons_cons _ ?_ | refine List.Sublist.cons _ ?_)); done) | refine Picks.take 0 rfl ?_ | refine Picks.take 1 rfl ?_ | refine Picks.take 2 rfl ?_ | refine Picks.take 3 rfl ?_ | refine Picks.take 4 rfl ?_ | refine Picks.take 5 rfl ?_ | refine Picks.take 6 rfl ?_ | refine Picks.take 7 rfl ?_ | refine Picks.take 8 rfl ?_ | refine Picks.take 9 rfl ?_ | refine Picks.take 10 rfl ?_ | refine Picks.take 11 rfl ?_)), rfl, rfl⟩
end Go.Proofs.YtfblmkocmnbdcaaGreat
set_option linter.unusedVariables false
set_option linter.unusedSimpArgs false
namespace Go.Fw
open Go.RowKit
theorem numR_fwd (post : List UInt8) : ∀ (x i : Nat) (n : Int), i ≤ 8 → x < 128 ^ (9 - i) → (0 < i → 0 < x) → numR i n (numB x ++ post) = (n + (x : Int) * 128 ^ i, i + (numB x).length, 0) := by
  intro x
  induction x using Nat.strongRecOn with
  | _ x ih =>
    intro i n hi hx h0
    by_cases hs : x < 128
    · rw [numB_small hs]
      have hb : (b8 (x : Int)).toNat = x := by have := b8_val (x : Int); omega
      rw [List.singleton_append, numR, hb, if_neg (by omega), if_pos hs, if_neg (by omega)]
      have : (x : Int) % 128 = x := by omega
      rw [this]
      rfl
    · rw [numB_big hs]
      have hb : (b8 ((x % 128 + 128 : Nat) : Int)).toNat = x % 128 + 128 := by have := b8_val ((x % 128 + 128 : Nat) : Int); omega
      have hi8 : i < 8 := by
        rcases Nat.lt_or_ge i 8 with h | h
        · exact h
        · obtain rfl : i = 8 := by omega
          simp at hx; omega
      have hp : 128 ^ (9 - i) = 128 ^ (9 - (i + 1)) * 128 := by rw [show 9 - i = (9 - (i + 1)) + 1 by omega, Nat.pow_succ]
      rw [List.cons_append, numR, hb, if_neg (by omega), if_neg (by omega), ih (x / 128) (by omega) (i + 1) _ (by omega) (by rw [hp] at hx; omega) (by omega)]
      have hq : (((x % 128 + 128 : Nat) : Int)) % 128 = ((x % 128 : Nat) : Int) := by omega
      have h5 : (128 : Int) ^ (i + 1) = 128 * 128 ^ i := by rw [Int.pow_succ, Int.mul_comm]
      have hxx : (x : Int) = ((x % 128 : Nat) : Int) + ((x / 128 : Nat) : Int) * 128 := by omega
      rw [hq, h5]
      refine Prod.ext ?_ (Prod.ext ?_ rfl)
      · dsimp only
        conv => rhs; rw [hxx, Int.add_mul, Int.mul_assoc]
        omega
      · simp only [List.length_cons]; omega
theorem numR_inv : ∀ (l : List UInt8) (i : Nat) (n : Int), (numR i n l).2.2 = 0 → i ≤ 8 → ∃ y : Nat, (numR i n l).1 = n + (y : Int) * 128 ^ i ∧ i < (numR i n l).2.1 ∧ numB y = l.take ((numR i n l).2.1 - i) ∧ (0 < i → 0 < y)
  | [], _, _, h, _ => by simp [numR] at h
  | x :: r, i, n, h, hi => by
    have hx8 : x.toNat < 256 := x.toNat_lt
    unfold numR at h ⊢
    split at h
    · simp at h
    · rename_i h1
      rw [if_neg h1]
      split at h
      · rename_i h2
        rw [if_pos h2]
        split at h
        · simp at h
        · rename_i h3
          rw [if_neg h3]
          refine ⟨x.toNat, ?_, ?_, ?_, ?_⟩
          · dsimp only
            rw [show (x.toNat : Int) % 128 = x.toNat by omega]
          · dsimp only; omega
          · dsimp only
            rw [numB_small h2, show i + 1 - i = 1 by omega, b8_nat]; rfl
          · intro hi0; omega
      · rename_i h2
        rw [if_neg h2]
        obtain ⟨y, e1, e2, e3, e4⟩ := numR_inv r (i + 1) _ h (by omega)
        have h5 : (128 : Int) ^ (i + 1) = 128 * 128 ^ i := by rw [Int.pow_succ, Int.mul_comm]
        have hy := e4 (by omega)
        refine ⟨x.toNat % 128 + 128 * y, ?_, by omega, ?_, by omega⟩
        · rw [e1, h5]
          have : (((x.toNat % 128 + 128 * y : Nat)) : Int) = (x.toNat : Int) % 128 + (y : Int) * 128 := by omega
          rw [this, Int.add_mul, Int.mul_assoc]
          omega
        · rw [numB_big (by omega), show (x.toNat % 128 + 128 * y) / 128 = y by omega, e3, show (numR (i + 1) (n + (x.toNat : Int) % 128 * 128 ^ i) r).2.1 - i = ((numR (i + 1) (n + (x.toNat : Int) % 128 * 128 ^ i) r).2.1 - (i + 1)) + 1 by omega, List.take_succ_cons]
          congr 1
          rw [b8_of (x := x)]
          omega
theorem take_more {b : List UInt8} {k j : Nat} : b.take (k + j) = b.take k ++ (b.drop k).take j := List.take_add
theorem numAt_fwd {pre post : List UInt8} {x : Int} (h0 : 0 ≤ x) (h1 : x ≤ 9223372036854775807) : numAt (putL pre x ++ post) pre.length = (x, (putL pre x).length, 0) := by
  unfold numAt putL
  rw [List.append_assoc, List.drop_left, numR_fwd post x.toNat 0 0 (by omega) (by simp; omega) (by omega)]
  refine Prod.ext ?_ (Prod.ext ?_ rfl)
  · dsimp only; rw [Int.pow_zero]; omega
  · simp
theorem numAt_inv {b : List UInt8} {k : Nat} (h : (numAt b k).2.2 = 0) : b.take (numAt b k).2.1 = putL (b.take k) (numAt b k).1 := by
  obtain ⟨y, e1, e2, e3, _⟩ := numR_inv (b.drop k) 0 0 h (by omega)
  unfold numAt putL
  dsimp only
  rw [take_more, e1]
  congr 1
  have hy : ((0 : Int) + (y : Int) * 128 ^ 0).toNat = y := by rw [Int.pow_zero]; omega
  rw [hy, e3, Nat.sub_zero]
theorem dotB_app (pre : List UInt8) (d : Dot) : ∃ X, dotB pre d = pre ++ X := ⟨numB d.node.toNat ++ numB d.life.toNat ++ numB d.count.toNat, by simp [dotB, putL]⟩
theorem foldB_app : ∀ (l : List Dot) (pre : List UInt8), ∃ X, l.foldl dotB pre = pre ++ X
  | [], pre => ⟨[], by simp⟩
  | d :: r, pre => by
    obtain ⟨X, hX⟩ := dotB_app pre d
    obtain ⟨Y, hY⟩ := foldB_app r (dotB pre d)
    exact ⟨X ++ Y, by rw [List.foldl_cons, hY, hX, List.append_assoc]⟩
theorem dotAt_fwd {pre post : List UInt8} {d : Dot} (h : mayD d = true) : dotAt (dotB pre d ++ post) pre.length = (d, (dotB pre d).length, 0) := by
  have hl := may_lim h
  have e1 : dotB pre d ++ post = putL pre d.node ++ (numB d.life.toNat ++ (numB d.count.toNat ++ post)) := by simp [dotB, putL]
  have e2 : dotB pre d ++ post = putL (putL pre d.node) d.life ++ (numB d.count.toNat ++ post) := by simp [dotB, putL]
  have n1 : numAt (dotB pre d ++ post) pre.length = (d.node, (putL pre d.node).length, 0) := by rw [e1]; exact numAt_fwd (by omega) (by omega)
  have n2 : numAt (dotB pre d ++ post) (putL pre d.node).length = (d.life, (putL (putL pre d.node) d.life).length, 0) := by rw [e2]; exact numAt_fwd (by omega) (by omega)
  have n3 : numAt (dotB pre d ++ post) (putL (putL pre d.node) d.life).length = (d.count, (dotB pre d).length, 0) := by exact numAt_fwd (by omega) (by omega)
  unfold dotAt
  rw [n1, bindR_ok rfl]
  dsimp only
  rw [n2, bindR_ok rfl]
  dsimp only
  rw [n3, bindR_ok rfl]
theorem bindR_zero {α β : Type} {r : α × Nat × Int} {z : β} {f : α → Nat → β × Nat × Int} (h : (bindR r z f).2.2 = 0) : r.2.2 = 0 ∧ bindR r z f = f r.1 r.2.1 := by
  by_cases h1 : r.2.2 = 0
  · exact ⟨h1, bindR_ok h1⟩
  · rw [bindR_bad h1] at h
    exact absurd h h1
theorem dotAt_inv {b : List UInt8} {k : Nat} (h : (dotAt b k).2.2 = 0) : b.take (dotAt b k).2.1 = dotB (b.take k) (dotAt b k).1 := by
  unfold dotAt at h ⊢
  obtain ⟨h1, e1⟩ := bindR_zero h
  rw [e1] at h ⊢
  obtain ⟨h2, e2⟩ := bindR_zero h
  rw [e2] at h ⊢
  obtain ⟨h3, e3⟩ := bindR_zero h
  rw [e3]
  dsimp only
  rw [numAt_inv h3, numAt_inv h2, numAt_inv h1]
  rfl
theorem dotsAt_fwd {post : List UInt8} : ∀ {l acc : List Dot} {pre : List UInt8}, (∀ x ∈ l, mayD x = true) → dotsAt (l.foldl dotB pre ++ post) l.length acc pre.length = (acc ++ l, (l.foldl dotB pre).length, 0)
  | [], acc, pre, _ => by simp [dotsAt]
  | d :: r, acc, pre, h => by
    obtain ⟨X, hX⟩ := foldB_app r (dotB pre d)
    have e : (d :: r).foldl dotB pre ++ post = dotB pre d ++ (X ++ post) := by rw [List.foldl_cons, hX, List.append_assoc]
    rw [List.length_cons, dotsAt]
    have hd : dotAt ((d :: r).foldl dotB pre ++ post) pre.length = (d, (dotB pre d).length, 0) := by rw [e]; exact dotAt_fwd (h d (by simp))
    rw [hd, bindR_ok rfl]
    dsimp only
    rw [List.foldl_cons, dotsAt_fwd (fun x hx => h x (by simp [hx])), List.append_assoc]
    rfl
theorem dotsAt_inv {b : List UInt8} : ∀ {n k : Nat} {acc : List Dot}, (dotsAt b n acc k).2.2 = 0 → ∃ l, (dotsAt b n acc k).1 = acc ++ l ∧ l.length = n ∧ b.take (dotsAt b n acc k).2.1 = l.foldl dotB (b.take k)
  | 0, k, acc, _ => ⟨[], by simp [dotsAt], rfl, rfl⟩
  | n + 1, k, acc, h => by
    unfold dotsAt at h ⊢
    obtain ⟨h1, e1⟩ := bindR_zero h
    rw [e1] at h ⊢
    obtain ⟨l, e2, e3, e4⟩ := dotsAt_inv h
    exact ⟨(dotAt b k).1 :: l, by rw [e2, List.append_assoc]; rfl, by simp [e3], by rw [e4, dotAt_inv h1]; rfl⟩
theorem listAt_fwd {pre post : List UInt8} {l : List Dot} (h : ∀ x ∈ l, mayD x = true) (hl : l.length ≤ 64) : listAt (dotsB pre l ++ post) pre.length = (l, (dotsB pre l).length, 0) := by
  obtain ⟨X, hX⟩ := foldB_app l (putL pre (l.length : Int))
  have e : dotsB pre l ++ post = putL pre (l.length : Int) ++ (X ++ post) := by unfold dotsB; rw [hX, List.append_assoc]
  have hn : numAt (dotsB pre l ++ post) pre.length = ((l.length : Int), (putL pre (l.length : Int)).length, 0) := by rw [e]; exact numAt_fwd (by omega) (by omega)
  unfold listAt
  rw [hn, bindR_ok rfl]
  dsimp only
  rw [if_neg (by omega), Int.toNat_natCast]
  have := dotsAt_fwd (post := post) (acc := []) (pre := putL pre (l.length : Int)) h
  unfold dotsB
  rw [this]
  rfl
theorem listAt_inv {b : List UInt8} {k : Nat} (h : (listAt b k).2.2 = 0) : b.take (listAt b k).2.1 = dotsB (b.take k) (listAt b k).1 := by
  unfold listAt at h ⊢
  obtain ⟨h1, e1⟩ := bindR_zero h
  rw [e1] at h ⊢
  split at h
  · simp at h
  · rename_i h2
    rw [if_neg h2]
    obtain ⟨l, e2, e3, e4⟩ := dotsAt_inv h
    have hv := numAt_val b k
    rw [e4, e2, numAt_inv h1]
    unfold dotsB
    rw [List.nil_append, e3, show (((numAt b k).1.toNat : Nat) : Int) = (numAt b k).1 by omega]
theorem decAt_fwd {pre post : List UInt8} {C : Ctx} (h : canL C = true) : decAt (encC pre C ++ post) pre.length = (C, (encC pre C).length, 0) := by
  have hlen := can_len h
  have hm := (can_nf h).mayM
  have hc := (can_nf h).mayC
  obtain ⟨X, hX⟩ := foldB_app C.cloud (putL (dotsB pre C.marks) (C.cloud.length : Int))
  have e : encC pre C ++ post = dotsB pre C.marks ++ (numB C.cloud.length ++ X ++ post) := by
    have e2 : encC pre C = C.cloud.foldl dotB (putL (dotsB pre C.marks) (C.cloud.length : Int)) := rfl
    rw [e2, hX]
    simp [putL]
  have h1 : listAt (encC pre C ++ post) pre.length = (C.marks, (dotsB pre C.marks).length, 0) := by rw [e]; exact listAt_fwd hm hlen.1
  have h2 : listAt (encC pre C ++ post) (dotsB pre C.marks).length = (C.cloud, (encC pre C).length, 0) := listAt_fwd hc hlen.2
  have h3 : ctxAt (encC pre C ++ post) pre.length = (C, (encC pre C).length, 0) := by
    unfold ctxAt
    rw [h1, bindR_ok rfl]
    dsimp only
    rw [h2, bindR_ok rfl]
    dsimp only
    rw [if_pos h]
  unfold decAt
  rw [h3, if_pos rfl]
theorem decAt_inv {b : List UInt8} {k : Nat} (h : (decAt b k).2.2 = 0) : canL (decAt b k).1 = true ∧ b.take (decAt b k).2.1 = encC (b.take k) (decAt b k).1 := by
  by_cases h0 : (ctxAt b k).2.2 = 0
  · unfold decAt at h ⊢
    rw [if_pos h0]
    unfold ctxAt at h0 ⊢
    obtain ⟨h1, e1⟩ := bindR_zero h0
    rw [e1] at h0 ⊢
    obtain ⟨h2, e2⟩ := bindR_zero h0
    rw [e2] at h0 ⊢
    split at h0
    · rename_i hc
      rw [if_pos hc]
      exact ⟨hc, by rw [listAt_inv h2, listAt_inv h1]; rfl⟩
    · simp at h0
  · unfold decAt at h
    rw [if_neg h0] at h
    exact absurd h h0
theorem decAt_le {b : List UInt8} {k : Nat} (h : k ≤ b.length) : k ≤ (decAt b k).2.1 ∧ (decAt b k).2.1 ≤ b.length := by
  unfold decAt
  split
  · exact ctxAt_le h
  · exact ⟨Nat.le_refl _, h⟩
end Go.Fw
set_option linter.unusedVariables false
set_option linter.unusedSimpArgs false
set_option maxRecDepth 100000
set_option maxHeartbeats 4000000
namespace Go.Fw
def textL (l s : List UInt8) : List UInt8 := putL l (s.length : Int) ++ s
def textR (b : List UInt8) (k : Nat) (most : Int) : List UInt8 × Nat × Int :=
  if (numAt b k).2.2 = 0 then (if max most 0 < (numAt b k).1 then ([], k, 4) else if ((b.length - (numAt b k).2.1 : Nat) : Int) < (numAt b k).1 then ([], k, 2) else ((b.drop (numAt b k).2.1).take (numAt b k).1.toNat, (numAt b k).2.1 + (numAt b k).1.toNat, 0)) else ([], k, (numAt b k).2.2)
theorem textR_le {b : List UInt8} {k : Nat} {most : Int} (h : k ≤ b.length) : k ≤ (textR b k most).2.1 ∧ (textR b k most).2.1 ≤ b.length := by
  have h1 := numAt_le h
  have h2 := numAt_val b k
  unfold textR
  split
  · split
    · exact ⟨Nat.le_refl _, h⟩
    · split
      · exact ⟨Nat.le_refl _, h⟩
      · dsimp only; omega
  · exact ⟨Nat.le_refl _, h⟩
theorem textR_bad {b : List UInt8} {k : Nat} {most : Int} (h : (textR b k most).2.2 ≠ 0) : (textR b k most).1 = [] ∧ (textR b k most).2.1 = k := by
  unfold textR at h ⊢
  split
  · rename_i h1
    rw [if_pos h1] at h
    split
    · exact ⟨rfl, rfl⟩
    · rename_i h2
      rw [if_neg h2] at h
      split
      · exact ⟨rfl, rfl⟩
      · rename_i h3
        rw [if_neg h3] at h
        exact absurd rfl h
  · exact ⟨rfl, rfl⟩
end Go.Fw
namespace Go.Proofs.YtfblmkocmnbdcaaGreat
open Go.Fw Go.Proofs Go.RowKit Go.Proofs.Tryz
theorem c54 (w0 : World) (v1 : Value) (l s : List UInt8) (h : Sl encB 1 w0 w0.heap.size v1 l) (hl : l.length ≤ 4194304) (hs : s.length ≤ 4194304) :
    Rets Tryz.prog 54 #[v1, .string (bs s)] w0 fun v L => ∃ A r, v = .slice A (textL l s).length r ∧ L = [rowOf 5 1 encB A r (textL l s)] := by
  have hh := h
  obtain ⟨A, cap, rfl, _⟩ := h
  have hpl := putL_len l (n := (s.length : Int)) (by omega)
  have rw_t : putL l (s.length : Int) ++ s = textL l s := rfl
  unfold Go.Fw.Rets
  refine enter2 func54 rfl ntmps54 rfl fun a S => sg S (.ac rfl <| .z) fun a w S => wp_seq_k fun _ hK1 => wp_region_lit (run S (.mv rfl <| .mv rfl <| .yy (ys_lenStr underlying9 (.t rfl)) rfl <| .z) fun a w S => ?_)
  (refine st_m (op_calls S call53 (.cons (.t rfl) (.cons (.t rfl) .nil)) (c53 _ _ _ _ (by exact .old S.wd (by assumption)) (by omega) (by omega)) rfl ?_); clear S a w; rintro _ _ ⟨A1, c1, rfl, rfl⟩ a w S)
  refine run S (.mv rfl <| .z) fun a w S => st_m (op_extend _ S underlying28 underlying9 (.inl rfl) inf5 rfl (k := 0) rfl (.t rfl) (.t rfl) Src.str (by first | omega | (simp only [List.length_append, List.length_cons, List.length_nil]; omega) | (simp; omega)) rfl rfl rfl fun A2 cap1 a w S => ?_)
  rw [rw_t] at S
  refine run S (.as rfl <| .z) fun a w S => st_nil (then_normal (hK1 _ _ (wp_ret (st_ret S (results1 S results54 (Rv.tmp rfl)) ?_))))
  exact ⟨_, _, rfl, S.wd.pk, _, _, rfl, rfl⟩
theorem c70 (w0 : World) (v1 : Value) (l s : List UInt8) (h : Sl encB 1 w0 w0.heap.size v1 l) (hl : l.length ≤ 4194304) (hs : s.length ≤ 4194304) :
    Rets Tryz.prog 70 #[v1, .string (bs s)] w0 fun v L => ∃ A r, v = .slice A (textL l s).length r ∧ L = [rowOf 5 1 encB A r (textL l s)] := by
  have hh := h
  obtain ⟨A, cap, rfl, _⟩ := h
  have hpl := putL_len l (n := (s.length : Int)) (by omega)
  have rw_t : putL l (s.length : Int) ++ s = textL l s := rfl
  unfold Go.Fw.Rets
  refine enter2 func70 rfl ntmps70 rfl fun a S => sg S (.ac rfl <| .z) fun a w S => wp_seq_k fun _ hK1 => wp_region_lit (run S (.mv rfl <| .mv rfl <| .yy (ys_lenStr underlying9 (.t rfl)) rfl <| .z) fun a w S => ?_)
  (refine st_m (op_calls S call69 (.cons (.t rfl) (.cons (.t rfl) .nil)) (c69 _ _ _ _ (by exact .old S.wd (by assumption)) (by omega) (by omega)) rfl ?_); clear S a w; rintro _ _ ⟨A1, c1, rfl, rfl⟩ a w S)
  refine run S (.mv rfl <| .z) fun a w S => st_m (op_extend _ S underlying28 underlying9 (.inl rfl) inf5 rfl (k := 0) rfl (.t rfl) (.t rfl) Src.str (by first | omega | (simp only [List.length_append, List.length_cons, List.length_nil]; omega) | (simp; omega)) rfl rfl rfl fun A2 cap1 a w S => ?_)
  rw [rw_t] at S
  refine run S (.as rfl <| .z) fun a w S => st_nil (then_normal (hK1 _ _ (wp_ret (st_ret S (results1 S results70 (Rv.tmp rfl)) ?_))))
  exact ⟨_, _, rfl, S.wd.pk, _, _, rfl, rfl⟩
theorem c60 (w0 : World) (g : Nat) (A : Option Addr) (cap k n : Nat) (h0 : w0.cell? ⟨g, 0, none⟩ = some (.slice A n cap)) (h1 : w0.cell? ⟨g, 1, none⟩ = some (.int .i64 (k : Int))) (h2 : w0.cell? ⟨g, 2, none⟩ = some (.bool true)) (hk : k ≤ n) (hn : n ≤ 16777216) :
    Calls Tryz.prog 60 #[.pointer (some ⟨g, 0, none⟩)] w0 fun e w' => e = .returned (.int .i64 (if k < n then 3 else 0)) ∧ Bel w0.heap.size w0 w' := by
  by_cases h : k < n
  · refine enter1 func60 rfl ntmps60 rfl fun a S => sg S (.ac rfl <| .z) fun a w S => wp_seq_k fun _ hK1 => sg S (.mv rfl <| .xx (ys_call call120 (.cons (.t rfl) .nil) (fun hp w W => c120 _ _ (by exact Wd.cellOld W (by assumption)))) rfl <| .nt rfl <| .z) fun a w S => st_else S (.t rfl) (wp_skip (then_normal (hK1 _ _ (wp_seq_k fun _ hK1 => sg S (.mv rfl <| .xx (ys_call call121 (.cons (.t rfl) .nil) (fun hp w W => c121 _ _ _ _ _ _ (by exact Wd.cellOld W (by assumption)) (by exact Wd.cellOld W (by assumption)) (by exact Wd.cellOld W (by assumption)) (by assumption) (by assumption))) rfl <| .yy (ys_T (by omega) (ys_gtr (.t rfl) Ev.c)) rfl <| .z) fun a w S => st_then S (.t rfl) (sg S (.ac rfl <| .z) fun a w S => wp_ret (then_ret (st_ret S (results1 S results60 (Rv.tmp rfl)) ?_)))))))
    exact ⟨by rw [if_pos h], S.wd.below⟩
  · refine enter1 func60 rfl ntmps60 rfl fun a S => sg S (.ac rfl <| .z) fun a w S => wp_seq_k fun _ hK1 => sg S (.mv rfl <| .xx (ys_call call120 (.cons (.t rfl) .nil) (fun hp w W => c120 _ _ (by exact Wd.cellOld W (by assumption)))) rfl <| .nt rfl <| .z) fun a w S => st_else S (.t rfl) (wp_skip (then_normal (hK1 _ _ (wp_seq_k fun _ hK1 => sg S (.mv rfl <| .xx (ys_call call121 (.cons (.t rfl) .nil) (fun hp w W => c121 _ _ _ _ _ _ (by exact Wd.cellOld W (by assumption)) (by exact Wd.cellOld W (by assumption)) (by exact Wd.cellOld W (by assumption)) (by assumption) (by assumption))) rfl <| .yy (ys_F (by omega) (ys_gtr (.t rfl) Ev.c)) rfl <| .z) fun a w S => st_else S (.t rfl) (wp_skip (then_normal (hK1 _ _ (sg S (.ac rfl <| .z) fun a w S => wp_ret (st_ret S (results1 S results60 (Rv.tmp rfl)) ?_)))))))))
    exact ⟨by rw [if_neg h], S.wd.below⟩
theorem c123 {w0 w : World} {L : List Chunk} {g cap k : Nat} {A : Option Addr} {b : List UInt8} {most : Int} (W : Wd w0 (rds g A cap b k L) w) (hs : Sl encB 1 w0 w0.heap.size (.slice A b.length cap) b) (hk : k ≤ b.length) (hb : b.length ≤ 16777216) :
    RetsO Tryz.prog 123 #[.pointer (some ⟨g, 0, none⟩), .int .i64 most] w0 w (fun v L' => v = .tuple #[.string (bs (textR b k most).1), .int .i64 (textR b k most).2.2] ∧ L' = rds g A cap b (textR b k most).2.1 L) := by
  have hcap := hs.le
  have hs' := hs.drop_ k hk
  have rw_d : b.length - k = (b.drop k).length := by simp
  have hdl : (b.drop k).length ≤ 16777216 := by simp; omega
  have hnl := numAt_le hk
  have hnv := numAt_val b k
  have rw_p : (k : Int) + (((numR 0 0 (b.drop k)).2.1 : Nat) : Int) = ((numAt b k).2.1 : Int) := by unfold numAt; simp
  have hun : textR b k most = if (numAt b k).2.2 = 0 then (if max most 0 < (numAt b k).1 then ([], k, 4) else if ((b.length - (numAt b k).2.1 : Nat) : Int) < (numAt b k).1 then ([], k, 2) else ((b.drop (numAt b k).2.1).take (numAt b k).1.toNat, (numAt b k).2.1 + (numAt b k).1.toNat, 0)) else ([], k, (numAt b k).2.2) := rfl
  by_cases he : (numAt b k).2.2 = 0
  rotate_left
  · have rw_e : decide ((numR 0 0 (b.drop k)).2.2 ≠ 0) = true := decide_eq_true he
    rw [if_neg he] at hun
    unfold Go.Fw.RetsO
    refine enterW2 W func123 rfl ntmps123 rfl fun a S => sg S (.ac rfl <| .ac rfl <| .z) fun a w S => wp_seq_k fun _ hK1 => st_quiet S (by kernel_rfl) (by kernel_rfl) fun a S => qrun S (.mv rfl <| .yy (ys_nilc (.t rfl)) rfl <| .fa underlying105 sizeOf28 0 rfl rfl rfl <| .ld gt28 0 rfl rfl rfl <| .mv rfl <| .yy (ys_nilc (.t rfl)) rfl <| .fa underlying105 sizeOf3 1 rfl rfl rfl <| .ld gt3 0 rfl rfl rfl <| .yy (ys_slLo underlying28 sizeOf5 (.t rfl) (.t rfl) (fun _ => by first | omega | (simp; done) | (simp; omega))) rfl <| .z) fun a S => ?_
    rw [rw_d] at S
    refine qrun S (.xx (ys_call call122 (.cons (.t rfl) .nil) (fun hp w W => c122 _ _ _ (by exact .old W (by assumption)) (by assumption))) rfl <| .mv rfl <| .ex rfl rfl <| .ex rfl rfl <| .ex rfl rfl <| .as rfl <| .as rfl <| .as rfl <| .z) fun a S => ?_
    (refine q_nil ?_; intro w W; replace S := St.mk S W; clear W)
    refine then_normal (hK1 _ _ (wp_seq_k fun _ hK1 => wp_block (wp_seq_k fun _ hK2 => wp_region_lit (run S (.mv rfl <| .yy (ys_neq (.t rfl) Ev.c) rfl <| .z) fun a w S => ?_))))
    rw [rw_e] at S
    refine run S (.as rfl <| .z) fun a w S => st_nil (then_normal (hK2 _ _ (st_then S (.t rfl) (sg S (.mv rfl <| .ac rfl <| .as rfl <| .z) fun a w S => wp_ret (in_ret (then_ret (st_ret S (results2 S results123 (Rv.tmp rfl) (Rv.tmp rfl)) ?_)))))))
    rw [hun]
    exact ⟨_, _, rfl, S.wd, rfl, rfl⟩
  rw [if_pos he] at hun
  have rw_e : (numR 0 0 (b.drop k)).2.2 = 0 := he
  by_cases h1 : max most 0 < (numAt b k).1
  · have rw_1 : decide (max most 0 < (numR 0 0 (b.drop k)).1) = true := decide_eq_true h1
    rw [if_pos h1] at hun
    unfold Go.Fw.RetsO
    refine enterW2 W func123 rfl ntmps123 rfl fun a S => sg S (.ac rfl <| .ac rfl <| .z) fun a w S => wp_seq_k fun _ hK1 => st_quiet S (by kernel_rfl) (by kernel_rfl) fun a S => qrun S (.mv rfl <| .yy (ys_nilc (.t rfl)) rfl <| .fa underlying105 sizeOf28 0 rfl rfl rfl <| .ld gt28 0 rfl rfl rfl <| .mv rfl <| .yy (ys_nilc (.t rfl)) rfl <| .fa underlying105 sizeOf3 1 rfl rfl rfl <| .ld gt3 0 rfl rfl rfl <| .yy (ys_slLo underlying28 sizeOf5 (.t rfl) (.t rfl) (fun _ => by first | omega | (simp; done) | (simp; omega))) rfl <| .z) fun a S => ?_
    rw [rw_d] at S
    refine qrun S (.xx (ys_call call122 (.cons (.t rfl) .nil) (fun hp w W => c122 _ _ _ (by exact .old W (by assumption)) (by assumption))) rfl <| .z) fun a S => ?_
    rw [rw_e] at S
    refine qrun S (.mv rfl <| .ex rfl rfl <| .ex rfl rfl <| .ex rfl rfl <| .as rfl <| .as rfl <| .as rfl <| .z) fun a S => ?_
    (refine q_nil ?_; intro w W; replace S := St.mk S W; clear W)
    refine then_normal (hK1 _ _ (wp_seq_k fun _ hK1 => wp_block (sg S (.mv rfl <| .yy (ys_F (by omega) (ys_neq (.t rfl) Ev.c)) rfl <| .as rfl <| .z) fun a w S => st_else S (.t rfl) (wp_seq_k fun _ hK2 => wp_region_lit (run S (.mv rfl <| .mv rfl <| .yy (ys_max (.t rfl) Ev.c) rfl <| .yy (ys_gtr (.t rfl) (.t rfl)) rfl <| .z) fun a w S => ?_)))))
    rw [rw_1] at S
    refine run S (.as rfl <| .z) fun a w S => st_nil (then_normal (hK2 _ _ (st_then S (.t rfl) (sg S (.ac rfl <| .ac rfl <| .z) fun a w S => wp_ret (in_ret (then_ret (st_ret S (results2 S results123 (Rv.tmp rfl) (Rv.tmp rfl)) ?_)))))))
    rw [hun]
    exact ⟨_, _, rfl, S.wd, rfl, rfl⟩
  have rw_1 : decide (max most 0 < (numR 0 0 (b.drop k)).1) = false := decide_eq_false h1
  rw [if_neg h1] at hun
  have rw_l : (b.length : Int) - (k : Int) - (((numR 0 0 (b.drop k)).2.1 : Nat) : Int) = ((b.length - (numAt b k).2.1 : Nat) : Int) := by omega
  by_cases h2 : ((b.length - (numAt b k).2.1 : Nat) : Int) < (numAt b k).1
  · have rw_2 : decide (((b.length - (numAt b k).2.1 : Nat) : Int) < (numR 0 0 (b.drop k)).1) = true := decide_eq_true h2
    rw [if_pos h2] at hun
    unfold Go.Fw.RetsO
    refine enterW2 W func123 rfl ntmps123 rfl fun a S => sg S (.ac rfl <| .ac rfl <| .z) fun a w S => wp_seq_k fun _ hK1 => st_quiet S (by kernel_rfl) (by kernel_rfl) fun a S => qrun S (.mv rfl <| .yy (ys_nilc (.t rfl)) rfl <| .fa underlying105 sizeOf28 0 rfl rfl rfl <| .ld gt28 0 rfl rfl rfl <| .mv rfl <| .yy (ys_nilc (.t rfl)) rfl <| .fa underlying105 sizeOf3 1 rfl rfl rfl <| .ld gt3 0 rfl rfl rfl <| .yy (ys_slLo underlying28 sizeOf5 (.t rfl) (.t rfl) (fun _ => by first | omega | (simp; done) | (simp; omega))) rfl <| .z) fun a S => ?_
    rw [rw_d] at S
    refine qrun S (.xx (ys_call call122 (.cons (.t rfl) .nil) (fun hp w W => c122 _ _ _ (by exact .old W (by assumption)) (by assumption))) rfl <| .z) fun a S => ?_
    rw [rw_e] at S
    refine qrun S (.mv rfl <| .ex rfl rfl <| .ex rfl rfl <| .ex rfl rfl <| .as rfl <| .as rfl <| .as rfl <| .z) fun a S => ?_
    (refine q_nil ?_; intro w W; replace S := St.mk S W; clear W)
    refine then_normal (hK1 _ _ (wp_seq_k fun _ hK1 => wp_block (sg S (.mv rfl <| .yy (ys_F (by omega) (ys_neq (.t rfl) Ev.c)) rfl <| .as rfl <| .z) fun a w S => st_else S (.t rfl) (wp_seq_k fun _ hK2 => wp_region_lit (run S (.mv rfl <| .mv rfl <| .yy (ys_max (.t rfl) Ev.c) rfl <| .yy (ys_gtr (.t rfl) (.t rfl)) rfl <| .z) fun a w S => ?_)))))
    rw [rw_1] at S
    refine run S (.as rfl <| .z) fun a w S => st_nil (then_normal (hK2 _ _ (st_else S (.t rfl) (wp_seq_k fun _ hK2 => st_quiet S (by kernel_rfl) (by kernel_rfl) fun a S => qrun S (.mv rfl <| .mv rfl <| .yy (ys_nilc (.t rfl)) rfl <| .fa underlying105 sizeOf28 0 rfl rfl rfl <| .ld gt28 0 rfl rfl rfl <| .ln underlying28 rfl <| .mv rfl <| .yy (ys_nilc (.t rfl)) rfl <| .fa underlying105 sizeOf3 1 rfl rfl rfl <| .ld gt3 0 rfl rfl rfl <| .yy (ys_subI (.t rfl) (.t rfl) (fun _ => by unfold I64; omega)) rfl <| .mv rfl <| .yy (ys_subI (.t rfl) (.t rfl) (fun _ => by unfold I64; omega)) rfl <| .z) fun a S => ?_))))
    rw [rw_l] at S
    refine qrun S (.yy (ys_gtr (.t rfl) (.t rfl)) rfl <| .z) fun a S => ?_
    rw [rw_2] at S
    refine qrun S (.as rfl <| .z) fun a S => ?_
    (refine q_nil ?_; intro w W; replace S := St.mk S W; clear W)
    refine then_normal (hK2 _ _ (st_then S (.t rfl) (sg S (.ac rfl <| .ac rfl <| .z) fun a w S => wp_ret (in_ret (then_ret (st_ret S (results2 S results123 (Rv.tmp rfl) (Rv.tmp rfl)) ?_))))))
    rw [hun]
    exact ⟨_, _, rfl, S.wd, rfl, rfl⟩
  have rw_2 : decide (((b.length - (numAt b k).2.1 : Nat) : Int) < (numR 0 0 (b.drop k)).1) = false := decide_eq_false h2
  rw [if_neg h2] at hun
  obtain ⟨m, hm⟩ := Int.eq_ofNat_of_zero_le hnv.1
  have rw_m : (numR 0 0 (b.drop k)).1 = (m : Int) := hm
  generalize (numAt b k).2.1 = k1 at *
  have rw_s : (k1 : Int) + (m : Int) = ((k1 + m : Nat) : Int) := by omega
  have hle : k1 + m ≤ b.length := by omega
  have hsub := hs.sub k1 (k1 + m) (by omega) (by omega)
  have hlen : ((b.drop k1).take (k1 + m - k1)).length = k1 + m - k1 := by rw [List.length_take, List.length_drop]; omega
  have rw_len := hlen.symm
  replace hsub : Sl encB 1 w0 w0.heap.size (.slice (if cap = k1 then A else A.map (·.add (k1 * 1))) ((b.drop k1).take (k1 + m - k1)).length (cap - k1)) ((b.drop k1).take (k1 + m - k1)) := by rw [hlen]; exact hsub
  generalize ht : (b.drop k1).take (k1 + m - k1) = t at *
  have rw_9 : (k : Int) + ((((numR 0 0 (b.drop k)).2.1 : Nat) : Int) + (m : Int)) = ((k1 + m : Nat) : Int) := by omega
  have hun' : textR b k most = (t, k1 + m, 0) := by
    rw [hun, hm, ← ht]
    have : k1 + m - k1 = ((m : Int)).toNat := by omega
    rw [this, Int.toNat_natCast]
  unfold Go.Fw.RetsO
  refine enterW2 W func123 rfl ntmps123 rfl fun a S => sg S (.ac rfl <| .ac rfl <| .z) fun a w S => wp_seq_k fun _ hK1 => st_quiet S (by kernel_rfl) (by kernel_rfl) fun a S => qrun S (.mv rfl <| .yy (ys_nilc (.t rfl)) rfl <| .fa underlying105 sizeOf28 0 rfl rfl rfl <| .ld gt28 0 rfl rfl rfl <| .mv rfl <| .yy (ys_nilc (.t rfl)) rfl <| .fa underlying105 sizeOf3 1 rfl rfl rfl <| .ld gt3 0 rfl rfl rfl <| .yy (ys_slLo underlying28 sizeOf5 (.t rfl) (.t rfl) (fun _ => by first | omega | (simp; done) | (simp; omega))) rfl <| .z) fun a S => ?_
  rw [rw_d] at S
  refine qrun S (.xx (ys_call call122 (.cons (.t rfl) .nil) (fun hp w W => c122 _ _ _ (by exact .old W (by assumption)) (by assumption))) rfl <| .z) fun a S => ?_
  rw [rw_e] at S
  rw [rw_m] at S
  refine qrun S (.mv rfl <| .ex rfl rfl <| .ex rfl rfl <| .ex rfl rfl <| .as rfl <| .as rfl <| .as rfl <| .z) fun a S => ?_
  (refine q_nil ?_; intro w W; replace S := St.mk S W; clear W)
  refine then_normal (hK1 _ _ (wp_seq_k fun _ hK1 => wp_block (sg S (.mv rfl <| .yy (ys_F (by omega) (ys_neq (.t rfl) Ev.c)) rfl <| .as rfl <| .z) fun a w S => st_else S (.t rfl) (sg S (.mv rfl <| .mv rfl <| .yy (ys_max (.t rfl) Ev.c) rfl <| .yy (ys_F (by omega) (ys_gtr (.t rfl) (.t rfl))) rfl <| .as rfl <| .z) fun a w S => st_else S (.t rfl) (wp_seq_k fun _ hK2 => st_quiet S (by kernel_rfl) (by kernel_rfl) fun a S => qrun S (.mv rfl <| .mv rfl <| .yy (ys_nilc (.t rfl)) rfl <| .fa underlying105 sizeOf28 0 rfl rfl rfl <| .ld gt28 0 rfl rfl rfl <| .ln underlying28 rfl <| .mv rfl <| .yy (ys_nilc (.t rfl)) rfl <| .fa underlying105 sizeOf3 1 rfl rfl rfl <| .ld gt3 0 rfl rfl rfl <| .yy (ys_subI (.t rfl) (.t rfl) (fun _ => by unfold I64; omega)) rfl <| .mv rfl <| .yy (ys_subI (.t rfl) (.t rfl) (fun _ => by unfold I64; omega)) rfl <| .z) fun a S => ?_)))))
  rw [rw_l] at S
  refine qrun S (.yy (ys_F (by omega) (ys_gtr (.t rfl) (.t rfl))) rfl <| .as rfl <| .z) fun a S => ?_
  (refine q_nil ?_; intro w W; replace S := St.mk S W; clear W)
  refine then_normal (hK2 _ _ (st_else S (.t rfl) (wp_skip (in_normal (then_normal (hK1 _ _ (wp_seq_k fun _ hK1 => st_quiet S (by kernel_rfl) (by kernel_rfl) fun a S => qrun S (.mv rfl <| .yy (ys_nilc (.t rfl)) rfl <| .fa underlying105 sizeOf28 0 rfl rfl rfl <| .ld gt28 0 rfl rfl rfl <| .mv rfl <| .yy (ys_nilc (.t rfl)) rfl <| .fa underlying105 sizeOf3 1 rfl rfl rfl <| .ld gt3 0 rfl rfl rfl <| .mv rfl <| .yy (ys_addI (.t rfl) (.t rfl) (fun _ => by unfold I64; omega)) rfl <| .z) fun a S => ?_)))))))
  rw [rw_p] at S
  refine qrun S (.mv rfl <| .yy (ys_nilc (.t rfl)) rfl <| .fa underlying105 sizeOf3 1 rfl rfl rfl <| .ld gt3 0 rfl rfl rfl <| .mv rfl <| .yy (ys_addI (.t rfl) (.t rfl) (fun _ => by unfold I64; omega)) rfl <| .z) fun a S => ?_
  rw [rw_p] at S
  refine qrun S (.mv rfl <| .yy (ys_addI (.t rfl) (.t rfl) (fun _ => by unfold I64; omega)) rfl <| .z) fun a S => ?_
  rw [rw_s] at S
  refine qrun S (.yy (ys_slLH underlying28 sizeOf5 (.t rfl) (.t rfl) (.t rfl) (fun _ => by first | omega | (simp; done) | (simp; omega))) rfl <| .z) fun a S => ?_
  rw [rw_len] at S
  refine qrun S (.yy (ys_str underlying28 underlying5 underlying9 (.t rfl) (fun _ w W => by first | exact Sl.old W (by assumption))) rfl <| .as rfl <| .z) fun a S => ?_
  (refine q_nil ?_; intro w W; replace S := St.mk S W; clear W)
  refine then_normal (hK1 _ _ (wp_seq_k fun _ hK1 => wp_region_lit (run S (.mv rfl <| .yy (ys_nilc (.t rfl)) rfl <| .fa underlying105 sizeOf3 1 rfl rfl rfl <| .ld gt3 0 rfl rfl rfl <| .mv rfl <| .mv rfl <| .yy (ys_addI (.t rfl) (.t rfl) (fun _ => by unfold I64; omega)) rfl <| .yy (ys_addI (.t rfl) (.t rfl) (fun _ => by unfold I64; omega)) rfl <| .z) fun a w S => ?_)))
  rw [rw_9] at S
  refine run S (.yy (ys_nilc (.t rfl)) rfl <| .fa underlying105 sizeOf3 1 rfl rfl rfl <| .z) fun a w S => st_m (op_st S sizeOf3 (.t rfl) (.t rfl) (k := 0) rfl rfl (by simp) fun a w S => st_nil (then_normal (hK1 _ _ (sg S (.mv rfl <| .as rfl <| .ac rfl <| .z) fun a w S => wp_ret (st_ret S (results2 S results123 (Rv.tmp rfl) (Rv.tmp rfl)) ?_)))))
  rw [hun']
  exact ⟨_, _, rfl, S.wd, rfl, rfl⟩
theorem q161 {w0 w : World} {L : List Chunk} {g g1 g2 g3 cap k : Nat} {A : Option Addr} {b z : List UInt8} {most : Int} (W : Wd w0 (rdr g A cap b k (.blk g1 (.cells #[.pointer (some ⟨g, 0, none⟩)] 92) :: .blk g2 (.cells #[.int .i64 most] 3) :: .blk g3 (.cells #[.string (bs z)] 9) :: L)) w) (hk : k ≤ b.length) (hb : b.length ≤ 16777216) :
    RetsP Tryz.prog 161 #[.pointer (some ⟨g1, 0, none⟩), .pointer (some ⟨g2, 0, none⟩), .pointer (some ⟨g3, 0, none⟩)] 41 w0 w (fun v L' => (textR b k most).2.2 = 0 ∧ v = .tuple #[] ∧ L' = rdr g A cap b (textR b k most).2.1 (.blk g1 (.cells #[.pointer (some ⟨g, 0, none⟩)] 92) :: .blk g2 (.cells #[.int .i64 most] 3) :: .blk g3 (.cells #[.string (bs (textR b k most).1)] 9) :: L))
      (fun x L' => x = (textR b k most).2.2 ∧ x ≠ 0 ∧ ∃ k', L' = rdr g A cap b k' (.blk g1 (.cells #[.pointer (some ⟨g, 0, none⟩)] 92) :: .blk g2 (.cells #[.int .i64 most] 3) :: .blk g3 (.cells #[.string (bs z)] 9) :: L)) := by
  have hnl := numAt_le hk
  have hnv := numAt_val b k
  have hun : textR b k most = if (numAt b k).2.2 = 0 then (if max most 0 < (numAt b k).1 then ([], k, 4) else if ((b.length - (numAt b k).2.1 : Nat) : Int) < (numAt b k).1 then ([], k, 2) else ((b.drop (numAt b k).2.1).take (numAt b k).1.toNat, (numAt b k).2.1 + (numAt b k).1.toNat, 0)) else ([], k, (numAt b k).2.2) := rfl
  have rw_k : ((k + (numR 0 0 (b.drop k)).2.1 : Nat) : Int) = (((numAt b k).2.1 : Nat) : Int) := rfl
  by_cases he : (numAt b k).2.2 = 0
  rotate_left
  · rw [if_neg he] at hun
    have he' : (numR 0 0 (b.drop k)).2.2 ≠ 0 := he
    unfold Go.Fw.RetsP
    refine enterW3 W func161 rfl ntmps161 rfl fun a S => wp_seq_k fun _ hK1 => wp_region_lit (run S (.ld gt92 2 rfl rfl rfl <| .z) fun a w S => ?_)
    (refine st_m (op_callRP S call116 (.cons (.t rfl) .nil) (c116 S.wd (by first | assumption | omega | (dsimp only; omega) | exact Sl.nil_ | exact .old S.wd (by assumption) | exact Sl.of_own S.wd (k := 0) rfl (fun _ => rfl) | exact Sl.of_own S.wd (k := 1) rfl (fun _ => rfl) | exact Sl.of_own S.wd (k := 2) rfl (fun _ => rfl) | exact Sl.of_own S.wd (k := 3) rfl (fun _ => rfl) | exact Sl.of_own S.wd (k := 4) rfl (fun _ => rfl) | (simp at *; omega)) (by first | assumption | omega | (dsimp only; omega) | exact Sl.nil_ | exact .old S.wd (by assumption) | exact Sl.of_own S.wd (k := 0) rfl (fun _ => rfl) | exact Sl.of_own S.wd (k := 1) rfl (fun _ => rfl) | exact Sl.of_own S.wd (k := 2) rfl (fun _ => rfl) | exact Sl.of_own S.wd (k := 3) rfl (fun _ => rfl) | exact Sl.of_own S.wd (k := 4) rfl (fun _ => rfl) | (simp at *; omega))) rfl ?_ ?_) <;> clear S a w)
    rintro _ _ ⟨hr1, rfl, rfl⟩ a w S
    refine run S (.as rfl <| .z) fun a w S => st_nil (then_normal (hK1 _ _ (wp_seq_k fun _ hK1 => sg S (.mv rfl <| .ld gt3 3 rfl rfl rfl <| .yy (ys_max (.t rfl) Ev.c) rfl <| .yy (ys_T (by omega) (ys_gtr (.t rfl) (.t rfl))) rfl <| .z) fun a w S => st_then S (.t rfl) (wp_region_lit ?_))))
    (refine st_m (op_callRP S call139 (.cons Ev.c .nil) (c139 S.wd _) rfl ?_ ?_) <;> clear S a w)
    (intro _ _ h; exact h.elim)
    rintro _ _ ⟨rfl, rfl⟩ a w S
    refine then_panic ?_
    refine post_panic S ?_
    rotate_left
    rintro _ _ ⟨rfl, hr1, rfl⟩ a w S
    refine then_panic ?_
    refine post_panic S ?_
    rotate_left
    · exact absurd hr1 he'
    · rw [hun]
      exact .inr ⟨_, _, rfl, S.wd, rfl, hr1, k, rfl⟩
  rw [if_pos he] at hun
  have he' : (numR 0 0 (b.drop k)).2.2 = 0 := he
  by_cases h1 : max most 0 < (numAt b k).1
  · have rw_1 : decide (max most 0 < (numR 0 0 (b.drop k)).1) = true := decide_eq_true h1
    rw [if_pos h1] at hun
    unfold Go.Fw.RetsP
    refine enterW3 W func161 rfl ntmps161 rfl fun a S => wp_seq_k fun _ hK1 => wp_region_lit (run S (.ld gt92 2 rfl rfl rfl <| .z) fun a w S => ?_)
    (refine st_m (op_callRP S call116 (.cons (.t rfl) .nil) (c116 S.wd (by first | assumption | omega | (dsimp only; omega) | exact Sl.nil_ | exact .old S.wd (by assumption) | exact Sl.of_own S.wd (k := 0) rfl (fun _ => rfl) | exact Sl.of_own S.wd (k := 1) rfl (fun _ => rfl) | exact Sl.of_own S.wd (k := 2) rfl (fun _ => rfl) | exact Sl.of_own S.wd (k := 3) rfl (fun _ => rfl) | exact Sl.of_own S.wd (k := 4) rfl (fun _ => rfl) | (simp at *; omega)) (by first | assumption | omega | (dsimp only; omega) | exact Sl.nil_ | exact .old S.wd (by assumption) | exact Sl.of_own S.wd (k := 0) rfl (fun _ => rfl) | exact Sl.of_own S.wd (k := 1) rfl (fun _ => rfl) | exact Sl.of_own S.wd (k := 2) rfl (fun _ => rfl) | exact Sl.of_own S.wd (k := 3) rfl (fun _ => rfl) | exact Sl.of_own S.wd (k := 4) rfl (fun _ => rfl) | (simp at *; omega))) rfl ?_ ?_) <;> clear S a w)
    rintro _ _ ⟨hr1, rfl, rfl⟩ a w S
    refine run S (.as rfl <| .z) fun a w S => st_nil (then_normal (hK1 _ _ (wp_seq_k fun _ hK1 => wp_seq_k fun _ hK2 => wp_region_lit (run S (.mv rfl <| .ld gt3 3 rfl rfl rfl <| .yy (ys_max (.t rfl) Ev.c) rfl <| .yy (ys_gtr (.t rfl) (.t rfl)) rfl <| .z) fun a w S => ?_))))
    rw [rw_1] at S
    refine st_nil (then_normal (hK2 _ _ (st_then S (.t rfl) (wp_region_lit ?_))))
    (refine st_m (op_callRP S call139 (.cons Ev.c .nil) (c139 S.wd _) rfl ?_ ?_) <;> clear S a w)
    (intro _ _ h; exact h.elim)
    rintro _ _ ⟨rfl, rfl⟩ a w S
    refine then_panic ?_
    refine post_panic S ?_
    rotate_left
    rintro _ _ ⟨rfl, hr1, rfl⟩ a w S
    refine then_panic ?_
    refine post_panic S ?_
    rotate_left
    · rw [hun]
      exact .inr ⟨_, _, rfl, S.wd, rfl, by decide, (numAt b k).2.1, rfl⟩
    · exact absurd he' hr1
  have rw_1 : decide (max most 0 < (numR 0 0 (b.drop k)).1) = false := decide_eq_false h1
  rw [if_neg h1] at hun
  have rw_l : (b.length : Int) - (((numAt b k).2.1 : Nat) : Int) = ((b.length - (numAt b k).2.1 : Nat) : Int) := by omega
  by_cases h2 : ((b.length - (numAt b k).2.1 : Nat) : Int) < (numAt b k).1
  · have rw_2 : decide (((b.length - (numAt b k).2.1 : Nat) : Int) < (numR 0 0 (b.drop k)).1) = true := decide_eq_true h2
    rw [if_pos h2] at hun
    unfold Go.Fw.RetsP
    refine enterW3 W func161 rfl ntmps161 rfl fun a S => wp_seq_k fun _ hK1 => wp_region_lit (run S (.ld gt92 2 rfl rfl rfl <| .z) fun a w S => ?_)
    (refine st_m (op_callRP S call116 (.cons (.t rfl) .nil) (c116 S.wd (by first | assumption | omega | (dsimp only; omega) | exact Sl.nil_ | exact .old S.wd (by assumption) | exact Sl.of_own S.wd (k := 0) rfl (fun _ => rfl) | exact Sl.of_own S.wd (k := 1) rfl (fun _ => rfl) | exact Sl.of_own S.wd (k := 2) rfl (fun _ => rfl) | exact Sl.of_own S.wd (k := 3) rfl (fun _ => rfl) | exact Sl.of_own S.wd (k := 4) rfl (fun _ => rfl) | (simp at *; omega)) (by first | assumption | omega | (dsimp only; omega) | exact Sl.nil_ | exact .old S.wd (by assumption) | exact Sl.of_own S.wd (k := 0) rfl (fun _ => rfl) | exact Sl.of_own S.wd (k := 1) rfl (fun _ => rfl) | exact Sl.of_own S.wd (k := 2) rfl (fun _ => rfl) | exact Sl.of_own S.wd (k := 3) rfl (fun _ => rfl) | exact Sl.of_own S.wd (k := 4) rfl (fun _ => rfl) | (simp at *; omega))) rfl ?_ ?_) <;> clear S a w)
    rintro _ _ ⟨hr1, rfl, rfl⟩ a w S
    refine run S (.as rfl <| .z) fun a w S => st_nil (then_normal (hK1 _ _ (wp_seq_k fun _ hK1 => wp_seq_k fun _ hK2 => wp_region_lit (run S (.mv rfl <| .ld gt3 3 rfl rfl rfl <| .yy (ys_max (.t rfl) Ev.c) rfl <| .yy (ys_gtr (.t rfl) (.t rfl)) rfl <| .z) fun a w S => ?_))))
    rw [rw_1] at S
    refine st_nil (then_normal (hK2 _ _ (st_else S (.t rfl) (wp_skip (then_normal (hK1 _ _ (wp_seq_k fun _ hK1 => sg S (.mv rfl <| .ld gt92 2 rfl rfl rfl <| .xx (ys_call call121 (.cons (.t rfl) .nil) (fun hp w W => c121 _ _ _ _ _ _ (by exact Wd.cell W (k := 0) rfl rfl) (by exact Wd.cell W (k := 0) rfl rfl) (by exact Wd.cell W (k := 0) rfl rfl) (by omega) (by assumption))) rfl <| .yy (ys_gtr (.t rfl) (.t rfl)) rfl <| .z) fun a w S => st_if S (.t rfl) (fun _ => wp_region_lit ?_) (fun h3 => absurd (by first | assumption | omega) h3))))))))
    (refine st_m (op_callRP S call139 (.cons Ev.c .nil) (c139 S.wd _) rfl ?_ ?_) <;> clear S a w)
    (intro _ _ h; exact h.elim)
    rintro _ _ ⟨rfl, rfl⟩ a w S
    refine then_panic ?_
    refine post_panic S ?_
    rotate_left
    rintro _ _ ⟨rfl, hr1, rfl⟩ a w S
    refine then_panic ?_
    refine post_panic S ?_
    rotate_left
    · rw [hun]
      exact .inr ⟨_, _, rfl, S.wd, rfl, by decide, (numAt b k).2.1, rfl⟩
    · exact absurd he' hr1
  have rw_2 : decide (((b.length - (numAt b k).2.1 : Nat) : Int) < (numR 0 0 (b.drop k)).1) = false := decide_eq_false h2
  rw [if_neg h2] at hun
  obtain ⟨m, hm⟩ := Int.eq_ofNat_of_zero_le hnv.1
  have rw_m : (numR 0 0 (b.drop k)).1 = (m : Int) := hm
  have hle : (numAt b k).2.1 + m ≤ b.length := by omega
  rw [hm, Int.toNat_natCast] at hun
  unfold Go.Fw.RetsP
  refine enterW3 W func161 rfl ntmps161 rfl fun a S => wp_seq_k fun _ hK1 => wp_region_lit (run S (.ld gt92 2 rfl rfl rfl <| .z) fun a w S => ?_)
  (refine st_m (op_callRP S call116 (.cons (.t rfl) .nil) (c116 S.wd (by first | assumption | omega | (dsimp only; omega) | exact Sl.nil_ | exact .old S.wd (by assumption) | exact Sl.of_own S.wd (k := 0) rfl (fun _ => rfl) | exact Sl.of_own S.wd (k := 1) rfl (fun _ => rfl) | exact Sl.of_own S.wd (k := 2) rfl (fun _ => rfl) | exact Sl.of_own S.wd (k := 3) rfl (fun _ => rfl) | exact Sl.of_own S.wd (k := 4) rfl (fun _ => rfl) | (simp at *; omega)) (by first | assumption | omega | (dsimp only; omega) | exact Sl.nil_ | exact .old S.wd (by assumption) | exact Sl.of_own S.wd (k := 0) rfl (fun _ => rfl) | exact Sl.of_own S.wd (k := 1) rfl (fun _ => rfl) | exact Sl.of_own S.wd (k := 2) rfl (fun _ => rfl) | exact Sl.of_own S.wd (k := 3) rfl (fun _ => rfl) | exact Sl.of_own S.wd (k := 4) rfl (fun _ => rfl) | (simp at *; omega))) rfl ?_ ?_) <;> clear S a w)
  rintro _ _ ⟨hr1, rfl, rfl⟩ a w S
  rw [rw_m] at S
  refine run S (.as rfl <| .z) fun a w S => st_nil (then_normal (hK1 _ _ (wp_seq_k fun _ hK1 => sg S (.mv rfl <| .ld gt3 3 rfl rfl rfl <| .yy (ys_max (.t rfl) Ev.c) rfl <| .yy (ys_F (by omega) (ys_gtr (.t rfl) (.t rfl))) rfl <| .z) fun a w S => st_else S (.t rfl) (wp_skip (then_normal (hK1 _ _ (wp_seq_k fun _ hK1 => sg S (.mv rfl <| .ld gt92 2 rfl rfl rfl <| .xx (ys_call call121 (.cons (.t rfl) .nil) (fun hp w W => c121 _ _ _ _ _ _ (by exact Wd.cell W (k := 0) rfl rfl) (by exact Wd.cell W (k := 0) rfl rfl) (by exact Wd.cell W (k := 0) rfl rfl) (by omega) (by assumption))) rfl <| .yy (ys_F (by omega) (ys_gtr (.t rfl) (.t rfl))) rfl <| .z) fun a w S => st_else S (.t rfl) (wp_skip (then_normal (hK1 _ _ (wp_region_lit (run S (.ld gt92 2 rfl rfl rfl <| .mv rfl <| .z) fun a w S => ?_))))))))))))
  (refine st_m (op_callO S call140 (.cons (.t rfl) (.cons (.t rfl) .nil)) (c140 S.wd _ (by first | assumption | omega | (dsimp only; omega) | exact Sl.nil_ | exact .old S.wd (by assumption) | exact Sl.of_own S.wd (k := 0) rfl (fun _ => rfl) | exact Sl.of_own S.wd (k := 1) rfl (fun _ => rfl) | exact Sl.of_own S.wd (k := 2) rfl (fun _ => rfl) | exact Sl.of_own S.wd (k := 3) rfl (fun _ => rfl) | exact Sl.of_own S.wd (k := 4) rfl (fun _ => rfl) | (simp at *; omega)) (by first | assumption | omega | (dsimp only; omega) | exact Sl.nil_ | exact .old S.wd (by assumption) | exact Sl.of_own S.wd (k := 0) rfl (fun _ => rfl) | exact Sl.of_own S.wd (k := 1) rfl (fun _ => rfl) | exact Sl.of_own S.wd (k := 2) rfl (fun _ => rfl) | exact Sl.of_own S.wd (k := 3) rfl (fun _ => rfl) | exact Sl.of_own S.wd (k := 4) rfl (fun _ => rfl) | (simp at *; omega))) rfl ?_) <;> clear S a w)
  rintro _ _ ⟨A11, c11, rfl, rfl⟩ a w S
  refine run S (.yy (ys_str underlying28 underlying5 underlying9 (.t rfl) (fun _ w W => by first | exact Sl.old W (by assumption) | exact Sl.of_own W (k := 1) rfl (fun _ => rfl) | exact Sl.of_own W (k := 2) rfl (fun _ => rfl))) rfl <| .z) fun a w S => st_m (op_st S sizeOf9 (.t rfl) (.t rfl) (k := 5) rfl rfl (by simp) fun a w S => st_nil (st_end S (results0 results161) ?_))
  rotate_left
  rintro _ _ ⟨rfl, hr1, rfl⟩ a w S
  refine then_panic ?_
  refine post_panic S ?_
  rotate_left
  · rw [hun]
    exact .inl ⟨_, _, rfl, S.wd.picks (L' := rdr g A cap b ((numAt b k).2.1 + m) (.blk g1 (.cells #[.pointer (some ⟨g, 0, none⟩)] 92) :: .blk g2 (.cells #[.int .i64 most] 3) :: .blk g3 (.cells #[.string (bs ((b.drop (numAt b k).2.1).take m))] 9) :: L)) (by repeat (first | exact Picks.nil | (refine Picks.rest ?_; (repeat (first | exact List.Sublist.refl _ | refine List.Sublist.cons_cons _ ?_ | refine List.Sublist.cons _ ?_)); done) | refine Picks.take 0 rfl ?_ | refine Picks.take 1 rfl ?_ | refine Picks.take 2 rfl ?_ | refine Picks.take 3 rfl ?_ | refine Picks.take 4 rfl ?_ | refine Picks.take 5 rfl ?_ | refine Picks.take 6 rfl ?_ | refine Picks.take 7 rfl ?_ | refine Picks.take 8 rfl ?_ | refine Picks.take 9 rfl ?_ | refine Picks.take 10 rfl ?_ | refine Picks.take 11 rfl ?_)), rfl, rfl, rfl⟩
  · exact absurd he' hr1
theorem c117 {w0 w : World} {L : List Chunk} {g cap k : Nat} {A : Option Addr} {b : List UInt8} {most : Int} (W : Wd w0 (rdr g A cap b k L) w) (hk : k ≤ b.length) (hb : b.length ≤ 16777216) :
    RetsO Tryz.prog 117 #[.pointer (some ⟨g, 0, none⟩), .int .i64 most] w0 w (fun v L' => v = .tuple #[.string (bs (textR b k most).1), .int .i64 (textR b k most).2.2] ∧ L' = rdr g A cap b (textR b k most).2.1 L) := by
  unfold Go.Fw.RetsO
  refine enterW2 W func117 rfl ntmps117 rfl fun a S => wp_seq_k fun _ hK1 => wp_region_lit (st_m (op_box1 S (.t rfl) rfl rfl fun g1 a w S => st_m (op_box1 S (.t rfl) rfl rfl fun g2 a w S => run S (.ac rfl <| .ac rfl <| .z) fun a w S => st_nil (then_normal (hK1 _ _ (wp_seq_k fun _ hK1 => wp_region_lit (st_m (op_alloc S zeroValue9 (cs := _) rfl rfl fun g3 a w S => st_m (op_st S sizeOf9 (.t rfl) Ev.c (k := 0) rfl rfl (by simp) fun a w S => st_nil (then_normal (hK1 _ _ (wp_seq_k fun _ hK1 => wp_region_lit (run S (.ld gt92 2 rfl rfl rfl <| .yy (ys_mkFunc (.cons (.t rfl) (.cons (.t rfl) (.cons (.t rfl) .nil)))) rfl <| .z) fun a w S => ?_)))))))))))))
  have W2 := S.wd.picks (L' := rdr g A cap b k (.blk g1 (.cells #[.pointer (some ⟨g, 0, none⟩)] 92) :: .blk g2 (.cells #[.int .i64 most] 3) :: .blk g3 (.cells #[.string (bs [])] 9) :: L)) (by repeat (first | exact Picks.nil | (refine Picks.rest ?_; (repeat (first | exact List.Sublist.refl _ | refine List.Sublist.cons_cons _ ?_ | refine List.Sublist.cons _ ?_)); done) | refine Picks.take 0 rfl ?_ | refine Picks.take 1 rfl ?_ | refine Picks.take 2 rfl ?_ | refine Picks.take 3 rfl ?_ | refine Picks.take 4 rfl ?_ | refine Picks.take 5 rfl ?_ | refine Picks.take 6 rfl ?_ | refine Picks.take 7 rfl ?_ | refine Picks.take 8 rfl ?_ | refine Picks.take 9 rfl ?_ | refine Picks.take 10 rfl ?_ | refine Picks.take 11 rfl ?_))
  replace S := St.mk S.kn W2
  refine st_m (op_callO S call114 (.cons (.t rfl) (.cons (.t rfl) .nil)) (triedW (f := 161) (cs := [.pointer (some ⟨g1, 0, none⟩), .pointer (some ⟨g2, 0, none⟩), .pointer (some ⟨g3, 0, none⟩)])
    (R := fun L' => (textR b k most).2.2 = 0 ∧ L' = rdr g A cap b (textR b k most).2.1 (.blk g1 (.cells #[.pointer (some ⟨g, 0, none⟩)] 92) :: .blk g2 (.cells #[.int .i64 most] 3) :: .blk g3 (.cells #[.string (bs (textR b k most).1)] 9) :: L))
    (E := fun x L' => x = (textR b k most).2.2 ∧ L' = rdr g A cap b k (.blk g1 (.cells #[.pointer (some ⟨g, 0, none⟩)] 92) :: .blk g2 (.cells #[.int .i64 most] 3) :: .blk g3 (.cells #[.string (bs [])] 9) :: L))
    S.wd call161 fun C w1 W1 => Calls.mono (q161 (L := C :: L) (z := []) (most := most) (W1.pk) hk hb) ?_) rfl ?_)
  · intro e w' h
    rcases h with ⟨v, L', rfl, hw, h1, rfl, rfl⟩ | ⟨x, L', rfl, hw, rfl, h1, k', rfl⟩
    · exact .inl ⟨_, _, rfl, hw.picks (L' := C :: rdr g A cap b (textR b k most).2.1 (.blk g1 (.cells #[.pointer (some ⟨g, 0, none⟩)] 92) :: .blk g2 (.cells #[.int .i64 most] 3) :: .blk g3 (.cells #[.string (bs (textR b k most).1)] 9) :: L)) (by repeat (first | exact Picks.nil | (refine Picks.rest ?_; (repeat (first | exact List.Sublist.refl _ | refine List.Sublist.cons_cons _ ?_ | refine List.Sublist.cons _ ?_)); done) | refine Picks.take 0 rfl ?_ | refine Picks.take 1 rfl ?_ | refine Picks.take 2 rfl ?_ | refine Picks.take 3 rfl ?_ | refine Picks.take 4 rfl ?_ | refine Picks.take 5 rfl ?_ | refine Picks.take 6 rfl ?_ | refine Picks.take 7 rfl ?_ | refine Picks.take 8 rfl ?_ | refine Picks.take 9 rfl ?_ | refine Picks.take 10 rfl ?_ | refine Picks.take 11 rfl ?_)), rfl, _, _, rfl, h1, rfl⟩
    · exact .inr ⟨_, _, rfl, hw.picks (L' := C :: rdr g A cap b k' (.blk g1 (.cells #[.pointer (some ⟨g, 0, none⟩)] 92) :: .blk g2 (.cells #[.int .i64 most] 3) :: .blk g3 (.cells #[.string (bs [])] 9) :: L)) (by repeat (first | exact Picks.nil | (refine Picks.rest ?_; (repeat (first | exact List.Sublist.refl _ | refine List.Sublist.cons_cons _ ?_ | refine List.Sublist.cons _ ?_)); done) | refine Picks.take 0 rfl ?_ | refine Picks.take 1 rfl ?_ | refine Picks.take 2 rfl ?_ | refine Picks.take 3 rfl ?_ | refine Picks.take 4 rfl ?_ | refine Picks.take 5 rfl ?_ | refine Picks.take 6 rfl ?_ | refine Picks.take 7 rfl ?_ | refine Picks.take 8 rfl ?_ | refine Picks.take 9 rfl ?_ | refine Picks.take 10 rfl ?_ | refine Picks.take 11 rfl ?_)), h1, _, _, rfl, rfl, rfl⟩
  clear S W2
  rintro _ _ ⟨x, rfl, h⟩ a w S
  rcases h with ⟨rfl, h1, rfl⟩ | ⟨hx, rfl, rfl⟩
  · refine run S (.as rfl <| .z) fun a w S => st_nil (then_normal (hK1 _ _ (sg S (.ld gt9 4 rfl rfl rfl <| .mv rfl <| .as rfl <| .as rfl <| .z) fun a w S => wp_ret (st_ret S (results2 S results117 (Rv.tmp rfl) (Rv.tmp rfl)) ?_))))
    rw [h1]
    exact ⟨_, _, rfl, S.wd.picks (L' := rdr g A cap b (textR b k most).2.1 L) (by repeat (first | exact Picks.nil | (refine Picks.rest ?_; (repeat (first | exact List.Sublist.refl _ | refine List.Sublist.cons_cons _ ?_ | refine List.Sublist.cons _ ?_)); done) | refine Picks.take 0 rfl ?_ | refine Picks.take 1 rfl ?_ | refine Picks.take 2 rfl ?_ | refine Picks.take 3 rfl ?_ | refine Picks.take 4 rfl ?_ | refine Picks.take 5 rfl ?_ | refine Picks.take 6 rfl ?_ | refine Picks.take 7 rfl ?_ | refine Picks.take 8 rfl ?_ | refine Picks.take 9 rfl ?_ | refine Picks.take 10 rfl ?_ | refine Picks.take 11 rfl ?_)), rfl, rfl⟩
  · refine run S (.as rfl <| .z) fun a w S => st_nil (then_normal (hK1 _ _ (sg S (.ld gt9 4 rfl rfl rfl <| .mv rfl <| .as rfl <| .as rfl <| .z) fun a w S => wp_ret (st_ret S (results2 S results117 (Rv.tmp rfl) (Rv.tmp rfl)) ?_))))
    have hz := textR_bad hx
    rw [hz.1, hz.2]
    exact ⟨_, _, rfl, S.wd.picks (L' := rdr g A cap b k L) (by repeat (first | exact Picks.nil | (refine Picks.rest ?_; (repeat (first | exact List.Sublist.refl _ | refine List.Sublist.cons_cons _ ?_ | refine List.Sublist.cons _ ?_)); done) | refine Picks.take 0 rfl ?_ | refine Picks.take 1 rfl ?_ | refine Picks.take 2 rfl ?_ | refine Picks.take 3 rfl ?_ | refine Picks.take 4 rfl ?_ | refine Picks.take 5 rfl ?_ | refine Picks.take 6 rfl ?_ | refine Picks.take 7 rfl ?_ | refine Picks.take 8 rfl ?_ | refine Picks.take 9 rfl ?_ | refine Picks.take 10 rfl ?_ | refine Picks.take 11 rfl ?_)), rfl, rfl⟩
end Go.Proofs.YtfblmkocmnbdcaaGreat
set_option linter.unusedVariables false
set_option linter.unusedSimpArgs false
set_option maxRecDepth 100000
set_option maxHeartbeats 4000000
namespace Go.Proofs.YtfblmkocmnbdcaaGreat
open Go.Fw Go.Proofs Go.RowKit Go.Proofs.Tryz
theorem c112 {w0 w : World} {L : List Chunk} {A A' : Option Addr} {cap cap' g : Nat} {b : List UInt8} {l : List Dot}
    (W : Wd w0 (.blk g (.cells #[.slice A b.length cap] 28) :: rowOf 58 3 Dot.enc A' cap' l :: L) w) (hs : Sl encB 1 w0 w0.heap.size (.slice A b.length cap) b) (hm : ∀ m ∈ l, mayD m = true) (hl : l.length ≤ 64) (hb : b.length ≤ 8388608) :
    RetsO Tryz.prog 112 #[.slice A' l.length cap', .pointer (some ⟨g, 0, none⟩)] w0 w fun v L' => ∃ A1 c1, v = .tuple #[] ∧
      L' = .blk g (.cells #[.slice A1 (dotsB b l).length c1] 28) :: rowOf 5 1 encB A1 c1 (dotsB b l) :: rowOf 58 3 Dot.enc A' cap' l :: L := by
  unfold RetsO
  refine enterW2 W func112 rfl ntmps112 rfl fun a S => wp_seq_k fun _ hK1 => wp_region_lit (run S (.ld gt28 0 rfl rfl rfl <| .mv rfl <| .ln underlying35 rfl <| .z) fun a w S => ?_)
  (refine st_m (op_calls S call53 (.cons (.t rfl) (.cons (.t rfl) .nil)) (c53 _ _ _ _ (by exact .old S.wd (by assumption)) (by omega) (by omega)) rfl ?_); clear S a w; rintro _ _ ⟨A1, c1, rfl, rfl⟩ a w S)
  refine st_m (op_st S sizeOf28 (.t rfl) (.t rfl) (k := 1) rfl rfl (by simp) fun a w S => st_nil (then_normal (hK1 _ _ (sg S (.mv rfl <| .ln underlying35 rfl <| .mc rfl <| .z) fun a w S => wp_block ?_))))
  (replace S := S.pull 1 rfl; try simp only [List.set_cons_zero, List.set_cons_succ, List.eraseIdx_cons_succ, List.eraseIdx_cons_zero] at S)
  have hb1 := putL_len b (n := (l.length : Int)) (by omega)
  replace S := S.wk (K' := [(11, true, .int .i64 ((0 : Nat) : Int)), (10, true, .int .i64 (l.length : Int)), (9, true, .slice A' l.length cap'), (1, true, .pointer (some ⟨g, 0, none⟩))]) (L' := .blk g (.cells #[.slice A1 (putL b (l.length : Int)).length c1] 28) :: rowOf 5 1 encB A1 c1 (putL b (l.length : Int)) :: rowOf 58 3 Dot.enc A' cap' l :: L)
  refine st_lpK S (X := Nat × Option Addr × Nat × List UInt8) (fun q => [(11, true, .int .i64 (q.1 : Int))]) (fun q _ => .blk g (.cells #[.slice q.2.1 q.2.2.2.length q.2.2.1] 28) :: rowOf 5 1 encB q.2.1 q.2.2.1 q.2.2.2 :: rowOf 58 3 Dot.enc A' cap' l :: L)
    (fun q => q.1 ≤ l.length ∧ q.2.2.2 = (l.take q.1).foldl dotB (putL b (l.length : Int))) (fun q => l.length - q.1) (0, A1, c1, putL b (l.length : Int)) ⟨Nat.zero_le _, by simp⟩ ?_
  clear S
  intro ⟨k, B, cB, out⟩ a w ⟨hk, hno⟩ S
  dsimp only at hk hno S
  have hout : out.length ≤ b.length + 1737 := by
    have h1 := dotF_len (l := l.take k) (b := putL b (l.length : Int)) fun x hx => hm x (List.mem_of_mem_take hx)
    have h2 : (l.take k).length ≤ 64 := by rw [List.length_take]; omega
    rw [← hno] at h1
    omega
  by_cases hlt : k < l.length
  · obtain ⟨ga, rfl⟩ := S.wd.row_at (k := 2) rfl (by have := (S.wd.room (k := 2) rfl).1; omega)
    obtain ⟨m, hmm⟩ : ∃ m, l[k]? = some m := ⟨l[k], by simp⟩
    have hlm := may_lim (hm m (List.mem_of_getElem? hmm))
    have hq1 := putL_len out (n := m.node) (by omega)
    have hq2 := putL_len (putL out m.node) (n := m.life) (by omega)
    refine sg S (.lt (by omega) rfl rfl <| .z) fun a w S => wp_seq_k fun _ hK1 => st_then S (.t rfl) (wp_skip (then_normal (hK1 _ _ (wp_seq_k fun _ hK1 => wp_block (wp_seq_k fun _ hK2 => wp_region_lit (run S (.ix underlying35 sizeOf58 (by omega) rfl rfl <| .yy (ys_ldWA ⟨isAgg58, sizeOf58⟩ (.t rfl) (k := 2) rfl hmm (fun _ => rfl)) rfl <| .z) fun a w S => st_m (op_alloc S zeroValue58 (cs := _) rfl rfl fun g1 a w S => st_m (op_stW S sizeOf58 (.t rfl) (.t rfl) (k := 0) rfl rfl rfl (by simp [Value.oneCell']) fun a w S => st_nil (then_normal (hK2 _ _ (h_beginE S (by kernel_rfl) 1 fun a w S => hy 1 S rfl (ys_fieldN (FieldT.mk underlying58 rfl sizeOf3 rfl) (.t rfl) (i' := 0) rfl) rfl fun a w S => hy 2 S rfl (ys_ld ⟨isAgg3, sizeOf3⟩ (.t rfl) (k := 0) rfl rfl) rfl fun a w S => ?_)))))))))))
    refine hy 4 S rfl (ys_fieldN (FieldT.mk underlying58 rfl sizeOf3 rfl) (.t rfl) (i' := 1) rfl) rfl fun a w S => hy 5 S rfl (ys_ld ⟨isAgg3, sizeOf3⟩ (.t rfl) (k := 0) rfl rfl) rfl fun a w S => hy 7 S rfl (ys_fieldN (FieldT.mk underlying58 rfl sizeOf3 rfl) (.t rfl) (i' := 2) rfl) rfl fun a w S => hy 8 S rfl (ys_ld ⟨isAgg3, sizeOf3⟩ (.t rfl) (k := 0) rfl rfl) rfl fun a w S => h_q (i := 0) S (by repeat (first | exact List.Sublist.refl _ | exact List.nil_sublist _ | refine .cons_cons _ ?_ | refine .cons _ ?_)) rfl (by kernel_rfl) (Yr.ys (ys_ld ⟨isAgg28, sizeOf28⟩ (.t rfl) (k := 1) rfl rfl)) rfl fun a w S => ?_
    (refine h_m (i := 3) rfl (by kernel_rfl) (op_calls S call53 (.cons (.t rfl) (.cons (.t rfl) .nil)) (c53 _ _ _ _ (by exact Sl.of_own S.wd (k := 2) rfl (fun _ => rfl)) (by omega) (by omega)) rfl ?_); clear S a w; rintro _ _ ⟨A2, c2, rfl, rfl⟩ a w S; refine h_n1 S ?_)
    (refine h_m (i := 6) rfl (by kernel_rfl) (op_calls S call53 (.cons (.t rfl) (.cons (.t rfl) .nil)) (c53 _ _ _ _ (by exact Sl.of_own S.wd (k := 0) rfl (fun _ => rfl)) (by omega) (by omega)) rfl ?_); clear S a w; rintro _ _ ⟨A3, c3, rfl, rfl⟩ a w S; refine h_n1 S ?_)
    (refine h_m (i := 9) rfl (by kernel_rfl) (op_calls S call53 (.cons (.t rfl) (.cons (.t rfl) .nil)) (c53 _ _ _ _ (by exact Sl.of_own S.wd (k := 0) rfl (fun _ => rfl)) (by omega) (by omega)) rfl ?_); clear S a w; rintro _ _ ⟨A4, c4, rfl, rfl⟩ a w S; refine h_n1 S ?_)
    (refine h_m0 (i := 10) rfl (by kernel_rfl) (op_st S sizeOf28 (.t rfl) (.t rfl) (k := 4) rfl rfl (by simp) ?_); clear S a w; intro a w S; refine h_n1 S ?_)
    refine h_done (by kernel_rfl) (in_normal (then_normal (hK1 _ _ (wp_region_lit (run S (.ad (by unfold I64; omega) rfl <| .mv rfl <| .z) fun a w S => st_nil (then_normal ?_))))))
    (replace S := S.pull 4 rfl; try simp only [List.set_cons_zero, List.set_cons_succ, List.eraseIdx_cons_succ, List.eraseIdx_cons_zero] at S)
    exact ⟨(k + 1, A4, c4, dotB out m), ⟨by dsimp only; omega, by dsimp only; rw [dotF_take hmm, ← hno]⟩, by dsimp only; omega, S.wk⟩
  · have hend : k = l.length := by omega
    subst hend
    rw [List.take_length] at hno
    refine sg S (.ge (by omega) rfl rfl <| .z) fun a w S => wp_seq_k fun _ hK1 => st_else S (.t rfl) (wp_exit (then_exit (then_exit (in_here (st_end S (results0 results112) ?_)))))
    obtain rfl : out = dotsB b l := hno
    exact ⟨_, _, rfl, S.wd.sub (by repeat (first | exact List.Sublist.refl _ | exact List.nil_sublist _ | refine .cons_cons _ ?_ | refine .cons _ ?_)), B, cB, rfl, rfl⟩
theorem o112 {w0 w : World} {L : List Chunk} {A A' : Option Addr} {cap cap' g : Nat} {b : List UInt8} {l : List Dot}
    (W : Wd w0 (.blk g (.cells #[.slice A b.length cap] 28) :: rowOf 5 1 encB A cap b :: L) w) (hm : ∀ m ∈ l, mayD m = true) (h : Sl Dot.enc 3 w0 w0.heap.size (.slice A' l.length cap') l) (hl : l.length ≤ 64) (hb : b.length ≤ 8388608) :
    RetsO Tryz.prog 112 #[.slice A' l.length cap', .pointer (some ⟨g, 0, none⟩)] w0 w fun v L' => ∃ A1 c1, v = .tuple #[] ∧
      L' = .blk g (.cells #[.slice A1 (dotsB b l).length c1] 28) :: rowOf 5 1 encB A1 c1 (dotsB b l) :: L := by
  obtain ⟨_, _, e0, _, _, hA⟩ := id h
  simp only [Value.slice.injEq, true_and] at e0
  obtain ⟨rfl, rfl⟩ := e0
  unfold RetsO
  refine enterW2 W func112 rfl ntmps112 rfl fun a S => wp_seq_k fun _ hK1 => wp_region_lit (run S (.ld gt28 0 rfl rfl rfl <| .mv rfl <| .ln underlying35 rfl <| .z) fun a w S => ?_)
  (refine st_m (op_calls S call53 (.cons (.t rfl) (.cons (.t rfl) .nil)) (c53 _ _ _ _ (by exact Sl.of_own S.wd (k := 1) rfl (fun _ => rfl)) (by omega) (by omega)) rfl ?_); clear S a w; rintro _ _ ⟨A1, c1, rfl, rfl⟩ a w S)
  refine st_m (op_st S sizeOf28 (.t rfl) (.t rfl) (k := 1) rfl rfl (by simp) fun a w S => st_nil (then_normal (hK1 _ _ (sg S (.mv rfl <| .ln underlying35 rfl <| .mc rfl <| .z) fun a w S => wp_block ?_))))
  (replace S := S.pull 1 rfl; try simp only [List.set_cons_zero, List.set_cons_succ, List.eraseIdx_cons_succ, List.eraseIdx_cons_zero] at S)
  have hb1 := putL_len b (n := (l.length : Int)) (by omega)
  replace S := S.wk (K' := [(11, true, .int .i64 ((0 : Nat) : Int)), (10, true, .int .i64 (l.length : Int)), (9, true, .slice A' l.length cap'), (1, true, .pointer (some ⟨g, 0, none⟩))]) (L' := .blk g (.cells #[.slice A1 (putL b (l.length : Int)).length c1] 28) :: rowOf 5 1 encB A1 c1 (putL b (l.length : Int)) :: L)
  refine st_lpK S (X := Nat × Option Addr × Nat × List UInt8) (fun q => [(11, true, .int .i64 (q.1 : Int))]) (fun q _ => .blk g (.cells #[.slice q.2.1 q.2.2.2.length q.2.2.1] 28) :: rowOf 5 1 encB q.2.1 q.2.2.1 q.2.2.2 :: L)
    (fun q => q.1 ≤ l.length ∧ q.2.2.2 = (l.take q.1).foldl dotB (putL b (l.length : Int))) (fun q => l.length - q.1) (0, A1, c1, putL b (l.length : Int)) ⟨Nat.zero_le _, by simp⟩ ?_
  clear S
  intro ⟨k, B, cB, out⟩ a w ⟨hk, hno⟩ S
  dsimp only at hk hno S
  have hout : out.length ≤ b.length + 1737 := by
    have h1 := dotF_len (l := l.take k) (b := putL b (l.length : Int)) fun x hx => hm x (List.mem_of_mem_take hx)
    have h2 : (l.take k).length ≤ 64 := by rw [List.length_take]; omega
    rw [← hno] at h1
    omega
  by_cases hlt : k < l.length
  · obtain ⟨gq, oq, m, rfl, hmm, hdq, hc⟩ := row_at hA hlt
    have hlm := may_lim (hm m (List.mem_of_getElem? hmm))
    have hq1 := putL_len out (n := m.node) (by omega)
    have hq2 := putL_len (putL out m.node) (n := m.life) (by omega)
    refine sg S (.lt (by omega) rfl rfl <| .z) fun a w S => wp_seq_k fun _ hK1 => st_then S (.t rfl) (wp_skip (then_normal (hK1 _ _ (wp_seq_k fun _ hK1 => wp_block (wp_seq_k fun _ hK2 => wp_region_lit (run S (.ix underlying35 sizeOf58 (by omega) rfl rfl <| .yy (ys_ldOA ⟨isAgg58, sizeOf58⟩ (.t rfl) (vs := [_, _, _]) rfl (fun _ => hc)) rfl <| .z) fun a w S => st_m (op_alloc S zeroValue58 (cs := _) rfl rfl fun g1 a w S => st_m (op_stW S sizeOf58 (.t rfl) (.t rfl) (k := 0) rfl rfl rfl (by simp [Value.oneCell']) fun a w S => st_nil (then_normal (hK2 _ _ (h_beginE S (by kernel_rfl) 1 fun a w S => hy 1 S rfl (ys_fieldN (FieldT.mk underlying58 rfl sizeOf3 rfl) (.t rfl) (i' := 0) rfl) rfl fun a w S => hy 2 S rfl (ys_ld ⟨isAgg3, sizeOf3⟩ (.t rfl) (k := 0) rfl rfl) rfl fun a w S => ?_)))))))))))
    refine hy 4 S rfl (ys_fieldN (FieldT.mk underlying58 rfl sizeOf3 rfl) (.t rfl) (i' := 1) rfl) rfl fun a w S => hy 5 S rfl (ys_ld ⟨isAgg3, sizeOf3⟩ (.t rfl) (k := 0) rfl rfl) rfl fun a w S => hy 7 S rfl (ys_fieldN (FieldT.mk underlying58 rfl sizeOf3 rfl) (.t rfl) (i' := 2) rfl) rfl fun a w S => hy 8 S rfl (ys_ld ⟨isAgg3, sizeOf3⟩ (.t rfl) (k := 0) rfl rfl) rfl fun a w S => h_q (i := 0) S (by repeat (first | exact List.Sublist.refl _ | exact List.nil_sublist _ | refine .cons_cons _ ?_ | refine .cons _ ?_)) rfl (by kernel_rfl) (Yr.ys (ys_ld ⟨isAgg28, sizeOf28⟩ (.t rfl) (k := 1) rfl rfl)) rfl fun a w S => ?_
    (refine h_m (i := 3) rfl (by kernel_rfl) (op_calls S call53 (.cons (.t rfl) (.cons (.t rfl) .nil)) (c53 _ _ _ _ (by exact Sl.of_own S.wd (k := 2) rfl (fun _ => rfl)) (by omega) (by omega)) rfl ?_); clear S a w; rintro _ _ ⟨A2, c2, rfl, rfl⟩ a w S; refine h_n1 S ?_)
    (refine h_m (i := 6) rfl (by kernel_rfl) (op_calls S call53 (.cons (.t rfl) (.cons (.t rfl) .nil)) (c53 _ _ _ _ (by exact Sl.of_own S.wd (k := 0) rfl (fun _ => rfl)) (by omega) (by omega)) rfl ?_); clear S a w; rintro _ _ ⟨A3, c3, rfl, rfl⟩ a w S; refine h_n1 S ?_)
    (refine h_m (i := 9) rfl (by kernel_rfl) (op_calls S call53 (.cons (.t rfl) (.cons (.t rfl) .nil)) (c53 _ _ _ _ (by exact Sl.of_own S.wd (k := 0) rfl (fun _ => rfl)) (by omega) (by omega)) rfl ?_); clear S a w; rintro _ _ ⟨A4, c4, rfl, rfl⟩ a w S; refine h_n1 S ?_)
    (refine h_m0 (i := 10) rfl (by kernel_rfl) (op_st S sizeOf28 (.t rfl) (.t rfl) (k := 4) rfl rfl (by simp) ?_); clear S a w; intro a w S; refine h_n1 S ?_)
    refine h_done (by kernel_rfl) (in_normal (then_normal (hK1 _ _ (wp_region_lit (run S (.ad (by unfold I64; omega) rfl <| .mv rfl <| .z) fun a w S => st_nil (then_normal ?_))))))
    (replace S := S.pull 4 rfl; try simp only [List.set_cons_zero, List.set_cons_succ, List.eraseIdx_cons_succ, List.eraseIdx_cons_zero] at S)
    exact ⟨(k + 1, A4, c4, dotB out m), ⟨by dsimp only; omega, by dsimp only; rw [dotF_take hmm, ← hno]⟩, by dsimp only; omega, S.wk⟩
  · have hend : k = l.length := by omega
    subst hend
    rw [List.take_length] at hno
    refine sg S (.ge (by omega) rfl rfl <| .z) fun a w S => wp_seq_k fun _ hK1 => st_else S (.t rfl) (wp_exit (then_exit (then_exit (in_here (st_end S (results0 results112) ?_)))))
    obtain rfl : out = dotsB b l := hno
    exact ⟨_, _, rfl, S.wd.sub (by repeat (first | exact List.Sublist.refl _ | exact List.nil_sublist _ | refine .cons_cons _ ?_ | refine .cons _ ?_)), B, cB, rfl, rfl⟩
end Go.Proofs.YtfblmkocmnbdcaaGreat
set_option linter.unusedVariables false
set_option linter.unusedSimpArgs false
set_option maxRecDepth 100000
set_option maxHeartbeats 4000000
namespace Go.Proofs.YtfblmkocmnbdcaaGreat
open Go.Fw Go.Proofs Go.RowKit Go.Proofs.Tryz
theorem c55 (w0 : World) (v0 v1 v2 : Value) (b : List UInt8) (C : Ctx) (hs : Sl encB 1 w0 w0.heap.size v0 b) (h : RdCtx w0 w0.heap.size v1 v2 C) (hb : b.length ≤ 4194304) :
    Rets Tryz.prog 55 #[v0, .agg #[v1, v2]] w0 fun v L => ∃ A c, v = .tuple #[.slice A (if canL C then encC b C else []).length c, .int .i64 (if canL C then 0 else 30)] ∧ L = [rowOf 5 1 encB A c (if canL C then encC b C else [])] := by
  obtain ⟨A0, q0, rfl, _⟩ := id hs
  obtain ⟨h1, h2⟩ := id h
  obtain ⟨B1, q1, rfl, _, _, hA⟩ := id h1
  obtain ⟨B2, q2, rfl, _⟩ := id h2
  cases rw_c : canL C with
  | false =>
    unfold Go.Fw.Rets
    refine enter2 func55 rfl ntmps55 rfl fun a S => wp_seq_k fun _ hK1 => wp_region_lit (st_m (op_box1 S (.t rfl) rfl rfl fun g1 a w S => st_m (op_box S (.t rfl) rfl fun g2 a w S => run S (.ac rfl <| .ac rfl <| .z) fun a w S => st_nil (then_normal (hK1 _ _ (wp_seq_k fun _ hK1 => wp_seq_k fun _ hK2 => wp_region_lit (run S (.la gt37 0 rfl rfl rfl <| .xx (ys_call call109 (.cons (.t rfl) .nil) (fun hp w W => c109 _ _ _ _ (by exact .old W (by assumption)))) rfl <| .z) fun a w S => ?_)))))))
    rw [rw_c] at S
    refine run S (.nt rfl <| .z) fun a w S => st_nil (then_normal (hK2 _ _ (st_then S (.t rfl) (sg S (.ac rfl <| .ac rfl <| .z) fun a w S => wp_ret (then_ret (st_ret S (results2 S results55 (Rv.tmp rfl) (Rv.tmp rfl)) ?_))))))
    exact ⟨_, _, rfl, (S.nil_ 5 1 encB none).wd.sub (by repeat (first | exact List.Sublist.refl _ | exact List.nil_sublist _ | refine .cons_cons _ ?_ | refine .cons _ ?_)), none, 0, rfl, rfl⟩
  | true =>
    have hmM := (can_nf rw_c).mayM
    have hmC := (can_nf rw_c).mayC
    have hlen := can_len rw_c
    unfold Go.Fw.Rets
    refine enter2 func55 rfl ntmps55 rfl fun a S => wp_seq_k fun _ hK1 => wp_region_lit (st_m (op_box1 S (.t rfl) rfl rfl fun g1 a w S => st_m (op_box S (.t rfl) rfl fun g2 a w S => run S (.ac rfl <| .ac rfl <| .z) fun a w S => st_nil (then_normal (hK1 _ _ (wp_seq_k fun _ hK1 => wp_seq_k fun _ hK2 => wp_region_lit (run S (.la gt37 0 rfl rfl rfl <| .xx (ys_call call109 (.cons (.t rfl) .nil) (fun hp w W => c109 _ _ _ _ (by exact .old W (by assumption)))) rfl <| .z) fun a w S => ?_)))))))
    rw [rw_c] at S
    refine run S (.nt rfl <| .z) fun a w S => st_nil (then_normal (hK2 _ _ (st_else S (.t rfl) (wp_skip (then_normal (hK1 _ _ (sg S (.yy (ys_mkFunc (.cons (.t rfl) .nil)) rfl <| .as rfl <| .z) fun a w S => sg S (.ac rfl <| .z) fun a w S => wp_seq_k fun _ hK1 => sg S (.fa underlying37 sizeOf34 0 rfl rfl rfl <| .ld gt34 0 rfl rfl rfl <| .ln underlying34 rfl <| .mc rfl <| .z) fun a w S => wp_block ?_)))))))
    (replace S := S.pull 1 rfl; try simp only [List.set_cons_zero, List.set_cons_succ, List.eraseIdx_cons_succ, List.eraseIdx_cons_zero] at S)
    refine st_lpK (S.nil_ 58 3 Dot.enc none) (X := Nat × Option Addr × Nat) (fun q => [(17, true, .int .i64 (q.1 : Int)), (7, true, .slice q.2.1 (C.marks.take q.1).length q.2.2)]) (fun q _ => [rowOf 58 3 Dot.enc q.2.1 q.2.2 (C.marks.take q.1), .blk g1 (.cells #[.slice A0 b.length q0] 28), .blk g2 (.cells #[.slice B1 C.marks.length q1, .slice B2 C.cloud.length q2] 37)])
      (fun q => q.1 ≤ C.marks.length) (fun q => C.marks.length - q.1) (0, none, 0) (Nat.zero_le _) ?_
    clear S
    intro ⟨k, D, cD⟩ a w hk S
    dsimp only at hk S
    by_cases hlt : k < C.marks.length
    · obtain ⟨gq, oq, m, rfl, hmm, hdq, hc⟩ := row_at hA hlt
      have hlk : (C.marks.take k).length ≤ 64 := by rw [List.length_take]; omega
      refine sg S (.lt (by omega) rfl rfl <| .z) fun a w S => wp_seq_k fun _ hK2 => st_then S (.t rfl) (wp_skip (then_normal (hK2 _ _ (wp_seq_k fun _ hK2 => wp_block (wp_seq_k fun _ hK3 => wp_region_lit (run S (.ix underlying34 sizeOf122 (by omega) rfl rfl <| .yy (ys_ldOA ⟨isAgg122, sizeOf122⟩ (.t rfl) (vs := [_, _, _]) rfl (fun _ => hc)) rfl <| .z) fun a w S => st_m (op_alloc S zeroValue122 (cs := _) rfl rfl fun g3 a w S => st_m (op_stW S sizeOf122 (.t rfl) (.t rfl) (k := 0) rfl rfl rfl (by simp [Value.oneCell']) fun a w S => st_nil (then_normal (hK3 _ _ (wp_region_lit (run S (.mv rfl <| .la gt122 0 rfl rfl rfl <| .xx (ys_call call113 (.cons (.t rfl) .nil) (fun hp w W => c113 _ _ _ _)) rfl <| .z) fun a w S => st_m (op_bslice1 S underlying35 inf58 rfl rfl rfl (.t rfl) rfl rfl rfl fun g4 a w S => st_m (op_push S underlying35 inf58 rfl (k := 2) (j := 0) rfl (.t rfl) (.t rfl) rfl rfl rfl rfl (by first | omega | (simp only [List.length_append, List.length_cons, List.length_nil]; omega)) rfl rfl rfl fun A1 cap1 a w S => run S (.as rfl <| .z) fun a w S => st_nil (in_normal (then_normal (hK2 _ _ (wp_region_lit (run S (.ad (by unfold I64; omega) rfl <| .mv rfl <| .z) fun a w S => st_nil (then_normal ?_))))))))))))))))))))
      have et : C.marks.take (k + 1) = C.marks.take k ++ [m] := by rw [List.take_add_one, hmm]; rfl
      rw [← et] at S
      exact ⟨(k + 1, A1, cap1), by dsimp only; omega, by dsimp only; omega, S.wk⟩
    · have hend : k = C.marks.length := by omega
      subst hend
      rw [List.take_length] at S
      have hb1 := dotsB_len (b := b) hmM hlen.1
      refine sg S (.ge (by omega) rfl rfl <| .z) fun a w S => wp_seq_k fun _ hK2 => st_else S (.t rfl) (wp_exit (then_exit (then_exit (in_here (then_normal (hK1 _ _ (wp_seq_k fun _ hK1 => wp_region_lit (run S (.mv rfl <| .mv rfl <| .z) fun a w S => ?_))))))))
      (replace S := S.pull 0 rfl; try simp only [List.set_cons_zero, List.set_cons_succ, List.eraseIdx_cons_succ, List.eraseIdx_cons_zero] at S; replace S := S.pull 1 rfl; try simp only [List.set_cons_zero, List.set_cons_succ, List.eraseIdx_cons_succ, List.eraseIdx_cons_zero] at S; refine st_m (op_callVO (cs := [_]) S (.t rfl) call112 (.cons (.t rfl) .nil) (c112 S.wd (by first | assumption | omega | (dsimp only; omega) | exact Sl.nil_ | exact .old S.wd (by assumption) | exact Sl.of_own S.wd (k := 0) rfl (fun _ => rfl) | exact Sl.of_own S.wd (k := 1) rfl (fun _ => rfl) | exact Sl.of_own S.wd (k := 2) rfl (fun _ => rfl) | (simp at *; omega)) (by first | assumption | omega | (dsimp only; omega) | exact Sl.nil_ | exact .old S.wd (by assumption) | exact Sl.of_own S.wd (k := 0) rfl (fun _ => rfl) | exact Sl.of_own S.wd (k := 1) rfl (fun _ => rfl) | exact Sl.of_own S.wd (k := 2) rfl (fun _ => rfl) | (intro _ W'; first | exact .old W' (by assumption) | exact Sl.of_own W' (k := 0) rfl (fun _ => rfl) | exact Sl.of_own W' (k := 1) rfl (fun _ => rfl) | exact Sl.of_own W' (k := 2) rfl (fun _ => rfl)) | (simp at *; omega)) (by first | assumption | omega | (dsimp only; omega) | exact Sl.nil_ | exact .old S.wd (by assumption) | exact Sl.of_own S.wd (k := 0) rfl (fun _ => rfl) | exact Sl.of_own S.wd (k := 1) rfl (fun _ => rfl) | exact Sl.of_own S.wd (k := 2) rfl (fun _ => rfl) | (simp at *; omega)) (by first | assumption | omega | (dsimp only; omega) | exact Sl.nil_ | exact .old S.wd (by assumption) | exact Sl.of_own S.wd (k := 0) rfl (fun _ => rfl) | exact Sl.of_own S.wd (k := 1) rfl (fun _ => rfl) | exact Sl.of_own S.wd (k := 2) rfl (fun _ => rfl) | (simp at *; omega))) rfl ?_) <;> clear S a w)
      rintro _ _ ⟨A11, c11, rfl, rfl⟩ a w S
      refine st_nil (then_normal (hK1 _ _ (wp_seq_k fun _ hK1 => wp_region_lit (run S (.mv rfl <| .fa underlying37 sizeOf35 1 rfl rfl rfl <| .ld gt35 3 rfl rfl rfl <| .z) fun a w S => ?_))))
      (refine st_m (op_callVO (cs := [_]) S (.t rfl) call112 (.cons (.t rfl) .nil) (o112 S.wd (by first | assumption | omega | (dsimp only; omega) | exact Sl.nil_ | exact .old S.wd (by assumption) | exact Sl.of_own S.wd (k := 0) rfl (fun _ => rfl) | exact Sl.of_own S.wd (k := 1) rfl (fun _ => rfl) | exact Sl.of_own S.wd (k := 2) rfl (fun _ => rfl) | exact Sl.of_own S.wd (k := 3) rfl (fun _ => rfl) | (intro _ W'; first | exact .old W' (by assumption) | exact Sl.of_own W' (k := 0) rfl (fun _ => rfl) | exact Sl.of_own W' (k := 1) rfl (fun _ => rfl) | exact Sl.of_own W' (k := 2) rfl (fun _ => rfl) | exact Sl.of_own W' (k := 3) rfl (fun _ => rfl)) | (simp at *; omega)) (by first | assumption | omega | (dsimp only; omega) | exact Sl.nil_ | exact .old S.wd (by assumption) | exact Sl.of_own S.wd (k := 0) rfl (fun _ => rfl) | exact Sl.of_own S.wd (k := 1) rfl (fun _ => rfl) | exact Sl.of_own S.wd (k := 2) rfl (fun _ => rfl) | exact Sl.of_own S.wd (k := 3) rfl (fun _ => rfl) | (simp at *; omega)) (by first | assumption | omega | (dsimp only; omega) | exact Sl.nil_ | exact .old S.wd (by assumption) | exact Sl.of_own S.wd (k := 0) rfl (fun _ => rfl) | exact Sl.of_own S.wd (k := 1) rfl (fun _ => rfl) | exact Sl.of_own S.wd (k := 2) rfl (fun _ => rfl) | exact Sl.of_own S.wd (k := 3) rfl (fun _ => rfl) | (simp at *; omega)) (by first | assumption | omega | (dsimp only; omega) | exact Sl.nil_ | exact .old S.wd (by assumption) | exact Sl.of_own S.wd (k := 0) rfl (fun _ => rfl) | exact Sl.of_own S.wd (k := 1) rfl (fun _ => rfl) | exact Sl.of_own S.wd (k := 2) rfl (fun _ => rfl) | exact Sl.of_own S.wd (k := 3) rfl (fun _ => rfl) | (simp at *; omega))) rfl ?_) <;> clear S a w)
      rintro _ _ ⟨A12, c12, rfl, rfl⟩ a w S
      refine st_nil (then_normal (hK1 _ _ (sg S (.ld gt28 0 rfl rfl rfl <| .as rfl <| .ac rfl <| .z) fun a w S => wp_ret (st_ret S (results2 S results55 (Rv.tmp rfl) (Rv.tmp rfl)) ?_))))
      exact ⟨_, _, rfl, S.wd.pk, _, _, rfl, rfl⟩
end Go.Proofs.YtfblmkocmnbdcaaGreat
set_option linter.unusedVariables false
set_option linter.unusedSimpArgs false
set_option maxRecDepth 100000
set_option maxHeartbeats 4000000
namespace Go.Fw
def leN (p : Nat) : Nat → List UInt8
  | 0 => []
  | n + 1 => leN p n ++ [UInt8.ofNat (p / 256 ^ n % 256)]
theorem leN_len (p : Nat) : ∀ n, (leN p n).length = n
  | 0 => rfl
  | n + 1 => by rw [leN, List.length_append, leN_len p n]; rfl
theorem le_byte (p i : Nat) : b8 (Int.fdiv (p : Int) (2 ^ (8 * i))) = UInt8.ofNat (p / 256 ^ i % 256) := by
  have e : Int.fdiv (p : Int) (2 ^ (8 * i)) = ((p / 256 ^ i : Nat) : Int) := by
    rw [Int.fdiv_eq_ediv_of_nonneg _ (by exact_mod_cast Nat.zero_le _)]
    have h : (2 : Int) ^ (8 * i) = ((256 ^ i : Nat) : Int) := by
      rw [Int.pow_mul]; simp
    rw [h]
    simp
  rw [e]
  unfold b8
  congr 1
def entB (b : List UInt8) (x : Ent) : List UInt8 := putL (putL (putL (putL (textL b x.item) x.dot.node) x.dot.life) x.dot.count) x.qty ++ leN x.price.toNat 8
def entsB (b : List UInt8) (l : List Ent) : List UInt8 := l.foldl entB (putL b (l.length : Int))
def encK (c : Cart) : List UInt8 := encC (entsB [] c.ents) c.ctx
theorem textL_len (l s : List UInt8) (h : (s.length : Int) < 9223372036854775808 := by omega) : (textL l s).length ≤ l.length + 9 + s.length := by
  have := putL_len l (n := (s.length : Int)) h
  unfold textL
  rw [List.length_append]; omega
theorem name_len {s : List UInt8} (h : nameB s = true) : s.length ≤ 32 := by
  unfold nameB at h
  simp at h
  omega
theorem ent_lim {C : Ctx} {x : Ent} (hC : canL C = true) (h : EntOk C x) : x.item.length ≤ 32 ∧ 1 ≤ x.qty ∧ x.qty ≤ 1000000 ∧ 0 ≤ x.dot.node ∧ x.dot.node < 8 ∧ 1 ≤ x.dot.life ∧ x.dot.life ≤ 1099511627776 ∧ 1 ≤ x.dot.count ∧ x.dot.count ≤ 1099511627776 := by
  obtain ⟨h1, ⟨h2, h3⟩, h4, h5⟩ := h
  have := may_lim (cov_may hC h5)
  exact ⟨name_len h1, h2, h3, this⟩
theorem entB_len {C : Ctx} {x : Ent} (hC : canL C = true) (h : EntOk C x) (b : List UInt8) : (entB b x).length ≤ b.length + 100 := by
  obtain ⟨h1, h2, h3, h4, h5, h6, h7, h8, h9⟩ := ent_lim hC h
  unfold entB
  have p1 := textL_len b x.item
  have p2 := putL_len (textL b x.item) (n := x.dot.node) (by omega)
  have p3 := putL_len (putL (textL b x.item) x.dot.node) (n := x.dot.life) (by omega)
  have p4 := putL_len (putL (putL (textL b x.item) x.dot.node) x.dot.life) (n := x.dot.count) (by omega)
  have p5 := putL_len (putL (putL (putL (textL b x.item) x.dot.node) x.dot.life) x.dot.count) (n := x.qty) (by omega)
  rw [List.length_append, leN_len]
  omega
theorem ents_len {X : Cart} (ok : CartOk X) : ∀ k, ((X.ents.take k).foldl entB (putL [] (X.ents.length : Int))).length ≤ 9 + 100 * k
  | 0 => by
    have := putL_len [] (n := (X.ents.length : Int)) (by have := ok.len; omega)
    simpa using this
  | k + 1 => by
    have ih := ents_len ok k
    rw [List.take_add_one]
    cases hx : X.ents[k]? with
    | none => simp; omega
    | some x =>
      rw [Option.toList_some, List.foldl_append]
      have := entB_len ok.ctx (ok.each x (List.mem_of_getElem? hx)) ((X.ents.take k).foldl entB (putL [] (X.ents.length : Int)))
      simp only [List.foldl_cons, List.foldl_nil]
      omega
end Go.Fw
namespace Go.Proofs.YtfblmkocmnbdcaaGreat
open Go.Fw Go.Proofs Go.RowKit Go.Proofs.Tryz
theorem c15 (w0 : World) (v1 v2 v3 : Value) (X : Cart) (h : Sl Ent.enc 6 w0 w0.heap.size v1 X.ents) (hr : RdCtx w0 w0.heap.size v2 v3 X.ctx) :
    Rets Tryz.prog 15 #[.agg #[v1, v2, v3]] w0 fun v L => ∃ A r, v = .tuple #[.slice A (if canE X = 0 then encK X else []).length r, .int .i64 (canE X)] ∧ L = [rowOf 5 1 encB A r (if canE X = 0 then encK X else [])] := by
  have hs := h
  have hrr := hr
  obtain ⟨A, cap, rfl, hl, hcap, hA⟩ := h
  obtain ⟨⟨A2, cap2, rfl, _⟩, ⟨A3, cap3, rfl, _⟩⟩ := hr
  by_cases he : canE X = 0
  rotate_left
  · have rw_e : decide (canE X ≠ 0) = true := decide_eq_true he
    unfold Go.Fw.Rets
    refine enter1 func15 rfl ntmps15 rfl fun a S => wp_seq_k fun _ hK1 => wp_region_lit (st_m (op_box S (.t rfl) rfl fun g1 a w S => run S (.ac rfl <| .ac rfl <| .z) fun a w S => st_nil (then_normal (hK1 _ _ (sg S (.la gt39 0 rfl rfl rfl <| .xx (ys_call call52 (.cons (.t rfl) .nil) (fun hp w W => c52 _ _ _ _ _ (by exact .old W (by assumption)) (by exact .old W (by assumption)))) rfl <| .as rfl <| .z) fun a w S => wp_seq_k fun _ hK1 => sg S (.mv rfl <| .yy (ys_T (by omega) (ys_neq (.t rfl) Ev.c)) rfl <| .z) fun a w S => st_then S (.t rfl) (sg S (.mv rfl <| .ac rfl <| .as rfl <| .z) fun a w S => wp_ret (then_ret (st_ret S (results2 S results15 (Rv.tmp rfl) (Rv.tmp rfl)) ?_))))))))
    rw [if_neg he]
    exact ⟨_, _, rfl, (S.nil_ 5 1 encB none).wd.pk, none, 0, rfl, rfl⟩
  have rw_e := he
  unfold Go.Fw.Rets
  refine enter1 func15 rfl ntmps15 rfl fun a S => wp_seq_k fun _ hK1 => wp_region_lit (st_m (op_box S (.t rfl) rfl fun g1 a w S => run S (.ac rfl <| .ac rfl <| .z) fun a w S => st_nil (then_normal (hK1 _ _ (wp_seq_k fun _ hK1 => wp_region_lit (run S (.la gt39 0 rfl rfl rfl <| .xx (ys_call call52 (.cons (.t rfl) .nil) (fun hp w W => c52 _ _ _ _ _ (by exact .old W (by assumption)) (by exact .old W (by assumption)))) rfl <| .z) fun a w S => ?_))))))
  rw [rw_e] at S
  refine run S (.as rfl <| .z) fun a w S => st_nil (then_normal (hK1 _ _ (wp_seq_k fun _ hK1 => sg S (.mv rfl <| .yy (ys_F (by omega) (ys_neq (.t rfl) Ev.c)) rfl <| .z) fun a w S => st_else S (.t rfl) (wp_skip (then_normal (hK1 _ _ (wp_seq_k fun _ hK1 => wp_region_lit (run S (.fa underlying39 sizeOf33 0 rfl rfl rfl <| .ld gt33 0 rfl rfl rfl <| .ln underlying33 rfl <| .z) fun a w S => ?_))))))))
  (refine st_m (op_calls S call53 (.cons Ev.c (.cons (.t rfl) .nil)) (c53 _ _ _ _ (by exact Sl.nil_) (by (simp; done)) (by omega)) rfl ?_); clear S a w; rintro _ _ ⟨A1, c1, rfl, rfl⟩ a w S)
  refine run S (.as rfl <| .z) fun a w S => st_nil (then_normal (hK1 _ _ (wp_seq_k fun _ hK1 => sg S (.fa underlying39 sizeOf33 0 rfl rfl rfl <| .ld gt33 1 rfl rfl rfl <| .ln underlying33 rfl <| .mc rfl <| .z) fun a w S => wp_block ?_)))
  have ok := (canE_ok X).1 he
  have lX := ok.len
  have hp0 := putL_len [] (n := (X.ents.length : Int)) (by omega)
  have e0 : putL [] (X.ents.length : Int) = (X.ents.take 0).foldl entB (putL [] (X.ents.length : Int)) := rfl
  rw [e0] at S
  refine st_lpM S [5, 23] (X := Nat × Option Addr × Nat) (fun q => [(5, true, .slice q.2.1 ((X.ents.take q.1).foldl entB (putL [] (X.ents.length : Int))).length q.2.2), (23, true, .int .i64 (q.1 : Int))])
    (fun q => [rowOf 5 1 encB q.2.1 q.2.2 ((X.ents.take q.1).foldl entB (putL [] (X.ents.length : Int))), .blk g1 (.cells #[.slice A X.ents.length cap, .slice A2 X.ctx.marks.length cap2, .slice A3 X.ctx.cloud.length cap3] 39)])
    (fun q => q.1 ≤ X.ents.length) (fun q => X.ents.length - q.1) (0, A1, c1) (Nat.zero_le _) ?_
  clear S
  rintro ⟨k, D, cD⟩ a w hk S
  dsimp only at hk S
  have hbl := ents_len ok k
  by_cases hlt : k < X.ents.length
  · obtain ⟨g, o, x, rfl, hx, hd, hc⟩ := row_at hA hlt
    have hxo := ok.each x (List.mem_of_getElem? hx)
    obtain ⟨hxi, hxq1, hxq2, hx1, hx2, hx3, hx4, hx5, hx6⟩ := ent_lim ok.ctx hxo
    have hst : (X.ents.take (k + 1)).foldl entB (putL [] (X.ents.length : Int)) = entB ((X.ents.take k).foldl entB (putL [] (X.ents.length : Int))) x := by
      rw [List.take_add_one, hx, Option.toList_some, List.foldl_append]; rfl
    generalize hO : (X.ents.take k).foldl entB (putL [] (X.ents.length : Int)) = O at *
    have hl1 := textL_len O x.item
    generalize rw_o1 : textL O x.item = O1 at *
    have hl2 := putL_len O1 (n := x.dot.node) (by omega)
    generalize rw_o2 : putL O1 x.dot.node = O2 at *
    have hl3 := putL_len O2 (n := x.dot.life) (by omega)
    generalize rw_o3 : putL O2 x.dot.life = O3 at *
    have hl4 := putL_len O3 (n := x.dot.count) (by omega)
    generalize rw_o4 : putL O3 x.dot.count = O4 at *
    have hl5 := putL_len O4 (n := x.qty) (by omega)
    generalize rw_o5 : putL O4 x.qty = O5 at *
    refine sg S (.lt (by omega) rfl rfl <| .z) fun a w S => wp_seq_k fun _ hK2 => st_then S (.t rfl) (wp_skip (then_normal (hK2 _ _ (wp_seq_k fun _ hK2 => wp_block (wp_seq_k fun _ hK3 => wp_region_lit (run S (.ix underlying33 sizeOf71 (by omega) rfl rfl <| .yy (ys_ldOA ⟨isAgg71, sizeOf71⟩ (.t rfl) (vs := [_, _, _, _, _, _]) rfl (fun _ => hc)) rfl <| .z) fun a w S => st_m (op_alloc S zeroValue71 (cs := _) rfl rfl fun g2 a w S => st_m (op_stW S sizeOf71 (.t rfl) (.t rfl) (k := 0) rfl rfl rfl (by simp [Value.oneCell']) fun a w S => st_nil (then_normal (hK3 _ _ (wp_seq_k fun _ hK3 => wp_region_lit (run S (.mv rfl <| .fa underlying71 sizeOf9 0 rfl rfl rfl <| .ld gt9 0 rfl rfl rfl <| .z) fun a w S => ?_))))))))))))
    (refine st_m (op_calls S call54 (.cons (.t rfl) (.cons (.t rfl) .nil)) (c54 _ _ _ _ (by exact Sl.of_own S.wd (k := 1) rfl (fun _ => rfl)) (by omega) (by omega)) rfl ?_); clear S a w; rintro _ _ ⟨A4, r1, rfl, rfl⟩ a w S)
    rw [rw_o1] at S
    refine run S (.as rfl <| .z) fun a w S => st_nil (then_normal (hK3 _ _ (wp_seq_k fun _ hK3 => wp_seq_k fun _ hK4 => wp_region_lit (run S (.fa underlying71 sizeOf58 1 rfl rfl rfl <| .fa underlying58 sizeOf3 1 rfl rfl rfl <| .ld gt3 1 rfl rfl rfl <| .fa underlying71 sizeOf58 1 rfl rfl rfl <| .fa underlying58 sizeOf3 2 rfl rfl rfl <| .ld gt3 1 rfl rfl rfl <| .fa underlying71 sizeOf58 1 rfl rfl rfl <| .fa underlying58 sizeOf3 3 rfl rfl rfl <| .ld gt3 1 rfl rfl rfl <| .fa underlying71 sizeOf3 4 rfl rfl rfl <| .ld gt3 1 rfl rfl rfl <| .z) fun a w S => st_m (op_bsliceZ (ps := [(0, Go.Operand.tmp 33), (1, Go.Operand.tmp 36), (2, Go.Operand.tmp 39), (3, Go.Operand.tmp 41)]) (us := [_, _, _, _]) S underlying23 sizeOf3 zeroValue3 rfl rfl (.cons (.t rfl) (.cons (.t rfl) (.cons (.t rfl) (.cons (.t rfl) .nil)))) rfl rfl fun g3 a w S => run S (.ln underlying23 rfl <| .mc rfl <| .z) fun a w S => st_nil (then_normal (hK4 _ _ (wp_block (st_rounds 5 (st_round (sg S (.lt (by omega) rfl rfl <| .z) fun a w S => wp_seq_k fun _ hK4 => st_then S (.t rfl) (wp_skip (then_normal (hK4 _ _ (wp_seq_k fun _ hK4 => wp_block (wp_seq_k fun _ hK5 => wp_region_lit ?_))))))))))))))))
    refine run S (.yy (ys_ixS (j := 0) underlying23 sizeOf3 (.t rfl) (.t rfl) (fun _ => by omega)) rfl <| .ld gt3 0 rfl rfl rfl <| .as rfl <| .z) fun a w S => st_nil (then_normal (hK5 _ _ (wp_region_lit (run S (.mv rfl <| .mv rfl <| .z) fun a w S => ?_))))
    (refine st_m (op_calls S call53 (.cons (.t rfl) (.cons (.t rfl) .nil)) (c53 _ _ _ _ (by exact Sl.of_own S.wd (k := 1) rfl (fun _ => rfl)) (by omega) (by omega)) rfl ?_); clear S a w; rintro _ _ ⟨A5, c2, rfl, rfl⟩ a w S)
    rw [rw_o2] at S
    refine run S (.as rfl <| .z) fun a w S => st_nil (in_normal (then_normal (hK4 _ _ (wp_region_lit (run S (.ad (by unfold I64; omega) rfl <| .mv rfl <| .z) fun a w S => st_nil (then_normal (st_round (sg S (.lt (by omega) rfl rfl <| .z) fun a w S => wp_seq_k fun _ hK4 => st_then S (.t rfl) (wp_skip (then_normal (hK4 _ _ (wp_seq_k fun _ hK4 => wp_block (sg S (.yy (ys_ixS (j := 1) underlying23 sizeOf3 (.t rfl) (.t rfl) (fun _ => by omega)) rfl <| .ld gt3 1 rfl rfl rfl <| .as rfl <| .z) fun a w S => wp_region_lit (run S (.mv rfl <| .mv rfl <| .z) fun a w S => ?_))))))))))))))
    (refine st_m (op_calls S call53 (.cons (.t rfl) (.cons (.t rfl) .nil)) (c53 _ _ _ _ (by exact Sl.of_own S.wd (k := 0) rfl (fun _ => rfl)) (by omega) (by omega)) rfl ?_); clear S a w; rintro _ _ ⟨A6, c3, rfl, rfl⟩ a w S)
    rw [rw_o3] at S
    refine run S (.as rfl <| .z) fun a w S => st_nil (in_normal (then_normal (hK4 _ _ (wp_region_lit (run S (.ad (by unfold I64; omega) rfl <| .mv rfl <| .z) fun a w S => st_nil (then_normal (st_round (sg S (.lt (by omega) rfl rfl <| .z) fun a w S => wp_seq_k fun _ hK4 => st_then S (.t rfl) (wp_skip (then_normal (hK4 _ _ (wp_seq_k fun _ hK4 => wp_block (sg S (.yy (ys_ixS (j := 2) underlying23 sizeOf3 (.t rfl) (.t rfl) (fun _ => by omega)) rfl <| .ld gt3 2 rfl rfl rfl <| .as rfl <| .z) fun a w S => wp_region_lit (run S (.mv rfl <| .mv rfl <| .z) fun a w S => ?_))))))))))))))
    (refine st_m (op_calls S call53 (.cons (.t rfl) (.cons (.t rfl) .nil)) (c53 _ _ _ _ (by exact Sl.of_own S.wd (k := 0) rfl (fun _ => rfl)) (by omega) (by omega)) rfl ?_); clear S a w; rintro _ _ ⟨A7, c4, rfl, rfl⟩ a w S)
    rw [rw_o4] at S
    refine run S (.as rfl <| .z) fun a w S => st_nil (in_normal (then_normal (hK4 _ _ (wp_region_lit (run S (.ad (by unfold I64; omega) rfl <| .mv rfl <| .z) fun a w S => st_nil (then_normal (st_round (sg S (.lt (by omega) rfl rfl <| .z) fun a w S => wp_seq_k fun _ hK4 => st_then S (.t rfl) (wp_skip (then_normal (hK4 _ _ (wp_seq_k fun _ hK4 => wp_block (sg S (.yy (ys_ixS (j := 3) underlying23 sizeOf3 (.t rfl) (.t rfl) (fun _ => by omega)) rfl <| .ld gt3 3 rfl rfl rfl <| .as rfl <| .z) fun a w S => wp_region_lit (run S (.mv rfl <| .mv rfl <| .z) fun a w S => ?_))))))))))))))
    (refine st_m (op_calls S call53 (.cons (.t rfl) (.cons (.t rfl) .nil)) (c53 _ _ _ _ (by exact Sl.of_own S.wd (k := 0) rfl (fun _ => rfl)) (by omega) (by omega)) rfl ?_); clear S a w; rintro _ _ ⟨A8, c5, rfl, rfl⟩ a w S)
    rw [rw_o5] at S
    refine run S (.as rfl <| .z) fun a w S => st_nil (in_normal (then_normal (hK4 _ _ (wp_region_lit (run S (.ad (by unfold I64; omega) rfl <| .mv rfl <| .z) fun a w S => st_nil (then_normal (st_round (sg S (.ge (by omega) rfl rfl <| .z) fun a w S => wp_seq_k fun _ hK4 => st_else S (.t rfl) (wp_exit (then_exit (then_exit (in_here (then_normal (hK3 _ _ (sg S (.mc rfl <| .z) fun a w S => wp_block ?_)))))))))))))))
    have rw_f : O5 ++ leN x.price.toNat 0 = O5 := List.append_nil _
    rw [← rw_f] at S
    clear rw_f
    refine st_lpM S [5, 52] (X := Nat × Option Addr × Nat) (fun q => [(5, true, .slice q.2.1 (O5 ++ leN x.price.toNat q.1).length q.2.2), (52, true, .int .i64 (q.1 : Int))])
      (fun q => [rowOf 5 1 encB q.2.1 q.2.2 (O5 ++ leN x.price.toNat q.1), .blk g2 (.cells (Ent.enc x).toArray 71), .blk g1 (.cells #[.slice (some ⟨g, o, none⟩) X.ents.length cap, .slice A2 X.ctx.marks.length cap2, .slice A3 X.ctx.cloud.length cap3] 39)])
      (fun q => q.1 ≤ 8) (fun q => 8 - q.1) (0, _, _) (Nat.zero_le _) ?_
    clear S
    rintro ⟨i, F, cF⟩ a w hi S
    dsimp only at hi S
    have hll : (O5 ++ leN x.price.toNat i).length = O5.length + i := by rw [List.length_append, leN_len]
    have rw_8 : 8 * (i : Int) = ((8 * i : Nat) : Int) := by omega
    by_cases hi8 : i < 8
    · refine sg S (.yy (ys_T (by omega) (ys_lss (.t rfl) Ev.c)) rfl <| .z) fun a w S => wp_seq_k fun _ hK3 => st_then S (.t rfl) (wp_skip (then_normal (hK3 _ _ (wp_seq_k fun _ hK3 => wp_block (sg S (.mv rfl <| .as rfl <| .z) fun a w S => wp_region_lit (run S (.mv rfl <| .fa underlying71 sizeOf27 5 rfl rfl rfl <| .ld gt27 1 rfl rfl rfl <| .mv rfl <| .yy (ys_mulI Ev.c (.t rfl) (fun _ => by unfold I64; omega)) rfl <| .z) fun a w S => ?_))))))
      rw [rw_8] at S
      refine run S (.yy (ys_shr (.t rfl) (.t rfl) (Nat.ble_eq_true_of_le (by show _ ≤ 64; omega))) rfl <| .yy (ys_cvB underlying27 underlying5 (.t rfl)) rfl <| .z) fun a w S => st_m (op_bslice1 S underlying28 inf5 rfl rfl rfl (.t rfl) rfl rfl rfl fun g4 a w S => st_m (op_push S underlying28 inf5 rfl (k := 1) (j := 0) rfl (.t rfl) (.t rfl) rfl rfl rfl rfl (by first | omega | (simp only [List.length_append, List.length_cons, List.length_nil]; omega)) rfl rfl rfl fun A9 cap1 a w S => run S (.as rfl <| .z) fun a w S => st_nil (in_normal (then_normal (hK3 _ _ (wp_region_lit (run S (.ad (by unfold I64; omega) rfl <| .mv rfl <| .z) fun a w S => st_nil (then_normal ?_))))))))
      rw [le_byte, List.append_assoc, show leN x.price.toNat i ++ [UInt8.ofNat (x.price.toNat / 256 ^ i % 256)] = leN x.price.toNat (i + 1) from rfl] at S
      exact ⟨(i + 1, A9, cap1), by dsimp only; omega, by dsimp only; omega, S.pk⟩
    obtain rfl : i = 8 := by omega
    have he5 : entB O x = O5 ++ leN x.price.toNat 8 := by unfold entB; rw [rw_o1, rw_o2, rw_o3, rw_o4, rw_o5]
    refine sg S (.yy (ys_F (by omega) (ys_lss (.t rfl) Ev.c)) rfl <| .z) fun a w S => wp_seq_k fun _ hK3 => st_else S (.t rfl) (wp_exit (then_exit (then_exit (in_here (in_normal (then_normal (hK2 _ _ (wp_region_lit (run S (.ad (by unfold I64; omega) rfl <| .mv rfl <| .z) fun a w S => st_nil (then_normal ?_))))))))))
    exact ⟨(k + 1, F, cF), by dsimp only; omega, by dsimp only; omega, by dsimp only; rw [hst, he5]; exact S.pk⟩
  obtain rfl : k = X.ents.length := by omega
  rw [List.take_length] at S hbl
  have ee : X.ents.foldl entB (putL [] (X.ents.length : Int)) = entsB [] X.ents := rfl
  rw [ee] at S hbl
  have rw_1 : ∀ a b : List UInt8, (if canL X.ctx = true then a else b) = a := fun _ _ => if_pos ok.ctx
  have rw_2 : ∀ a b : Int, (if canL X.ctx = true then a else b) = a := fun _ _ => if_pos ok.ctx
  have rw_3 : encC (entsB [] X.ents) X.ctx = encK X := rfl
  refine sg S (.ge (by omega) rfl rfl <| .z) fun a w S => wp_seq_k fun _ hK2 => st_else S (.t rfl) (wp_exit (then_exit (then_exit (in_here (then_normal (hK1 _ _ (wp_seq_k fun _ hK1 => wp_region_lit (run S (.mv rfl <| .fa underlying39 sizeOf37 1 rfl rfl rfl <| .la gt37 1 rfl rfl rfl <| .z) fun a w S => ?_))))))))
  (refine st_m (op_calls S call55 (.cons (.t rfl) (.cons (.t rfl) .nil)) (c55 _ _ _ _ _ _ (by exact Sl.of_own S.wd (k := 0) rfl (fun _ => rfl)) (by exact .old S.wd (by assumption)) (by omega)) rfl ?_); clear S a w; rintro _ _ ⟨A4, c2, rfl, rfl⟩ a w S)
  rw [rw_1] at S
  rw [rw_2] at S
  rw [rw_3] at S
  refine run S (.ex rfl rfl <| .ex rfl rfl <| .as rfl <| .as rfl <| .z) fun a w S => st_nil (then_normal (hK1 _ _ (wp_ret (st_ret S (results2 S results15 (Rv.tmp rfl) (Rv.tmp rfl)) ?_))))
  rw [if_pos he, he]
  exact ⟨_, _, rfl, S.wd.pk, _, _, rfl, rfl⟩
end Go.Proofs.YtfblmkocmnbdcaaGreat
set_option linter.unusedVariables false
set_option linter.unusedSimpArgs false
namespace Go.Fw
open Go.RowKit
def leV (b : List UInt8) (k : Nat) : Nat → Nat
  | 0 => 0
  | n + 1 => leV b k n + (b.getD (k + n) 0).toNat * 256 ^ n
theorem leV_lt (b : List UInt8) (k : Nat) : ∀ n, leV b k n < 256 ^ n
  | 0 => by simp [leV]
  | n + 1 => by
    have ih := leV_lt b k n
    have hx : (b.getD (k + n) 0).toNat ≤ 255 := by have := (b.getD (k + n) 0).toNat_lt; omega
    have := Nat.mul_le_mul_right (256 ^ n) hx
    rw [leV, Nat.pow_succ]
    omega
theorem leV_fwd {b : List UInt8} {k p : Nat} : ∀ n, (∀ i, i < n → b.getD (k + i) 0 = UInt8.ofNat (p / 256 ^ i % 256)) → leV b k n = p % 256 ^ n
  | 0, _ => by simp [leV, Nat.mod_one]
  | n + 1, h => by
    rw [leV, leV_fwd n (fun i hi => h i (by omega)), h n (by omega), Nat.pow_succ, Nat.mod_mul]
    have : (UInt8.ofNat (p / 256 ^ n % 256)).toNat = p / 256 ^ n % 256 := by
      rw [UInt8.toNat_ofNat']; omega
    rw [this, Nat.mul_comm]
theorem leV_digit (b : List UInt8) (k : Nat) : ∀ n i, i < n → leV b k n / 256 ^ i % 256 = (b.getD (k + i) 0).toNat
  | 0, i, h => absurd h (by omega)
  | n + 1, i, h => by
    have hx : (b.getD (k + i) 0).toNat < 256 := (b.getD (k + i) 0).toNat_lt
    rw [leV]
    have hpos : 0 < 256 ^ i := Nat.pow_pos (by omega)
    by_cases e : i = n
    · subst e
      rw [Nat.add_mul_div_right _ _ hpos, Nat.div_eq_of_lt (leV_lt b k i), Nat.zero_add, Nat.mod_eq_of_lt hx]
    · have ih := leV_digit b k n i (by omega)
      obtain ⟨m, rfl⟩ : ∃ m, n = i + (m + 1) := ⟨n - i - 1, by omega⟩
      have e2 : (b.getD (k + (i + (m + 1))) 0).toNat * 256 ^ (i + (m + 1)) = ((b.getD (k + (i + (m + 1))) 0).toNat * 256 ^ m * 256) * 256 ^ i := by
        rw [Nat.pow_add, Nat.pow_succ]
        simp only [Nat.mul_assoc, Nat.mul_comm, Nat.mul_left_comm]
      rw [e2, Nat.add_mul_div_right _ _ hpos, Nat.add_mul_mod_self_right, ih]
theorem leN_get (p : Nat) : ∀ n i, i < n → (leN p n)[i]? = some (UInt8.ofNat (p / 256 ^ i % 256))
  | 0, i, h => absurd h (by omega)
  | n + 1, i, h => by
    rw [leN]
    by_cases e : i = n
    · subst e
      rw [List.getElem?_append_right (by rw [leN_len]; omega), leN_len, Nat.sub_self]
      rfl
    · rw [List.getElem?_append_left (by rw [leN_len]; omega)]
      exact leN_get p n i (by omega)
theorem leN_leV {b : List UInt8} {k n : Nat} (h : k + n ≤ b.length) : leN (leV b k n) n = (b.drop k).take n := by
  refine List.ext_getElem? fun i => ?_
  by_cases hi : i < n
  · rw [leN_get _ _ _ hi, leV_digit b k n i hi, List.getElem?_take_of_lt hi, List.getElem?_drop, List.getElem?_eq_getElem (by omega), List.getD_eq_getElem?_getD, List.getElem?_eq_getElem (by omega)]
    simp
  · rw [List.getElem?_eq_none (by rw [leN_len]; omega), List.getElem?_eq_none (by rw [List.length_take, List.length_drop]; omega)]
def u64R (b : List UInt8) (k : Nat) : Nat × Nat × Int := if k + 8 ≤ b.length then (leV b k 8, k + 8, 0) else (0, b.length, 2)
abbrev Ent.none : Ent := ⟨[], ⟨0, 0, 0⟩, 0, 0⟩
def entAt (b : List UInt8) (k : Nat) : Ent × Nat × Int := bindR (textR b k 32) Ent.none fun s k1 => bindR (numAt b k1) Ent.none fun x k2 => bindR (numAt b k2) Ent.none fun y k3 => bindR (numAt b k3) Ent.none fun z k4 => bindR (numAt b k4) Ent.none fun q k5 => bindR (u64R b k5) Ent.none fun p k6 => (⟨s, ⟨x, y, z⟩, q, UInt64.ofNat p⟩, k6, 0)
theorem textR_fwd {pre post s : List UInt8} {most : Int} (hs : (s.length : Int) ≤ most) (hm : most ≤ 9223372036854775807) : textR (textL pre s ++ post) pre.length most = (s, (textL pre s).length, 0) := by
  have e : textL pre s ++ post = putL pre (s.length : Int) ++ (s ++ post) := by unfold textL; rw [List.append_assoc]
  have n1 : numAt (textL pre s ++ post) pre.length = ((s.length : Int), (putL pre (s.length : Int)).length, 0) := by rw [e]; exact numAt_fwd (by omega) (by omega)
  unfold textR
  rw [n1]
  dsimp only
  rw [if_pos rfl, if_neg (by omega), if_neg, Int.toNat_natCast]
  · have e2 : (textL pre s ++ post).drop (putL pre (s.length : Int)).length = s ++ post := by rw [e, List.drop_left]
    rw [e2, List.take_left]
    unfold textL
    rw [List.length_append]
  · rw [e, List.length_append, List.length_append]; omega
theorem textR_inv {b : List UInt8} {k : Nat} {most : Int} (h : (textR b k most).2.2 = 0) : b.take (textR b k most).2.1 = textL (b.take k) (textR b k most).1 ∧ (((textR b k most).1.length : Nat) : Int) = (numAt b k).1 := by
  unfold textR at h ⊢
  split at h
  · rename_i h1
    rw [if_pos h1]
    split at h
    · simp at h
    · rename_i h2
      rw [if_neg h2]
      split at h
      · simp at h
      · rename_i h3
        rw [if_neg h3]
        dsimp only
        have hv := numAt_val b k
        have hl : ((((b.drop (numAt b k).2.1).take (numAt b k).1.toNat).length : Nat) : Int) = (numAt b k).1 := by
          rw [List.length_take, List.length_drop]; omega
        refine ⟨?_, hl⟩
        unfold textL
        rw [hl, take_more, numAt_inv h1]
  · rename_i h1
    exact absurd h h1
theorem entAt_fwd {C : Ctx} {pre post : List UInt8} {x : Ent} (hC : canL C = true) (h : EntOk C x) : entAt (entB pre x ++ post) pre.length = (x, (entB pre x).length, 0) := by
  obtain ⟨h1, h2, h3, h4, h5, h6, h7, h8, h9⟩ := ent_lim hC h
  have e0 : entB pre x ++ post = textL pre x.item ++ (numB x.dot.node.toNat ++ (numB x.dot.life.toNat ++ (numB x.dot.count.toNat ++ (numB x.qty.toNat ++ (leN x.price.toNat 8 ++ post))))) := by simp [entB, putL]
  have e1 : entB pre x ++ post = putL (textL pre x.item) x.dot.node ++ (numB x.dot.life.toNat ++ (numB x.dot.count.toNat ++ (numB x.qty.toNat ++ (leN x.price.toNat 8 ++ post)))) := by simp [entB, putL]
  have e2 : entB pre x ++ post = putL (putL (textL pre x.item) x.dot.node) x.dot.life ++ (numB x.dot.count.toNat ++ (numB x.qty.toNat ++ (leN x.price.toNat 8 ++ post))) := by simp [entB, putL]
  have e3 : entB pre x ++ post = putL (putL (putL (textL pre x.item) x.dot.node) x.dot.life) x.dot.count ++ (numB x.qty.toNat ++ (leN x.price.toNat 8 ++ post)) := by simp [entB, putL]
  have e4 : entB pre x ++ post = putL (putL (putL (putL (textL pre x.item) x.dot.node) x.dot.life) x.dot.count) x.qty ++ (leN x.price.toNat 8 ++ post) := by simp [entB, putL]
  have n0 : textR (entB pre x ++ post) pre.length 32 = (x.item, (textL pre x.item).length, 0) := by rw [e0]; exact textR_fwd (by omega) (by omega)
  have n1 : numAt (entB pre x ++ post) (textL pre x.item).length = (x.dot.node, (putL (textL pre x.item) x.dot.node).length, 0) := by rw [e1]; exact numAt_fwd (by omega) (by omega)
  have n2 : numAt (entB pre x ++ post) (putL (textL pre x.item) x.dot.node).length = (x.dot.life, (putL (putL (textL pre x.item) x.dot.node) x.dot.life).length, 0) := by rw [e2]; exact numAt_fwd (by omega) (by omega)
  have n3 : numAt (entB pre x ++ post) (putL (putL (textL pre x.item) x.dot.node) x.dot.life).length = (x.dot.count, (putL (putL (putL (textL pre x.item) x.dot.node) x.dot.life) x.dot.count).length, 0) := by rw [e3]; exact numAt_fwd (by omega) (by omega)
  have n4 : numAt (entB pre x ++ post) (putL (putL (putL (textL pre x.item) x.dot.node) x.dot.life) x.dot.count).length = (x.qty, (putL (putL (putL (putL (textL pre x.item) x.dot.node) x.dot.life) x.dot.count) x.qty).length, 0) := by rw [e4]; exact numAt_fwd (by omega) (by omega)
  have n5 : u64R (entB pre x ++ post) (putL (putL (putL (putL (textL pre x.item) x.dot.node) x.dot.life) x.dot.count) x.qty).length = (x.price.toNat, (entB pre x).length, 0) := by
    have hlen : (entB pre x).length = (putL (putL (putL (putL (textL pre x.item) x.dot.node) x.dot.life) x.dot.count) x.qty).length + 8 := by
      unfold entB; rw [List.length_append, leN_len]
    unfold u64R
    rw [if_pos (by rw [List.length_append]; omega), hlen]
    congr 1
    rw [leV_fwd (p := x.price.toNat) 8 (fun i hi => ?_), Nat.mod_eq_of_lt (by have := x.price.toNat_lt; simpa using this)]
    rw [e4, List.getD_eq_getElem?_getD, List.getElem?_append_right (by omega), Nat.add_sub_cancel_left, List.getElem?_append_left (by rw [leN_len]; omega), leN_get _ _ _ hi]
    rfl
  unfold entAt
  rw [n0, bindR_ok rfl]
  dsimp only
  rw [n1, bindR_ok rfl]
  dsimp only
  rw [n2, bindR_ok rfl]
  dsimp only
  rw [n3, bindR_ok rfl]
  dsimp only
  rw [n4, bindR_ok rfl]
  dsimp only
  rw [n5, bindR_ok rfl]
  dsimp only
  rw [UInt64.ofNat_toNat]
theorem entAt_inv {b : List UInt8} {k : Nat} (h : (entAt b k).2.2 = 0) : b.take (entAt b k).2.1 = entB (b.take k) (entAt b k).1 := by
  unfold entAt at h ⊢
  obtain ⟨h0, e0⟩ := bindR_zero h
  rw [e0] at h ⊢
  obtain ⟨h1, e1⟩ := bindR_zero h
  rw [e1] at h ⊢
  obtain ⟨h2, e2⟩ := bindR_zero h
  rw [e2] at h ⊢
  obtain ⟨h3, e3⟩ := bindR_zero h
  rw [e3] at h ⊢
  obtain ⟨h4, e4⟩ := bindR_zero h
  rw [e4] at h ⊢
  obtain ⟨h5, e5⟩ := bindR_zero h
  rw [e5]
  dsimp only
  generalize hk : (numAt b (numAt b (numAt b (numAt b (textR b k 32).2.1).2.1).2.1).2.1).2.1 = j at h5 ⊢
  unfold u64R at h5 ⊢
  split at h5
  · rename_i h6
    rw [if_pos h6]
    dsimp only
    have hp : (UInt64.ofNat (leV b j 8)).toNat = leV b j 8 := by
      rw [UInt64.toNat_ofNat']; exact Nat.mod_eq_of_lt (leV_lt b j 8)
    unfold entB
    dsimp only
    rw [hp, leN_leV h6, take_more, ← hk, numAt_inv h4, numAt_inv h3, numAt_inv h2, numAt_inv h1, (textR_inv h0).1]
  · simp at h5
def entsAt (b : List UInt8) : Nat → List Ent → Nat → List Ent × Nat × Int
  | 0, acc, k => (acc, k, 0)
  | n + 1, acc, k => bindR (entAt b k) [] fun d k1 => entsAt b n (acc ++ [d]) k1
theorem entB_app (pre : List UInt8) (d : Ent) : ∃ X, entB pre d = pre ++ X := ⟨numB d.item.length ++ (d.item ++ (numB d.dot.node.toNat ++ (numB d.dot.life.toNat ++ (numB d.dot.count.toNat ++ (numB d.qty.toNat ++ leN d.price.toNat 8))))), by simp [entB, putL, textL]⟩
theorem foldE_app : ∀ (l : List Ent) (pre : List UInt8), ∃ X, l.foldl entB pre = pre ++ X
  | [], pre => ⟨[], by simp⟩
  | d :: r, pre => by
    obtain ⟨X, hX⟩ := entB_app pre d
    obtain ⟨Y, hY⟩ := foldE_app r (entB pre d)
    exact ⟨X ++ Y, by rw [List.foldl_cons, hY, hX, List.append_assoc]⟩
theorem entsAt_fwd {C : Ctx} {post : List UInt8} (hC : canL C = true) : ∀ {l acc : List Ent} {pre : List UInt8}, (∀ x ∈ l, EntOk C x) → entsAt (l.foldl entB pre ++ post) l.length acc pre.length = (acc ++ l, (l.foldl entB pre).length, 0)
  | [], acc, pre, _ => by simp [entsAt]
  | d :: r, acc, pre, h => by
    obtain ⟨X, hX⟩ := foldE_app r (entB pre d)
    have e : (d :: r).foldl entB pre ++ post = entB pre d ++ (X ++ post) := by rw [List.foldl_cons, hX, List.append_assoc]
    rw [List.length_cons, entsAt]
    have hd : entAt ((d :: r).foldl entB pre ++ post) pre.length = (d, (entB pre d).length, 0) := by rw [e]; exact entAt_fwd hC (h d (by simp))
    rw [hd, bindR_ok rfl]
    dsimp only
    rw [List.foldl_cons, entsAt_fwd hC (fun x hx => h x (by simp [hx])), List.append_assoc]
    rfl
theorem entsAt_inv {b : List UInt8} : ∀ {n k : Nat} {acc : List Ent}, (entsAt b n acc k).2.2 = 0 → ∃ l, (entsAt b n acc k).1 = acc ++ l ∧ l.length = n ∧ b.take (entsAt b n acc k).2.1 = l.foldl entB (b.take k)
  | 0, k, acc, _ => ⟨[], by simp [entsAt], rfl, rfl⟩
  | n + 1, k, acc, h => by
    unfold entsAt at h ⊢
    obtain ⟨h1, e1⟩ := bindR_zero h
    rw [e1] at h ⊢
    obtain ⟨l, e2, e3, e4⟩ := entsAt_inv h
    exact ⟨(entAt b k).1 :: l, by rw [e2, List.append_assoc]; rfl, by simp [e3], by rw [e4, entAt_inv h1]; rfl⟩
def lastK (b : List UInt8) (c : Cart) (k : Nat) : Cart × Nat × Int := if k < b.length then (Cart.zero, k, 3) else if canE c = 0 then (c, k, 0) else (Cart.zero, k, canE c)
def decR (b : List UInt8) : Cart × Nat × Int := bindR (numAt b 0) Cart.zero fun n k1 => if 64 < n then (Cart.zero, k1, 4) else bindR (entsAt b n.toNat [] k1) Cart.zero fun l k2 => bindR (decAt b k2) Cart.zero fun C k3 => lastK b ⟨l, C⟩ k3
def decK (b : List UInt8) : Cart × Int := ((decR b).1, (decR b).2.2)
theorem dec_enc {c : Cart} (h : CartOk c) : decK (encK c) = (c, 0) := by
  have hl := h.len
  obtain ⟨X, hX⟩ := foldE_app c.ents (putL [] (c.ents.length : Int))
  have hEC : ∃ Y, encK c = entsB [] c.ents ++ Y := by
    unfold encK encC dotsB
    obtain ⟨P, hP⟩ := foldB_app c.ctx.marks (putL (entsB [] c.ents) (c.ctx.marks.length : Int))
    rw [hP]
    obtain ⟨Q, hQ⟩ := foldB_app c.ctx.cloud (putL (putL (entsB [] c.ents) (c.ctx.marks.length : Int) ++ P) (c.ctx.cloud.length : Int))
    rw [hQ]
    exact ⟨numB c.ctx.marks.length ++ P ++ numB c.ctx.cloud.length ++ Q, by simp [putL]⟩
  obtain ⟨Y, hY⟩ := hEC
  have n1 : numAt (encK c) 0 = ((c.ents.length : Int), (putL [] (c.ents.length : Int)).length, 0) := by
    have : encK c = putL [] (c.ents.length : Int) ++ (X ++ Y) := by rw [hY]; unfold entsB; rw [hX, List.append_assoc]
    rw [this]
    exact numAt_fwd (pre := []) (by omega) (by omega)
  have n2 : entsAt (encK c) c.ents.length [] (putL [] (c.ents.length : Int)).length = (c.ents, (entsB [] c.ents).length, 0) := by
    rw [hY]; exact entsAt_fwd h.ctx h.each
  have n3 : decAt (encK c) (entsB [] c.ents).length = (c.ctx, (encK c).length, 0) := by
    have := decAt_fwd (pre := entsB [] c.ents) (post := []) h.ctx
    rw [List.append_nil] at this
    exact this
  unfold decK decR
  rw [n1, bindR_ok rfl]
  dsimp only
  rw [if_neg (by omega), Int.toNat_natCast, n2, bindR_ok rfl]
  dsimp only
  rw [n3, bindR_ok rfl]
  unfold lastK
  rw [if_neg (Nat.lt_irrefl _), if_pos ((canE_ok c).2 h)]
theorem lastK_zero {b : List UInt8} {c : Cart} {k : Nat} (h : (lastK b c k).2.2 = 0) : ¬ k < b.length ∧ canE c = 0 ∧ lastK b c k = (c, k, 0) := by
  unfold lastK at h ⊢
  split at h
  · simp at h
  · rename_i h1
    split at h
    · rename_i h2
      exact ⟨h1, h2, by rw [if_neg h1, if_pos h2]⟩
    · rename_i h2; exact absurd h h2
theorem enc_dec {b : List UInt8} (h : (decK b).2 = 0) : CartOk (decK b).1 ∧ encK (decK b).1 = b := by
  unfold decK decR at h ⊢
  dsimp only at h ⊢
  obtain ⟨h1, e1⟩ := bindR_zero h
  rw [e1] at h ⊢
  split at h
  · simp at h
  rename_i h2
  rw [if_neg h2]
  obtain ⟨h3, e3⟩ := bindR_zero h
  rw [e3] at h ⊢
  obtain ⟨h4, e4⟩ := bindR_zero h
  rw [e4] at h ⊢
  obtain ⟨h5, h6, e5⟩ := lastK_zero h
  rw [e5]
  refine ⟨(canE_ok _).1 h6, ?_⟩
  obtain ⟨l, k1, k2, k3⟩ := entsAt_inv h3
  obtain ⟨k4, k5⟩ := decAt_inv h4
  have hv := numAt_val b 0
  dsimp only
  unfold encK
  dsimp only
  rw [k1, List.nil_append]
  have e6 : entsB [] l = b.take (entsAt b (numAt b 0).1.toNat [] (numAt b 0).2.1).2.1 := by
    rw [k3, numAt_inv h1]
    unfold entsB
    rw [k2, List.take_zero, show (((numAt b 0).1.toNat : Nat) : Int) = (numAt b 0).1 by omega]
  rw [e6, ← k5]
  exact List.take_of_length_le (by omega)
end Go.Fw
set_option linter.unusedVariables false
set_option linter.unusedSimpArgs false
namespace Go.Fw
def abc : List UInt8 := [65, 66, 67, 68, 69, 70, 71, 72, 73, 74, 75, 76, 77, 78, 79, 80, 81, 82, 83, 84, 85, 86, 87, 88, 89, 90, 97, 98, 99, 100, 101, 102, 103, 104, 105, 106, 107, 108, 109, 110, 111, 112, 113, 114, 115, 116, 117, 118, 119, 120, 121, 122, 48, 49, 50, 51, 52, 53, 54, 55, 56, 57, 45, 95]
theorem abcN : (abc.length : Int) = 64 := rfl
def lt64 (p : Int) : UInt8 := abc.getD p.toNat 0
def letters : List UInt8 → List UInt8
  | [] => []
  | [a] => [lt64 ((a.toNat : Int) / 4), lt64 ((a.toNat : Int) % 4 * 16)]
  | [a, b] => [lt64 ((a.toNat : Int) / 4), lt64 ((a.toNat : Int) % 4 * 16 + (b.toNat : Int) / 16), lt64 ((b.toNat : Int) % 16 * 4)]
  | a :: b :: c :: r => lt64 ((a.toNat : Int) / 4) :: lt64 ((a.toNat : Int) % 4 * 16 + (b.toNat : Int) / 16) :: lt64 ((b.toNat : Int) % 16 * 4 + (c.toNat : Int) / 64) :: lt64 ((c.toNat : Int) % 64) :: letters r
def num : List UInt8 → Nat → UInt8 → Nat
  | [], _, _ => 0
  | x :: r, i, c => if x = c then i + 1 else num r (i + 1) c
def num64 (c : UInt8) : Nat := num abc 0 c
theorem num_le : ∀ (l : List UInt8) (i : Nat) (c : UInt8), num l i c ≤ i + l.length
  | [], i, c => by simp [num]
  | x :: r, i, c => by
    have := num_le r (i + 1) c
    unfold num
    split <;> simp <;> omega
theorem num64_le (c : UInt8) : num64 c ≤ 64 := num_le abc 0 c
def bytes64 : List UInt8 → Option (List UInt8)
  | [] => some []
  | [_] => none
  | [a, b] => if num64 a = 0 ∨ num64 b = 0 then none else
      let x := ((num64 a : Int) - 1) * 64 + ((num64 b : Int) - 1)
      if x % 16 = 0 then some [b8 (x / 16)] else none
  | [a, b, c] => if num64 a = 0 ∨ num64 b = 0 ∨ num64 c = 0 then none else
      let x := (((num64 a : Int) - 1) * 64 + ((num64 b : Int) - 1)) * 64 + ((num64 c : Int) - 1)
      if x % 4 = 0 then some [b8 (x / 1024), b8 (x / 4)] else none
  | a :: b :: c :: d :: r => if num64 a = 0 ∨ num64 b = 0 ∨ num64 c = 0 ∨ num64 d = 0 then none else
      let x := ((((num64 a : Int) - 1) * 64 + ((num64 b : Int) - 1)) * 64 + ((num64 c : Int) - 1)) * 64 + ((num64 d : Int) - 1)
      (bytes64 r).map fun l => b8 (x / 65536) :: b8 (x / 256) :: b8 x :: l
theorem num64_lt : ∀ k : Fin 64, num64 (lt64 (k.val : Int)) = k.val + 1 := by decide
theorem num_lt {p : Int} (h0 : 0 ≤ p) (h1 : p < 64) : (num64 (lt64 p) : Int) = p + 1 := by
  obtain ⟨k, rfl⟩ := Int.eq_ofNat_of_zero_le h0
  have := num64_lt ⟨k, by omega⟩
  simp only at this
  rw [this]; omega
theorem bytes_letters : ∀ l : List UInt8, bytes64 (letters l) = some l
  | [] => rfl
  | [a] => by
    have := u8lt a
    have h1 := num_lt (p := (a.toNat : Int) / 4) (by omega) (by omega)
    have h2 := num_lt (p := (a.toNat : Int) % 4 * 16) (by omega) (by omega)
    simp only [letters, bytes64]
    rw [if_neg (by omega), if_pos (by omega)]
    congr 2
    exact b8_of (by omega)
  | [a, b] => by
    have := u8lt a
    have := u8lt b
    have h1 := num_lt (p := (a.toNat : Int) / 4) (by omega) (by omega)
    have h2 := num_lt (p := (a.toNat : Int) % 4 * 16 + (b.toNat : Int) / 16) (by omega) (by omega)
    have h3 := num_lt (p := (b.toNat : Int) % 16 * 4) (by omega) (by omega)
    simp only [letters, bytes64]
    rw [if_neg (by omega), if_pos (by omega), b8_of (x := a) (by omega), b8_of (x := b) (by omega)]
  | a :: b :: c :: r => by
    have := u8lt a
    have := u8lt b
    have := u8lt c
    have h1 := num_lt (p := (a.toNat : Int) / 4) (by omega) (by omega)
    have h2 := num_lt (p := (a.toNat : Int) % 4 * 16 + (b.toNat : Int) / 16) (by omega) (by omega)
    have h3 := num_lt (p := (b.toNat : Int) % 16 * 4 + (c.toNat : Int) / 64) (by omega) (by omega)
    have h4 := num_lt (p := (c.toNat : Int) % 64) (by omega) (by omega)
    simp only [letters, bytes64]
    rw [if_neg (by omega), bytes_letters r, b8_of (x := a) (by omega), b8_of (x := b) (by omega), b8_of (x := c) (by omega)]
    rfl
def lettersR : Int → Int → List UInt8 → List UInt8
  | have', n, [] => if n > 0 then [lt64 (have' * 2 ^ (6 - n).toNat)] else []
  | h, n, x :: r =>
    let y := h * 256 + x.toNat
    if n = 0 then lt64 (y / 4) :: lettersR (y % 4) 2 r
    else if n = 2 then lt64 (y / 16) :: lettersR (y % 16) 4 r
    else lt64 (y / 64) :: lt64 (y % 64) :: lettersR 0 0 r
theorem lettersR_eq : ∀ l : List UInt8, lettersR 0 0 l = letters l
  | [] => rfl
  | [a] => by
    have := u8lt a
    simp [lettersR, letters]
  | [a, b] => by
    have := u8lt a
    have := u8lt b
    simp [lettersR, letters]
    refine ⟨?_, ?_⟩ <;> congr 1 <;> omega
  | a :: b :: c :: r => by
    have := u8lt a
    have := u8lt b
    have := u8lt c
    have ih := lettersR_eq r
    simp [lettersR, letters, ih]
    refine ⟨?_, ?_, ?_⟩ <;> congr 1 <;> omega
def bytesR : Int → Int → List UInt8 → Option (List UInt8)
  | h, n, [] => if h ≠ 0 then none else some []
  | h, n, x :: r => if num64 x = 0 then none else
    let y := h * 64 + ((num64 x : Int) - 1)
    if n = 0 then bytesR y 6 r
    else if n = 6 then (bytesR (y % 16) 4 r).map (b8 (y / 16) :: ·)
    else if n = 4 then (bytesR (y % 4) 2 r).map (b8 (y / 4) :: ·)
    else (bytesR 0 0 r).map (b8 y :: ·)
def bytesRef (l : List UInt8) : Option (List UInt8) := if l.length % 4 = 1 then none else bytesR 0 0 l
theorem bytesR_eq : ∀ l : List UInt8, bytesRef l = bytes64 l
  | [] => rfl
  | [a] => rfl
  | [a, b] => by
    have := num64_le a
    have := num64_le b
    simp only [bytesRef, bytesR, bytes64, List.length_cons, List.length_nil]
    by_cases ha : num64 a = 0
    · simp [ha]
    by_cases hb : num64 b = 0
    · simp [hb]
    simp [ha, hb]
  | [a, b, c] => by
    have := num64_le a
    have := num64_le b
    have := num64_le c
    simp only [bytesRef, bytesR, bytes64, List.length_cons, List.length_nil]
    by_cases ha : num64 a = 0
    · simp [ha]
    by_cases hb : num64 b = 0
    · simp [hb]
    by_cases hc : num64 c = 0
    · simp [hc]
    simp [ha, hb, hc]
    by_cases hz : ((((num64 a : Int) - 1) * 64 + ((num64 b : Int) - 1)) * 64 + ((num64 c : Int) - 1)) % 4 = 0
    · rw [if_pos hz, if_pos (by omega)]
      simp
      refine ⟨?_, ?_⟩
      · congr 1; omega
      · apply UInt8.toNat_inj.1
        have h1 := b8_val (((((num64 a : Int) - 1) * 64 + ((num64 b : Int) - 1)) % 16 * 64 + ((num64 c : Int) - 1)) / 4)
        have h2 := b8_val (((((num64 a : Int) - 1) * 64 + ((num64 b : Int) - 1)) * 64 + ((num64 c : Int) - 1)) / 4)
        omega
    · rw [if_neg hz, if_neg (by omega)]
  | a :: b :: c :: d :: r => by
    have := num64_le a
    have := num64_le b
    have := num64_le c
    have := num64_le d
    have ih := bytesR_eq r
    unfold bytesRef at ih ⊢
    have hm : (a :: b :: c :: d :: r).length % 4 = r.length % 4 := by simp; omega
    rw [hm]
    simp only [bytesR, bytes64]
    by_cases ha : num64 a = 0
    · simp [ha]
    by_cases hb : num64 b = 0
    · simp [hb]
    by_cases hc : num64 c = 0
    · simp [hc]
    by_cases hd : num64 d = 0
    · simp [hd]
    simp [ha, hb, hc, hd]
    rw [← ih]
    split
    · rfl
    · cases bytesR 0 0 r with
      | none => rfl
      | some l =>
        simp
        refine ⟨?_, ?_, ?_⟩ <;> apply UInt8.toNat_inj.1
        · have h1 := b8_val ((((num64 a : Int) - 1) * 64 + ((num64 b : Int) - 1)) / 16)
          have h2 := b8_val (((((((num64 a : Int) - 1) * 64 + ((num64 b : Int) - 1)) * 64 + ((num64 c : Int) - 1)) * 64 + ((num64 d : Int) - 1))) / 65536)
          omega
        · have h1 := b8_val (((((num64 a : Int) - 1) * 64 + ((num64 b : Int) - 1)) % 16 * 64 + ((num64 c : Int) - 1)) / 4)
          have h2 := b8_val (((((((num64 a : Int) - 1) * 64 + ((num64 b : Int) - 1)) * 64 + ((num64 c : Int) - 1)) * 64 + ((num64 d : Int) - 1))) / 256)
          omega
        · have h1 := b8_val ((((((num64 a : Int) - 1) * 64 + ((num64 b : Int) - 1)) % 16 * 64 + ((num64 c : Int) - 1)) % 4 * 64 + ((num64 d : Int) - 1)))
          have h2 := b8_val ((((((num64 a : Int) - 1) * 64 + ((num64 b : Int) - 1)) * 64 + ((num64 c : Int) - 1)) * 64 + ((num64 d : Int) - 1)))
          omega
end Go.Fw
set_option linter.unusedVariables false
set_option linter.unusedSimpArgs false
namespace Go.Fw
def bitC (c : Nat) : Nat := if c % 2 = 1 then c / 2 ^^^ 3988292384 else c / 2
def bitsC : Nat → Nat → Nat
  | 0, c => c
  | n + 1, c => bitsC n (bitC c)
def byteC (c : Nat) (x : UInt8) : Nat := bitsC 8 (c ^^^ x.toNat)
def crcL (l : List UInt8) : Nat := l.foldl byteC 4294967295 ^^^ 4294967295
theorem xor_lt {a b : Nat} (ha : a < 4294967296) (hb : b < 4294967296) : a ^^^ b < 4294967296 := Nat.xor_lt_two_pow (n := 32) ha hb
theorem bitC_lt {c : Nat} (h : c < 4294967296) : bitC c < 4294967296 := by
  unfold bitC
  split
  · exact xor_lt (by omega) (by omega)
  · omega
theorem bitsC_lt : ∀ (n : Nat) {c : Nat}, c < 4294967296 → bitsC n c < 4294967296
  | 0, _, h => h
  | n + 1, _, h => bitsC_lt n (bitC_lt h)
theorem u8_lt (x : UInt8) : x.toNat < 256 := x.toNat_lt
theorem byteC_lt {c : Nat} (x : UInt8) (h : c < 4294967296) : byteC c x < 4294967296 := bitsC_lt 8 (xor_lt h (by have := u8_lt x; omega))
theorem foldC_lt : ∀ (l : List UInt8) {c : Nat}, c < 4294967296 → l.foldl byteC c < 4294967296
  | [], _, h => h
  | x :: r, _, h => foldC_lt r (byteC_lt x h)
theorem crcL_lt (l : List UInt8) : crcL l < 4294967296 := xor_lt (foldC_lt l (by omega)) (by omega)
end Go.Fw
set_option linter.unusedVariables false
set_option linter.unusedSimpArgs false
namespace Go.Fw
open Go.RowKit
theorem num_get : ∀ (l : List UInt8) (i : Nat) (c : UInt8), num l i c ≠ 0 → i < num l i c ∧ l[num l i c - 1 - i]? = some c
  | [], i, c, h => absurd rfl h
  | x :: r, i, c, h => by
    unfold num at h ⊢
    split
    · rename_i e
      subst e
      refine ⟨by omega, ?_⟩
      rw [show i + 1 - 1 - i = 0 by omega]; rfl
    · rename_i e
      rw [if_neg e] at h
      obtain ⟨h1, h2⟩ := num_get r (i + 1) c h
      refine ⟨by omega, ?_⟩
      rw [show num r (i + 1) c - 1 - i = (num r (i + 1) c - 1 - (i + 1)) + 1 by omega, List.getElem?_cons_succ]
      exact h2
theorem lt_num {c : UInt8} {p : Int} (h : ¬ num64 c = 0) (hp : p = (num64 c : Int) - 1) : lt64 p = c := by
  obtain ⟨h1, h2⟩ := num_get abc 0 c h
  subst hp
  unfold lt64
  change abc[num64 c - 1 - 0]? = some c at h2
  rw [List.getD_eq_getElem?_getD, show ((num64 c : Int) - 1).toNat = num64 c - 1 - 0 by omega, h2]
  rfl
theorem letters_bytes : ∀ (s b : List UInt8), bytes64 s = some b → letters b = s
  | [], b, h => by simp [bytes64] at h; subst h; rfl
  | [_], b, h => by simp [bytes64] at h
  | [a, c], b, h => by
    have n1 := num64_le a
    have n2 := num64_le c
    simp only [bytes64] at h
    split at h
    · cases h
    rename_i h1
    rw [not_or] at h1
    split at h
    · rename_i h2
      simp only [Option.some.injEq] at h
      subst h
      have hv := b8_val ((((num64 a : Int) - 1) * 64 + ((num64 c : Int) - 1)) / 16)
      rw [letters, lt_num h1.1 (by omega), lt_num h1.2 (by omega)]
    · cases h
  | [a, c, d], b, h => by
    have n1 := num64_le a
    have n2 := num64_le c
    have n3 := num64_le d
    simp only [bytes64] at h
    split at h
    · cases h
    rename_i h1
    rw [not_or, not_or] at h1
    split at h
    · rename_i h2
      simp only [Option.some.injEq] at h
      subst h
      have hv := b8_val (((((num64 a : Int) - 1) * 64 + ((num64 c : Int) - 1)) * 64 + ((num64 d : Int) - 1)) / 1024)
      have hw := b8_val (((((num64 a : Int) - 1) * 64 + ((num64 c : Int) - 1)) * 64 + ((num64 d : Int) - 1)) / 4)
      rw [letters, lt_num h1.1 (by omega), lt_num h1.2.1 (by omega), lt_num h1.2.2 (by omega)]
    · cases h
  | a :: c :: d :: e :: r, b, h => by
    have n1 := num64_le a
    have n2 := num64_le c
    have n3 := num64_le d
    have n4 := num64_le e
    simp only [bytes64] at h
    split at h
    · cases h
    rename_i h1
    rw [not_or, not_or, not_or] at h1
    cases hr : bytes64 r with
    | none => rw [hr] at h; cases h
    | some t =>
      rw [hr] at h
      simp only [Option.map_some, Option.some.injEq] at h
      subst h
      have ih := letters_bytes r t hr
      have hv := b8_val ((((((num64 a : Int) - 1) * 64 + ((num64 c : Int) - 1)) * 64 + ((num64 d : Int) - 1)) * 64 + ((num64 e : Int) - 1)) / 65536)
      have hw := b8_val ((((((num64 a : Int) - 1) * 64 + ((num64 c : Int) - 1)) * 64 + ((num64 d : Int) - 1)) * 64 + ((num64 e : Int) - 1)) / 256)
      have hx := b8_val (((((num64 a : Int) - 1) * 64 + ((num64 c : Int) - 1)) * 64 + ((num64 d : Int) - 1)) * 64 + ((num64 e : Int) - 1))
      rw [letters, lt_num h1.1 (by omega), lt_num h1.2.1 (by omega), lt_num h1.2.2.1 (by omega), lt_num h1.2.2.2 (by omega), ih]
def frameL (p : List UInt8) : List UInt8 := putL [] (p.length : Int) ++ p ++ leN (crcL p) 4
def unframeL (b : List UInt8) : List UInt8 × List UInt8 × Int :=
  if (numAt b 0).2.2 = 0 then
    (if 65536 < (numAt b 0).1 then ([], [], 4)
    else if ((b.length - (numAt b 0).2.1 : Nat) : Int) < (numAt b 0).1 + 4 then ([], [], 2)
    else if leV b ((numAt b 0).2.1 + (numAt b 0).1.toNat) 4 ≠ crcL ((b.drop (numAt b 0).2.1).take (numAt b 0).1.toNat) then ([], [], 11)
    else ((b.drop (numAt b 0).2.1).take (numAt b 0).1.toNat, b.drop ((numAt b 0).2.1 + (numAt b 0).1.toNat + 4), 0))
  else ([], [], (numAt b 0).2.2)
theorem frame_num (p post : List UInt8) (h : p.length ≤ 65536) : numAt (frameL p ++ post) 0 = ((p.length : Int), (putL [] (p.length : Int)).length, 0) := by
  have e : frameL p ++ post = putL [] (p.length : Int) ++ (p ++ leN (crcL p) 4 ++ post) := by unfold frameL; simp
  rw [e]
  exact numAt_fwd (pre := []) (by omega) (by omega)
theorem frame_len (p : List UInt8) : (frameL p).length = (putL [] (p.length : Int)).length + p.length + 4 := by
  unfold frameL
  rw [List.length_append, List.length_append, leN_len]
theorem unframe_frame (p : List UInt8) (h : p.length ≤ 65536) : unframeL (frameL p) = (p, [], 0) := by
  have hn := frame_num p [] h
  rw [List.append_nil] at hn
  have hl := frame_len p
  unfold unframeL
  rw [hn]
  dsimp only
  have hd : (frameL p).drop (putL [] (p.length : Int)).length = p ++ leN (crcL p) 4 := by
    unfold frameL
    rw [List.append_assoc, List.drop_left]
  have hp : ((frameL p).drop (putL [] (p.length : Int)).length).take (p.length : Int).toNat = p := by
    rw [hd, Int.toNat_natCast, List.take_left]
  have hs : leV (frameL p) ((putL [] (p.length : Int)).length + (p.length : Int).toNat) 4 = crcL p := by
    rw [leV_fwd (p := crcL p) 4 (fun i hi => ?_), Nat.mod_eq_of_lt (crcL_lt p)]
    unfold frameL
    rw [List.getD_eq_getElem?_getD, Int.toNat_natCast, List.getElem?_append_right (by rw [List.length_append]; omega), List.length_append, show (putL [] (p.length : Int)).length + p.length + i - ((putL [] (p.length : Int)).length + p.length) = i by omega, leN_get _ _ _ hi]
    rfl
  rw [if_pos rfl, if_neg (by omega), if_neg (by omega), hp, hs, if_neg (by simp), Int.toNat_natCast, List.drop_of_length_le (by omega)]
theorem unframe_ok {b : List UInt8} (h : (unframeL b).2.2 = 0) : (unframeL b).1.length ≤ 65536 ∧ b = frameL (unframeL b).1 ++ (unframeL b).2.1 := by
  unfold unframeL at h ⊢
  split at h
  · rename_i h1
    rw [if_pos h1]
    split at h
    · simp at h
    rename_i h2
    rw [if_neg h2]
    split at h
    · simp at h
    rename_i h3
    rw [if_neg h3]
    split at h
    · simp at h
    rename_i h4
    rw [if_neg h4]
    rw [Decidable.not_not] at h4
    dsimp only
    have hv := numAt_val b 0
    have hle := numAt_le (b := b) (k := 0) (Nat.zero_le _)
    have hinv := numAt_inv h1
    rw [List.take_zero] at hinv
    have hl : ((b.drop (numAt b 0).2.1).take (numAt b 0).1.toNat).length = (numAt b 0).1.toNat := by
      rw [List.length_take, List.length_drop]; omega
    refine ⟨by omega, ?_⟩
    unfold frameL
    rw [← h4, hl, show (((numAt b 0).1.toNat : Nat) : Int) = (numAt b 0).1 by omega, ← hinv, leN_leV (by omega)]
    have e1 := take_more (b := b) (k := (numAt b 0).2.1) (j := (numAt b 0).1.toNat)
    rw [← e1]
    have e2 := take_more (b := b) (k := (numAt b 0).2.1 + (numAt b 0).1.toNat) (j := 4)
    rw [← e2, List.take_append_drop]
  · rename_i h1
    exact absurd h h1
def readT (s : List UInt8) : Cart × Int := if s = [] then (Cart.zero, 0) else match bytes64 s with
  | none => (Cart.zero, 150)
  | some b => if (unframeL b).2.2 = 0 ∧ (unframeL b).2.1 = [] then (if (decK (unframeL b).1).2 = 0 then ((decK (unframeL b).1).1, 0) else (Cart.zero, 150)) else (Cart.zero, 150)
end Go.Fw
set_option linter.unusedVariables false
set_option linter.unusedSimpArgs false
set_option maxRecDepth 100000
set_option maxHeartbeats 4000000
namespace Go.Fw
theorem bitsC_succ : ∀ (n c : Nat), bitsC (n + 1) c = bitC (bitsC n c)
  | 0, c => rfl
  | n + 1, c => by rw [bitsC, bitsC_succ n, bitsC]
theorem wrap_u32n {n : Nat} (h : n < 4294967296) : IntKind.u32.wrap (n : Int) = (n : Int) := by
  simp only [IntKind.wrap, IntKind.signed, IntKind.bits]
  simp
  omega
theorem xorK_u32 {p q : Nat} (hp : p < 4294967296) (hq : q < 4294967296) : xorK .u32 (p : Int) (q : Int) = ((p ^^^ q : Nat) : Int) := by
  unfold xorK
  rw [ofInt_nat, ofInt_nat, BitVec.toNat_xor, BitVec.toNat_ofNat, BitVec.toNat_ofNat, show IntKind.u32.bits = 32 from rfl, Nat.mod_eq_of_lt (by omega), Nat.mod_eq_of_lt (by omega)]
  exact wrap_u32n (xor_lt hp hq)
section
variable {P : Program} {n : Nat} {K : KL} {b : Bool} {w0 : World} {L : List Chunk} {dst : Option Tmp} {ty : TypeId} {pos : String} {aft : Array Edge} {gd : Option (Nat × Bool)}
theorem ys_xor {t : TypeId} {x : Operand} {k : IntKind} {p : Int} (hx : Ev n b K x (.int k p)) : Yr P ⟨dst, .unOp .xor t x, ty, pos, aft, gd⟩ n K w0 L b (.int k (xorK k (if k.signed then -1 else k.max) p)) := fun a w hb hkn _ => by
  simp [execOp, hx a hb hkn, Op.unary, Op.intBits, xorK]
end
theorem xorK_i64 {p q : Nat} (hp : p < 4294967296) (hq : q < 4294967296) : xorK .i64 (p : Int) (q : Int) = ((p ^^^ q : Nat) : Int) := by
  have := xor_lt hp hq
  unfold xorK
  rw [ofInt_nat, ofInt_nat, BitVec.toNat_xor, BitVec.toNat_ofNat, BitVec.toNat_ofNat, show IntKind.i64.bits = 64 from rfl, Nat.mod_eq_of_lt (by omega), Nat.mod_eq_of_lt (by omega), IntKind.wrap_i64]
  omega
theorem andK_u32 {p : Nat} (hp : p < 4294967296) : andK .u32 (p : Int) 1 = ((p % 2 : Nat) : Int) := by
  unfold andK
  rw [show (1 : Int) = ((1 : Nat) : Int) from rfl, ofInt_nat, ofInt_nat, BitVec.toNat_and, BitVec.toNat_ofNat, BitVec.toNat_ofNat, show IntKind.u32.bits = 32 from rfl, Nat.mod_eq_of_lt (by omega), Nat.mod_eq_of_lt (by omega), Nat.and_one_is_mod]
  exact wrap_u32n (by omega)
theorem not_u32 {p : Nat} (hp : p < 4294967296) : xorK .u32 (if IntKind.u32.signed = true then -1 else IntKind.u32.max) ((p ^^^ 4294967295 : Nat) : Int) = (p : Int) := by
  have e : (if IntKind.u32.signed = true then -1 else IntKind.u32.max) = ((4294967295 : Nat) : Int) := by decide
  rw [e, xorK_u32 (by omega) (xor_lt hp (by omega)), Nat.xor_comm p, ← Nat.xor_assoc, Nat.xor_self, Nat.zero_xor]
theorem wrap_i64n {n : Nat} (h : n < 9223372036854775808) : IntKind.i64.wrap (n : Int) = (n : Int) := by
  rw [IntKind.wrap_i64]; omega
end Go.Fw
namespace Go.Proofs.YtfblmkocmnbdcaaGreat
open Go.Fw Go.Proofs Go.RowKit Go.Proofs.Tryz
theorem c134 (w0 : World) (v1 : Value) (l : List UInt8) (h : Sl encB 1 w0 w0.heap.size v1 l) :
    Calls Tryz.prog 134 #[v1] w0 fun e w' => e = .returned (.int .i64 (crcL l : Int)) ∧ Bel w0.heap.size w0 w' := by
  obtain ⟨A, cap, rfl, hl, hcap, hA⟩ := h
  refine enter1 func134 rfl ntmps134 rfl fun a S => sg S (.ac rfl <| .z) fun a w S => sg S (.ac rfl <| .z) fun a w S => wp_seq_k fun _ hK1 => sg S (.mv rfl <| .ln underlying28 rfl <| .mc rfl <| .z) fun a w S => wp_block ?_
  refine st_lpM S [3, 9] (X := Nat) (fun k => [(9, true, .int .i64 (k : Int)), (3, true, .int .u32 (((l.take k).foldl byteC 4294967295 : Nat) : Int))]) (fun _ => []) (fun k => k ≤ l.length) (fun k => l.length - k) 0 (Nat.zero_le _) ?_
  clear S
  intro k a w hk S
  have hc := foldC_lt (l.take k) (show 4294967295 < 4294967296 by omega)
  by_cases hlt : k < l.length
  · obtain ⟨g, o, x, rfl, hx, hd, hcx⟩ := row_at hA hlt
    have hx8 : x.toNat < 256 := x.toNat_lt
    have hnx : (l.take (k + 1)).foldl byteC 4294967295 = bitsC 8 ((l.take k).foldl byteC 4294967295 ^^^ x.toNat) := by
      rw [List.take_add_one, hx, Option.toList_some, List.foldl_append]; rfl
    generalize (l.take k).foldl byteC 4294967295 = c at S hc hnx
    have rw_x := xorK_u32 hc (show x.toNat < 4294967296 by omega)
    have rw_k : (k : Int) + 1 = ((k + 1 : Nat) : Int) := rfl
    have hcx0 := xor_lt hc (show x.toNat < 4294967296 by omega)
    have rw_w := wrap_u32n (show x.toNat < 4294967296 by omega)
    refine sg S (.lt (by omega) rfl rfl <| .z) fun a w S => wp_seq_k fun _ hK2 => st_then S (.t rfl) (wp_skip (then_normal (hK2 _ _ (wp_seq_k fun _ hK2 => wp_block (sg S (.ix underlying28 sizeOf5 (by omega) rfl rfl <| .yy (ys_ldO ⟨isAgg5, sizeOf5⟩ (.t rfl) (fun _ => hcx 0 _ rfl)) rfl <| .as rfl <| .z) fun a w S => wp_seq_k fun _ hK3 => wp_region_lit (run S (.mv rfl <| .mv rfl <| .yy (ys_cv underlying5 underlying189 (.t rfl)) rfl <| .z) fun a w S => ?_))))))
    rw [rw_w] at S
    refine run S (.yy (ys_bxor (.t rfl) (.t rfl)) rfl <| .z) fun a w S => ?_
    rw [rw_x] at S
    refine run S (.as rfl <| .z) fun a w S => st_nil (then_normal (hK3 _ _ (sg S (.mc rfl <| .z) fun a w S => wp_block ?_)))
    refine st_lpM S [3, 17] (X := Nat) (fun j => [(17, true, .int .i64 (j : Int)), (3, true, .int .u32 (bitsC j (c ^^^ x.toNat) : Int))]) (fun _ => []) (fun j => j ≤ 8) (fun j => 8 - j) 0 (Nat.zero_le _) ?_
    clear S
    intro j a w hj S
    have hb := bitsC_lt j hcx0
    by_cases hlt8 : j < 8
    · have hbs := bitsC_succ j (c ^^^ x.toNat)
      generalize bitsC j (c ^^^ x.toNat) = d at S hb hbs
      have rw_a := andK_u32 hb
      have rw_j : (j : Int) + 1 = ((j + 1 : Nat) : Int) := rfl
      have rw_h : (d : Int) / 2 = ((d / 2 : Nat) : Int) := rfl
      have rw_y : xorK .u32 ((d / 2 : Nat) : Int) 3988292384 = ((d / 2 ^^^ 3988292384 : Nat) : Int) := xorK_u32 (p := d / 2) (q := 3988292384) (by omega) (by omega)
      by_cases hp : d % 2 = 1
      · have rw_p : decide (((d % 2 : Nat) : Int) = 1) = true := decide_eq_true (by omega)
        rw [bitC, if_pos hp] at hbs
        refine sg S (.yy (ys_T (by omega) (ys_lss (.t rfl) Ev.c)) rfl <| .z) fun a w S => wp_seq_k fun _ hK3 => st_then S (.t rfl) (wp_skip (then_normal (hK3 _ _ (wp_seq_k fun _ hK3 => wp_block (wp_seq_k fun _ hK4 => wp_region_lit (run S (.mv rfl <| .yy (ys_band (.t rfl) Ev.c) rfl <| .z) fun a w S => ?_))))))
        rw [rw_a] at S
        refine run S (.as rfl <| .z) fun a w S => st_nil (then_normal (hK4 _ _ (wp_seq_k fun _ hK4 => wp_region_lit (run S (.mv rfl <| .yy (ys_shrC (m := 1) (c := 2) (.t rfl) Ev.c rfl rfl) rfl <| .z) fun a w S => ?_))))
        rw [rw_h] at S
        refine run S (.as rfl <| .z) fun a w S => st_nil (then_normal (hK4 _ _ (sg S (.mv rfl <| .yy (ys_T (by omega) (ys_eql (.t rfl) Ev.c)) rfl <| .z) fun a w S => st_then S (.t rfl) (wp_region_lit (run S (.mv rfl <| .yy (ys_bxor (.t rfl) Ev.c) rfl <| .z) fun a w S => ?_)))))
        rw [rw_y] at S
        refine run S (.as rfl <| .z) fun a w S => st_nil (in_normal (then_normal (hK3 _ _ (wp_region_lit (run S (.ad (by unfold I64; omega) rfl <| .z) fun a w S => ?_)))))
        rw [rw_j] at S
        refine run S (.mv rfl <| .z) fun a w S => st_nil (then_normal ?_)
        exact ⟨j + 1, by omega, by omega, by rw [hbs]; exact S.pk⟩
      · have rw_p : decide (((d % 2 : Nat) : Int) = 1) = false := decide_eq_false (by omega)
        rw [bitC, if_neg hp] at hbs
        refine sg S (.yy (ys_T (by omega) (ys_lss (.t rfl) Ev.c)) rfl <| .z) fun a w S => wp_seq_k fun _ hK3 => st_then S (.t rfl) (wp_skip (then_normal (hK3 _ _ (wp_seq_k fun _ hK3 => wp_block (wp_seq_k fun _ hK4 => wp_region_lit (run S (.mv rfl <| .yy (ys_band (.t rfl) Ev.c) rfl <| .z) fun a w S => ?_))))))
        rw [rw_a] at S
        refine run S (.as rfl <| .z) fun a w S => st_nil (then_normal (hK4 _ _ (wp_seq_k fun _ hK4 => wp_region_lit (run S (.mv rfl <| .yy (ys_shrC (m := 1) (c := 2) (.t rfl) Ev.c rfl rfl) rfl <| .z) fun a w S => ?_))))
        rw [rw_h] at S
        refine run S (.as rfl <| .z) fun a w S => st_nil (then_normal (hK4 _ _ (sg S (.mv rfl <| .yy (ys_F (by omega) (ys_eql (.t rfl) Ev.c)) rfl <| .z) fun a w S => st_else S (.t rfl) (wp_skip (in_normal (then_normal (hK3 _ _ (wp_region_lit (run S (.ad (by unfold I64; omega) rfl <| .z) fun a w S => ?_)))))))))
        rw [rw_j] at S
        refine run S (.mv rfl <| .z) fun a w S => st_nil (then_normal ?_)
        exact ⟨j + 1, by omega, by omega, by rw [hbs]; exact S.pk⟩
    obtain rfl : j = 8 := by omega
    refine sg S (.yy (ys_F (by omega) (ys_lss (.t rfl) Ev.c)) rfl <| .z) fun a w S => wp_seq_k fun _ hK3 => st_else S (.t rfl) (wp_exit (then_exit (then_exit (in_here (in_normal (then_normal (hK2 _ _ (wp_region_lit (run S (.ad (by unfold I64; omega) rfl <| .z) fun a w S => ?_)))))))))
    rw [rw_k] at S
    refine run S (.mv rfl <| .z) fun a w S => st_nil (then_normal ?_)
    exact ⟨k + 1, by omega, by omega, by rw [hnx]; exact S.pk⟩
  have hrl : ((l.take k).foldl byteC 4294967295 : Nat) = crcL l ^^^ 4294967295 := by
    rw [show k = l.length by omega, List.take_length]
    unfold crcL
    rw [Nat.xor_assoc, Nat.xor_self, Nat.xor_zero]
  rw [hrl] at S
  have rw_n := not_u32 (crcL_lt l)
  have rw_w := wrap_i64n (n := crcL l) (by have := crcL_lt l; omega)
  refine sg S (.ge (by omega) rfl rfl <| .z) fun a w S => wp_seq_k fun _ hK2 => st_else S (.t rfl) (wp_exit (then_exit (then_exit (in_here (then_normal (hK1 _ _ (wp_seq_k fun _ hK1 => wp_region_lit (run S (.mv rfl <| .yy (ys_xor (.t rfl)) rfl <| .z) fun a w S => ?_))))))))
  rw [rw_n] at S
  refine run S (.yy (ys_cv underlying189 underlying3 (.t rfl)) rfl <| .z) fun a w S => ?_
  rw [rw_w] at S
  refine run S (.as rfl <| .z) fun a w S => st_nil (then_normal (hK1 _ _ (wp_ret (st_ret S (results1 S results134 (Rv.tmp rfl)) ?_))))
  exact ⟨rfl, S.wd.below⟩
theorem c135 (w0 : World) (v1 : Value) (l : List UInt8) (h : Sl encB 1 w0 w0.heap.size v1 l) :
    Calls Tryz.prog 135 #[v1] w0 fun e w' => e = .returned (.int .i64 (crcL l : Int)) ∧ Bel w0.heap.size w0 w' := by
  obtain ⟨A, cap, rfl, hl, hcap, hA⟩ := h
  refine enter1 func135 rfl ntmps135 rfl fun a S => sg S (.ac rfl <| .z) fun a w S => sg S (.ac rfl <| .z) fun a w S => wp_seq_k fun _ hK1 => sg S (.mv rfl <| .ln underlying28 rfl <| .mc rfl <| .z) fun a w S => wp_block ?_
  refine st_lpM S [3, 9] (X := Nat) (fun k => [(9, true, .int .i64 (k : Int)), (3, true, .int .i64 (((l.take k).foldl byteC 4294967295 : Nat) : Int))]) (fun _ => []) (fun k => k ≤ l.length) (fun k => l.length - k) 0 (Nat.zero_le _) ?_
  clear S
  intro k a w hk S
  have hc := foldC_lt (l.take k) (show 4294967295 < 4294967296 by omega)
  by_cases hlt : k < l.length
  · obtain ⟨g, o, x, rfl, hx, hd, hcx⟩ := row_at hA hlt
    have hx8 : x.toNat < 256 := x.toNat_lt
    have hnx : (l.take (k + 1)).foldl byteC 4294967295 = bitsC 8 ((l.take k).foldl byteC 4294967295 ^^^ x.toNat) := by
      rw [List.take_add_one, hx, Option.toList_some, List.foldl_append]; rfl
    generalize (l.take k).foldl byteC 4294967295 = c at S hc hnx
    have rw_x := xorK_i64 hc (show x.toNat < 4294967296 by omega)
    have rw_k : (k : Int) + 1 = ((k + 1 : Nat) : Int) := rfl
    have hcx0 := xor_lt hc (show x.toNat < 4294967296 by omega)
    refine sg S (.lt (by omega) rfl rfl <| .z) fun a w S => wp_seq_k fun _ hK2 => st_then S (.t rfl) (wp_skip (then_normal (hK2 _ _ (wp_seq_k fun _ hK2 => wp_block (sg S (.ix underlying28 sizeOf5 (by omega) rfl rfl <| .yy (ys_ldO ⟨isAgg5, sizeOf5⟩ (.t rfl) (fun _ => hcx 0 _ rfl)) rfl <| .as rfl <| .z) fun a w S => wp_seq_k fun _ hK3 => wp_region_lit (run S (.mv rfl <| .mv rfl <| .yy (ys_cvI underlying5 underlying3 (.t rfl) (fun _ => by unfold I64; omega)) rfl <| .yy (ys_bxor (.t rfl) (.t rfl)) rfl <| .z) fun a w S => ?_))))))
    rw [rw_x] at S
    refine run S (.as rfl <| .z) fun a w S => st_nil (then_normal (hK3 _ _ (sg S (.mc rfl <| .z) fun a w S => wp_block ?_)))
    refine st_lpM S [3, 17] (X := Nat) (fun j => [(17, true, .int .i64 (j : Int)), (3, true, .int .i64 (bitsC j (c ^^^ x.toNat) : Int))]) (fun _ => []) (fun j => j ≤ 8) (fun j => 8 - j) 0 (Nat.zero_le _) ?_
    clear S
    intro j a w hj S
    have hb := bitsC_lt j hcx0
    by_cases hlt8 : j < 8
    · have hbs := bitsC_succ j (c ^^^ x.toNat)
      generalize bitsC j (c ^^^ x.toNat) = d at S hb hbs
      have rw_j : (j : Int) + 1 = ((j + 1 : Nat) : Int) := rfl
      have rw_h : (d : Int) / 2 = ((d / 2 : Nat) : Int) := rfl
      have rw_y : xorK .i64 ((d / 2 : Nat) : Int) 3988292384 = ((d / 2 ^^^ 3988292384 : Nat) : Int) := xorK_i64 (p := d / 2) (q := 3988292384) (by omega) (by omega)
      by_cases hp : d % 2 = 1
      · have rw_p : decide (((d % 2 : Nat) : Int) = 1) = true := decide_eq_true (by omega)
        rw [bitC, if_pos hp] at hbs
        refine sg S (.yy (ys_T (by omega) (ys_lss (.t rfl) Ev.c)) rfl <| .z) fun a w S => wp_seq_k fun _ hK3 => st_then S (.t rfl) (wp_skip (then_normal (hK3 _ _ (wp_seq_k fun _ hK3 => wp_block (sg S (.mv rfl <| .yy (ys_remE (.t rfl) Ev.c (fun _ => by omega)) rfl <| .yy (ys_T (by omega) (ys_eql (.t rfl) Ev.c)) rfl <| .as rfl <| .z) fun a w S => wp_seq_k fun _ hK4 => wp_region_lit (run S (.mv rfl <| .yy (ys_quoE (.t rfl) Ev.c (fun _ => by omega)) rfl <| .z) fun a w S => ?_))))))
        rw [rw_h] at S
        refine run S (.as rfl <| .z) fun a w S => st_nil (then_normal (hK4 _ _ (sg S (.mv rfl <| .z) fun a w S => st_then S (.t rfl) (wp_region_lit (run S (.mv rfl <| .yy (ys_bxor (.t rfl) Ev.c) rfl <| .z) fun a w S => ?_)))))
        rw [rw_y] at S
        refine run S (.as rfl <| .z) fun a w S => st_nil (in_normal (then_normal (hK3 _ _ (wp_region_lit (run S (.ad (by unfold I64; omega) rfl <| .z) fun a w S => ?_)))))
        rw [rw_j] at S
        refine run S (.mv rfl <| .z) fun a w S => st_nil (then_normal ?_)
        exact ⟨j + 1, by omega, by omega, by rw [hbs]; exact S.pk⟩
      · have rw_p : decide (((d % 2 : Nat) : Int) = 1) = false := decide_eq_false (by omega)
        rw [bitC, if_neg hp] at hbs
        refine sg S (.yy (ys_T (by omega) (ys_lss (.t rfl) Ev.c)) rfl <| .z) fun a w S => wp_seq_k fun _ hK3 => st_then S (.t rfl) (wp_skip (then_normal (hK3 _ _ (wp_seq_k fun _ hK3 => wp_block (sg S (.mv rfl <| .yy (ys_remE (.t rfl) Ev.c (fun _ => by omega)) rfl <| .yy (ys_F (by omega) (ys_eql (.t rfl) Ev.c)) rfl <| .as rfl <| .z) fun a w S => wp_seq_k fun _ hK4 => wp_region_lit (run S (.mv rfl <| .yy (ys_quoE (.t rfl) Ev.c (fun _ => by omega)) rfl <| .z) fun a w S => ?_))))))
        rw [rw_h] at S
        refine run S (.as rfl <| .z) fun a w S => st_nil (then_normal (hK4 _ _ (sg S (.mv rfl <| .z) fun a w S => st_else S (.t rfl) (wp_skip (in_normal (then_normal (hK3 _ _ (wp_region_lit (run S (.ad (by unfold I64; omega) rfl <| .z) fun a w S => ?_)))))))))
        rw [rw_j] at S
        refine run S (.mv rfl <| .z) fun a w S => st_nil (then_normal ?_)
        exact ⟨j + 1, by omega, by omega, by rw [hbs]; exact S.pk⟩
    obtain rfl : j = 8 := by omega
    refine sg S (.yy (ys_F (by omega) (ys_lss (.t rfl) Ev.c)) rfl <| .z) fun a w S => wp_seq_k fun _ hK3 => st_else S (.t rfl) (wp_exit (then_exit (then_exit (in_here (in_normal (then_normal (hK2 _ _ (wp_region_lit (run S (.ad (by unfold I64; omega) rfl <| .z) fun a w S => ?_)))))))))
    rw [rw_k] at S
    refine run S (.mv rfl <| .z) fun a w S => st_nil (then_normal ?_)
    exact ⟨k + 1, by omega, by omega, by rw [hnx]; exact S.pk⟩
  have hrl : ((l.take k).foldl byteC 4294967295 : Nat) = crcL l ^^^ 4294967295 := by
    rw [show k = l.length by omega, List.take_length]
    unfold crcL
    rw [Nat.xor_assoc, Nat.xor_self, Nat.xor_zero]
  rw [hrl] at S
  have hcl := crcL_lt l
  have rw_n : xorK .i64 ((crcL l ^^^ 4294967295 : Nat) : Int) 4294967295 = (crcL l : Int) := by
    rw [show (4294967295 : Int) = ((4294967295 : Nat) : Int) from rfl, xorK_i64 (xor_lt hcl (by omega)) (by omega), Nat.xor_assoc, Nat.xor_self, Nat.xor_zero]
  refine sg S (.ge (by omega) rfl rfl <| .z) fun a w S => wp_seq_k fun _ hK2 => st_else S (.t rfl) (wp_exit (then_exit (then_exit (in_here (then_normal (hK1 _ _ (wp_seq_k fun _ hK1 => wp_region_lit (run S (.mv rfl <| .yy (ys_bxor (.t rfl) Ev.c) rfl <| .z) fun a w S => ?_))))))))
  rw [rw_n] at S
  refine run S (.as rfl <| .z) fun a w S => st_nil (then_normal (hK1 _ _ (wp_ret (st_ret S (results1 S results135 (Rv.tmp rfl)) ?_))))
  exact ⟨rfl, S.wd.below⟩
end Go.Proofs.YtfblmkocmnbdcaaGreat
set_option linter.unusedVariables false
set_option linter.unusedSimpArgs false
set_option maxRecDepth 100000
namespace Go.Proofs.YtfblmkocmnbdcaaGreat
open Go.Fw Go.Proofs Go.RowKit Go.Proofs.Tryz
theorem letters_len : ∀ l : List UInt8, (letters l).length ≤ 2 * l.length
  | [] => by simp [letters]
  | [a] => by simp [letters]
  | [a, b] => by simp [letters]
  | a :: b :: c :: r => by have := letters_len r; simp [letters]; omega
theorem tab2 {p1 p2 q1 q2 : Int} {r : List Value} (h1 : q1 = p1) (h2 : q2 = p2) : [lt64 q1, lt64 q2].flatMap encB = ((Value.int .u8 ((abc.getD p1.toNat 0).toNat : Int)) :: (Value.int .u8 ((abc.getD p2.toNat 0).toNat : Int)) :: r).take (2 * 1) := by subst h1 h2; rfl
theorem tab3 {p1 p2 p3 q1 q2 q3 : Int} {r : List Value} (h1 : q1 = p1) (h2 : q2 = p2) (h3 : q3 = p3) : [lt64 q1, lt64 q2, lt64 q3].flatMap encB = ((Value.int .u8 ((abc.getD p1.toNat 0).toNat : Int)) :: (Value.int .u8 ((abc.getD p2.toNat 0).toNat : Int)) :: (Value.int .u8 ((abc.getD p3.toNat 0).toNat : Int)) :: r).take (3 * 1) := by subst h1 h2 h3; rfl
theorem tab4 {p1 p2 p3 p4 q1 q2 q3 q4 : Int} {r : List Value} (h1 : q1 = p1) (h2 : q2 = p2) (h3 : q3 = p3) (h4 : q4 = p4) : [lt64 q1, lt64 q2, lt64 q3, lt64 q4].flatMap encB = ((Value.int .u8 ((abc.getD p1.toNat 0).toNat : Int)) :: (Value.int .u8 ((abc.getD p2.toNat 0).toNat : Int)) :: (Value.int .u8 ((abc.getD p3.toNat 0).toNat : Int)) :: (Value.int .u8 ((abc.getD p4.toNat 0).toNat : Int)) :: r).take (4 * 1) := by subst h1 h2 h3 h4; rfl
theorem c73 (w0 : World) (v1 : Value) (l : List UInt8) (h : Sl encB 1 w0 w0.heap.size v1 l) (hn : l.length ≤ 4194304) :
    Calls Tryz.prog 73 #[v1] w0 fun e w' => e = .returned (.string (bs (letters l))) ∧ Bel w0.heap.size w0 w' := by
  obtain ⟨A, cap, rfl, hl, hcap, hA⟩ := id h
  refine enter1 func73 rfl ntmps73 rfl fun a S => sg S (.ac rfl <| .z) fun a w S => sg S (.ac rfl <| .z) fun a w S => wp_seq_k fun _ hK1 => wp_block ?_
  refine st_lpK (S.nil_ 5 1 encB none) (X := (Option Addr × Nat × Nat) × List UInt8 × List UInt8 × Option Addr × Nat) (fun q => [(0, true, .slice q.1.1 q.1.2.1 q.1.2.2), (3, true, .slice q.2.2.2.1 q.2.2.1.length q.2.2.2.2)])
    (fun q _ => [rowOf 5 1 encB q.2.2.2.1 q.2.2.2.2 q.2.2.1])
    (fun q => (Sl encB 1 w0 w0.heap.size (.slice q.1.1 q.1.2.1 q.1.2.2) q.2.1) ∧ q.2.2.1 ++ letters q.2.1 = letters l) (fun q => q.2.1.length) ((A, l.length, cap), l, [], none, 0) ⟨h, rfl⟩ ?_
  clear S h hA hl hcap
  intro ⟨⟨A, nm, cap⟩, m, out, B, cB⟩ a w ⟨h, hno⟩ S
  dsimp only at h hno S
  obtain ⟨A', cap', hv, hl, hcap, hA⟩ := id h
  simp only [Value.slice.injEq, true_and] at hv
  obtain ⟨rfl, rfl, rfl⟩ := hv
  have hout : out.length ≤ 8388608 := by have := letters_len l; rw [← hno] at this; simp at this; omega
  have key : m = [] ∨ (∃ a1, m = [a1]) ∨ (∃ a1 b1, m = [a1, b1]) ∨ ∃ a1 b1 c1 r, m = a1 :: b1 :: c1 :: r := by
    rcases m with _ | ⟨a1, _ | ⟨b1, _ | ⟨c1, r⟩⟩⟩ <;> simp
  rcases key with hm | ⟨a1, hm⟩ | ⟨a1, b1, hm⟩ | ⟨a1, b1, c1, r, hm⟩
  · have hl0 : m.length = 0 := by rw [hm]; rfl
    refine wp_seq_k fun _ hK2 => sg S (.mv rfl <| .ln underlying28 rfl <| .yy (ys_F (by omega) (ys_gtr (.t rfl) Ev.c)) rfl <| .z) fun a w S => st_else S (.t rfl) (wp_exit (then_exit (then_exit (in_here (then_normal (hK1 _ _ (sg S (.mv rfl <| .yy (ys_str underlying28 underlying5 underlying9 (.t rfl) (fun _ w W => by first | exact Sl.old W (by assumption) | exact Sl.of_own W (k := 0) rfl (fun _ => rfl))) rfl <| .as rfl <| .z) fun a w S => wp_ret (st_ret S (results1 S results73 (Rv.tmp rfl)) ?_))))))))
    rw [hm] at hno
    simp [letters] at hno
    subst hno
    exact ⟨rfl, S.wd.below⟩
  · have hl0 : m.length = 1 := by rw [hm]; rfl
    have ha1 := u8lt a1
    refine wp_seq_k fun _ hK2 => sg S (.mv rfl <| .ln underlying28 rfl <| .yy (ys_T (by omega) (ys_gtr (.t rfl) Ev.c)) rfl <| .z) fun a w S => st_then S (.t rfl) (wp_skip (then_normal (hK2 _ _ (wp_block (wp_seq_k fun _ hK2 => wp_region_lit (st_m (op_alloc S zeroValue161 (cs := _) rfl rfl fun g1 a w S => st_nil (then_normal (hK2 _ _ (wp_seq_k fun _ hK2 => wp_region_lit (run S (.yy (ys_arr (t1 := 0) underlying161 sizeOf5 (.t rfl)) rfl <| .mv rfl <| .z) fun a w S => st_m (op_copyBS (m := 1) [.int .u8 (a1.toNat : Int)] [.int .u8 (a1.toNat : Int), .int .u8 0, .int .u8 0] S underlying28 sizeOf5 (.t rfl) (.t rfl) (k := 0) rfl h (Nat.le_refl _) rfl encB_len (by omega) (by rw [hm]; rfl) rfl (by simp) (by simp [Value.oneCell']) rfl ?_))))))))))))
    clear S
    intro a w S
    refine run S (.as rfl <| .z) fun a w S => st_nil (then_normal (hK2 _ _ (sg S (.yy (ys_ixA (j := 0) underlying161 sizeOf5 (.t rfl) Ev.c (fun _ => by decide)) rfl <| .ld gt5 0 rfl rfl rfl <| .yy (ys_cvI underlying5 underlying3 (.t rfl) (fun _ => by unfold I64; omega)) rfl <| .yy (ys_shlC (m := 16) (c := 65536) (.t rfl) Ev.c rfl rfl (fun _ => by unfold I64; omega)) rfl <| .yy (ys_ixA (j := 1) underlying161 sizeOf5 (.t rfl) Ev.c (fun _ => by decide)) rfl <| .ld gt5 0 rfl rfl rfl <| .yy (ys_cvI underlying5 underlying3 (.t rfl) (fun _ => by unfold I64; omega)) rfl <| .yy (ys_shlC (m := 8) (c := 256) (.t rfl) Ev.c rfl rfl (fun _ => by unfold I64; omega)) rfl <| .yy (ys_orA 8 (c := 256) (.t rfl) (.t rfl) rfl rfl (fun _ => by omega)) rfl <| .yy (ys_ixA (j := 2) underlying161 sizeOf5 (.t rfl) Ev.c (fun _ => by decide)) rfl <| .ld gt5 0 rfl rfl rfl <| .yy (ys_cvI underlying5 underlying3 (.t rfl) (fun _ => by unfold I64; omega)) rfl <| .yy (ys_orA 8 (c := 256) (.t rfl) (.t rfl) rfl rfl (fun _ => by omega)) rfl <| .as rfl <| .z) fun a w S => wp_seq_k fun _ hK2 => h_begin0 S (by kernel_rfl) fun a w S => ?_)))
    refine hy 0 S rfl (ys_move (.t rfl)) rfl fun a w S => hy 1 S rfl (ys_shrC (m := 18) (c := 262144) (.t rfl) Ev.c rfl rfl) rfl fun a w S => hy 2 S rfl (ys_ixTab (l := abc) underlying9 Ev.c (.t rfl) (fun _ => by have := abcN; omega)) rfl fun a w S => hy 3 S rfl (ys_move (.t rfl)) rfl fun a w S => hy 4 S rfl (ys_shrC (m := 12) (c := 4096) (.t rfl) Ev.c rfl rfl) rfl fun a w S => ?_
    refine hy 5 S rfl (ys_andM 6 (c := 64) (.t rfl) Ev.c rfl rfl rfl (fun _ => by omega)) rfl fun a w S => hy 6 S rfl (ys_ixTab (l := abc) underlying9 Ev.c (.t rfl) (fun _ => by have := abcN; omega)) rfl fun a w S => hy 7 S rfl (ys_move (.t rfl)) rfl fun a w S => hy 8 S rfl (ys_shrC (m := 6) (c := 64) (.t rfl) Ev.c rfl rfl) rfl fun a w S => hy 9 S rfl (ys_andM 6 (c := 64) (.t rfl) Ev.c rfl rfl rfl (fun _ => by omega)) rfl fun a w S => ?_
    refine hy 10 S rfl (ys_ixTab (l := abc) underlying9 Ev.c (.t rfl) (fun _ => by have := abcN; omega)) rfl fun a w S => hy 11 S rfl (ys_move (.t rfl)) rfl fun a w S => hy 12 S rfl (ys_andM 6 (c := 64) (.t rfl) Ev.c rfl rfl rfl (fun _ => by omega)) rfl fun a w S => hy 13 S rfl (ys_ixTab (l := abc) underlying9 Ev.c (.t rfl) (fun _ => by have := abcN; omega)) rfl fun a w S => ?_
    refine hy 14 S rfl (ys_bldA (ps := [(0, Go.Operand.tmp 29), (1, Go.Operand.tmp 33), (2, Go.Operand.tmp 37), (3, Go.Operand.tmp 40)]) (us := [_, _, _, _]) ⟨⟨_, zeroValue162, rfl⟩, _, _, underlying162, sizeOf5⟩ (.cons (.t rfl) (.cons (.t rfl) (.cons (.t rfl) (.cons (.t rfl) .nil)))) rfl) rfl fun a w S => ?_
    (refine h_m (i := 15) rfl (by kernel_rfl) (op_alloc S zeroValue162 (cs := _) rfl rfl ?_); clear S a w; intro g2 a w S; refine h_n1 S ?_)
    (refine h_m0 (i := 16) rfl (by kernel_rfl) (op_stW S sizeOf162 (.t rfl) (.t rfl) (k := 0) rfl rfl rfl (by simp [Value.oneCell']) ?_); clear S a w; intro a w S; refine h_n1 S ?_)
    refine h_done (by kernel_rfl) (then_normal (hK2 _ _ (wp_seq_k fun _ hK2 => wp_region_lit (run S (.mv rfl <| .mv rfl <| .ad (by unfold I64; omega) rfl <| .yy (ys_arrHi underlying162 sizeOf5 (.t rfl) (.t rfl) (fun _ => by first | omega | (simp; done) | (simp; omega))) rfl <| .z) fun a w S => ?_))))
    refine st_m (op_extend [lt64 ((a1.toNat : Int) / 4), lt64 ((a1.toNat : Int) % 4 * 16)] S underlying28 underlying28 (.inr ⟨_, rfl⟩) inf5 rfl (k := 2) rfl (.t rfl) (.t rfl)
      (Src.blkN S.wd (k := 0) rfl (tab2 (by omega) (by omega)) (by simp) (by simp [Value.oneCell'])) (by simp; omega) rfl rfl rfl ?_)
    clear S
    intro B' cB' a w S
    refine run S (.as rfl <| .z) fun a w S => st_nil (then_normal (hK2 _ _ (wp_region_lit (run S (.mv rfl <| .mv rfl <| .yy (ys_slLo underlying28 sizeOf5 (.t rfl) (.t rfl) (fun _ => by first | omega | (simp; done) | (simp; omega))) rfl <| .as rfl <| .z) fun a w S => st_nil (in_normal (then_normal ?_))))))
    refine ⟨((_, m.length - 1, _), [], out ++ [lt64 ((a1.toNat : Int) / 4), lt64 ((a1.toNat : Int) % 4 * 16)], B', cB'), ⟨by have := Sl.drop_ h 1 (by omega); rw [List.length_drop, hm] at this; rw [hm]; exact this, ?_⟩, by simp [hm], S.wk⟩
    rw [← hno, hm]; simp [letters]
  · have hl0 : m.length = 2 := by rw [hm]; rfl
    have ha1 := u8lt a1
    have hb1 := u8lt b1
    refine wp_seq_k fun _ hK2 => sg S (.mv rfl <| .ln underlying28 rfl <| .yy (ys_T (by omega) (ys_gtr (.t rfl) Ev.c)) rfl <| .z) fun a w S => st_then S (.t rfl) (wp_skip (then_normal (hK2 _ _ (wp_block (wp_seq_k fun _ hK2 => wp_region_lit (st_m (op_alloc S zeroValue161 (cs := _) rfl rfl fun g1 a w S => st_nil (then_normal (hK2 _ _ (wp_seq_k fun _ hK2 => wp_region_lit (run S (.yy (ys_arr (t1 := 0) underlying161 sizeOf5 (.t rfl)) rfl <| .mv rfl <| .z) fun a w S => st_m (op_copyBS (m := 2) [.int .u8 (a1.toNat : Int), .int .u8 (b1.toNat : Int)] [.int .u8 (a1.toNat : Int), .int .u8 (b1.toNat : Int), .int .u8 0] S underlying28 sizeOf5 (.t rfl) (.t rfl) (k := 0) rfl h (Nat.le_refl _) rfl encB_len (by omega) (by rw [hm]; rfl) rfl (by simp) (by simp [Value.oneCell']) rfl ?_))))))))))))
    clear S
    intro a w S
    refine run S (.as rfl <| .z) fun a w S => st_nil (then_normal (hK2 _ _ (sg S (.yy (ys_ixA (j := 0) underlying161 sizeOf5 (.t rfl) Ev.c (fun _ => by decide)) rfl <| .ld gt5 0 rfl rfl rfl <| .yy (ys_cvI underlying5 underlying3 (.t rfl) (fun _ => by unfold I64; omega)) rfl <| .yy (ys_shlC (m := 16) (c := 65536) (.t rfl) Ev.c rfl rfl (fun _ => by unfold I64; omega)) rfl <| .yy (ys_ixA (j := 1) underlying161 sizeOf5 (.t rfl) Ev.c (fun _ => by decide)) rfl <| .ld gt5 0 rfl rfl rfl <| .yy (ys_cvI underlying5 underlying3 (.t rfl) (fun _ => by unfold I64; omega)) rfl <| .yy (ys_shlC (m := 8) (c := 256) (.t rfl) Ev.c rfl rfl (fun _ => by unfold I64; omega)) rfl <| .yy (ys_orA 16 (c := 65536) (.t rfl) (.t rfl) rfl rfl (fun _ => by omega)) rfl <| .yy (ys_ixA (j := 2) underlying161 sizeOf5 (.t rfl) Ev.c (fun _ => by decide)) rfl <| .ld gt5 0 rfl rfl rfl <| .yy (ys_cvI underlying5 underlying3 (.t rfl) (fun _ => by unfold I64; omega)) rfl <| .yy (ys_orA 8 (c := 256) (.t rfl) (.t rfl) rfl rfl (fun _ => by omega)) rfl <| .as rfl <| .z) fun a w S => wp_seq_k fun _ hK2 => h_begin0 S (by kernel_rfl) fun a w S => ?_)))
    refine hy 0 S rfl (ys_move (.t rfl)) rfl fun a w S => hy 1 S rfl (ys_shrC (m := 18) (c := 262144) (.t rfl) Ev.c rfl rfl) rfl fun a w S => hy 2 S rfl (ys_ixTab (l := abc) underlying9 Ev.c (.t rfl) (fun _ => by have := abcN; omega)) rfl fun a w S => hy 3 S rfl (ys_move (.t rfl)) rfl fun a w S => hy 4 S rfl (ys_shrC (m := 12) (c := 4096) (.t rfl) Ev.c rfl rfl) rfl fun a w S => ?_
    refine hy 5 S rfl (ys_andM 6 (c := 64) (.t rfl) Ev.c rfl rfl rfl (fun _ => by omega)) rfl fun a w S => hy 6 S rfl (ys_ixTab (l := abc) underlying9 Ev.c (.t rfl) (fun _ => by have := abcN; omega)) rfl fun a w S => hy 7 S rfl (ys_move (.t rfl)) rfl fun a w S => hy 8 S rfl (ys_shrC (m := 6) (c := 64) (.t rfl) Ev.c rfl rfl) rfl fun a w S => hy 9 S rfl (ys_andM 6 (c := 64) (.t rfl) Ev.c rfl rfl rfl (fun _ => by omega)) rfl fun a w S => ?_
    refine hy 10 S rfl (ys_ixTab (l := abc) underlying9 Ev.c (.t rfl) (fun _ => by have := abcN; omega)) rfl fun a w S => hy 11 S rfl (ys_move (.t rfl)) rfl fun a w S => hy 12 S rfl (ys_andM 6 (c := 64) (.t rfl) Ev.c rfl rfl rfl (fun _ => by omega)) rfl fun a w S => hy 13 S rfl (ys_ixTab (l := abc) underlying9 Ev.c (.t rfl) (fun _ => by have := abcN; omega)) rfl fun a w S => ?_
    refine hy 14 S rfl (ys_bldA (ps := [(0, Go.Operand.tmp 29), (1, Go.Operand.tmp 33), (2, Go.Operand.tmp 37), (3, Go.Operand.tmp 40)]) (us := [_, _, _, _]) ⟨⟨_, zeroValue162, rfl⟩, _, _, underlying162, sizeOf5⟩ (.cons (.t rfl) (.cons (.t rfl) (.cons (.t rfl) (.cons (.t rfl) .nil)))) rfl) rfl fun a w S => ?_
    (refine h_m (i := 15) rfl (by kernel_rfl) (op_alloc S zeroValue162 (cs := _) rfl rfl ?_); clear S a w; intro g2 a w S; refine h_n1 S ?_)
    (refine h_m0 (i := 16) rfl (by kernel_rfl) (op_stW S sizeOf162 (.t rfl) (.t rfl) (k := 0) rfl rfl rfl (by simp [Value.oneCell']) ?_); clear S a w; intro a w S; refine h_n1 S ?_)
    refine h_done (by kernel_rfl) (then_normal (hK2 _ _ (wp_seq_k fun _ hK2 => wp_region_lit (run S (.mv rfl <| .mv rfl <| .ad (by unfold I64; omega) rfl <| .yy (ys_arrHi underlying162 sizeOf5 (.t rfl) (.t rfl) (fun _ => by first | omega | (simp; done) | (simp; omega))) rfl <| .z) fun a w S => ?_))))
    refine st_m (op_extend [lt64 ((a1.toNat : Int) / 4), lt64 ((a1.toNat : Int) % 4 * 16 + (b1.toNat : Int) / 16), lt64 ((b1.toNat : Int) % 16 * 4)] S underlying28 underlying28 (.inr ⟨_, rfl⟩) inf5 rfl (k := 2) rfl (.t rfl) (.t rfl)
      (Src.blkN S.wd (k := 0) rfl (tab3 (by omega) (by omega) (by omega)) (by simp) (by simp [Value.oneCell'])) (by simp; omega) rfl rfl rfl ?_)
    clear S
    intro B' cB' a w S
    refine run S (.as rfl <| .z) fun a w S => st_nil (then_normal (hK2 _ _ (wp_region_lit (run S (.mv rfl <| .mv rfl <| .yy (ys_slLo underlying28 sizeOf5 (.t rfl) (.t rfl) (fun _ => by first | omega | (simp; done) | (simp; omega))) rfl <| .as rfl <| .z) fun a w S => st_nil (in_normal (then_normal ?_))))))
    refine ⟨((_, m.length - 2, _), [], out ++ [lt64 ((a1.toNat : Int) / 4), lt64 ((a1.toNat : Int) % 4 * 16 + (b1.toNat : Int) / 16), lt64 ((b1.toNat : Int) % 16 * 4)], B', cB'), ⟨by have := Sl.drop_ h 2 (by omega); rw [List.length_drop, hm] at this; rw [hm]; exact this, ?_⟩, by simp [hm], S.wk⟩
    rw [← hno, hm]; simp [letters]
  · have hl0 : 3 ≤ m.length := by rw [hm]; simp
    have ha1 := u8lt a1
    have hb1 := u8lt b1
    have hc1 := u8lt c1
    refine wp_seq_k fun _ hK2 => sg S (.mv rfl <| .ln underlying28 rfl <| .yy (ys_T (by omega) (ys_gtr (.t rfl) Ev.c)) rfl <| .z) fun a w S => st_then S (.t rfl) (wp_skip (then_normal (hK2 _ _ (wp_block (wp_seq_k fun _ hK2 => wp_region_lit (st_m (op_alloc S zeroValue161 (cs := _) rfl rfl fun g1 a w S => st_nil (then_normal (hK2 _ _ (wp_seq_k fun _ hK2 => wp_region_lit (run S (.yy (ys_arr (t1 := 0) underlying161 sizeOf5 (.t rfl)) rfl <| .mv rfl <| .z) fun a w S => st_m (op_copyBS (m := 3) [.int .u8 (a1.toNat : Int), .int .u8 (b1.toNat : Int), .int .u8 (c1.toNat : Int)] [.int .u8 (a1.toNat : Int), .int .u8 (b1.toNat : Int), .int .u8 (c1.toNat : Int)] S underlying28 sizeOf5 (.t rfl) (.t rfl) (k := 0) rfl h (Nat.le_refl _) rfl encB_len (by omega) (by rw [hm]; rfl) rfl (by simp) (by simp [Value.oneCell']) rfl ?_))))))))))))
    clear S
    intro a w S
    refine run S (.as rfl <| .z) fun a w S => st_nil (then_normal (hK2 _ _ (sg S (.yy (ys_ixA (j := 0) underlying161 sizeOf5 (.t rfl) Ev.c (fun _ => by decide)) rfl <| .ld gt5 0 rfl rfl rfl <| .yy (ys_cvI underlying5 underlying3 (.t rfl) (fun _ => by unfold I64; omega)) rfl <| .yy (ys_shlC (m := 16) (c := 65536) (.t rfl) Ev.c rfl rfl (fun _ => by unfold I64; omega)) rfl <| .yy (ys_ixA (j := 1) underlying161 sizeOf5 (.t rfl) Ev.c (fun _ => by decide)) rfl <| .ld gt5 0 rfl rfl rfl <| .yy (ys_cvI underlying5 underlying3 (.t rfl) (fun _ => by unfold I64; omega)) rfl <| .yy (ys_shlC (m := 8) (c := 256) (.t rfl) Ev.c rfl rfl (fun _ => by unfold I64; omega)) rfl <| .yy (ys_orA 16 (c := 65536) (.t rfl) (.t rfl) rfl rfl (fun _ => by omega)) rfl <| .yy (ys_ixA (j := 2) underlying161 sizeOf5 (.t rfl) Ev.c (fun _ => by decide)) rfl <| .ld gt5 0 rfl rfl rfl <| .yy (ys_cvI underlying5 underlying3 (.t rfl) (fun _ => by unfold I64; omega)) rfl <| .yy (ys_orA 8 (c := 256) (.t rfl) (.t rfl) rfl rfl (fun _ => by omega)) rfl <| .as rfl <| .z) fun a w S => wp_seq_k fun _ hK2 => h_begin0 S (by kernel_rfl) fun a w S => ?_)))
    refine hy 0 S rfl (ys_move (.t rfl)) rfl fun a w S => hy 1 S rfl (ys_shrC (m := 18) (c := 262144) (.t rfl) Ev.c rfl rfl) rfl fun a w S => hy 2 S rfl (ys_ixTab (l := abc) underlying9 Ev.c (.t rfl) (fun _ => by have := abcN; omega)) rfl fun a w S => hy 3 S rfl (ys_move (.t rfl)) rfl fun a w S => hy 4 S rfl (ys_shrC (m := 12) (c := 4096) (.t rfl) Ev.c rfl rfl) rfl fun a w S => ?_
    refine hy 5 S rfl (ys_andM 6 (c := 64) (.t rfl) Ev.c rfl rfl rfl (fun _ => by omega)) rfl fun a w S => hy 6 S rfl (ys_ixTab (l := abc) underlying9 Ev.c (.t rfl) (fun _ => by have := abcN; omega)) rfl fun a w S => hy 7 S rfl (ys_move (.t rfl)) rfl fun a w S => hy 8 S rfl (ys_shrC (m := 6) (c := 64) (.t rfl) Ev.c rfl rfl) rfl fun a w S => hy 9 S rfl (ys_andM 6 (c := 64) (.t rfl) Ev.c rfl rfl rfl (fun _ => by omega)) rfl fun a w S => ?_
    refine hy 10 S rfl (ys_ixTab (l := abc) underlying9 Ev.c (.t rfl) (fun _ => by have := abcN; omega)) rfl fun a w S => hy 11 S rfl (ys_move (.t rfl)) rfl fun a w S => hy 12 S rfl (ys_andM 6 (c := 64) (.t rfl) Ev.c rfl rfl rfl (fun _ => by omega)) rfl fun a w S => hy 13 S rfl (ys_ixTab (l := abc) underlying9 Ev.c (.t rfl) (fun _ => by have := abcN; omega)) rfl fun a w S => ?_
    refine hy 14 S rfl (ys_bldA (ps := [(0, Go.Operand.tmp 29), (1, Go.Operand.tmp 33), (2, Go.Operand.tmp 37), (3, Go.Operand.tmp 40)]) (us := [_, _, _, _]) ⟨⟨_, zeroValue162, rfl⟩, _, _, underlying162, sizeOf5⟩ (.cons (.t rfl) (.cons (.t rfl) (.cons (.t rfl) (.cons (.t rfl) .nil)))) rfl) rfl fun a w S => ?_
    (refine h_m (i := 15) rfl (by kernel_rfl) (op_alloc S zeroValue162 (cs := _) rfl rfl ?_); clear S a w; intro g2 a w S; refine h_n1 S ?_)
    (refine h_m0 (i := 16) rfl (by kernel_rfl) (op_stW S sizeOf162 (.t rfl) (.t rfl) (k := 0) rfl rfl rfl (by simp [Value.oneCell']) ?_); clear S a w; intro a w S; refine h_n1 S ?_)
    refine h_done (by kernel_rfl) (then_normal (hK2 _ _ (wp_seq_k fun _ hK2 => wp_region_lit (run S (.mv rfl <| .mv rfl <| .ad (by unfold I64; omega) rfl <| .yy (ys_arrHi underlying162 sizeOf5 (.t rfl) (.t rfl) (fun _ => by first | omega | (simp; done) | (simp; omega))) rfl <| .z) fun a w S => ?_))))
    refine st_m (op_extend [lt64 ((a1.toNat : Int) / 4), lt64 ((a1.toNat : Int) % 4 * 16 + (b1.toNat : Int) / 16), lt64 ((b1.toNat : Int) % 16 * 4 + (c1.toNat : Int) / 64), lt64 ((c1.toNat : Int) % 64)] S underlying28 underlying28 (.inr ⟨_, rfl⟩) inf5 rfl (k := 2) rfl (.t rfl) (.t rfl)
      (Src.blkN S.wd (k := 0) rfl (tab4 (by omega) (by omega) (by omega) (by omega)) (by simp) (by simp [Value.oneCell'])) (by simp; omega) rfl rfl rfl ?_)
    clear S
    intro B' cB' a w S
    refine run S (.as rfl <| .z) fun a w S => st_nil (then_normal (hK2 _ _ (wp_region_lit (run S (.mv rfl <| .mv rfl <| .yy (ys_slLo underlying28 sizeOf5 (.t rfl) (.t rfl) (fun _ => by first | omega | (simp; done) | (simp; omega))) rfl <| .as rfl <| .z) fun a w S => st_nil (in_normal (then_normal ?_))))))
    refine ⟨((_, m.length - 3, _), r, out ++ [lt64 ((a1.toNat : Int) / 4), lt64 ((a1.toNat : Int) % 4 * 16 + (b1.toNat : Int) / 16), lt64 ((b1.toNat : Int) % 16 * 4 + (c1.toNat : Int) / 64), lt64 ((c1.toNat : Int) % 64)], B', cB'), ⟨by have := Sl.drop_ h 3 (by omega); rw [List.length_drop, hm] at this; rw [hm]; exact this, ?_⟩, by simp [hm]; omega, S.wk⟩
    rw [← hno, hm]; simp [letters]
theorem lettersR_len : ∀ (l : List UInt8) (h n : Int), (lettersR h n l).length ≤ 2 * l.length + 1
  | [], h, n => by unfold lettersR; split <;> simp
  | x :: r, h, n => by
    unfold lettersR
    split
    · have := lettersR_len r ((h * 256 + x.toNat) % 4) 2; simp; omega
    · split
      · have := lettersR_len r ((h * 256 + x.toNat) % 16) 4; simp; omega
      · have := lettersR_len r 0 0; simp; omega
theorem c75 (w0 : World) (v1 : Value) (l : List UInt8) (h : Sl encB 1 w0 w0.heap.size v1 l) (hn : l.length ≤ 4194304) :
    Calls Tryz.prog 75 #[v1] w0 fun e w' => e = .returned (.string (bs (lettersR 0 0 l))) ∧ Bel w0.heap.size w0 w' := by
  obtain ⟨A, cap, rfl, hl, hcap, hA⟩ := id h
  refine enter1 func75 rfl ntmps75 rfl fun a S => sg S (.ac rfl <| .z) fun a w S => sg S (.ac rfl <| .z) fun a w S => sg S (.ac rfl <| .ac rfl <| .z) fun a w S => wp_seq_k fun _ hK1 => sg S (.mv rfl <| .ln underlying28 rfl <| .mc rfl <| .z) fun a w S => wp_block ?_
  refine st_lpK S (X := Nat × Int × Int × List UInt8) (fun q => [(12, true, .int .i64 (q.1 : Int)), (4, true, .int .i64 q.2.1), (5, true, .int .i64 q.2.2.1), (3, true, .string (bs q.2.2.2))]) (fun _ L => L)
    (fun q => q.1 ≤ l.length ∧ (q.2.2.1 = 0 ∧ q.2.1 = 0 ∨ q.2.2.1 = 2 ∧ 0 ≤ q.2.1 ∧ q.2.1 < 4 ∨ q.2.2.1 = 4 ∧ 0 ≤ q.2.1 ∧ q.2.1 < 16) ∧ q.2.2.2 ++ lettersR q.2.1 q.2.2.1 (l.drop q.1) = lettersR 0 0 l) (fun q => l.length - q.1) (0, 0, 0, []) ⟨Nat.zero_le _, .inl ⟨rfl, rfl⟩, rfl⟩ ?_
  clear S
  intro ⟨k, x, n, s⟩ a w ⟨hk, hn, hno⟩ S
  dsimp only at hk hn hno S
  have hs : s.length ≤ 8388612 := by have := lettersR_len l 0 0; rw [← hno] at this; simp at this; omega
  by_cases hlt : k < l.length
  · obtain ⟨g, o, m, rfl, hmm, hd, hc⟩ := row_at hA hlt
    have hu := u8lt m
    clear hA
    rcases hn with ⟨rfl, rfl⟩ | ⟨rfl, h1, h2⟩ | ⟨rfl, h1, h2⟩
    · refine sg S (.lt (by omega) rfl rfl <| .z) fun a w S => wp_seq_k fun _ hK2 => st_then S (.t rfl) (wp_skip (then_normal (hK2 _ _ (wp_seq_k fun _ hK2 => wp_block (sg S (.ix underlying28 sizeOf5 (by omega) rfl rfl <| .yy (ys_ldO ⟨isAgg5, sizeOf5⟩ (.t rfl) (fun _ => hc 0 _ rfl)) rfl <| .as rfl <| .z) fun a w S => sg S (.mv rfl <| .yy (ys_mulI (.t rfl) Ev.c (fun _ => by unfold I64; omega)) rfl <| .mv rfl <| .yy (ys_cvI underlying5 underlying3 (.t rfl) (fun _ => by unfold I64; omega)) rfl <| .yy (ys_addI (.t rfl) (.t rfl) (fun _ => by unfold I64; omega)) rfl <| .as rfl <| .z) fun a w S => sg S (.mv rfl <| .ad (by unfold I64; omega) rfl <| .as rfl <| .z) fun a w S => wp_block (st_rounds 2 (st_round (wp_seq_k fun _ hK3 => sg S (.mv rfl <| .yy (ys_T (by omega) (ys_geq (.t rfl) Ev.c)) rfl <| .z) fun a w S => st_then S (.t rfl) (wp_skip (then_normal (hK3 _ _ (wp_block (sg S (.mv rfl <| .yy (ys_subI (.t rfl) Ev.c (fun _ => by unfold I64; omega)) rfl <| .as rfl <| .z) fun a w S => wp_seq_k fun _ hK3 => ?_)))))))))))))
      refine rg S (.mv rfl <| .mv rfl <| .yy (ys_shrC (m := 2) (c := 4) (.t rfl) (.t rfl) rfl rfl) rfl <| .as rfl <| .z) hK3 fun a w S => sg S (.mv rfl <| .mv rfl <| .yy (ys_shlC (m := 2) (c := 4) Ev.c (.t rfl) rfl rfl (fun _ => by unfold I64; omega)) rfl <| .yy (ys_pred (.t rfl) Ev.c (by omega)) rfl <| .yy (ys_andM 2 (c := 4) (.t rfl) (.t rfl) rfl rfl rfl (fun _ => by omega)) rfl <| .as rfl <| .z) fun a w S => wp_region_lit (run S (.mv rfl <| .mv rfl <| .mv rfl <| .ad (by unfold I64; omega) rfl <| .yy (ys_slStr1 (l := abc) underlying9 Ev.c (.t rfl) (.t rfl) (fun _ => by have := abcN; omega)) rfl <| .yy (ys_addStr (.t rfl) (.t rfl) (fun _ => by first | omega | (simp; done) | (simp; omega))) rfl <| .as rfl <| .z) fun a w S => st_nil (in_normal (then_normal (st_round (wp_seq_k fun _ hK3 => sg S (.mv rfl <| .yy (ys_F (by omega) (ys_geq (.t rfl) Ev.c)) rfl <| .z) fun a w S => st_else S (.t rfl) (wp_exit (then_exit (then_exit (in_here (in_normal (then_normal (hK2 _ _ (wp_region_lit (run S (.ad (by unfold I64; omega) rfl <| .mv rfl <| .z) fun a w S => st_nil (then_normal ?_)))))))))))))))
      exact ⟨(k + 1, (0 * 256 + (m.toNat : Int)) % 4, 2, s ++ [lt64 ((0 * 256 + (m.toNat : Int)) / 4)]), ⟨by dsimp only; omega, .inr (.inl ⟨rfl, by dsimp only; omega, by dsimp only; omega⟩), by dsimp only; rw [← hno, hd]; simp [lettersR, lt64]⟩, by dsimp only; omega, S.wk⟩
    · refine sg S (.lt (by omega) rfl rfl <| .z) fun a w S => wp_seq_k fun _ hK2 => st_then S (.t rfl) (wp_skip (then_normal (hK2 _ _ (wp_seq_k fun _ hK2 => wp_block (sg S (.ix underlying28 sizeOf5 (by omega) rfl rfl <| .yy (ys_ldO ⟨isAgg5, sizeOf5⟩ (.t rfl) (fun _ => hc 0 _ rfl)) rfl <| .as rfl <| .z) fun a w S => sg S (.mv rfl <| .yy (ys_mulI (.t rfl) Ev.c (fun _ => by unfold I64; omega)) rfl <| .mv rfl <| .yy (ys_cvI underlying5 underlying3 (.t rfl) (fun _ => by unfold I64; omega)) rfl <| .yy (ys_addI (.t rfl) (.t rfl) (fun _ => by unfold I64; omega)) rfl <| .as rfl <| .z) fun a w S => sg S (.mv rfl <| .ad (by unfold I64; omega) rfl <| .as rfl <| .z) fun a w S => wp_block (st_rounds 2 (st_round (wp_seq_k fun _ hK3 => sg S (.mv rfl <| .yy (ys_T (by omega) (ys_geq (.t rfl) Ev.c)) rfl <| .z) fun a w S => st_then S (.t rfl) (wp_skip (then_normal (hK3 _ _ (wp_block (sg S (.mv rfl <| .yy (ys_subI (.t rfl) Ev.c (fun _ => by unfold I64; omega)) rfl <| .as rfl <| .z) fun a w S => wp_seq_k fun _ hK3 => ?_)))))))))))))
      refine rg S (.mv rfl <| .mv rfl <| .yy (ys_shrC (m := 4) (c := 16) (.t rfl) (.t rfl) rfl rfl) rfl <| .as rfl <| .z) hK3 fun a w S => sg S (.mv rfl <| .mv rfl <| .yy (ys_shlC (m := 4) (c := 16) Ev.c (.t rfl) rfl rfl (fun _ => by unfold I64; omega)) rfl <| .yy (ys_pred (.t rfl) Ev.c (by omega)) rfl <| .yy (ys_andM 4 (c := 16) (.t rfl) (.t rfl) rfl rfl rfl (fun _ => by omega)) rfl <| .as rfl <| .z) fun a w S => wp_region_lit (run S (.mv rfl <| .mv rfl <| .mv rfl <| .ad (by unfold I64; omega) rfl <| .yy (ys_slStr1 (l := abc) underlying9 Ev.c (.t rfl) (.t rfl) (fun _ => by have := abcN; omega)) rfl <| .yy (ys_addStr (.t rfl) (.t rfl) (fun _ => by first | omega | (simp; done) | (simp; omega))) rfl <| .as rfl <| .z) fun a w S => st_nil (in_normal (then_normal (st_round (wp_seq_k fun _ hK3 => sg S (.mv rfl <| .yy (ys_F (by omega) (ys_geq (.t rfl) Ev.c)) rfl <| .z) fun a w S => st_else S (.t rfl) (wp_exit (then_exit (then_exit (in_here (in_normal (then_normal (hK2 _ _ (wp_region_lit (run S (.ad (by unfold I64; omega) rfl <| .mv rfl <| .z) fun a w S => st_nil (then_normal ?_)))))))))))))))
      exact ⟨(k + 1, (x * 256 + (m.toNat : Int)) % 16, 4, s ++ [lt64 ((x * 256 + (m.toNat : Int)) / 16)]), ⟨by dsimp only; omega, .inr (.inr ⟨rfl, by dsimp only; omega, by dsimp only; omega⟩), by dsimp only; rw [← hno, hd]; simp [lettersR, lt64]⟩, by dsimp only; omega, S.wk⟩
    · refine sg S (.lt (by omega) rfl rfl <| .z) fun a w S => wp_seq_k fun _ hK2 => st_then S (.t rfl) (wp_skip (then_normal (hK2 _ _ (wp_seq_k fun _ hK2 => wp_block (sg S (.ix underlying28 sizeOf5 (by omega) rfl rfl <| .yy (ys_ldO ⟨isAgg5, sizeOf5⟩ (.t rfl) (fun _ => hc 0 _ rfl)) rfl <| .as rfl <| .z) fun a w S => sg S (.mv rfl <| .yy (ys_mulI (.t rfl) Ev.c (fun _ => by unfold I64; omega)) rfl <| .mv rfl <| .yy (ys_cvI underlying5 underlying3 (.t rfl) (fun _ => by unfold I64; omega)) rfl <| .yy (ys_addI (.t rfl) (.t rfl) (fun _ => by unfold I64; omega)) rfl <| .as rfl <| .z) fun a w S => sg S (.mv rfl <| .ad (by unfold I64; omega) rfl <| .as rfl <| .z) fun a w S => wp_block (st_rounds 3 (st_round (wp_seq_k fun _ hK3 => sg S (.mv rfl <| .yy (ys_T (by omega) (ys_geq (.t rfl) Ev.c)) rfl <| .z) fun a w S => st_then S (.t rfl) (wp_skip (then_normal (hK3 _ _ (wp_block (sg S (.mv rfl <| .yy (ys_subI (.t rfl) Ev.c (fun _ => by unfold I64; omega)) rfl <| .as rfl <| .z) fun a w S => wp_seq_k fun _ hK3 => ?_)))))))))))))
      refine rg S (.mv rfl <| .mv rfl <| .yy (ys_shrC (m := 6) (c := 64) (.t rfl) (.t rfl) rfl rfl) rfl <| .as rfl <| .z) hK3 fun a w S => sg S (.mv rfl <| .mv rfl <| .yy (ys_shlC (m := 6) (c := 64) Ev.c (.t rfl) rfl rfl (fun _ => by unfold I64; omega)) rfl <| .yy (ys_pred (.t rfl) Ev.c (by omega)) rfl <| .yy (ys_andM 6 (c := 64) (.t rfl) (.t rfl) rfl rfl rfl (fun _ => by omega)) rfl <| .as rfl <| .z) fun a w S => wp_region_lit (run S (.mv rfl <| .mv rfl <| .mv rfl <| .ad (by unfold I64; omega) rfl <| .yy (ys_slStr1 (l := abc) underlying9 Ev.c (.t rfl) (.t rfl) (fun _ => by have := abcN; omega)) rfl <| .yy (ys_addStr (.t rfl) (.t rfl) (fun _ => by first | omega | (simp; done) | (simp; omega))) rfl <| .as rfl <| .z) fun a w S => st_nil (in_normal (then_normal (st_round (wp_seq_k fun _ hK3 => sg S (.mv rfl <| .yy (ys_T (by omega) (ys_geq (.t rfl) Ev.c)) rfl <| .z) fun a w S => st_then S (.t rfl) (wp_skip (then_normal (hK3 _ _ (wp_block (sg S (.mv rfl <| .yy (ys_subI (.t rfl) Ev.c (fun _ => by unfold I64; omega)) rfl <| .as rfl <| .z) fun a w S => wp_seq_k fun _ hK3 => wp_region_lit ?_))))))))))
      refine run S (.mv rfl <| .mv rfl <| .yy (ys_shrC (m := 0) (c := 1) (.t rfl) (.t rfl) rfl rfl) rfl <| .as rfl <| .z) fun a w S => st_nil (then_normal (hK3 _ _ (sg S (.mv rfl <| .mv rfl <| .yy (ys_shlC (m := 0) (c := 1) Ev.c (.t rfl) rfl rfl (fun _ => by unfold I64; omega)) rfl <| .yy (ys_pred (.t rfl) Ev.c (by omega)) rfl <| .yy (ys_andM 0 (c := 1) (.t rfl) (.t rfl) rfl rfl rfl (fun _ => by omega)) rfl <| .as rfl <| .z) fun a w S => wp_region_lit (run S (.mv rfl <| .mv rfl <| .mv rfl <| .ad (by unfold I64; omega) rfl <| .yy (ys_slStr1 (l := abc) underlying9 Ev.c (.t rfl) (.t rfl) (fun _ => by have := abcN; omega)) rfl <| .yy (ys_addStr (.t rfl) (.t rfl) (fun _ => by first | omega | (simp; done) | (simp; omega))) rfl <| .as rfl <| .z) fun a w S => st_nil (in_normal (then_normal (st_round (wp_seq_k fun _ hK3 => sg S (.mv rfl <| .yy (ys_F (by omega) (ys_geq (.t rfl) Ev.c)) rfl <| .z) fun a w S => st_else S (.t rfl) (wp_exit (then_exit (then_exit (in_here (in_normal (then_normal (hK2 _ _ (wp_region_lit (run S (.ad (by unfold I64; omega) rfl <| .mv rfl <| .z) fun a w S => st_nil (then_normal ?_))))))))))))))))))
      exact ⟨(k + 1, (x * 256 + (m.toNat : Int)) % 64 % 1, 0, s ++ [lt64 ((x * 256 + (m.toNat : Int)) / 64)] ++ [lt64 ((x * 256 + (m.toNat : Int)) % 64 / 1)]), ⟨by dsimp only; omega, .inl ⟨rfl, by dsimp only; omega⟩, by dsimp only; rw [← hno, hd]; simp [lettersR, lt64]⟩, by dsimp only; omega, S.wk⟩
  · have hend : l.drop k = [] := List.drop_eq_nil_of_le (by omega)
    rw [hend] at hno
    rcases hn with ⟨rfl, rfl⟩ | ⟨rfl, h1, h2⟩ | ⟨rfl, h1, h2⟩
    · refine sg S (.ge (by omega) rfl rfl <| .z) fun a w S => wp_seq_k fun _ hK2 => st_else S (.t rfl) (wp_exit (then_exit (then_exit (in_here (then_normal (hK1 _ _ (wp_seq_k fun _ hK1 => sg S (.mv rfl <| .yy (ys_F (by omega) (ys_gtr (.t rfl) Ev.c)) rfl <| .z) fun a w S => st_else S (.t rfl) (wp_skip (then_normal (hK1 _ _ (sg S (.mv rfl <| .as rfl <| .z) fun a w S => wp_ret (st_ret S (results1 S results75 (Rv.tmp rfl)) ?_))))))))))))
      exact ⟨by rw [← hno]; simp [lettersR], S.wd.below⟩
    · refine sg S (.ge (by omega) rfl rfl <| .z) fun a w S => wp_seq_k fun _ hK2 => st_else S (.t rfl) (wp_exit (then_exit (then_exit (in_here (then_normal (hK1 _ _ (wp_seq_k fun _ hK1 => sg S (.mv rfl <| .yy (ys_T (by omega) (ys_gtr (.t rfl) Ev.c)) rfl <| .z) fun a w S => st_then S (.t rfl) (sg S (.mv rfl <| .mv rfl <| .yy (ys_subI Ev.c (.t rfl) (fun _ => by unfold I64; omega)) rfl <| .yy (ys_shlC (m := 4) (c := 16) (.t rfl) (.t rfl) rfl rfl (fun _ => by unfold I64; omega)) rfl <| .as rfl <| .z) fun a w S => rg S (.mv rfl <| .mv rfl <| .mv rfl <| .ad (by unfold I64; omega) rfl <| .yy (ys_slStr1 (l := abc) underlying9 Ev.c (.t rfl) (.t rfl) (fun _ => by have := abcN; omega)) rfl <| .yy (ys_addStr (.t rfl) (.t rfl) (fun _ => by first | omega | (simp; done) | (simp; omega))) rfl <| .as rfl <| .z) hK1 fun a w S => sg S (.mv rfl <| .as rfl <| .z) fun a w S => wp_ret (st_ret S (results1 S results75 (Rv.tmp rfl)) ?_)))))))))
      exact ⟨by rw [← hno]; simp [lettersR, lt64], S.wd.below⟩
    · refine sg S (.ge (by omega) rfl rfl <| .z) fun a w S => wp_seq_k fun _ hK2 => st_else S (.t rfl) (wp_exit (then_exit (then_exit (in_here (then_normal (hK1 _ _ (wp_seq_k fun _ hK1 => sg S (.mv rfl <| .yy (ys_T (by omega) (ys_gtr (.t rfl) Ev.c)) rfl <| .z) fun a w S => st_then S (.t rfl) (sg S (.mv rfl <| .mv rfl <| .yy (ys_subI Ev.c (.t rfl) (fun _ => by unfold I64; omega)) rfl <| .yy (ys_shlC (m := 2) (c := 4) (.t rfl) (.t rfl) rfl rfl (fun _ => by unfold I64; omega)) rfl <| .as rfl <| .z) fun a w S => rg S (.mv rfl <| .mv rfl <| .mv rfl <| .ad (by unfold I64; omega) rfl <| .yy (ys_slStr1 (l := abc) underlying9 Ev.c (.t rfl) (.t rfl) (fun _ => by have := abcN; omega)) rfl <| .yy (ys_addStr (.t rfl) (.t rfl) (fun _ => by first | omega | (simp; done) | (simp; omega))) rfl <| .as rfl <| .z) hK1 fun a w S => sg S (.mv rfl <| .as rfl <| .z) fun a w S => wp_ret (st_ret S (results1 S results75 (Rv.tmp rfl)) ?_)))))))))
      exact ⟨by rw [← hno]; simp [lettersR, lt64], S.wd.below⟩
theorem c141 (w0 : World) (c : UInt8) :
    Calls Tryz.prog 141 #[.int .u8 (c.toNat : Int)] w0 fun e w' => e = .returned (.int .i64 ((num64 c : Int) - 1)) ∧ Bel w0.heap.size w0 w' := by
  refine enter1 func141 rfl ntmps141 rfl fun a S => sg S (.ac rfl <| .z) fun a w S => wp_seq_k fun _ hK1 => sg S (.ac rfl <| .z) fun a w S => wp_block ?_
  refine st_lpK S (X := Nat) (fun k => [(3, true, .int .i64 (k : Int))]) (fun _ L => L) (fun k => k ≤ 64 ∧ num (abc.drop k) k c = num64 c) (fun k => 64 - k) 0 ⟨Nat.zero_le _, rfl⟩ ?_
  clear S
  intro k a w ⟨hk, hno⟩ S
  have hN : abc.length = 64 := rfl
  by_cases hlt : k < 64
  · have hd : abc.drop k = abc.getD k 0 :: abc.drop (k + 1) := by
      rw [List.drop_eq_getElem_cons (by omega), List.getD_eq_getElem?_getD, List.getElem?_eq_getElem (by omega)]; rfl
    rw [hd, num] at hno
    refine wp_seq_k fun _ hK2 => sg S (.mv rfl <| .yy (ys_T (by omega) (ys_lss (.t rfl) Ev.c)) rfl <| .z) fun a w S => st_then S (.t rfl) (wp_skip (then_normal (hK2 _ _ (wp_seq_k fun _ hK2 => wp_block (sg S (.mv rfl <| .yy (ys_ixTab (l := abc) underlying9 Ev.c (.t rfl) (fun _ => by have := abcN; omega)) rfl <| .mv rfl <| .yy (ys_eql (.t rfl) (.t rfl)) rfl <| .z) fun a w S => ?_)))))
    refine st_if S (.t rfl) (fun h1 => ?_) (fun h1 => ?_)
    refine sg S (.mv rfl <| .as rfl <| .z) fun a w S => wp_ret (in_ret (then_ret (then_ret (in_ret (then_ret (st_ret S (results1 S results141 (Rv.tmp rfl)) ?_))))))
    rotate_left
    refine wp_skip (in_normal (then_normal (hK2 _ _ (wp_region_lit (run S (.mv rfl <| .ad (by unfold I64; omega) rfl <| .as rfl <| .z) fun a w S => st_nil (then_normal ?_))))))
    rotate_left
    · have e : abc.getD k 0 = c := UInt8.toNat_inj.1 (by have : (k : Int).toNat = k := rfl; rw [this] at h1; omega)
      rw [if_pos e] at hno
      refine ⟨?_, S.wd.below⟩
      rw [← hno]
      congr 2
      omega
    · have e : abc.getD k 0 ≠ c := fun e => h1 (by have : (k : Int).toNat = k := rfl; rw [this, e])
      rw [if_neg e] at hno
      exact ⟨k + 1, ⟨by omega, hno⟩, by omega, S.wk⟩
  · refine wp_seq_k fun _ hK2 => sg S (.mv rfl <| .yy (ys_F (by omega) (ys_lss (.t rfl) Ev.c)) rfl <| .z) fun a w S => st_else S (.t rfl) (wp_exit (then_exit (then_exit (in_here (then_normal (hK1 _ _ (sg S (.ac rfl <| .z) fun a w S => wp_ret (st_ret S (results1 S results141 (Rv.tmp rfl)) ?_))))))))
    refine ⟨?_, S.wd.below⟩
    rw [List.drop_eq_nil_of_le (by omega)] at hno
    rw [← hno]; rfl
theorem bytesR_len : ∀ (l : List UInt8) (h n : Int) (o : List UInt8), bytesR h n l = some o → o.length ≤ l.length
  | [], h, n, o, e => by
    unfold bytesR at e
    split at e
    · cases e
    · cases e; simp
  | x :: r, h, n, o, e => by
    have key : ∀ (z : Option (List UInt8)) (y : UInt8) (h' n' : Int), z = bytesR h' n' r → z.map (y :: ·) = some o → o.length ≤ r.length + 1 := by
      intro z y h' n' hz hm
      cases z with
      | none => cases hm
      | some q =>
        have := bytesR_len r h' n' q hz.symm
        simp at hm
        subst hm
        simp; omega
    unfold bytesR at e
    split at e
    · cases e
    · simp only at e
      split at e
      · have := bytesR_len r _ _ o e; simp; omega
      · split at e
        · exact key _ _ _ _ rfl e
        · split at e
          · exact key _ _ _ _ rfl e
          · exact key _ _ _ _ rfl e
def optB (o : Option (List UInt8)) (v : Value) (L : List Chunk) : Prop :=
  match o with
  | none => v = .tuple #[.slice none 0 0, .bool false] ∧ L = []
  | some l => ∃ A c, v = .tuple #[.slice A l.length c, .bool true] ∧ L = [rowOf 5 1 encB A c l]
theorem k78 (w0 : World) (l : List UInt8) (hn : l.length ≤ 4194304) :
    Rets Tryz.prog 78 #[.string (bs l)] w0 (optB (bytesRef l)) := by
  unfold bytesRef
  by_cases h1 : l.length % 4 = 1
  · rw [if_pos h1]
    unfold Go.Fw.Rets
    refine enter1 func78 rfl ntmps78 rfl fun a S => sg S (.ac rfl <| .ac rfl <| .z) fun a w S => wp_seq_k fun _ hK1 => sg S (.mv rfl <| .yy (ys_lenStr underlying9 (.t rfl)) rfl <| .yy (ys_remE (.t rfl) Ev.c (fun _ => by omega)) rfl <| .yy (ys_T (by omega) (ys_eql (.t rfl) Ev.c)) rfl <| .z) fun a w S => st_then S (.t rfl) (sg S (.ac rfl <| .ac rfl <| .z) fun a w S => wp_ret (then_ret (st_ret S (results2 S results78 (Rv.tmp rfl) (Rv.tmp rfl)) ?_)))
    exact ⟨_, _, rfl, S.wd.sub (List.nil_sublist _), rfl, rfl⟩
  · rw [if_neg h1]
    unfold Go.Fw.Rets
    refine enter1 func78 rfl ntmps78 rfl fun a S => sg S (.ac rfl <| .ac rfl <| .z) fun a w S => wp_seq_k fun _ hK1 => sg S (.mv rfl <| .yy (ys_lenStr underlying9 (.t rfl)) rfl <| .yy (ys_remE (.t rfl) Ev.c (fun _ => by omega)) rfl <| .yy (ys_F (by omega) (ys_eql (.t rfl) Ev.c)) rfl <| .z) fun a w S => st_else S (.t rfl) (wp_skip (then_normal (hK1 _ _ (sg S (.ac rfl <| .z) fun a w S => sg S (.ac rfl <| .ac rfl <| .z) fun a w S => wp_seq_k fun _ hK1 => sg S (.ac rfl <| .z) fun a w S => wp_block ?_))))
    refine st_lpK (S.nil_ 5 1 encB none) (X := Nat × Int × Int × List UInt8 × Option Addr × Nat) (fun q => [(7, true, .int .i64 (q.1 : Int)), (5, true, .int .i64 q.2.1), (6, true, .int .i64 q.2.2.1), (4, true, .slice q.2.2.2.2.1 q.2.2.2.1.length q.2.2.2.2.2)]) (fun q _ => [rowOf 5 1 encB q.2.2.2.2.1 q.2.2.2.2.2 q.2.2.2.1])
      (fun q => q.1 ≤ l.length ∧ q.2.2.2.1.length ≤ q.1 ∧ (q.2.2.1 = 0 ∧ q.2.1 = 0 ∨ q.2.2.1 = 2 ∧ 0 ≤ q.2.1 ∧ q.2.1 < 4 ∨ q.2.2.1 = 4 ∧ 0 ≤ q.2.1 ∧ q.2.1 < 16 ∨ q.2.2.1 = 6 ∧ 0 ≤ q.2.1 ∧ q.2.1 < 64) ∧ bytesR 0 0 l = (bytesR q.2.1 q.2.2.1 (l.drop q.1)).map (q.2.2.2.1 ++ ·)) (fun q => l.length - q.1) (0, 0, 0, [], none, 0) ⟨Nat.zero_le _, Nat.zero_le _, .inl ⟨rfl, rfl⟩, by simp⟩ ?_
    clear S
    intro ⟨k, x, n, out, B, cB⟩ a w ⟨hk, ho, hn, hno⟩ S
    dsimp only at hk ho hn hno S
    by_cases hlt : k < l.length
    · have hd : l.drop k = l[k] :: l.drop (k + 1) := List.drop_eq_getElem_cons hlt
      have hu : l[k]? = some l[k] := by simp
      have h64 := num64_le l[k]
      generalize l[k] = u at hd hu h64
      rw [hd, bytesR] at hno
      by_cases h0 : num64 u = 0
      · rw [if_pos h0] at hno
        refine wp_seq_k fun _ hK2 => sg S (.mv rfl <| .mv rfl <| .yy (ys_lenStr underlying9 (.t rfl)) rfl <| .lt (by omega) rfl rfl <| .z) fun a w S => st_then S (.t rfl) (wp_skip (then_normal (hK2 _ _ (wp_seq_k fun _ hK2 => wp_block (sg S (.mv rfl <| .mv rfl <| .yy (ys_ixStr underlying9 (.t rfl) (.t rfl) (fun _ => by assumption)) rfl <| .xx (ys_call call141 (.cons (.t rfl) .nil) (fun hp w W => c141 _ _)) rfl <| .as rfl <| .z) fun a w S => wp_seq_k fun _ hK3 => sg S (.mv rfl <| .yy (ys_T (by omega) (ys_lss (.t rfl) Ev.c)) rfl <| .z) fun a w S => st_then S (.t rfl) (sg S (.ac rfl <| .ac rfl <| .z) fun a w S => wp_ret (then_ret (in_ret (then_ret (then_ret (in_ret (then_ret (st_ret S (results2 S results78 (Rv.tmp rfl) (Rv.tmp rfl)) ?_)))))))))))))
        rw [hno]
        exact ⟨_, _, rfl, S.wd.sub (List.nil_sublist _), rfl, rfl⟩
      · rw [if_neg h0] at hno
        rcases hn with ⟨rfl, rfl⟩ | ⟨rfl, h2, h3⟩ | ⟨rfl, h2, h3⟩ | ⟨rfl, h2, h3⟩
        · refine wp_seq_k fun _ hK2 => sg S (.mv rfl <| .mv rfl <| .yy (ys_lenStr underlying9 (.t rfl)) rfl <| .lt (by omega) rfl rfl <| .z) fun a w S => st_then S (.t rfl) (wp_skip (then_normal (hK2 _ _ (wp_seq_k fun _ hK2 => wp_block (sg S (.mv rfl <| .mv rfl <| .yy (ys_ixStr underlying9 (.t rfl) (.t rfl) (fun _ => by assumption)) rfl <| .xx (ys_call call141 (.cons (.t rfl) .nil) (fun hp w W => c141 _ _)) rfl <| .as rfl <| .z) fun a w S => wp_seq_k fun _ hK3 => sg S (.mv rfl <| .yy (ys_F (by omega) (ys_lss (.t rfl) Ev.c)) rfl <| .z) fun a w S => st_else S (.t rfl) (wp_skip (then_normal (hK3 _ _ (sg S (.mv rfl <| .yy (ys_mulI (.t rfl) Ev.c (fun _ => by unfold I64; omega)) rfl <| .mv rfl <| .yy (ys_addI (.t rfl) (.t rfl) (fun _ => by unfold I64; omega)) rfl <| .as rfl <| .z) fun a w S => sg S (.mv rfl <| .ad (by unfold I64; omega) rfl <| .as rfl <| .z) fun a w S => sg S (.mv rfl <| .yy (ys_F (by omega) (ys_geq (.t rfl) Ev.c)) rfl <| .z) fun a w S => st_else S (.t rfl) (wp_skip (in_normal (then_normal (hK2 _ _ ?_)))))))))))))
          refine wp_region_lit (run S (.mv rfl <| .ad (by unfold I64; omega) rfl <| .as rfl <| .z) fun a w S => st_nil (then_normal ?_))
          exact ⟨(k + 1, 0 * 64 + ((num64 u : Int) - 1), 6, out, B, cB), ⟨by dsimp only; omega, by dsimp only; omega, .inr (.inr (.inr ⟨rfl, by dsimp only; omega, by dsimp only; omega⟩)), hno⟩, by dsimp only; omega, S.wk⟩
        · refine wp_seq_k fun _ hK2 => sg S (.mv rfl <| .mv rfl <| .yy (ys_lenStr underlying9 (.t rfl)) rfl <| .lt (by omega) rfl rfl <| .z) fun a w S => st_then S (.t rfl) (wp_skip (then_normal (hK2 _ _ (wp_seq_k fun _ hK2 => wp_block (sg S (.mv rfl <| .mv rfl <| .yy (ys_ixStr underlying9 (.t rfl) (.t rfl) (fun _ => by assumption)) rfl <| .xx (ys_call call141 (.cons (.t rfl) .nil) (fun hp w W => c141 _ _)) rfl <| .as rfl <| .z) fun a w S => wp_seq_k fun _ hK3 => sg S (.mv rfl <| .yy (ys_F (by omega) (ys_lss (.t rfl) Ev.c)) rfl <| .z) fun a w S => st_else S (.t rfl) (wp_skip (then_normal (hK3 _ _ (sg S (.mv rfl <| .yy (ys_mulI (.t rfl) Ev.c (fun _ => by unfold I64; omega)) rfl <| .mv rfl <| .yy (ys_addI (.t rfl) (.t rfl) (fun _ => by unfold I64; omega)) rfl <| .as rfl <| .z) fun a w S => sg S (.mv rfl <| .ad (by unfold I64; omega) rfl <| .as rfl <| .z) fun a w S => sg S (.mv rfl <| .yy (ys_T (by omega) (ys_geq (.t rfl) Ev.c)) rfl <| .z) fun a w S => st_then S (.t rfl) (wp_seq_k fun _ hK3 => wp_region_lit ?_))))))))))
          refine run S (.mv rfl <| .yy (ys_subI (.t rfl) Ev.c (fun _ => by unfold I64; omega)) rfl <| .as rfl <| .z) fun a w S => st_nil (then_normal (hK3 _ _ (wp_seq_k fun _ hK3 => wp_region_lit (run S (.mv rfl <| .mv rfl <| .mv rfl <| .yy (ys_shrC (m := 0) (c := 1) (.t rfl) (.t rfl) rfl rfl) rfl <| .yy (ys_cvB underlying3 underlying5 (.t rfl)) rfl <| .z) fun a w S => st_m (op_bslice1 S underlying28 inf5 rfl rfl rfl (.t rfl) rfl rfl rfl fun g1 a w S => st_m (op_push S underlying28 inf5 rfl (k := 1) (j := 0) rfl (.t rfl) (.t rfl) rfl rfl rfl rfl (by first | omega | (simp only [List.length_append, List.length_cons, List.length_nil]; omega)) rfl rfl rfl fun A1 cap1 a w S => run S (.as rfl <| .z) fun a w S => st_nil (then_normal (hK3 _ _ (wp_region_lit (run S (.mv rfl <| .mv rfl <| .yy (ys_shlC (m := 0) (c := 1) Ev.c (.t rfl) rfl rfl (fun _ => by unfold I64; omega)) rfl <| .yy (ys_pred (.t rfl) Ev.c (by omega)) rfl <| .yy (ys_andM 0 (c := 1) (.t rfl) (.t rfl) rfl rfl rfl (fun _ => by omega)) rfl <| .as rfl <| .z) fun a w S => st_nil (in_normal (then_normal (hK2 _ _ (wp_region_lit (run S (.mv rfl <| .ad (by unfold I64; omega) rfl <| .as rfl <| .z) fun a w S => st_nil (then_normal ?_))))))))))))))))
          exact ⟨(k + 1, (x * 64 + ((num64 u : Int) - 1)) % 1, 0, out ++ [b8 ((x * 64 + ((num64 u : Int) - 1)) / 1)], A1, cap1), ⟨by dsimp only; omega, by simp; omega, .inl ⟨rfl, by dsimp only; omega⟩, by dsimp only; rw [hno]; simp [Option.map_map, Function.comp_def]⟩, by dsimp only; omega, S.wk⟩
        · refine wp_seq_k fun _ hK2 => sg S (.mv rfl <| .mv rfl <| .yy (ys_lenStr underlying9 (.t rfl)) rfl <| .lt (by omega) rfl rfl <| .z) fun a w S => st_then S (.t rfl) (wp_skip (then_normal (hK2 _ _ (wp_seq_k fun _ hK2 => wp_block (sg S (.mv rfl <| .mv rfl <| .yy (ys_ixStr underlying9 (.t rfl) (.t rfl) (fun _ => by assumption)) rfl <| .xx (ys_call call141 (.cons (.t rfl) .nil) (fun hp w W => c141 _ _)) rfl <| .as rfl <| .z) fun a w S => wp_seq_k fun _ hK3 => sg S (.mv rfl <| .yy (ys_F (by omega) (ys_lss (.t rfl) Ev.c)) rfl <| .z) fun a w S => st_else S (.t rfl) (wp_skip (then_normal (hK3 _ _ (sg S (.mv rfl <| .yy (ys_mulI (.t rfl) Ev.c (fun _ => by unfold I64; omega)) rfl <| .mv rfl <| .yy (ys_addI (.t rfl) (.t rfl) (fun _ => by unfold I64; omega)) rfl <| .as rfl <| .z) fun a w S => sg S (.mv rfl <| .ad (by unfold I64; omega) rfl <| .as rfl <| .z) fun a w S => sg S (.mv rfl <| .yy (ys_T (by omega) (ys_geq (.t rfl) Ev.c)) rfl <| .z) fun a w S => st_then S (.t rfl) (wp_seq_k fun _ hK3 => wp_region_lit ?_))))))))))
          refine run S (.mv rfl <| .yy (ys_subI (.t rfl) Ev.c (fun _ => by unfold I64; omega)) rfl <| .as rfl <| .z) fun a w S => st_nil (then_normal (hK3 _ _ (wp_seq_k fun _ hK3 => wp_region_lit (run S (.mv rfl <| .mv rfl <| .mv rfl <| .yy (ys_shrC (m := 2) (c := 4) (.t rfl) (.t rfl) rfl rfl) rfl <| .yy (ys_cvB underlying3 underlying5 (.t rfl)) rfl <| .z) fun a w S => st_m (op_bslice1 S underlying28 inf5 rfl rfl rfl (.t rfl) rfl rfl rfl fun g1 a w S => st_m (op_push S underlying28 inf5 rfl (k := 1) (j := 0) rfl (.t rfl) (.t rfl) rfl rfl rfl rfl (by first | omega | (simp only [List.length_append, List.length_cons, List.length_nil]; omega)) rfl rfl rfl fun A1 cap1 a w S => run S (.as rfl <| .z) fun a w S => st_nil (then_normal (hK3 _ _ (wp_region_lit (run S (.mv rfl <| .mv rfl <| .yy (ys_shlC (m := 2) (c := 4) Ev.c (.t rfl) rfl rfl (fun _ => by unfold I64; omega)) rfl <| .yy (ys_pred (.t rfl) Ev.c (by omega)) rfl <| .yy (ys_andM 2 (c := 4) (.t rfl) (.t rfl) rfl rfl rfl (fun _ => by omega)) rfl <| .as rfl <| .z) fun a w S => st_nil (in_normal (then_normal (hK2 _ _ (wp_region_lit (run S (.mv rfl <| .ad (by unfold I64; omega) rfl <| .as rfl <| .z) fun a w S => st_nil (then_normal ?_))))))))))))))))
          exact ⟨(k + 1, (x * 64 + ((num64 u : Int) - 1)) % 4, 2, out ++ [b8 ((x * 64 + ((num64 u : Int) - 1)) / 4)], A1, cap1), ⟨by dsimp only; omega, by simp; omega, .inr (.inl ⟨rfl, by dsimp only; omega, by dsimp only; omega⟩), by dsimp only; rw [hno]; simp [Option.map_map, Function.comp_def]⟩, by dsimp only; omega, S.wk⟩
        · refine wp_seq_k fun _ hK2 => sg S (.mv rfl <| .mv rfl <| .yy (ys_lenStr underlying9 (.t rfl)) rfl <| .lt (by omega) rfl rfl <| .z) fun a w S => st_then S (.t rfl) (wp_skip (then_normal (hK2 _ _ (wp_seq_k fun _ hK2 => wp_block (sg S (.mv rfl <| .mv rfl <| .yy (ys_ixStr underlying9 (.t rfl) (.t rfl) (fun _ => by assumption)) rfl <| .xx (ys_call call141 (.cons (.t rfl) .nil) (fun hp w W => c141 _ _)) rfl <| .as rfl <| .z) fun a w S => wp_seq_k fun _ hK3 => sg S (.mv rfl <| .yy (ys_F (by omega) (ys_lss (.t rfl) Ev.c)) rfl <| .z) fun a w S => st_else S (.t rfl) (wp_skip (then_normal (hK3 _ _ (sg S (.mv rfl <| .yy (ys_mulI (.t rfl) Ev.c (fun _ => by unfold I64; omega)) rfl <| .mv rfl <| .yy (ys_addI (.t rfl) (.t rfl) (fun _ => by unfold I64; omega)) rfl <| .as rfl <| .z) fun a w S => sg S (.mv rfl <| .ad (by unfold I64; omega) rfl <| .as rfl <| .z) fun a w S => sg S (.mv rfl <| .yy (ys_T (by omega) (ys_geq (.t rfl) Ev.c)) rfl <| .z) fun a w S => st_then S (.t rfl) (wp_seq_k fun _ hK3 => wp_region_lit ?_))))))))))
          refine run S (.mv rfl <| .yy (ys_subI (.t rfl) Ev.c (fun _ => by unfold I64; omega)) rfl <| .as rfl <| .z) fun a w S => st_nil (then_normal (hK3 _ _ (wp_seq_k fun _ hK3 => wp_region_lit (run S (.mv rfl <| .mv rfl <| .mv rfl <| .yy (ys_shrC (m := 4) (c := 16) (.t rfl) (.t rfl) rfl rfl) rfl <| .yy (ys_cvB underlying3 underlying5 (.t rfl)) rfl <| .z) fun a w S => st_m (op_bslice1 S underlying28 inf5 rfl rfl rfl (.t rfl) rfl rfl rfl fun g1 a w S => st_m (op_push S underlying28 inf5 rfl (k := 1) (j := 0) rfl (.t rfl) (.t rfl) rfl rfl rfl rfl (by first | omega | (simp only [List.length_append, List.length_cons, List.length_nil]; omega)) rfl rfl rfl fun A1 cap1 a w S => run S (.as rfl <| .z) fun a w S => st_nil (then_normal (hK3 _ _ (wp_region_lit (run S (.mv rfl <| .mv rfl <| .yy (ys_shlC (m := 4) (c := 16) Ev.c (.t rfl) rfl rfl (fun _ => by unfold I64; omega)) rfl <| .yy (ys_pred (.t rfl) Ev.c (by omega)) rfl <| .yy (ys_andM 4 (c := 16) (.t rfl) (.t rfl) rfl rfl rfl (fun _ => by omega)) rfl <| .as rfl <| .z) fun a w S => st_nil (in_normal (then_normal (hK2 _ _ (wp_region_lit (run S (.mv rfl <| .ad (by unfold I64; omega) rfl <| .as rfl <| .z) fun a w S => st_nil (then_normal ?_))))))))))))))))
          exact ⟨(k + 1, (x * 64 + ((num64 u : Int) - 1)) % 16, 4, out ++ [b8 ((x * 64 + ((num64 u : Int) - 1)) / 16)], A1, cap1), ⟨by dsimp only; omega, by simp; omega, .inr (.inr (.inl ⟨rfl, by dsimp only; omega, by dsimp only; omega⟩)), by dsimp only; rw [hno]; simp [Option.map_map, Function.comp_def]⟩, by dsimp only; omega, S.wk⟩
    · have hend : l.drop k = [] := List.drop_eq_nil_of_le (by omega)
      rw [hend, bytesR] at hno
      by_cases hx : x = 0
      · rw [if_neg (by omega)] at hno
        refine wp_seq_k fun _ hK2 => sg S (.mv rfl <| .mv rfl <| .yy (ys_lenStr underlying9 (.t rfl)) rfl <| .ge (by omega) rfl rfl <| .z) fun a w S => st_else S (.t rfl) (wp_exit (then_exit (then_exit (in_here (then_normal (hK1 _ _ (wp_seq_k fun _ hK1 => sg S (.mv rfl <| .yy (ys_F (by omega) (ys_neq (.t rfl) Ev.c)) rfl <| .z) fun a w S => st_else S (.t rfl) (wp_skip (then_normal (hK1 _ _ (sg S (.mv rfl <| .as rfl <| .ac rfl <| .z) fun a w S => wp_ret (st_ret S (results2 S results78 (Rv.tmp rfl) (Rv.tmp rfl)) ?_))))))))))))
        rw [hno]
        simp only [Option.map_some, List.append_nil]
        exact ⟨_, _, rfl, S.wd.sub (by repeat (first | exact List.Sublist.refl _ | exact List.nil_sublist _ | refine .cons_cons _ ?_ | refine .cons _ ?_)), B, cB, rfl, rfl⟩
      · rw [if_pos hx] at hno
        refine wp_seq_k fun _ hK2 => sg S (.mv rfl <| .mv rfl <| .yy (ys_lenStr underlying9 (.t rfl)) rfl <| .ge (by omega) rfl rfl <| .z) fun a w S => st_else S (.t rfl) (wp_exit (then_exit (then_exit (in_here (then_normal (hK1 _ _ (wp_seq_k fun _ hK1 => sg S (.mv rfl <| .yy (ys_T (by omega) (ys_neq (.t rfl) Ev.c)) rfl <| .z) fun a w S => st_then S (.t rfl) (sg S (.ac rfl <| .ac rfl <| .z) fun a w S => wp_ret (then_ret (st_ret S (results2 S results78 (Rv.tmp rfl) (Rv.tmp rfl)) ?_))))))))))
        rw [hno]
        exact ⟨_, _, rfl, S.wd.sub (List.nil_sublist _), rfl, rfl⟩
theorem optB_all {f : FuncId} {args : Array Value} {w : World} {o : Option (List UInt8)} (h : Rets Tryz.prog f args w (optB o)) :
    Rets Tryz.prog f args w fun v L => ∃ A c, v = .tuple #[.slice A (o.getD []).length c, .bool o.isSome] ∧ L = [rowOf 5 1 encB A c (o.getD [])] := by
  refine Calls.mono h fun e w' h => ?_
  obtain ⟨v, L, rfl, W, h⟩ := h
  cases o with
  | none =>
    obtain ⟨rfl, rfl⟩ := h
    exact ⟨_, _, rfl, W.bare (c := rowOf 5 1 encB none 0 []) ⟨rfl, .inl ⟨rfl, rfl⟩⟩ (fun b h => h.1 rfl), none, 0, rfl, rfl⟩
  | some l =>
    obtain ⟨A, c, rfl, rfl⟩ := h
    exact ⟨_, _, rfl, W, A, c, rfl, rfl⟩
theorem c78 (w0 : World) (l : List UInt8) (hn : l.length ≤ 4194304) :
    Rets Tryz.prog 78 #[.string (bs l)] w0 fun v L => ∃ A c, v = .tuple #[.slice A ((bytesRef l).getD []).length c, .bool (bytesRef l).isSome] ∧ L = [rowOf 5 1 encB A c ((bytesRef l).getD [])] :=
  optB_all (k78 w0 l hn)
def tabN (k : Nat) : List Nat := (List.range 256).map fun c => num (abc.take k) 0 (UInt8.ofNat c)
def tabV (k : Nat) : List Value := (tabN k).map fun (x : Nat) => .int .u8 (x : Int)
theorem tabV_len (k : Nat) : (tabV k).length = 256 := by simp [tabV, tabN]
theorem tabV_one (k : Nat) : ∀ v ∈ tabV k, v.oneCell' = true := fun v hv => by
  obtain ⟨x, _, rfl⟩ := List.mem_map.1 hv
  rfl
theorem tabN_step : ∀ k : Fin 64, (tabN k.val).set (abc.getD k.val 0).toNat (k.val + 1) = tabN (k.val + 1) := by decide +kernel
theorem tabV_step {k : Nat} (h : k < 64) : (tabV k).set (abc.getD k 0).toNat (.int .u8 ((k : Int) + 1)) = tabV (k + 1) := by
  have := tabN_step ⟨k, h⟩
  unfold tabV
  rw [← this, List.map_set]
  rfl
theorem tabV_get (c : UInt8) : (tabV 64)[c.toNat]? = some (.int .u8 (num64 c : Int)) := by
  have hc := c.toNat_lt
  have : abc.take 64 = abc := rfl
  simp [tabV, tabN, this, num64, List.getElem?_map, List.getElem?_range hc]
theorem zc163 (v : Value) (hv : ∀ w, (zeroValue 163).run Tryz.prog w = .ok v w) : v.cells = (tabV 0).toArray := by
  have h := (zeroValue163 default).symm.trans (hv default)
  simp only [Result.ok.injEq, and_true] at h
  subst h
  rfl
theorem c136 (w0 : World) :
    Calls Tryz.prog 136 #[] w0 fun e w' => e = .returned (.agg (tabV 64).toArray) ∧ Bel w0.heap.size w0 w' := by
  refine enter0 func136 rfl ntmps136 rfl fun a S => wp_seq_k fun _ hK1 => wp_region_lit (st_m (op_alloc S zeroValue163 (cs := _) (zc163 _ zeroValue163) rfl fun g1 a w S => st_nil (then_normal (hK1 _ _ (wp_seq_k fun _ hK1 => wp_region_lit (st_m (op_alloc S zeroValue163 (cs := _) (zc163 _ zeroValue163) rfl fun g2 a w S => st_nil (then_normal (hK1 _ _ (wp_seq_k fun _ hK1 => sg S (.mc rfl <| .z) fun a w S => wp_block ?_))))))))))
  refine st_lpK S (X := Nat) (fun k => [(3, true, .int .i64 (k : Int))]) (fun k _ => [.blk g2 (.cells (tabV k).toArray 163), .blk g1 (.cells (tabV 0).toArray 163)]) (fun k => k ≤ 64) (fun k => 64 - k) 0 (Nat.zero_le _) ?_
  clear S
  intro k a w hk S
  by_cases hlt : k < 64
  · have hb := (abc.getD k 0).toNat_lt
    have rw_k : (k : Int).toNat = k := Int.toNat_natCast k
    have rw_e : (tabV k).set (0 + (abc.getD k 0).toNat * 1) (.int .u8 ((b8 ((k : Int) + 1)).toNat : Int)) = tabV (k + 1) := by
      rw [← tabV_step hlt, b8_val, Nat.zero_add, Nat.mul_one]
      congr 2
      omega
    refine sg S (.yy (ys_T (by omega) (ys_lss (.t rfl) Ev.c)) rfl <| .z) fun a w S => wp_seq_k fun _ hK2 => st_then S (.t rfl) (wp_skip (then_normal (hK2 _ _ (wp_seq_k fun _ hK2 => wp_block (sg S (.mv rfl <| .as rfl <| .z) fun a w S => wp_region_lit (run S (.mv rfl <| .yy (ys_ixTab (l := abc) underlying9 Ev.c (.t rfl) (fun _ => by have := abcN; omega)) rfl <| .z) fun a w S => ?_))))))
    rw [rw_k] at S
    refine run S (.mv rfl <| .ad (by unfold I64; omega) rfl <| .yy (ys_cvB underlying3 underlying5 (.t rfl)) rfl <| .yy (ys_ixA underlying163 sizeOf5 (.t rfl) (.t rfl) (fun _ => by omega)) rfl <| .z) fun a w S => st_m (op_st S sizeOf5 (.t rfl) (.t rfl) (k := 0) rfl rfl (by rw [Go.Proofs.YtfblmkocmnbdcaaGreat.tabV_len]; omega) fun a w S => ?_)
    rw [rw_e] at S
    refine st_nil (in_normal (then_normal (hK2 _ _ (wp_region_lit (run S (.ad (by unfold I64; omega) rfl <| .mv rfl <| .z) fun a w S => st_nil (then_normal ?_))))))
    exact ⟨k + 1, by omega, by omega, S.wk⟩
  · obtain rfl : k = 64 := by omega
    refine sg S (.yy (ys_F (by omega) (ys_lss (.t rfl) Ev.c)) rfl <| .z) fun a w S => wp_seq_k fun _ hK2 => st_else S (.t rfl) (wp_exit (then_exit (then_exit (in_here (then_normal (hK1 _ _ (wp_seq_k fun _ hK1 => wp_region_lit (run S (.yy (ys_ldAll ⟨isAgg163, sizeOf163⟩ (.t rfl) (k := 0) rfl (Go.Proofs.YtfblmkocmnbdcaaGreat.tabV_len _)) rfl <| .z) fun a w S => st_m (op_stW S sizeOf163 (.t rfl) (.t rfl) (k := 1) rfl (Go.Proofs.YtfblmkocmnbdcaaGreat.tabV_len _) (by first | rfl | exact Go.Proofs.YtfblmkocmnbdcaaGreat.tabV_len _) (by first | exact Go.Proofs.YtfblmkocmnbdcaaGreat.tabV_one _ | simp [Value.oneCell']) fun a w S => st_nil (then_normal (hK1 _ _ (wp_ret (st_ret S (results1 S results136 (Rv.cell (k := 1) ⟨isAgg163, sizeOf163⟩ rfl rfl (Go.Proofs.YtfblmkocmnbdcaaGreat.tabV_len _))) ?_)))))))))))))
    exact ⟨rfl, S.wd.below⟩
end Go.Proofs.YtfblmkocmnbdcaaGreat
