/- Contracts and laws that the statement Ora leans on, part 5. -/
import Derived.Test.YtfblmkocmnbdcaaGreatOraK4
set_option linter.unusedVariables false
set_option linter.unusedSimpArgs false
set_option maxRecDepth 100000
set_option maxHeartbeats 4000000
namespace Go.Proofs.YtfblmkocmnbdcaaGreat
open Go.Fw Go.Proofs Go.RowKit Go.Proofs.Tryz
theorem c30 (w0 : World) (u : Upd) (v1 v2 v3 : Value) (h : Sl Ent.enc 6 w0 w0.heap.size v1 u.seen.ents) (hr : RdCtx w0 w0.heap.size v2 v3 u.seen.ctx) :
    Rets Tryz.prog 30 #[.agg (Upd.enc u v1 v2 v3).toArray] w0 fun v L => ∃ A1 c1 A2 c2 A3 c3, v = .tuple #[.agg #[.slice A1 (applyU u).1.ents.length c1, .slice A2 (applyU u).1.ctx.marks.length c2, .slice A3 (applyU u).1.ctx.cloud.length c3], .int .i64 (applyU u).2] ∧
      L = [rowOf 71 6 Ent.enc A1 c1 (applyU u).1.ents, rowOf 122 3 Dot.enc A2 c2 (applyU u).1.ctx.marks, rowOf 58 3 Dot.enc A3 c3 (applyU u).1.ctx.cloud] := by
  have hs := h
  have hrr := hr
  obtain ⟨A, cap, rfl, hl, hcap, hA⟩ := h
  obtain ⟨⟨A2, cap2, rfl, _⟩, ⟨A3, cap3, rfl, _⟩⟩ := hr
  by_cases hm : mayE u = 0
  rotate_left
  · have rw_m : decide (mayE u = 0) = false := decide_eq_false hm
    have e : applyU u = (Cart.zero, mayE u) := by unfold applyU; rw [if_neg hm]
    unfold Go.Fw.Rets
    refine enter1 func30 rfl ntmps30 rfl fun a S => wp_seq_k fun _ hK1 => wp_region_lit (st_m (op_box S (.t rfl) rfl fun g1 a w S => st_m (op_alloc S zeroValue39 (cs := _) rfl rfl fun g2 a w S => run S (.ac rfl <| .z) fun a w S => st_nil (then_normal (hK1 _ _ (wp_seq_k fun _ hK1 => wp_seq_k fun _ hK2 => wp_region_lit (run S (.la gt60 1 rfl rfl rfl <| .xx (ys_call call85 (.cons (.t rfl) .nil) (fun hp w W => c85 _ _ _ _ _ (by exact .old W (by assumption)) (by exact .old W (by assumption)))) rfl <| .as rfl <| .z) fun a w S => st_nil (then_normal (hK2 _ _ (wp_seq_k fun _ hK2 => wp_region_lit (run S (.mv rfl <| .yy (ys_T (by omega) (ys_neq (.t rfl) Ev.c)) rfl <| .z) fun a w S => st_nil (then_normal (hK2 _ _ (st_then S (.t rfl) (wp_seq_k fun _ hK2 => wp_region_lit (run S (.yy (ys_bld (ps := []) (us := [_, _, _]) bld39 .nil rfl) rfl <| .mv rfl <| .z) fun a w S => st_m (op_stW S sizeOf39 (.t rfl) (.t rfl) (k := 0) rfl rfl rfl (by simp [Value.oneCell']) fun a w S => run S (.as rfl <| .z) fun a w S => st_nil (then_normal (hK2 _ _ (wp_ret (then_ret (st_ret S (results2 S results30 (Rv.cell (k := 0) ⟨isAgg39, sizeOf39⟩ rfl rfl rfl) (Rv.tmp rfl)) ?_))))))))))))))))))))))
    rw [e]
    exact ⟨_, _, rfl, (((S.nil_ 58 3 Dot.enc none).nil_ 122 3 Dot.enc none).nil_ 71 6 Ent.enc none).wd.sub (by repeat (first | exact List.Sublist.refl _ | exact List.nil_sublist _ | refine .cons_cons _ ?_ | refine .cons _ ?_)), none, 0, none, 0, none, 0, rfl, rfl⟩
  have hu := mayE_ok hm
  have hlen := hu.seen.len
  have rw_m := hm
  unfold Go.Fw.Rets
  refine enter1 func30 rfl ntmps30 rfl fun a S => wp_seq_k fun _ hK1 => wp_region_lit (st_m (op_box S (.t rfl) rfl fun g1 a w S => st_m (op_alloc S zeroValue39 (cs := _) rfl rfl fun g2 a w S => run S (.ac rfl <| .z) fun a w S => st_nil (then_normal (hK1 _ _ (wp_seq_k fun _ hK1 => wp_seq_k fun _ hK2 => wp_region_lit (run S (.la gt60 1 rfl rfl rfl <| .xx (ys_call call85 (.cons (.t rfl) .nil) (fun hp w W => c85 _ _ _ _ _ (by exact .old W (by assumption)) (by exact .old W (by assumption)))) rfl <| .z) fun a w S => ?_)))))))
  rw [rw_m] at S
  refine run S (.as rfl <| .z) fun a w S => st_nil (then_normal (hK2 _ _ (wp_seq_k fun _ hK2 => wp_region_lit (run S (.mv rfl <| .yy (ys_F (by omega) (ys_neq (.t rfl) Ev.c)) rfl <| .z) fun a w S => st_nil (then_normal (hK2 _ _ (st_else S (.t rfl) (wp_skip (then_normal (hK1 _ _ (wp_seq_k fun _ hK1 => wp_region_lit (st_m (op_alloc S zeroValue39 (cs := _) rfl rfl fun g3 a w S => st_nil (then_normal (hK1 _ _ (wp_seq_k fun _ hK1 => wp_seq_k fun _ hK2 => wp_region_lit (run S (.fa underlying60 sizeOf39 7 rfl rfl rfl <| .fa underlying39 sizeOf33 7 rfl rfl rfl <| .ld gt33 2 rfl rfl rfl <| .ln underlying33 rfl <| .mc rfl <| .z) fun a w S => st_nil (then_normal (hK2 _ _ (wp_block ?_))))))))))))))))))))
  have en : (addL u.seen.ctx u.dot).2 ≠ 0 → applyU u = (Cart.zero, (addL u.seen.ctx u.dot).2) := fun h => by unfold applyU; rw [if_pos hm, if_neg h]
  have ey : (addL u.seen.ctx u.dot).2 = 0 → applyU u = sizedC ⟨applyE u, (addL u.seen.ctx u.dot).1⟩ := fun h => by unfold applyU; rw [if_pos hm, if_pos h]
  refine st_loopM (S.nil_ 71 6 Ent.enc none) [20] (X := Nat × Option Addr × Nat) (fun q => [(20, true, .int .i64 (q.1 : Int))])
    (fun q => [rowOf 71 6 Ent.enc q.2.1 q.2.2 (otherE u.item (u.seen.ents.take q.1)), .blk g3 (.cells #[.slice q.2.1 (otherE u.item (u.seen.ents.take q.1)).length q.2.2, .slice none 0 0, .slice none 0 0] 39), .blk g2 (.cells #[.slice none 0 0, .slice none 0 0, .slice none 0 0] 39), .blk g1 (.cells (Upd.enc u (.slice A u.seen.ents.length cap) (.slice A2 u.seen.ctx.marks.length cap2) (.slice A3 u.seen.ctx.cloud.length cap3)).toArray 60)])
    (fun q => q.1 ≤ u.seen.ents.length) (fun q => u.seen.ents.length - q.1) (0, none, 0) (Nat.zero_le _) (by repeat (first | exact Fits.nil | refine Fits.skip rfl ?_ | refine Fits.cons rfl ?_)) (by repeat (first | exact Picks.nil | (refine Picks.rest ?_; (repeat (first | exact List.Sublist.refl _ | refine List.Sublist.cons_cons _ ?_ | refine List.Sublist.cons _ ?_)); done) | refine Picks.take 0 rfl ?_ | refine Picks.take 1 rfl ?_ | refine Picks.take 2 rfl ?_ | refine Picks.take 3 rfl ?_ | refine Picks.take 4 rfl ?_ | refine Picks.take 5 rfl ?_ | refine Picks.take 6 rfl ?_ | refine Picks.take 7 rfl ?_ | refine Picks.take 8 rfl ?_ | refine Picks.take 9 rfl ?_ | refine Picks.take 10 rfl ?_ | refine Picks.take 11 rfl ?_)) ?_
  clear S
  rintro ⟨k, B, cB⟩ a w hk S
  dsimp only at hk S
  have hol := otherE_len u.item u.seen.ents k
  by_cases hlt : k < u.seen.ents.length
  · obtain ⟨g, o, x, rfl, hx, hd, hc⟩ := row_at hA hlt
    by_cases hi : x.item = u.item
    · have rw_i : decide (x.item ≠ u.item) = false := decide_eq_false fun h => h hi
      have hst := otherE_no hx hi
      refine wp_seq_k fun _ hK2 => wp_region_lit (run S (.lt (by omega) rfl rfl <| .z) fun a w S => st_nil (then_normal (hK2 _ _ (wp_seq_k fun _ hK2 => st_then S (.t rfl) (wp_skip (then_normal (hK2 _ _ (wp_seq_k fun _ hK2 => wp_block (wp_seq_k fun _ hK3 => wp_region_lit (run S (.ix underlying33 sizeOf71 (by omega) rfl rfl <| .yy (ys_ldOA ⟨isAgg71, sizeOf71⟩ (.t rfl) (vs := [_, _, _, _, _, _]) rfl (fun _ => hc)) rfl <| .z) fun a w S => st_m (op_alloc S zeroValue71 (cs := _) rfl rfl fun g4 a w S => st_m (op_stW S sizeOf71 (.t rfl) (.t rfl) (k := 0) rfl rfl rfl (by simp [Value.oneCell']) fun a w S => st_nil (then_normal (hK3 _ _ (wp_seq_k fun _ hK3 => wp_region_lit (run S (.fa underlying71 sizeOf9 0 rfl rfl rfl <| .ld gt9 0 rfl rfl rfl <| .fa underlying60 sizeOf9 4 rfl rfl rfl <| .ld gt9 4 rfl rfl rfl <| .yy (ys_neqStr (.t rfl) (.t rfl)) rfl <| .z) fun a w S => ?_))))))))))))))))
      rw [rw_i] at S
      refine st_nil (then_normal (hK3 _ _ (st_else S (.t rfl) (wp_skip (in_normal (then_normal (hK2 _ _ (wp_region_lit (run S (.ad (by unfold I64; omega) rfl <| .mv rfl <| .z) fun a w S => st_nil (then_normal ?_))))))))))
      exact ⟨(k + 1, B, cB), by dsimp only; omega, by dsimp only; omega, by dsimp only; rw [hst]; exact S.picks (by repeat (first | exact Fits.nil | refine Fits.skip rfl ?_ | refine Fits.cons rfl ?_)) (by repeat (first | exact Picks.nil | (refine Picks.rest ?_; (repeat (first | exact List.Sublist.refl _ | refine List.Sublist.cons_cons _ ?_ | refine List.Sublist.cons _ ?_)); done) | refine Picks.take 0 rfl ?_ | refine Picks.take 1 rfl ?_ | refine Picks.take 2 rfl ?_ | refine Picks.take 3 rfl ?_ | refine Picks.take 4 rfl ?_ | refine Picks.take 5 rfl ?_ | refine Picks.take 6 rfl ?_ | refine Picks.take 7 rfl ?_ | refine Picks.take 8 rfl ?_ | refine Picks.take 9 rfl ?_ | refine Picks.take 10 rfl ?_ | refine Picks.take 11 rfl ?_))⟩
    · have rw_i : decide (x.item ≠ u.item) = true := decide_eq_true hi
      have hst := otherE_yes hx hi
      refine wp_seq_k fun _ hK2 => wp_region_lit (run S (.lt (by omega) rfl rfl <| .z) fun a w S => st_nil (then_normal (hK2 _ _ (wp_seq_k fun _ hK2 => st_then S (.t rfl) (wp_skip (then_normal (hK2 _ _ (wp_seq_k fun _ hK2 => wp_block (wp_seq_k fun _ hK3 => wp_region_lit (run S (.ix underlying33 sizeOf71 (by omega) rfl rfl <| .yy (ys_ldOA ⟨isAgg71, sizeOf71⟩ (.t rfl) (vs := [_, _, _, _, _, _]) rfl (fun _ => hc)) rfl <| .z) fun a w S => st_m (op_alloc S zeroValue71 (cs := _) rfl rfl fun g4 a w S => st_m (op_stW S sizeOf71 (.t rfl) (.t rfl) (k := 0) rfl rfl rfl (by simp [Value.oneCell']) fun a w S => st_nil (then_normal (hK3 _ _ (wp_seq_k fun _ hK3 => wp_region_lit (run S (.fa underlying71 sizeOf9 0 rfl rfl rfl <| .ld gt9 0 rfl rfl rfl <| .fa underlying60 sizeOf9 4 rfl rfl rfl <| .ld gt9 4 rfl rfl rfl <| .yy (ys_neqStr (.t rfl) (.t rfl)) rfl <| .z) fun a w S => ?_))))))))))))))))
      rw [rw_i] at S
      refine st_nil (then_normal (hK3 _ _ (st_then S (.t rfl) (wp_region_lit (run S (.fa underlying39 sizeOf33 0 rfl rfl rfl <| .ld gt33 2 rfl rfl rfl <| .la gt71 0 rfl rfl rfl <| .z) fun a w S => st_m (op_bslice1 S underlying33 inf71 rfl rfl rfl (.t rfl) rfl rfl rfl fun g5 a w S => st_m (op_push S underlying33 inf71 rfl (k := 2) (j := 0) rfl (.t rfl) (.t rfl) rfl rfl rfl rfl (by first | omega | (simp only [List.length_append, List.length_cons, List.length_nil]; omega)) rfl rfl rfl fun A1 cap1 a w S => run S (.fa underlying39 sizeOf33 0 rfl rfl rfl <| .z) fun a w S => st_m (op_st S sizeOf33 (.t rfl) (.t rfl) (k := 3) rfl rfl (by simp) fun a w S => st_nil (in_normal (then_normal (hK2 _ _ (wp_region_lit (run S (.ad (by unfold I64; omega) rfl <| .mv rfl <| .z) fun a w S => st_nil (then_normal ?_))))))))))))))
      exact ⟨(k + 1, A1, cap1), by dsimp only; omega, by dsimp only; omega, by dsimp only; rw [hst]; exact S.picks (by repeat (first | exact Fits.nil | refine Fits.skip rfl ?_ | refine Fits.cons rfl ?_)) (by repeat (first | exact Picks.nil | (refine Picks.rest ?_; (repeat (first | exact List.Sublist.refl _ | refine List.Sublist.cons_cons _ ?_ | refine List.Sublist.cons _ ?_)); done) | refine Picks.take 0 rfl ?_ | refine Picks.take 1 rfl ?_ | refine Picks.take 2 rfl ?_ | refine Picks.take 3 rfl ?_ | refine Picks.take 4 rfl ?_ | refine Picks.take 5 rfl ?_ | refine Picks.take 6 rfl ?_ | refine Picks.take 7 rfl ?_ | refine Picks.take 8 rfl ?_ | refine Picks.take 9 rfl ?_ | refine Picks.take 10 rfl ?_ | refine Picks.take 11 rfl ?_))⟩
  · obtain rfl : k = u.seen.ents.length := by omega
    rw [List.take_length] at S hol
    have hal := applyE_len hu
    by_cases hq : 0 < u.qty
    · have rw_q : decide (0 < u.qty) = true := decide_eq_true hq
      have rw_ue : #[Value.string (bs u.item), Value.int .i64 u.dot.node, Value.int .i64 u.dot.life, Value.int .i64 u.dot.count, Value.int .i64 u.qty, Value.int .u64 (u.price.toNat : Int)] = (Ent.enc u.ent).toArray := rfl
      have rw_hae : insE u.ent (otherE u.item u.seen.ents) = applyE u := by unfold applyE; rw [if_pos hq]
      by_cases hd : (addL u.seen.ctx u.dot).2 = 0
      rotate_left
      · have rw_d : decide ((addL u.seen.ctx ⟨u.dot.node, u.dot.life, u.dot.count⟩).2 = 0) = false := decide_eq_false hd
        have e := en hd
        refine wp_seq_k fun _ hK2 => wp_region_lit (run S (.ge (by omega) rfl rfl <| .z) fun a w S => st_nil (then_normal (hK2 _ _ (wp_seq_k fun _ hK2 => st_else S (.t rfl) (wp_exit (then_exit (then_exit (in_here (then_normal (hK1 _ _ (wp_seq_k fun _ hK1 => wp_seq_k fun _ hK3 => wp_region_lit (run S (.fa underlying60 sizeOf3 5 rfl rfl rfl <| .ld gt3 3 rfl rfl rfl <| .yy (ys_T (by omega) (ys_gtr (.t rfl) Ev.c)) rfl <| .z) fun a w S => st_nil (then_normal (hK3 _ _ (st_then S (.t rfl) (wp_region_lit (run S (.fa underlying39 sizeOf33 0 rfl rfl rfl <| .ld gt33 1 rfl rfl rfl <| .fa underlying60 sizeOf9 4 rfl rfl rfl <| .ld gt9 3 rfl rfl rfl <| .fa underlying60 sizeOf58 1 rfl rfl rfl <| .la gt58 3 rfl rfl rfl <| .fa underlying60 sizeOf3 5 rfl rfl rfl <| .ld gt3 3 rfl rfl rfl <| .fa underlying60 sizeOf27 6 rfl rfl rfl <| .ld gt27 3 rfl rfl rfl <| .yy (ys_bld (ps := [(0, Go.Operand.tmp 42), (1, Go.Operand.tmp 44), (2, Go.Operand.tmp 46), (3, Go.Operand.tmp 48)]) (us := [_, _, _, _, _, _]) bld71 (.cons (.t rfl) (.cons (.t rfl) (.cons (.t rfl) (.cons (.t rfl) .nil)))) rfl) rfl <| .z) fun a w S => ?_)))))))))))))))))
        rw [rw_ue] at S
        (refine st_m (op_calls S call86 (.cons (.t rfl) (.cons (.t rfl) .nil)) (c86 _ _ _ _ (by exact Sl.of_own S.wd (k := 0) rfl (fun _ => rfl)) (by omega)) rfl ?_); clear S a w; rintro _ _ ⟨A11, c11, rfl, rfl⟩ a w S)
        rw [rw_ue] at S
        rw [rw_hae] at S
        refine run S (.fa underlying39 sizeOf33 0 rfl rfl rfl <| .z) fun a w S => ?_
        rw [rw_ue] at S
        refine st_m (op_st S sizeOf33 (.t rfl) (.t rfl) (k := 2) rfl rfl (by simp) fun a w S => ?_)
        rw [rw_ue] at S
        refine st_nil ?_
        rw [rw_ue] at S
        refine then_normal (hK1 _ _ ?_)
        rw [rw_ue] at S
        refine wp_seq_k fun _ hK1 => ?_
        rw [rw_ue] at S
        refine wp_region_lit ?_
        rw [rw_ue] at S
        refine run S (.fa underlying60 sizeOf39 7 rfl rfl rfl <| .z) fun a w S => ?_
        rw [rw_ue] at S
        refine run S (.fa underlying39 sizeOf37 8 rfl rfl rfl <| .z) fun a w S => ?_
        rw [rw_ue] at S
        refine run S (.la gt37 4 rfl rfl rfl <| .z) fun a w S => ?_
        rw [rw_ue] at S
        refine run S (.fa underlying60 sizeOf58 1 rfl rfl rfl <| .z) fun a w S => ?_
        rw [rw_ue] at S
        refine run S (.la gt58 4 rfl rfl rfl <| .z) fun a w S => ?_
        rw [rw_ue] at S
        (refine st_m (op_calls S call87 (.cons (.t rfl) (.cons (.t rfl) .nil)) (c87 _ _ _ _ _ _ _ (by exact .old S.wd (by assumption))) rfl ?_); clear S a w; rintro _ _ ⟨A12, c12, A21, c21, rfl, rfl⟩ a w S)
        rw [rw_ue] at S
        refine run S (.mv rfl <| .z) fun a w S => ?_
        rw [rw_ue] at S
        refine run S (.ex rfl rfl <| .z) fun a w S => ?_
        rw [rw_ue] at S
        refine run S (.ex rfl rfl <| .z) fun a w S => ?_
        rw [rw_ue] at S
        refine st_m (op_alloc S zeroValue37 (cs := _) rfl rfl fun g4 a w S => ?_)
        rw [rw_ue] at S
        refine st_m (op_stW S sizeOf37 (.t rfl) (.t rfl) (k := 0) rfl rfl rfl (by simp [Value.oneCell']) fun a w S => ?_)
        rw [rw_ue] at S
        refine run S (.as rfl <| .z) fun a w S => ?_
        rw [rw_ue] at S
        refine st_nil ?_
        rw [rw_ue] at S
        refine then_normal (hK1 _ _ ?_)
        rw [rw_ue] at S
        refine wp_seq_k fun _ hK1 => ?_
        rw [rw_ue] at S
        refine wp_seq_k fun _ hK3 => ?_
        rw [rw_ue] at S
        refine wp_region_lit ?_
        rw [rw_ue] at S
        refine run S (.mv rfl <| .z) fun a w S => ?_
        rw [rw_ue] at S
        refine run S (.yy (ys_T (by omega) (ys_neq (.t rfl) Ev.c)) rfl <| .z) fun a w S => ?_
        rw [rw_ue] at S
        refine st_nil ?_
        rw [rw_ue] at S
        refine then_normal (hK3 _ _ ?_)
        rw [rw_ue] at S
        refine st_then S (.t rfl) ?_
        rw [rw_ue] at S
        refine wp_seq_k fun _ hK3 => ?_
        rw [rw_ue] at S
        refine wp_region_lit ?_
        rw [rw_ue] at S
        refine run S (.yy (ys_bld (ps := []) (us := [_, _, _]) bld39 .nil rfl) rfl <| .z) fun a w S => ?_
        rw [rw_ue] at S
        refine run S (.mv rfl <| .z) fun a w S => ?_
        rw [rw_ue] at S
        refine st_m (op_stW S sizeOf39 (.t rfl) (.t rfl) (k := 6) rfl rfl rfl (by simp [Value.oneCell']) fun a w S => ?_)
        rw [rw_ue] at S
        refine run S (.as rfl <| .z) fun a w S => ?_
        rw [rw_ue] at S
        refine st_nil ?_
        rw [rw_ue] at S
        refine then_normal (hK3 _ _ ?_)
        rw [rw_ue] at S
        refine wp_ret ?_
        rw [rw_ue] at S
        refine then_ret ?_
        rw [rw_ue] at S
        refine st_ret S (results2 S results30 (Rv.cell (k := 6) ⟨isAgg39, sizeOf39⟩ rfl rfl rfl) (Rv.tmp rfl)) ?_
        rw [rw_ue] at S
        rw [e]
        exact ⟨_, _, rfl, (((S.nil_ 58 3 Dot.enc none).nil_ 122 3 Dot.enc none).nil_ 71 6 Ent.enc none).wd.sub (by repeat (first | exact List.Sublist.refl _ | exact List.nil_sublist _ | refine .cons_cons _ ?_ | refine .cons _ ?_)), none, 0, none, 0, none, 0, rfl, rfl⟩
      have rw_d : (addL u.seen.ctx ⟨u.dot.node, u.dot.life, u.dot.count⟩).2 = 0 := hd
      by_cases hbig : 64 < (applyE u).length ∨ 32 < itemsN (applyE u)
      · have rw_b : ∀ x y : Value, (if 64 < (applyE u).length ∨ 32 < itemsN (applyE u) then x else y) = x := fun _ _ => if_pos hbig
        have e : applyU u = (Cart.zero, 51) := by rw [ey hd]; unfold sizedC; exact if_pos hbig
        refine wp_seq_k fun _ hK2 => wp_region_lit (run S (.ge (by omega) rfl rfl <| .z) fun a w S => st_nil (then_normal (hK2 _ _ (wp_seq_k fun _ hK2 => st_else S (.t rfl) (wp_exit (then_exit (then_exit (in_here (then_normal (hK1 _ _ (wp_seq_k fun _ hK1 => wp_seq_k fun _ hK3 => wp_region_lit (run S (.fa underlying60 sizeOf3 5 rfl rfl rfl <| .ld gt3 3 rfl rfl rfl <| .yy (ys_T (by omega) (ys_gtr (.t rfl) Ev.c)) rfl <| .z) fun a w S => st_nil (then_normal (hK3 _ _ (st_then S (.t rfl) (wp_region_lit (run S (.fa underlying39 sizeOf33 0 rfl rfl rfl <| .ld gt33 1 rfl rfl rfl <| .fa underlying60 sizeOf9 4 rfl rfl rfl <| .ld gt9 3 rfl rfl rfl <| .fa underlying60 sizeOf58 1 rfl rfl rfl <| .la gt58 3 rfl rfl rfl <| .fa underlying60 sizeOf3 5 rfl rfl rfl <| .ld gt3 3 rfl rfl rfl <| .fa underlying60 sizeOf27 6 rfl rfl rfl <| .ld gt27 3 rfl rfl rfl <| .yy (ys_bld (ps := [(0, Go.Operand.tmp 42), (1, Go.Operand.tmp 44), (2, Go.Operand.tmp 46), (3, Go.Operand.tmp 48)]) (us := [_, _, _, _, _, _]) bld71 (.cons (.t rfl) (.cons (.t rfl) (.cons (.t rfl) (.cons (.t rfl) .nil)))) rfl) rfl <| .z) fun a w S => ?_)))))))))))))))))
        rw [rw_ue] at S
        (refine st_m (op_calls S call86 (.cons (.t rfl) (.cons (.t rfl) .nil)) (c86 _ _ _ _ (by exact Sl.of_own S.wd (k := 0) rfl (fun _ => rfl)) (by omega)) rfl ?_); clear S a w; rintro _ _ ⟨A11, c11, rfl, rfl⟩ a w S)
        rw [rw_ue] at S
        rw [rw_hae] at S
        refine run S (.fa underlying39 sizeOf33 0 rfl rfl rfl <| .z) fun a w S => ?_
        rw [rw_ue] at S
        refine st_m (op_st S sizeOf33 (.t rfl) (.t rfl) (k := 2) rfl rfl (by simp) fun a w S => ?_)
        rw [rw_ue] at S
        refine st_nil ?_
        rw [rw_ue] at S
        refine then_normal (hK1 _ _ ?_)
        rw [rw_ue] at S
        refine wp_seq_k fun _ hK1 => ?_
        rw [rw_ue] at S
        refine wp_region_lit ?_
        rw [rw_ue] at S
        refine run S (.fa underlying60 sizeOf39 7 rfl rfl rfl <| .z) fun a w S => ?_
        rw [rw_ue] at S
        refine run S (.fa underlying39 sizeOf37 8 rfl rfl rfl <| .z) fun a w S => ?_
        rw [rw_ue] at S
        refine run S (.la gt37 4 rfl rfl rfl <| .z) fun a w S => ?_
        rw [rw_ue] at S
        refine run S (.fa underlying60 sizeOf58 1 rfl rfl rfl <| .z) fun a w S => ?_
        rw [rw_ue] at S
        refine run S (.la gt58 4 rfl rfl rfl <| .z) fun a w S => ?_
        rw [rw_ue] at S
        (refine st_m (op_calls S call87 (.cons (.t rfl) (.cons (.t rfl) .nil)) (c87 _ _ _ _ _ _ _ (by exact .old S.wd (by assumption))) rfl ?_); clear S a w; rintro _ _ ⟨A12, c12, A21, c21, rfl, rfl⟩ a w S)
        rw [rw_ue] at S
        rw [rw_d] at S
        refine run S (.mv rfl <| .z) fun a w S => ?_
        rw [rw_ue] at S
        refine run S (.ex rfl rfl <| .z) fun a w S => ?_
        rw [rw_ue] at S
        refine run S (.ex rfl rfl <| .z) fun a w S => ?_
        rw [rw_ue] at S
        refine st_m (op_alloc S zeroValue37 (cs := _) rfl rfl fun g4 a w S => ?_)
        rw [rw_ue] at S
        refine st_m (op_stW S sizeOf37 (.t rfl) (.t rfl) (k := 0) rfl rfl rfl (by simp [Value.oneCell']) fun a w S => ?_)
        rw [rw_ue] at S
        refine run S (.as rfl <| .z) fun a w S => ?_
        rw [rw_ue] at S
        refine st_nil ?_
        rw [rw_ue] at S
        refine then_normal (hK1 _ _ ?_)
        rw [rw_ue] at S
        refine wp_seq_k fun _ hK1 => ?_
        rw [rw_ue] at S
        refine wp_seq_k fun _ hK3 => ?_
        rw [rw_ue] at S
        refine wp_region_lit ?_
        rw [rw_ue] at S
        refine run S (.mv rfl <| .z) fun a w S => ?_
        rw [rw_ue] at S
        refine run S (.yy (ys_F (by omega) (ys_neq (.t rfl) Ev.c)) rfl <| .z) fun a w S => ?_
        rw [rw_ue] at S
        refine st_nil ?_
        rw [rw_ue] at S
        refine then_normal (hK3 _ _ ?_)
        rw [rw_ue] at S
        refine st_else S (.t rfl) ?_
        rw [rw_ue] at S
        refine wp_skip ?_
        rw [rw_ue] at S
        refine then_normal (hK1 _ _ ?_)
        rw [rw_ue] at S
        refine wp_seq_k fun _ hK1 => ?_
        rw [rw_ue] at S
        refine wp_region_lit ?_
        rw [rw_ue] at S
        refine run S (.la gt37 0 rfl rfl rfl <| .z) fun a w S => ?_
        rw [rw_ue] at S
        refine run S (.fa underlying39 sizeOf37 1 rfl rfl rfl <| .z) fun a w S => ?_
        rw [rw_ue] at S
        refine st_m (op_stA S sizeOf37 (.t rfl) (.t rfl) (k := 5) rfl rfl (by simp [Value.oneCell']) (by simp) fun a w S => ?_)
        rw [rw_ue] at S
        refine st_nil ?_
        rw [rw_ue] at S
        refine then_normal (hK1 _ _ ?_)
        rw [rw_ue] at S
        refine wp_seq_k fun _ hK1 => ?_
        rw [rw_ue] at S
        refine wp_region_lit ?_
        rw [rw_ue] at S
        refine run S (.la gt39 5 rfl rfl rfl <| .z) fun a w S => ?_
        rw [rw_ue] at S
        refine run S (.xx (ys_call call88 (.cons (.t rfl) .nil) (fun hp w W => c88 _ _ _ _ _ _ _ _ _ (by exact Sl.of_own W (k := 3) rfl (fun _ => rfl)) (by omega))) rfl <| .z) fun a w S => ?_
        rw [rw_ue] at S
        rw [rw_b] at S
        refine run S (.ex rfl rfl <| .z) fun a w S => ?_
        rw [rw_ue] at S
        refine run S (.ex rfl rfl <| .z) fun a w S => ?_
        rw [rw_ue] at S
        refine st_m (op_stW S sizeOf39 (.t rfl) (.t rfl) (k := 6) rfl rfl rfl (by simp [Value.oneCell']) fun a w S => ?_)
        rw [rw_ue] at S
        refine run S (.as rfl <| .z) fun a w S => ?_
        rw [rw_ue] at S
        refine st_nil ?_
        rw [rw_ue] at S
        refine then_normal (hK1 _ _ ?_)
        rw [rw_ue] at S
        refine wp_ret ?_
        rw [rw_ue] at S
        refine st_ret S (results2 S results30 (Rv.cell (k := 6) ⟨isAgg39, sizeOf39⟩ rfl rfl rfl) (Rv.tmp rfl)) ?_
        rw [rw_ue] at S
        rw [e]
        exact ⟨_, _, rfl, (((S.nil_ 58 3 Dot.enc none).nil_ 122 3 Dot.enc none).nil_ 71 6 Ent.enc none).wd.sub (by repeat (first | exact List.Sublist.refl _ | exact List.nil_sublist _ | refine .cons_cons _ ?_ | refine .cons _ ?_)), none, 0, none, 0, none, 0, rfl, rfl⟩
      · have rw_b : ∀ x y : Value, (if 64 < (applyE u).length ∨ 32 < itemsN (applyE u) then x else y) = y := fun _ _ => if_neg hbig
        have e : applyU u = (⟨applyE u, (addL u.seen.ctx u.dot).1⟩, 0) := by rw [ey hd]; unfold sizedC; exact if_neg hbig
        refine wp_seq_k fun _ hK2 => wp_region_lit (run S (.ge (by omega) rfl rfl <| .z) fun a w S => st_nil (then_normal (hK2 _ _ (wp_seq_k fun _ hK2 => st_else S (.t rfl) (wp_exit (then_exit (then_exit (in_here (then_normal (hK1 _ _ (wp_seq_k fun _ hK1 => wp_seq_k fun _ hK3 => wp_region_lit (run S (.fa underlying60 sizeOf3 5 rfl rfl rfl <| .ld gt3 3 rfl rfl rfl <| .yy (ys_T (by omega) (ys_gtr (.t rfl) Ev.c)) rfl <| .z) fun a w S => st_nil (then_normal (hK3 _ _ (st_then S (.t rfl) (wp_region_lit (run S (.fa underlying39 sizeOf33 0 rfl rfl rfl <| .ld gt33 1 rfl rfl rfl <| .fa underlying60 sizeOf9 4 rfl rfl rfl <| .ld gt9 3 rfl rfl rfl <| .fa underlying60 sizeOf58 1 rfl rfl rfl <| .la gt58 3 rfl rfl rfl <| .fa underlying60 sizeOf3 5 rfl rfl rfl <| .ld gt3 3 rfl rfl rfl <| .fa underlying60 sizeOf27 6 rfl rfl rfl <| .ld gt27 3 rfl rfl rfl <| .yy (ys_bld (ps := [(0, Go.Operand.tmp 42), (1, Go.Operand.tmp 44), (2, Go.Operand.tmp 46), (3, Go.Operand.tmp 48)]) (us := [_, _, _, _, _, _]) bld71 (.cons (.t rfl) (.cons (.t rfl) (.cons (.t rfl) (.cons (.t rfl) .nil)))) rfl) rfl <| .z) fun a w S => ?_)))))))))))))))))
        rw [rw_ue] at S
        (refine st_m (op_calls S call86 (.cons (.t rfl) (.cons (.t rfl) .nil)) (c86 _ _ _ _ (by exact Sl.of_own S.wd (k := 0) rfl (fun _ => rfl)) (by omega)) rfl ?_); clear S a w; rintro _ _ ⟨A11, c11, rfl, rfl⟩ a w S)
        rw [rw_ue] at S
        rw [rw_hae] at S
        refine run S (.fa underlying39 sizeOf33 0 rfl rfl rfl <| .z) fun a w S => ?_
        rw [rw_ue] at S
        refine st_m (op_st S sizeOf33 (.t rfl) (.t rfl) (k := 2) rfl rfl (by simp) fun a w S => ?_)
        rw [rw_ue] at S
        refine st_nil ?_
        rw [rw_ue] at S
        refine then_normal (hK1 _ _ ?_)
        rw [rw_ue] at S
        refine wp_seq_k fun _ hK1 => ?_
        rw [rw_ue] at S
        refine wp_region_lit ?_
        rw [rw_ue] at S
        refine run S (.fa underlying60 sizeOf39 7 rfl rfl rfl <| .z) fun a w S => ?_
        rw [rw_ue] at S
        refine run S (.fa underlying39 sizeOf37 8 rfl rfl rfl <| .z) fun a w S => ?_
        rw [rw_ue] at S
        refine run S (.la gt37 4 rfl rfl rfl <| .z) fun a w S => ?_
        rw [rw_ue] at S
        refine run S (.fa underlying60 sizeOf58 1 rfl rfl rfl <| .z) fun a w S => ?_
        rw [rw_ue] at S
        refine run S (.la gt58 4 rfl rfl rfl <| .z) fun a w S => ?_
        rw [rw_ue] at S
        (refine st_m (op_calls S call87 (.cons (.t rfl) (.cons (.t rfl) .nil)) (c87 _ _ _ _ _ _ _ (by exact .old S.wd (by assumption))) rfl ?_); clear S a w; rintro _ _ ⟨A12, c12, A21, c21, rfl, rfl⟩ a w S)
        rw [rw_ue] at S
        rw [rw_d] at S
        refine run S (.mv rfl <| .z) fun a w S => ?_
        rw [rw_ue] at S
        refine run S (.ex rfl rfl <| .z) fun a w S => ?_
        rw [rw_ue] at S
        refine run S (.ex rfl rfl <| .z) fun a w S => ?_
        rw [rw_ue] at S
        refine st_m (op_alloc S zeroValue37 (cs := _) rfl rfl fun g4 a w S => ?_)
        rw [rw_ue] at S
        refine st_m (op_stW S sizeOf37 (.t rfl) (.t rfl) (k := 0) rfl rfl rfl (by simp [Value.oneCell']) fun a w S => ?_)
        rw [rw_ue] at S
        refine run S (.as rfl <| .z) fun a w S => ?_
        rw [rw_ue] at S
        refine st_nil ?_
        rw [rw_ue] at S
        refine then_normal (hK1 _ _ ?_)
        rw [rw_ue] at S
        refine wp_seq_k fun _ hK1 => ?_
        rw [rw_ue] at S
        refine wp_seq_k fun _ hK3 => ?_
        rw [rw_ue] at S
        refine wp_region_lit ?_
        rw [rw_ue] at S
        refine run S (.mv rfl <| .z) fun a w S => ?_
        rw [rw_ue] at S
        refine run S (.yy (ys_F (by omega) (ys_neq (.t rfl) Ev.c)) rfl <| .z) fun a w S => ?_
        rw [rw_ue] at S
        refine st_nil ?_
        rw [rw_ue] at S
        refine then_normal (hK3 _ _ ?_)
        rw [rw_ue] at S
        refine st_else S (.t rfl) ?_
        rw [rw_ue] at S
        refine wp_skip ?_
        rw [rw_ue] at S
        refine then_normal (hK1 _ _ ?_)
        rw [rw_ue] at S
        refine wp_seq_k fun _ hK1 => ?_
        rw [rw_ue] at S
        refine wp_region_lit ?_
        rw [rw_ue] at S
        refine run S (.la gt37 0 rfl rfl rfl <| .z) fun a w S => ?_
        rw [rw_ue] at S
        refine run S (.fa underlying39 sizeOf37 1 rfl rfl rfl <| .z) fun a w S => ?_
        rw [rw_ue] at S
        refine st_m (op_stA S sizeOf37 (.t rfl) (.t rfl) (k := 5) rfl rfl (by simp [Value.oneCell']) (by simp) fun a w S => ?_)
        rw [rw_ue] at S
        refine st_nil ?_
        rw [rw_ue] at S
        refine then_normal (hK1 _ _ ?_)
        rw [rw_ue] at S
        refine wp_seq_k fun _ hK1 => ?_
        rw [rw_ue] at S
        refine wp_region_lit ?_
        rw [rw_ue] at S
        refine run S (.la gt39 5 rfl rfl rfl <| .z) fun a w S => ?_
        rw [rw_ue] at S
        refine run S (.xx (ys_call call88 (.cons (.t rfl) .nil) (fun hp w W => c88 _ _ _ _ _ _ _ _ _ (by exact Sl.of_own W (k := 3) rfl (fun _ => rfl)) (by omega))) rfl <| .z) fun a w S => ?_
        rw [rw_ue] at S
        rw [rw_b] at S
        refine run S (.ex rfl rfl <| .z) fun a w S => ?_
        rw [rw_ue] at S
        refine run S (.ex rfl rfl <| .z) fun a w S => ?_
        rw [rw_ue] at S
        refine st_m (op_stW S sizeOf39 (.t rfl) (.t rfl) (k := 6) rfl rfl rfl (by simp [Value.oneCell']) fun a w S => ?_)
        rw [rw_ue] at S
        refine run S (.as rfl <| .z) fun a w S => ?_
        rw [rw_ue] at S
        refine st_nil ?_
        rw [rw_ue] at S
        refine then_normal (hK1 _ _ ?_)
        rw [rw_ue] at S
        refine wp_ret ?_
        rw [rw_ue] at S
        refine st_ret S (results2 S results30 (Rv.cell (k := 6) ⟨isAgg39, sizeOf39⟩ rfl rfl rfl) (Rv.tmp rfl)) ?_
        rw [rw_ue] at S
        rw [e]
        exact ⟨_, _, rfl, S.wd.picks (by repeat (first | exact Picks.nil | (refine Picks.rest ?_; (repeat (first | exact List.Sublist.refl _ | refine List.Sublist.cons_cons _ ?_ | refine List.Sublist.cons _ ?_)); done) | refine Picks.take 0 rfl ?_ | refine Picks.take 1 rfl ?_ | refine Picks.take 2 rfl ?_ | refine Picks.take 3 rfl ?_ | refine Picks.take 4 rfl ?_ | refine Picks.take 5 rfl ?_ | refine Picks.take 6 rfl ?_ | refine Picks.take 7 rfl ?_ | refine Picks.take 8 rfl ?_ | refine Picks.take 9 rfl ?_ | refine Picks.take 10 rfl ?_ | refine Picks.take 11 rfl ?_)), _, _, _, _, _, _, rfl, rfl⟩
    · have rw_q : decide (0 < u.qty) = false := decide_eq_false hq
      have hae : otherE u.item u.seen.ents = applyE u := by unfold applyE; rw [if_neg hq]
      rw [hae] at S
      by_cases hd : (addL u.seen.ctx u.dot).2 = 0
      rotate_left
      · have rw_d : decide ((addL u.seen.ctx ⟨u.dot.node, u.dot.life, u.dot.count⟩).2 = 0) = false := decide_eq_false hd
        have e := en hd
        refine wp_seq_k fun _ hK2 => wp_region_lit (run S (.ge (by omega) rfl rfl <| .z) fun a w S => st_nil (then_normal (hK2 _ _ (wp_seq_k fun _ hK2 => st_else S (.t rfl) (wp_exit (then_exit (then_exit (in_here (then_normal (hK1 _ _ (wp_seq_k fun _ hK1 => wp_seq_k fun _ hK3 => wp_region_lit (run S (.fa underlying60 sizeOf3 5 rfl rfl rfl <| .ld gt3 3 rfl rfl rfl <| .yy (ys_F (by omega) (ys_gtr (.t rfl) Ev.c)) rfl <| .z) fun a w S => st_nil (then_normal (hK3 _ _ (st_else S (.t rfl) (wp_skip (then_normal (hK1 _ _ (wp_seq_k fun _ hK1 => wp_region_lit (run S (.fa underlying60 sizeOf39 7 rfl rfl rfl <| .fa underlying39 sizeOf37 8 rfl rfl rfl <| .la gt37 3 rfl rfl rfl <| .fa underlying60 sizeOf58 1 rfl rfl rfl <| .la gt58 3 rfl rfl rfl <| .z) fun a w S => ?_))))))))))))))))))))
        (refine st_m (op_calls S call87 (.cons (.t rfl) (.cons (.t rfl) .nil)) (c87 _ _ _ _ _ _ _ (by exact .old S.wd (by assumption))) rfl ?_); clear S a w; rintro _ _ ⟨A11, c11, A21, c21, rfl, rfl⟩ a w S)
        refine run S (.mv rfl <| .ex rfl rfl <| .ex rfl rfl <| .z) fun a w S => st_m (op_alloc S zeroValue37 (cs := _) rfl rfl fun g4 a w S => st_m (op_stW S sizeOf37 (.t rfl) (.t rfl) (k := 0) rfl rfl rfl (by simp [Value.oneCell']) fun a w S => run S (.as rfl <| .z) fun a w S => st_nil (then_normal (hK1 _ _ (wp_seq_k fun _ hK1 => wp_seq_k fun _ hK3 => wp_region_lit (run S (.mv rfl <| .yy (ys_T (by omega) (ys_neq (.t rfl) Ev.c)) rfl <| .z) fun a w S => st_nil (then_normal (hK3 _ _ (st_then S (.t rfl) (wp_seq_k fun _ hK3 => wp_region_lit (run S (.yy (ys_bld (ps := []) (us := [_, _, _]) bld39 .nil rfl) rfl <| .mv rfl <| .z) fun a w S => st_m (op_stW S sizeOf39 (.t rfl) (.t rfl) (k := 5) rfl rfl rfl (by simp [Value.oneCell']) fun a w S => run S (.as rfl <| .z) fun a w S => st_nil (then_normal (hK3 _ _ (wp_ret (then_ret (st_ret S (results2 S results30 (Rv.cell (k := 5) ⟨isAgg39, sizeOf39⟩ rfl rfl rfl) (Rv.tmp rfl)) ?_)))))))))))))))))
        rw [e]
        exact ⟨_, _, rfl, (((S.nil_ 58 3 Dot.enc none).nil_ 122 3 Dot.enc none).nil_ 71 6 Ent.enc none).wd.sub (by repeat (first | exact List.Sublist.refl _ | exact List.nil_sublist _ | refine .cons_cons _ ?_ | refine .cons _ ?_)), none, 0, none, 0, none, 0, rfl, rfl⟩
      have rw_d : (addL u.seen.ctx ⟨u.dot.node, u.dot.life, u.dot.count⟩).2 = 0 := hd
      by_cases hbig : 64 < (applyE u).length ∨ 32 < itemsN (applyE u)
      · have rw_b : ∀ x y : Value, (if 64 < (applyE u).length ∨ 32 < itemsN (applyE u) then x else y) = x := fun _ _ => if_pos hbig
        have e : applyU u = (Cart.zero, 51) := by rw [ey hd]; unfold sizedC; exact if_pos hbig
        refine wp_seq_k fun _ hK2 => wp_region_lit (run S (.ge (by omega) rfl rfl <| .z) fun a w S => st_nil (then_normal (hK2 _ _ (wp_seq_k fun _ hK2 => st_else S (.t rfl) (wp_exit (then_exit (then_exit (in_here (then_normal (hK1 _ _ (wp_seq_k fun _ hK1 => wp_seq_k fun _ hK3 => wp_region_lit (run S (.fa underlying60 sizeOf3 5 rfl rfl rfl <| .ld gt3 3 rfl rfl rfl <| .yy (ys_F (by omega) (ys_gtr (.t rfl) Ev.c)) rfl <| .z) fun a w S => st_nil (then_normal (hK3 _ _ (st_else S (.t rfl) (wp_skip (then_normal (hK1 _ _ (wp_seq_k fun _ hK1 => wp_region_lit (run S (.fa underlying60 sizeOf39 7 rfl rfl rfl <| .fa underlying39 sizeOf37 8 rfl rfl rfl <| .la gt37 3 rfl rfl rfl <| .fa underlying60 sizeOf58 1 rfl rfl rfl <| .la gt58 3 rfl rfl rfl <| .z) fun a w S => ?_))))))))))))))))))))
        (refine st_m (op_calls S call87 (.cons (.t rfl) (.cons (.t rfl) .nil)) (c87 _ _ _ _ _ _ _ (by exact .old S.wd (by assumption))) rfl ?_); clear S a w; rintro _ _ ⟨A11, c11, A21, c21, rfl, rfl⟩ a w S)
        rw [rw_d] at S
        refine run S (.mv rfl <| .ex rfl rfl <| .ex rfl rfl <| .z) fun a w S => st_m (op_alloc S zeroValue37 (cs := _) rfl rfl fun g4 a w S => st_m (op_stW S sizeOf37 (.t rfl) (.t rfl) (k := 0) rfl rfl rfl (by simp [Value.oneCell']) fun a w S => run S (.as rfl <| .z) fun a w S => st_nil (then_normal (hK1 _ _ (wp_seq_k fun _ hK1 => wp_seq_k fun _ hK3 => wp_region_lit (run S (.mv rfl <| .yy (ys_F (by omega) (ys_neq (.t rfl) Ev.c)) rfl <| .z) fun a w S => st_nil (then_normal (hK3 _ _ (st_else S (.t rfl) (wp_skip (then_normal (hK1 _ _ (wp_seq_k fun _ hK1 => wp_region_lit (run S (.la gt37 0 rfl rfl rfl <| .fa underlying39 sizeOf37 1 rfl rfl rfl <| .z) fun a w S => st_m (op_stA S sizeOf37 (.t rfl) (.t rfl) (k := 4) rfl rfl (by simp [Value.oneCell']) (by simp) fun a w S => st_nil (then_normal (hK1 _ _ (wp_seq_k fun _ hK1 => wp_region_lit (run S (.la gt39 4 rfl rfl rfl <| .xx (ys_call call88 (.cons (.t rfl) .nil) (fun hp w W => c88 _ _ _ _ _ _ _ _ _ (by exact Sl.of_own W (k := 3) rfl (fun _ => rfl)) (by omega))) rfl <| .z) fun a w S => ?_)))))))))))))))))))
        rw [rw_b] at S
        refine run S (.ex rfl rfl <| .ex rfl rfl <| .z) fun a w S => st_m (op_stW S sizeOf39 (.t rfl) (.t rfl) (k := 5) rfl rfl rfl (by simp [Value.oneCell']) fun a w S => run S (.as rfl <| .z) fun a w S => st_nil (then_normal (hK1 _ _ (wp_ret (st_ret S (results2 S results30 (Rv.cell (k := 5) ⟨isAgg39, sizeOf39⟩ rfl rfl rfl) (Rv.tmp rfl)) ?_)))))
        rw [e]
        exact ⟨_, _, rfl, (((S.nil_ 58 3 Dot.enc none).nil_ 122 3 Dot.enc none).nil_ 71 6 Ent.enc none).wd.sub (by repeat (first | exact List.Sublist.refl _ | exact List.nil_sublist _ | refine .cons_cons _ ?_ | refine .cons _ ?_)), none, 0, none, 0, none, 0, rfl, rfl⟩
      · have rw_b : ∀ x y : Value, (if 64 < (applyE u).length ∨ 32 < itemsN (applyE u) then x else y) = y := fun _ _ => if_neg hbig
        have e : applyU u = (⟨applyE u, (addL u.seen.ctx u.dot).1⟩, 0) := by rw [ey hd]; unfold sizedC; exact if_neg hbig
        refine wp_seq_k fun _ hK2 => wp_region_lit (run S (.ge (by omega) rfl rfl <| .z) fun a w S => st_nil (then_normal (hK2 _ _ (wp_seq_k fun _ hK2 => st_else S (.t rfl) (wp_exit (then_exit (then_exit (in_here (then_normal (hK1 _ _ (wp_seq_k fun _ hK1 => wp_seq_k fun _ hK3 => wp_region_lit (run S (.fa underlying60 sizeOf3 5 rfl rfl rfl <| .ld gt3 3 rfl rfl rfl <| .yy (ys_F (by omega) (ys_gtr (.t rfl) Ev.c)) rfl <| .z) fun a w S => st_nil (then_normal (hK3 _ _ (st_else S (.t rfl) (wp_skip (then_normal (hK1 _ _ (wp_seq_k fun _ hK1 => wp_region_lit (run S (.fa underlying60 sizeOf39 7 rfl rfl rfl <| .fa underlying39 sizeOf37 8 rfl rfl rfl <| .la gt37 3 rfl rfl rfl <| .fa underlying60 sizeOf58 1 rfl rfl rfl <| .la gt58 3 rfl rfl rfl <| .z) fun a w S => ?_))))))))))))))))))))
        (refine st_m (op_calls S call87 (.cons (.t rfl) (.cons (.t rfl) .nil)) (c87 _ _ _ _ _ _ _ (by exact .old S.wd (by assumption))) rfl ?_); clear S a w; rintro _ _ ⟨A11, c11, A21, c21, rfl, rfl⟩ a w S)
        rw [rw_d] at S
        refine run S (.mv rfl <| .ex rfl rfl <| .ex rfl rfl <| .z) fun a w S => st_m (op_alloc S zeroValue37 (cs := _) rfl rfl fun g4 a w S => st_m (op_stW S sizeOf37 (.t rfl) (.t rfl) (k := 0) rfl rfl rfl (by simp [Value.oneCell']) fun a w S => run S (.as rfl <| .z) fun a w S => st_nil (then_normal (hK1 _ _ (wp_seq_k fun _ hK1 => wp_seq_k fun _ hK3 => wp_region_lit (run S (.mv rfl <| .yy (ys_F (by omega) (ys_neq (.t rfl) Ev.c)) rfl <| .z) fun a w S => st_nil (then_normal (hK3 _ _ (st_else S (.t rfl) (wp_skip (then_normal (hK1 _ _ (wp_seq_k fun _ hK1 => wp_region_lit (run S (.la gt37 0 rfl rfl rfl <| .fa underlying39 sizeOf37 1 rfl rfl rfl <| .z) fun a w S => st_m (op_stA S sizeOf37 (.t rfl) (.t rfl) (k := 4) rfl rfl (by simp [Value.oneCell']) (by simp) fun a w S => st_nil (then_normal (hK1 _ _ (wp_seq_k fun _ hK1 => wp_region_lit (run S (.la gt39 4 rfl rfl rfl <| .xx (ys_call call88 (.cons (.t rfl) .nil) (fun hp w W => c88 _ _ _ _ _ _ _ _ _ (by exact Sl.of_own W (k := 3) rfl (fun _ => rfl)) (by omega))) rfl <| .z) fun a w S => ?_)))))))))))))))))))
        rw [rw_b] at S
        refine run S (.ex rfl rfl <| .ex rfl rfl <| .z) fun a w S => st_m (op_stW S sizeOf39 (.t rfl) (.t rfl) (k := 5) rfl rfl rfl (by simp [Value.oneCell']) fun a w S => run S (.as rfl <| .z) fun a w S => st_nil (then_normal (hK1 _ _ (wp_ret (st_ret S (results2 S results30 (Rv.cell (k := 5) ⟨isAgg39, sizeOf39⟩ rfl rfl rfl) (Rv.tmp rfl)) ?_)))))
        rw [e]
        exact ⟨_, _, rfl, S.wd.picks (by repeat (first | exact Picks.nil | (refine Picks.rest ?_; (repeat (first | exact List.Sublist.refl _ | refine List.Sublist.cons_cons _ ?_ | refine List.Sublist.cons _ ?_)); done) | refine Picks.take 0 rfl ?_ | refine Picks.take 1 rfl ?_ | refine Picks.take 2 rfl ?_ | refine Picks.take 3 rfl ?_ | refine Picks.take 4 rfl ?_ | refine Picks.take 5 rfl ?_ | refine Picks.take 6 rfl ?_ | refine Picks.take 7 rfl ?_ | refine Picks.take 8 rfl ?_ | refine Picks.take 9 rfl ?_ | refine Picks.take 10 rfl ?_ | refine Picks.take 11 rfl ?_)), _, _, _, _, _, _, rfl, rfl⟩
end Go.Proofs.YtfblmkocmnbdcaaGreat
set_option linter.unusedVariables false
set_option linter.unusedSimpArgs false
set_option maxRecDepth 100000
set_option maxHeartbeats 4000000
namespace Go.Fw
theorem cart_same {X Y : Cart} : (decide (X.ents = Y.ents) && decide (X.ctx = Y.ctx)) = decide (X = Y) := by
  cases X; cases Y; simp
end Go.Fw
namespace Go.Proofs.YtfblmkocmnbdcaaGreat
open Go.Fw Go.Proofs Go.RowKit Go.Proofs.Tryz
theorem c20 (w0 : World) (v1 v2 v3 : Value) (X : Cart) (h : Sl Ent.enc 6 w0 w0.heap.size v1 X.ents) (hr : RdCtx w0 w0.heap.size v2 v3 X.ctx) (hl1 : X.ents.length ≤ 1048576) (hl2 : X.ctx.marks.length ≤ 1048576) (hl3 : X.ctx.cloud.length ≤ 1048576) :
    Rets Tryz.prog 20 #[.agg #[v1, v2, v3]] w0 fun v L => ∃ A1 c1 A2 c2 A3 c3, v = .agg #[.slice A1 X.ents.length c1, .slice A2 X.ctx.marks.length c2, .slice A3 X.ctx.cloud.length c3] ∧
      L = [rowOf 71 6 Ent.enc A1 c1 X.ents, rowOf 122 3 Dot.enc A2 c2 X.ctx.marks, rowOf 58 3 Dot.enc A3 c3 X.ctx.cloud] := by
  have hs := h
  have hrr := hr
  obtain ⟨A, cap, rfl, hl, hcap, hA⟩ := h
  obtain ⟨⟨A2, cap2, rfl, _⟩, ⟨A3, cap3, rfl, _⟩⟩ := hr
  unfold Go.Fw.Rets
  refine enter1 func20 rfl ntmps20 rfl fun a S => wp_seq_k fun _ hK1 => wp_region_lit (st_m (op_box S (.t rfl) rfl fun g1 a w S => st_m (op_alloc S zeroValue39 (cs := _) rfl rfl fun g2 a w S => st_nil (then_normal (hK1 _ _ (wp_seq_k fun _ hK1 => h_beginE S (by kernel_rfl) 0 fun a w S => h_y (i := 0) S (by repeat (first | exact List.Sublist.refl _ | exact List.nil_sublist _ | refine .cons_cons _ ?_ | refine .cons _ ?_)) rfl (by kernel_rfl) (by kernel_rfl) (by kernel_rfl) (fun _ _ _ _ h => h) (ys_fieldN (FieldT.mk underlying39 rfl sizeOf33 rfl) (.t rfl) (i' := 0) rfl) rfl fun a w S => h_y (i := 1) S (by repeat (first | exact List.Sublist.refl _ | exact List.nil_sublist _ | refine .cons_cons _ ?_ | refine .cons _ ?_)) rfl (by kernel_rfl) (by kernel_rfl) (by kernel_rfl) (fun _ _ _ _ h => h) (ys_ld ⟨isAgg33, sizeOf33⟩ (.t rfl) (k := 0) rfl rfl) rfl fun a w S => h_y (i := 3) S (by repeat (first | exact List.Sublist.refl _ | exact List.nil_sublist _ | refine .cons_cons _ ?_ | refine .cons _ ?_)) rfl (by kernel_rfl) (by kernel_rfl) (by kernel_rfl) (fun _ _ _ _ h => h) (ys_fieldN (FieldT.mk underlying39 rfl sizeOf37 rfl) (.t rfl) (i' := 1) rfl) rfl fun a w S => ?_))))))
  refine h_y (i := 4) S (by repeat (first | exact List.Sublist.refl _ | exact List.nil_sublist _ | refine .cons_cons _ ?_ | refine .cons _ ?_)) rfl (by kernel_rfl) (by kernel_rfl) (by kernel_rfl) (fun _ _ _ _ h => h) (ys_ldA ⟨isAgg37, sizeOf37⟩ (.t rfl) (k := 0) rfl rfl) rfl fun a w S => ?_
  (refine h_m (i := 2) rfl (by kernel_rfl) (op_calls S call67 (.cons (.t rfl) .nil) (c67 _ _ _ (by exact .old S.wd (by assumption)) (by omega)) rfl ?_); clear S a w; rintro _ _ ⟨A1, c1, rfl, rfl⟩ a w S; refine h_on S _ (List.Sublist.refl _) (by repeat (first | exact List.Sublist.refl _ | exact List.nil_sublist _ | refine .cons_cons _ ?_ | refine .cons _ ?_)) ?_)
  (refine h_m (i := 5) rfl (by kernel_rfl) (op_calls S call68 (.cons (.t rfl) .nil) (c68 _ _ _ _ (by exact .old S.wd (by assumption)) (by assumption) (by assumption)) rfl ?_); clear S a w; rintro _ _ ⟨A11, c11, A21, c21, rfl, rfl⟩ a w S; refine h_on S _ (List.Sublist.refl _) (by repeat (first | exact List.Sublist.refl _ | exact List.nil_sublist _ | refine .cons_cons _ ?_ | refine .cons _ ?_)) ?_)
  refine h_y (i := 6) S (by repeat (first | exact List.Sublist.refl _ | exact List.nil_sublist _ | refine .cons_cons _ ?_ | refine .cons _ ?_)) rfl (by kernel_rfl) (by kernel_rfl) (by kernel_rfl) (fun _ _ _ _ h => h) (ys_bld (ps := [(0, Go.Operand.tmp 5), (1, Go.Operand.tmp 8)]) (us := [_, _, _]) bld39 (.cons (.t rfl) (.cons (.t rfl) .nil)) rfl) rfl fun a w S => ?_
  (refine h_m0 (i := 7) rfl (by kernel_rfl) (op_stW S sizeOf39 (.t rfl) (.t rfl) (k := 3) rfl rfl rfl (by simp [Value.oneCell']) ?_); clear S a w; intro a w S; refine h_on S _ (List.Sublist.refl _) (by repeat (first | exact List.Sublist.refl _ | exact List.nil_sublist _ | refine .cons_cons _ ?_ | refine .cons _ ?_)) ?_)
  refine h_done (by kernel_rfl) (then_normal (hK1 _ _ (wp_ret (st_ret S (results1 S results20 (Rv.cell (k := 3) ⟨isAgg39, sizeOf39⟩ rfl rfl rfl)) ?_))))
  exact ⟨_, _, rfl, S.wd.picks (by repeat (first | exact Picks.nil | (refine Picks.rest ?_; (repeat (first | exact List.Sublist.refl _ | refine List.Sublist.cons_cons _ ?_ | refine List.Sublist.cons _ ?_)); done) | refine Picks.take 0 rfl ?_ | refine Picks.take 1 rfl ?_ | refine Picks.take 2 rfl ?_ | refine Picks.take 3 rfl ?_ | refine Picks.take 4 rfl ?_ | refine Picks.take 5 rfl ?_ | refine Picks.take 6 rfl ?_ | refine Picks.take 7 rfl ?_ | refine Picks.take 8 rfl ?_ | refine Picks.take 9 rfl ?_ | refine Picks.take 10 rfl ?_ | refine Picks.take 11 rfl ?_)), _, _, _, _, _, _, rfl, rfl⟩
theorem c17 (w0 : World) (v1 v2 v3 v4 v5 v6 : Value) (X Y : Cart) (h : Sl Ent.enc 6 w0 w0.heap.size v1 X.ents) (hr : RdCtx w0 w0.heap.size v2 v3 X.ctx) (h' : Sl Ent.enc 6 w0 w0.heap.size v4 Y.ents) (hr' : RdCtx w0 w0.heap.size v5 v6 Y.ctx) :
    Calls Tryz.prog 17 #[.agg #[v1, v2, v3], .agg #[v4, v5, v6]] w0 fun e w' => e = .returned (.bool (decide (X = Y))) ∧ Bel w0.heap.size w0 w' := by
  have hs := h
  have hrr := hr
  have hs' := h'
  have hrr' := hr'
  obtain ⟨A, cap, rfl, hl, hcap, hA⟩ := h
  obtain ⟨⟨A2, cap2, rfl, _⟩, ⟨A3, cap3, rfl, _⟩⟩ := hr
  obtain ⟨B, capB, rfl, hlB, hcapB, hB⟩ := h'
  obtain ⟨⟨B2, capB2, rfl, _⟩, ⟨B3, capB3, rfl, _⟩⟩ := hr'
  refine enter2 func17 rfl ntmps17 rfl fun a S => wp_seq_k fun _ hK1 => wp_region_lit (st_m (op_box S (.t rfl) rfl fun g1 a w S => st_m (op_box S (.t rfl) rfl fun g2 a w S => run S (.ac rfl <| .z) fun a w S => st_nil (then_normal (hK1 _ _ (wp_seq_k fun _ hK1 => wp_region_lit (run S (.fa underlying39 sizeOf33 0 rfl rfl rfl <| .ld gt33 1 rfl rfl rfl <| .fa underlying39 sizeOf33 0 rfl rfl rfl <| .ld gt33 0 rfl rfl rfl <| .xx (ys_call call61 (.cons (.t rfl) (.cons (.t rfl) .nil)) (fun hp w W => c61 _ _ _ _ _ (by exact .old W (by assumption)) (by exact .old W (by assumption)))) rfl <| .mv rfl <| .z) fun a w S => st_yg S rfl rfl (Yr.ys (ys_fieldN (FieldT.mk underlying39 rfl sizeOf37 rfl) (.t rfl) (i' := 1) rfl)) rfl fun a w S => st_yg S rfl rfl (Yr.ys (ys_ldA ⟨isAgg37, sizeOf37⟩ (Ev.g rfl) (k := 1) rfl rfl)) rfl fun a w S => st_yg S rfl rfl (Yr.ys (ys_fieldN (FieldT.mk underlying39 rfl sizeOf37 rfl) (.t rfl) (i' := 1) rfl)) rfl fun a w S => st_yg S rfl rfl (Yr.ys (ys_ldA ⟨isAgg37, sizeOf37⟩ (Ev.g rfl) (k := 0) rfl rfl)) rfl fun a w S => st_yg S rfl rfl (ys_call call62 (.cons (Ev.g rfl) (.cons (Ev.g rfl) .nil)) (fun hp w W => c62 _ _ _ _ _ _ _ (by exact .old W (by assumption)) (by exact .old W (by assumption)))) rfl fun a w S => run S (.yy (ys_and (.t rfl) (Ev.g rfl) Ev.c) rfl <| .as rfl <| .z) fun a w S => st_nil (then_normal (hK1 _ _ (wp_ret ?_))))))))))
  refine st_ret S (results1 S results17 (Rv.tmp rfl)) ?_
  exact ⟨by rw [cart_same], S.wd.below⟩
end Go.Proofs.YtfblmkocmnbdcaaGreat
set_option linter.unusedVariables false
set_option linter.unusedSimpArgs false
set_option maxRecDepth 100000
set_option maxHeartbeats 4000000
namespace Go.Proofs.YtfblmkocmnbdcaaGreat
open Go.Fw Go.Proofs Go.RowKit Go.Proofs.Tryz
theorem c28 (w0 : World) (u : Upd) (v1 v2 v3 : Value) (h : Sl Ent.enc 6 w0 w0.heap.size v1 u.seen.ents) (hr : RdCtx w0 w0.heap.size v2 v3 u.seen.ctx) (hl1 : u.seen.ents.length ≤ 1048576) (hl2 : u.seen.ctx.marks.length ≤ 1048576) (hl3 : u.seen.ctx.cloud.length ≤ 1048576) :
    Rets Tryz.prog 28 #[.agg (Upd.enc u v1 v2 v3).toArray] w0 fun v L => ∃ A1 c1 A2 c2 A3 c3, v = .agg (Upd.enc u (.slice A1 u.seen.ents.length c1) (.slice A2 u.seen.ctx.marks.length c2) (.slice A3 u.seen.ctx.cloud.length c3)).toArray ∧
      L = [rowOf 71 6 Ent.enc A1 c1 u.seen.ents, rowOf 122 3 Dot.enc A2 c2 u.seen.ctx.marks, rowOf 58 3 Dot.enc A3 c3 u.seen.ctx.cloud] := by
  have hs := h
  have hrr := hr
  obtain ⟨A, cap, rfl, hl, hcap, hA⟩ := h
  obtain ⟨⟨A2, cap2, rfl, _⟩, ⟨A3, cap3, rfl, _⟩⟩ := hr
  unfold Go.Fw.Rets
  refine enter1 func28 rfl ntmps28 rfl fun a S => wp_seq_k fun _ hK1 => wp_region_lit (st_m (op_box S (.t rfl) rfl fun g1 a w S => st_m (op_alloc S zeroValue60 (cs := _) rfl rfl fun g2 a w S => st_nil (then_normal (hK1 _ _ (wp_seq_k fun _ hK1 => wp_region_lit (run S (.fa underlying60 sizeOf39 7 rfl rfl rfl <| .la gt39 1 rfl rfl rfl <| .z) fun a w S => ?_)))))))
  (refine st_m (op_calls S call20 (.cons (.t rfl) .nil) (c20 _ _ _ _ _ (by exact .old S.wd (by assumption)) (by exact .old S.wd (by assumption)) (by assumption) (by assumption) (by assumption)) rfl ?_); clear S a w; rintro _ _ ⟨A11, c11, A21, c21, A31, c31, rfl, rfl⟩ a w S)
  refine run S (.fa underlying60 sizeOf39 7 rfl rfl rfl <| .z) fun a w S => st_m (op_stA S sizeOf39 (.t rfl) (.t rfl) (k := 4) rfl rfl (by simp [Value.oneCell']) (by simp) fun a w S => st_nil (then_normal (hK1 _ _ (wp_seq_k fun _ hK1 => wp_region_lit (run S (.la gt60 4 rfl rfl rfl <| .z) fun a w S => st_m (op_stW S sizeOf60 (.t rfl) (.t rfl) (k := 3) rfl rfl rfl (by simp [Value.oneCell']) fun a w S => st_nil (then_normal (hK1 _ _ (wp_ret (st_ret S (results1 S results28 (Rv.cell (k := 3) ⟨isAgg60, sizeOf60⟩ rfl rfl rfl)) ?_))))))))))
  exact ⟨_, _, rfl, S.wd.picks (by repeat (first | exact Picks.nil | (refine Picks.rest ?_; (repeat (first | exact List.Sublist.refl _ | refine List.Sublist.cons_cons _ ?_ | refine List.Sublist.cons _ ?_)); done) | refine Picks.take 0 rfl ?_ | refine Picks.take 1 rfl ?_ | refine Picks.take 2 rfl ?_ | refine Picks.take 3 rfl ?_ | refine Picks.take 4 rfl ?_ | refine Picks.take 5 rfl ?_ | refine Picks.take 6 rfl ?_ | refine Picks.take 7 rfl ?_ | refine Picks.take 8 rfl ?_ | refine Picks.take 9 rfl ?_ | refine Picks.take 10 rfl ?_ | refine Picks.take 11 rfl ?_)), _, _, _, _, _, _, rfl, rfl⟩
theorem c31 (w0 : World) (v1 v2 v3 v4 v5 v6 : Value) (u u' : Upd) (h : Sl Ent.enc 6 w0 w0.heap.size v1 u.seen.ents) (hr : RdCtx w0 w0.heap.size v2 v3 u.seen.ctx) (h' : Sl Ent.enc 6 w0 w0.heap.size v4 u'.seen.ents) (hr' : RdCtx w0 w0.heap.size v5 v6 u'.seen.ctx) (he : u = u') :
    Calls Tryz.prog 31 #[.agg (Upd.enc u v1 v2 v3).toArray, .agg (Upd.enc u' v4 v5 v6).toArray] w0 fun e w' => e = .returned (.bool true) ∧ Bel w0.heap.size w0 w' := by
  have hs := h
  have hrr := hr
  have hs' := h'
  have hrr' := hr'
  subst he
  obtain ⟨A, cap, rfl, hl, hcap, hA⟩ := h
  obtain ⟨⟨A2, cap2, rfl, _⟩, ⟨A3, cap3, rfl, _⟩⟩ := hr
  obtain ⟨B, capB, rfl, hlB, hcapB, hB⟩ := h'
  obtain ⟨⟨B2, capB2, rfl, _⟩, ⟨B3, capB3, rfl, _⟩⟩ := hr'
  refine enter2 func31 rfl ntmps31 rfl fun a S => wp_seq_k fun _ hK1 => wp_region_lit (st_m (op_box S (.t rfl) rfl fun g1 a w S => st_m (op_box S (.t rfl) rfl fun g2 a w S => run S (.ac rfl <| .z) fun a w S => st_nil (then_normal (hK1 _ _ (wp_seq_k fun _ hK1 => wp_region_lit (run S (.fa underlying60 sizeOf9 0 rfl rfl rfl <| .ld gt9 1 rfl rfl rfl <| .fa underlying60 sizeOf9 0 rfl rfl rfl <| .ld gt9 0 rfl rfl rfl <| .yy (ys_eqlStr (.t rfl) (.t rfl)) rfl <| .mv rfl <| .z) fun a w S => st_yg S rfl rfl (Yr.ys (ys_fieldN (FieldT.mk underlying60 rfl sizeOf58 rfl) (.t rfl) (i' := 1) rfl)) rfl fun a w S => st_yg S rfl rfl (Yr.ys (ys_ldA ⟨isAgg58, sizeOf58⟩ (Ev.g rfl) (k := 1) rfl rfl)) rfl fun a w S => st_yg S rfl rfl (Yr.ys (ys_fieldN (FieldT.mk underlying60 rfl sizeOf58 rfl) (.t rfl) (i' := 1) rfl)) rfl fun a w S => st_yg S rfl rfl (Yr.ys (ys_ldA ⟨isAgg58, sizeOf58⟩ (Ev.g rfl) (k := 0) rfl rfl)) rfl fun a w S => st_yg S rfl rfl (Yr.ys (ys_eqA (Ev.g rfl) (Ev.g rfl) eq58)) rfl fun a w S => run S (.yy (ys_and (.t rfl) (Ev.g rfl) Ev.c) rfl <| .mv rfl <| .z) fun a w S => st_yg S rfl rfl (Yr.ys (ys_fieldN (FieldT.mk underlying60 rfl sizeOf9 rfl) (.t rfl) (i' := 4) rfl)) rfl fun a w S => st_yg S rfl rfl (Yr.ys (ys_ld ⟨isAgg9, sizeOf9⟩ (Ev.g rfl) (k := 1) rfl rfl)) rfl fun a w S => ?_)))))))
  refine st_yg S rfl rfl (Yr.ys (ys_fieldN (FieldT.mk underlying60 rfl sizeOf9 rfl) (.t rfl) (i' := 4) rfl)) rfl fun a w S => st_yg S rfl rfl (Yr.ys (ys_ld ⟨isAgg9, sizeOf9⟩ (Ev.g rfl) (k := 0) rfl rfl)) rfl fun a w S => st_yg S rfl rfl (Yr.ys (ys_eqlStr (Ev.g rfl) (Ev.g rfl))) rfl fun a w S => run S (.yy (ys_and (.t rfl) (Ev.g rfl) Ev.c) rfl <| .mv rfl <| .z) fun a w S => st_yg S rfl rfl (Yr.ys (ys_fieldN (FieldT.mk underlying60 rfl sizeOf3 rfl) (.t rfl) (i' := 5) rfl)) rfl fun a w S => st_yg S rfl rfl (Yr.ys (ys_ld ⟨isAgg3, sizeOf3⟩ (Ev.g rfl) (k := 1) rfl rfl)) rfl fun a w S => st_yg S rfl rfl (Yr.ys (ys_fieldN (FieldT.mk underlying60 rfl sizeOf3 rfl) (.t rfl) (i' := 5) rfl)) rfl fun a w S => st_yg S rfl rfl (Yr.ys (ys_ld ⟨isAgg3, sizeOf3⟩ (Ev.g rfl) (k := 0) rfl rfl)) rfl fun a w S => st_yg S rfl rfl (Yr.ys (ys_T (by omega) (ys_eql (Ev.g rfl) (Ev.g rfl)))) rfl fun a w S => run S (.yy (ys_andT (.t rfl) (Ev.g rfl) Ev.c) rfl <| .mv rfl <| .z) fun a w S => st_yg S rfl rfl (Yr.ys (ys_fieldN (FieldT.mk underlying60 rfl sizeOf27 rfl) (.t rfl) (i' := 6) rfl)) rfl fun a w S => st_yg S rfl rfl (Yr.ys (ys_ld ⟨isAgg27, sizeOf27⟩ (Ev.g rfl) (k := 1) rfl rfl)) rfl fun a w S => st_yg S rfl rfl (Yr.ys (ys_fieldN (FieldT.mk underlying60 rfl sizeOf27 rfl) (.t rfl) (i' := 6) rfl)) rfl fun a w S => ?_
  refine st_yg S rfl rfl (Yr.ys (ys_ld ⟨isAgg27, sizeOf27⟩ (Ev.g rfl) (k := 0) rfl rfl)) rfl fun a w S => st_yg S rfl rfl (Yr.ys (ys_T (by omega) (ys_eql (Ev.g rfl) (Ev.g rfl)))) rfl fun a w S => run S (.yy (ys_andT (.t rfl) (Ev.g rfl) Ev.c) rfl <| .mv rfl <| .z) fun a w S => st_yg S rfl rfl (Yr.ys (ys_fieldN (FieldT.mk underlying60 rfl sizeOf39 rfl) (.t rfl) (i' := 7) rfl)) rfl fun a w S => st_yg S rfl rfl (Yr.ys (ys_ldA ⟨isAgg39, sizeOf39⟩ (Ev.g rfl) (k := 1) rfl rfl)) rfl fun a w S => st_yg S rfl rfl (Yr.ys (ys_fieldN (FieldT.mk underlying60 rfl sizeOf39 rfl) (.t rfl) (i' := 7) rfl)) rfl fun a w S => st_yg S rfl rfl (Yr.ys (ys_ldA ⟨isAgg39, sizeOf39⟩ (Ev.g rfl) (k := 0) rfl rfl)) rfl fun a w S => st_yg S rfl rfl (ys_call call17 (.cons (Ev.g rfl) (.cons (Ev.g rfl) .nil)) (fun hp w W => c17 _ _ _ _ _ _ _ _ _ (by exact .old W (by assumption)) (by exact .old W (by assumption)) (by exact .old W (by assumption)) (by exact .old W (by assumption)))) rfl fun a w S => ?_
  simp only [List.nil_append] at S
  refine run S (.yy (ys_pickT (.t rfl) (Ev.g rfl)) rfl <| .as rfl <| .z) fun a w S => st_nil (then_normal (hK1 _ _ (wp_ret (st_ret S (results1 S results31 (Rv.tmp rfl)) ?_))))
  exact ⟨by rw [decide_eq_true True.intro], S.wd.below⟩
theorem c32 {w0 w : World} {L : List Chunk} {A1 A2 A3 : Option Addr} {c1 c2 c3 : Nat} {X : Cart} (W : Wd w0 (rowOf 71 6 Ent.enc A1 c1 X.ents :: rowOf 122 3 Dot.enc A2 c2 X.ctx.marks :: rowOf 58 3 Dot.enc A3 c3 X.ctx.cloud :: L) w) (hl1 : X.ents.length ≤ 1048576) (hl2 : X.ctx.marks.length ≤ 1048576) (hl3 : X.ctx.cloud.length ≤ 1048576) :
    RetsO Tryz.prog 32 #[.agg #[.slice A1 X.ents.length c1, .slice A2 X.ctx.marks.length c2, .slice A3 X.ctx.cloud.length c3]] w0 w fun v L' => v = .tuple #[] ∧ L' = L := by
  have hr1 := (W.room (k := 0) rfl).1
  have hr2 := (W.room (k := 1) rfl).1
  have hr3 := (W.room (k := 2) rfl).1
  unfold Go.Fw.RetsO
  refine enterW1 W func32 rfl ntmps32 rfl fun a S => wp_seq_k fun _ hK1 => wp_region_lit (st_m (op_box S (.t rfl) rfl fun g1 a w S => st_nil (then_normal (hK1 _ _ (wp_seq_k fun _ hK1 => wp_seq_k fun _ hK2 => wp_region_lit (run S (.fa underlying39 sizeOf33 0 rfl rfl rfl <| .ld gt33 0 rfl rfl rfl <| .ln underlying33 rfl <| .mc rfl <| .z) fun a w S => st_nil (then_normal (hK2 _ _ (wp_block ?_)))))))))
  refine st_loopM S [8] (X := Nat × List Ent) (fun q => [(8, true, .int .i64 (q.1 : Int))]) (fun q => .blk g1 (.cells #[.slice A1 X.ents.length c1, .slice A2 X.ctx.marks.length c2, .slice A3 X.ctx.cloud.length c3] 39) :: rowOf 71 6 Ent.enc A1 c1 q.2 :: rowOf 122 3 Dot.enc A2 c2 X.ctx.marks :: rowOf 58 3 Dot.enc A3 c3 X.ctx.cloud :: L)
    (fun q => q.1 ≤ X.ents.length ∧ q.2.length = X.ents.length) (fun q => X.ents.length - q.1) (0, X.ents) ⟨Nat.zero_le _, rfl⟩ (by repeat (first | exact Fits.nil | refine Fits.skip rfl ?_ | refine Fits.cons rfl ?_)) (by repeat (first | exact Picks.nil | (refine Picks.rest ?_; (repeat (first | exact List.Sublist.refl _ | refine List.Sublist.cons_cons _ ?_ | refine List.Sublist.cons _ ?_)); done) | refine Picks.take 0 rfl ?_ | refine Picks.take 1 rfl ?_ | refine Picks.take 2 rfl ?_ | refine Picks.take 3 rfl ?_ | refine Picks.take 4 rfl ?_ | refine Picks.take 5 rfl ?_ | refine Picks.take 6 rfl ?_ | refine Picks.take 7 rfl ?_ | refine Picks.take 8 rfl ?_ | refine Picks.take 9 rfl ?_ | refine Picks.take 10 rfl ?_ | refine Picks.take 11 rfl ?_)) ?_
  clear S
  rintro ⟨k, l⟩ a w ⟨hk, hln⟩ S
  dsimp only at hk hln S
  by_cases hlt : k < X.ents.length
  · obtain ⟨x, hx⟩ : ∃ x, l[k]? = some x := ⟨l[k]'(by omega), List.getElem?_eq_getElem _⟩
    obtain ⟨g, rfl⟩ := S.wd.row_at (k := 1) rfl (by omega)
    refine wp_seq_k fun _ hK2 => wp_region_lit (run S (.lt (by omega) rfl rfl <| .z) fun a w S => st_nil (then_normal (hK2 _ _ (wp_seq_k fun _ hK2 => st_then S (.t rfl) (wp_skip (then_normal (hK2 _ _ (wp_seq_k fun _ hK2 => wp_block (wp_seq_k fun _ hK3 => wp_region_lit (run S (.mv rfl <| .as rfl <| .z) fun a w S => st_nil (then_normal (hK3 _ _ (wp_region_lit (run S (.fa underlying39 sizeOf33 0 rfl rfl rfl <| .ld gt33 0 rfl rfl rfl <| .mv rfl <| .yy (ys_bld (ps := [(0, _)]) (us := [_, _, _, _, _, _]) bld71 (.cons Ev.c .nil) rfl) rfl <| .ix underlying33 sizeOf71 (by omega) rfl rfl <| .z) fun a w S => st_m (op_stRow (enc := Ent.enc) (size := 6) (i := k) (l := l) (yn := ⟨[33], ⟨0, 0, 0⟩, 0, 0⟩) S (fun _ => rfl) rfl sizeOf71 (.t rfl) (.t rfl) rfl (by simp [Value.oneCell']) (k := 1) rfl hx (Nat.zero_add _) ?_)))))))))))))))
    clear S
    intro a w S
    refine st_nil (in_normal (then_normal (hK2 _ _ (wp_region_lit (run S (.ad (by unfold I64; omega) rfl <| .mv rfl <| .z) fun a w S => st_nil (then_normal ?_))))))
    exact ⟨(k + 1, l.set k ⟨[33], ⟨0, 0, 0⟩, 0, 0⟩), ⟨by dsimp only; omega, by dsimp only; rw [List.length_set]; exact hln⟩, by dsimp only; omega, S.picks (by repeat (first | exact Fits.nil | refine Fits.skip rfl ?_ | refine Fits.cons rfl ?_)) (by repeat (first | exact Picks.nil | (refine Picks.rest ?_; (repeat (first | exact List.Sublist.refl _ | refine List.Sublist.cons_cons _ ?_ | refine List.Sublist.cons _ ?_)); done) | refine Picks.take 0 rfl ?_ | refine Picks.take 1 rfl ?_ | refine Picks.take 2 rfl ?_ | refine Picks.take 3 rfl ?_ | refine Picks.take 4 rfl ?_ | refine Picks.take 5 rfl ?_ | refine Picks.take 6 rfl ?_ | refine Picks.take 7 rfl ?_ | refine Picks.take 8 rfl ?_ | refine Picks.take 9 rfl ?_ | refine Picks.take 10 rfl ?_ | refine Picks.take 11 rfl ?_))⟩
  obtain rfl : k = X.ents.length := by omega
  clear hlt hk
  refine wp_seq_k fun _ hK2 => wp_region_lit (run S (.ge (by omega) rfl rfl <| .z) fun a w S => st_nil (then_normal (hK2 _ _ (wp_seq_k fun _ hK2 => st_else S (.t rfl) (wp_exit (then_exit (then_exit (in_here (then_normal (hK1 _ _ (wp_seq_k fun _ hK1 => wp_seq_k fun _ hK3 => wp_region_lit (run S (.fa underlying39 sizeOf37 1 rfl rfl rfl <| .fa underlying37 sizeOf34 1 rfl rfl rfl <| .ld gt34 0 rfl rfl rfl <| .ln underlying34 rfl <| .mc rfl <| .z) fun a w S => st_nil (then_normal (hK3 _ _ (wp_block ?_)))))))))))))))
  refine st_loopM S [21] (X := Nat × List Dot) (fun q => [(21, true, .int .i64 (q.1 : Int))]) (fun q => .blk g1 (.cells #[.slice A1 X.ents.length c1, .slice A2 X.ctx.marks.length c2, .slice A3 X.ctx.cloud.length c3] 39) :: rowOf 122 3 Dot.enc A2 c2 q.2 :: rowOf 58 3 Dot.enc A3 c3 X.ctx.cloud :: L)
    (fun q => q.1 ≤ X.ctx.marks.length ∧ q.2.length = X.ctx.marks.length) (fun q => X.ctx.marks.length - q.1) (0, X.ctx.marks) ⟨Nat.zero_le _, rfl⟩ (by repeat (first | exact Fits.nil | refine Fits.skip rfl ?_ | refine Fits.cons rfl ?_)) (by repeat (first | exact Picks.nil | (refine Picks.rest ?_; (repeat (first | exact List.Sublist.refl _ | refine List.Sublist.cons_cons _ ?_ | refine List.Sublist.cons _ ?_)); done) | refine Picks.take 0 rfl ?_ | refine Picks.take 1 rfl ?_ | refine Picks.take 2 rfl ?_ | refine Picks.take 3 rfl ?_ | refine Picks.take 4 rfl ?_ | refine Picks.take 5 rfl ?_ | refine Picks.take 6 rfl ?_ | refine Picks.take 7 rfl ?_ | refine Picks.take 8 rfl ?_ | refine Picks.take 9 rfl ?_ | refine Picks.take 10 rfl ?_ | refine Picks.take 11 rfl ?_)) ?_
  clear S
  rintro ⟨k, l⟩ a w ⟨hk, hln⟩ S
  dsimp only at hk hln S
  by_cases hlt : k < X.ctx.marks.length
  · obtain ⟨x, hx⟩ : ∃ x, l[k]? = some x := ⟨l[k]'(by omega), List.getElem?_eq_getElem _⟩
    obtain ⟨g, rfl⟩ := S.wd.row_at (k := 1) rfl (by omega)
    refine wp_seq_k fun _ hK3 => wp_region_lit (run S (.lt (by omega) rfl rfl <| .z) fun a w S => st_nil (then_normal (hK3 _ _ (wp_seq_k fun _ hK3 => st_then S (.t rfl) (wp_skip (then_normal (hK3 _ _ (wp_seq_k fun _ hK3 => wp_block (wp_seq_k fun _ hK4 => wp_region_lit (run S (.mv rfl <| .as rfl <| .z) fun a w S => st_nil (then_normal (hK4 _ _ (wp_region_lit (run S (.fa underlying39 sizeOf37 1 rfl rfl rfl <| .fa underlying37 sizeOf34 1 rfl rfl rfl <| .ld gt34 0 rfl rfl rfl <| .mv rfl <| .yy (ys_bld (ps := [(0, _)]) (us := [_, _, _]) bld122 (.cons Ev.c .nil) rfl) rfl <| .ix underlying34 sizeOf122 (by omega) rfl rfl <| .z) fun a w S => st_m (op_stRow (enc := Dot.enc) (size := 3) (i := k) (l := l) (yn := ⟨99, 0, 0⟩) S (fun _ => rfl) rfl sizeOf122 (.t rfl) (.t rfl) rfl (by simp [Value.oneCell']) (k := 1) rfl hx (Nat.zero_add _) ?_)))))))))))))))
    clear S
    intro a w S
    refine st_nil (in_normal (then_normal (hK3 _ _ (wp_region_lit (run S (.ad (by unfold I64; omega) rfl <| .mv rfl <| .z) fun a w S => st_nil (then_normal ?_))))))
    exact ⟨(k + 1, l.set k ⟨99, 0, 0⟩), ⟨by dsimp only; omega, by dsimp only; rw [List.length_set]; exact hln⟩, by dsimp only; omega, S.picks (by repeat (first | exact Fits.nil | refine Fits.skip rfl ?_ | refine Fits.cons rfl ?_)) (by repeat (first | exact Picks.nil | (refine Picks.rest ?_; (repeat (first | exact List.Sublist.refl _ | refine List.Sublist.cons_cons _ ?_ | refine List.Sublist.cons _ ?_)); done) | refine Picks.take 0 rfl ?_ | refine Picks.take 1 rfl ?_ | refine Picks.take 2 rfl ?_ | refine Picks.take 3 rfl ?_ | refine Picks.take 4 rfl ?_ | refine Picks.take 5 rfl ?_ | refine Picks.take 6 rfl ?_ | refine Picks.take 7 rfl ?_ | refine Picks.take 8 rfl ?_ | refine Picks.take 9 rfl ?_ | refine Picks.take 10 rfl ?_ | refine Picks.take 11 rfl ?_))⟩
  obtain rfl : k = X.ctx.marks.length := by omega
  clear hlt hk
  refine wp_seq_k fun _ hK3 => wp_region_lit (run S (.ge (by omega) rfl rfl <| .z) fun a w S => st_nil (then_normal (hK3 _ _ (wp_seq_k fun _ hK3 => st_else S (.t rfl) (wp_exit (then_exit (then_exit (in_here (then_normal (hK1 _ _ (wp_seq_k fun _ hK1 => wp_region_lit (run S (.fa underlying39 sizeOf37 1 rfl rfl rfl <| .fa underlying37 sizeOf35 2 rfl rfl rfl <| .ld gt35 0 rfl rfl rfl <| .ln underlying35 rfl <| .mc rfl <| .z) fun a w S => st_nil (then_normal (hK1 _ _ (wp_block ?_)))))))))))))))
  refine st_loopM S [35] (X := Nat × List Dot) (fun q => [(35, true, .int .i64 (q.1 : Int))]) (fun q => .blk g1 (.cells #[.slice A1 X.ents.length c1, .slice A2 X.ctx.marks.length c2, .slice A3 X.ctx.cloud.length c3] 39) :: rowOf 58 3 Dot.enc A3 c3 q.2 :: L)
    (fun q => q.1 ≤ X.ctx.cloud.length ∧ q.2.length = X.ctx.cloud.length) (fun q => X.ctx.cloud.length - q.1) (0, X.ctx.cloud) ⟨Nat.zero_le _, rfl⟩ (by repeat (first | exact Fits.nil | refine Fits.skip rfl ?_ | refine Fits.cons rfl ?_)) (by repeat (first | exact Picks.nil | (refine Picks.rest ?_; (repeat (first | exact List.Sublist.refl _ | refine List.Sublist.cons_cons _ ?_ | refine List.Sublist.cons _ ?_)); done) | refine Picks.take 0 rfl ?_ | refine Picks.take 1 rfl ?_ | refine Picks.take 2 rfl ?_ | refine Picks.take 3 rfl ?_ | refine Picks.take 4 rfl ?_ | refine Picks.take 5 rfl ?_ | refine Picks.take 6 rfl ?_ | refine Picks.take 7 rfl ?_ | refine Picks.take 8 rfl ?_ | refine Picks.take 9 rfl ?_ | refine Picks.take 10 rfl ?_ | refine Picks.take 11 rfl ?_)) ?_
  clear S
  rintro ⟨k, l⟩ a w ⟨hk, hln⟩ S
  dsimp only at hk hln S
  by_cases hlt : k < X.ctx.cloud.length
  · obtain ⟨x, hx⟩ : ∃ x, l[k]? = some x := ⟨l[k]'(by omega), List.getElem?_eq_getElem _⟩
    obtain ⟨g, rfl⟩ := S.wd.row_at (k := 1) rfl (by omega)
    refine wp_seq_k fun _ hK1 => wp_region_lit (run S (.lt (by omega) rfl rfl <| .z) fun a w S => st_nil (then_normal (hK1 _ _ (wp_seq_k fun _ hK1 => st_then S (.t rfl) (wp_skip (then_normal (hK1 _ _ (wp_seq_k fun _ hK1 => wp_block (wp_seq_k fun _ hK4 => wp_region_lit (run S (.mv rfl <| .as rfl <| .z) fun a w S => st_nil (then_normal (hK4 _ _ (wp_region_lit (run S (.fa underlying39 sizeOf37 1 rfl rfl rfl <| .fa underlying37 sizeOf35 2 rfl rfl rfl <| .ld gt35 0 rfl rfl rfl <| .mv rfl <| .yy (ys_bld (ps := [(0, _)]) (us := [_, _, _]) bld58 (.cons Ev.c .nil) rfl) rfl <| .ix underlying35 sizeOf58 (by omega) rfl rfl <| .z) fun a w S => st_m (op_stRow (enc := Dot.enc) (size := 3) (i := k) (l := l) (yn := ⟨99, 0, 0⟩) S (fun _ => rfl) rfl sizeOf58 (.t rfl) (.t rfl) rfl (by simp [Value.oneCell']) (k := 1) rfl hx (Nat.zero_add _) ?_)))))))))))))))
    clear S
    intro a w S
    refine st_nil (in_normal (then_normal (hK1 _ _ (wp_region_lit (run S (.ad (by unfold I64; omega) rfl <| .mv rfl <| .z) fun a w S => st_nil (then_normal ?_))))))
    exact ⟨(k + 1, l.set k ⟨99, 0, 0⟩), ⟨by dsimp only; omega, by dsimp only; rw [List.length_set]; exact hln⟩, by dsimp only; omega, S.picks (by repeat (first | exact Fits.nil | refine Fits.skip rfl ?_ | refine Fits.cons rfl ?_)) (by repeat (first | exact Picks.nil | (refine Picks.rest ?_; (repeat (first | exact List.Sublist.refl _ | refine List.Sublist.cons_cons _ ?_ | refine List.Sublist.cons _ ?_)); done) | refine Picks.take 0 rfl ?_ | refine Picks.take 1 rfl ?_ | refine Picks.take 2 rfl ?_ | refine Picks.take 3 rfl ?_ | refine Picks.take 4 rfl ?_ | refine Picks.take 5 rfl ?_ | refine Picks.take 6 rfl ?_ | refine Picks.take 7 rfl ?_ | refine Picks.take 8 rfl ?_ | refine Picks.take 9 rfl ?_ | refine Picks.take 10 rfl ?_ | refine Picks.take 11 rfl ?_))⟩
  obtain rfl : k = X.ctx.cloud.length := by omega
  clear hlt hk
  refine wp_seq_k fun _ hK1 => wp_region_lit (run S (.ge (by omega) rfl rfl <| .z) fun a w S => st_nil (then_normal (hK1 _ _ (wp_seq_k fun _ hK1 => st_else S (.t rfl) (wp_exit (then_exit (then_exit (in_here (st_end S (results0 results32) ?_)))))))))
  exact ⟨_, _, rfl, S.wd.picks (by repeat (first | exact Picks.nil | (refine Picks.rest ?_; (repeat (first | exact List.Sublist.refl _ | refine List.Sublist.cons_cons _ ?_ | refine List.Sublist.cons _ ?_)); done) | refine Picks.take 0 rfl ?_ | refine Picks.take 1 rfl ?_ | refine Picks.take 2 rfl ?_ | refine Picks.take 3 rfl ?_ | refine Picks.take 4 rfl ?_ | refine Picks.take 5 rfl ?_ | refine Picks.take 6 rfl ?_ | refine Picks.take 7 rfl ?_ | refine Picks.take 8 rfl ?_ | refine Picks.take 9 rfl ?_ | refine Picks.take 10 rfl ?_ | refine Picks.take 11 rfl ?_)), rfl, rfl⟩
end Go.Proofs.YtfblmkocmnbdcaaGreat
set_option linter.unusedVariables false
set_option linter.unusedSimpArgs false
set_option maxRecDepth 100000
set_option maxHeartbeats 4000000
namespace Go.Fw
theorem cart_lens {c : Cart} (h : CartOk c) : c.ents.length ≤ 64 ∧ c.ctx.marks.length ≤ 64 ∧ c.ctx.cloud.length ≤ 64 := ⟨h.len, (can_len h.ctx).1, (can_len h.ctx).2⟩
theorem apply_lens (u : Upd) : (applyU u).1.ents.length ≤ 1048576 ∧ (applyU u).1.ctx.marks.length ≤ 1048576 ∧ (applyU u).1.ctx.cloud.length ≤ 1048576 := by
  by_cases h : (applyU u).2 = 0
  · have := cart_lens (applyU_ok h).2.2.2
    omega
  · have e : (applyU u).1 = Cart.zero := by
      unfold applyU at h ⊢
      split
      · rename_i h1
        rw [if_pos h1] at h
        split
        · rename_i h2
          rw [if_pos h2] at h
          unfold sizedC at h ⊢
          split
          · rfl
          · rename_i h3; rw [if_neg h3] at h; exact absurd rfl h
        · rfl
      · rfl
    rw [e]
    simp [Cart.zero]
end Go.Fw
namespace Go.Proofs.YtfblmkocmnbdcaaGreat
open Go.Fw Go.Proofs Go.RowKit Go.Proofs.Tryz
theorem c23 (w0 : World) (v1 v2 v3 v4 v5 v6 : Value) (x y : Int) (X Y : Cart) (h : Sl Ent.enc 6 w0 w0.heap.size v1 X.ents) (hr : RdCtx w0 w0.heap.size v2 v3 X.ctx) (h' : Sl Ent.enc 6 w0 w0.heap.size v4 Y.ents) (hr' : RdCtx w0 w0.heap.size v5 v6 Y.ctx) (e1 : x = y) (e2 : X = Y) :
    Calls Tryz.prog 23 #[.agg #[v1, v2, v3], .int .i64 x, .agg #[v4, v5, v6], .int .i64 y] w0 fun e w' => e = .returned (.bool true) ∧ Bel w0.heap.size w0 w' := by
  have hs := h
  have hrr := hr
  have hs' := h'
  have hrr' := hr'
  subst e1 e2
  obtain ⟨A, cap, rfl, hl, hcap, hA⟩ := h
  obtain ⟨⟨A2, cap2, rfl, _⟩, ⟨A3, cap3, rfl, _⟩⟩ := hr
  obtain ⟨B, capB, rfl, hlB, hcapB, hB⟩ := h'
  obtain ⟨⟨B2, capB2, rfl, _⟩, ⟨B3, capB3, rfl, _⟩⟩ := hr'
  have rw_x : decide (X = X) = true := decide_eq_true rfl
  refine enter4 func23 rfl ntmps23 rfl fun a S => wp_seq_k fun _ hK1 => wp_region_lit (st_m (op_box S (.t rfl) rfl fun g1 a w S => st_m (op_box S (.t rfl) rfl fun g2 a w S => run S (.ac rfl <| .z) fun a w S => st_nil (then_normal (hK1 _ _ (wp_seq_k fun _ hK1 => wp_region_lit (run S (.mv rfl <| .mv rfl <| .yy (ys_T (by omega) (ys_eql (.t rfl) (.t rfl))) rfl <| .mv rfl <| .gy rfl rfl (ys_ldA ⟨isAgg39, sizeOf39⟩ (.t rfl) (k := 1) rfl rfl) <| .gy rfl rfl (ys_ldA ⟨isAgg39, sizeOf39⟩ (.t rfl) (k := 0) rfl rfl) <| .gx rfl rfl (ys_call call17 (.cons (.t rfl) (.cons (.t rfl) .nil)) (fun hp w W => c17 _ _ _ _ _ _ _ _ _ (by exact .old W (by assumption)) (by exact .old W (by assumption)) (by exact .old W (by assumption)) (by exact .old W (by assumption)))) <| .z) fun a w S => ?_)))))))
  simp only [List.nil_append] at S
  refine run S (.yy (ys_pickT (.t rfl) (.t rfl)) rfl <| .as rfl <| .z) fun a w S => st_nil (then_normal (hK1 _ _ (wp_ret (st_ret S (results1 S results23 (Rv.tmp rfl)) ?_))))
  all_goals exact ⟨rfl, S.wd.below⟩
theorem c7 (w0 : World) (v4 v5 v6 : Value) (u : Upd) (h' : Sl Ent.enc 6 w0 w0.heap.size v4 u.seen.ents) (hr' : RdCtx w0 w0.heap.size v5 v6 u.seen.ctx)
    (hl4 : u.seen.ents.length ≤ 1048576) (hl5 : u.seen.ctx.marks.length ≤ 1048576) (hl6 : u.seen.ctx.cloud.length ≤ 1048576) :
    Calls Tryz.prog 7 #[.agg (Upd.enc u v4 v5 v6).toArray] w0 fun e w' => e = .returned (.bool true) ∧ Bel w0.heap.size w0 w' := by
  have hs' := h'
  have hrr' := hr'
  obtain ⟨B, capB, rfl, hlB, hcapB, hB⟩ := h'
  obtain ⟨⟨B2, capB2, rfl, _⟩, ⟨B3, capB3, rfl, _⟩⟩ := hr'
  obtain ⟨q1, q2, q3⟩ := apply_lens u
  refine enter1 func7 rfl ntmps7 rfl fun a S => wp_seq_k fun _ hK1 => wp_region_lit (st_m (op_box S (.t rfl) rfl fun g1 a w S => run S (.ac rfl <| .z) fun a w S => st_nil (then_normal (hK1 _ _ (wp_seq_k fun _ hK1 => wp_region_lit (run S (.la gt60 0 rfl rfl rfl <| .z) fun a w S => ?_))))))
  (refine st_m (op_calls S call28 (.cons (.t rfl) .nil) (c28 _ _ _ _ _ (by exact .old S.wd (by assumption)) (by exact .old S.wd (by assumption)) (by assumption) (by assumption) (by assumption)) rfl ?_); clear S a w; rintro _ _ ⟨A11, c11, A21, c21, A31, c35, rfl, rfl⟩ a w S)
  refine st_m (op_alloc S zeroValue60 (cs := _) rfl rfl fun g2 a w S => st_m (op_stW S sizeOf60 (.t rfl) (.t rfl) (k := 0) rfl rfl rfl (by simp [Value.oneCell']) fun a w S => st_nil (then_normal (hK1 _ _ (wp_seq_k fun _ hK1 => wp_region_lit (run S (.la gt60 0 rfl rfl rfl <| .z) fun a w S => ?_))))))
  (refine st_m (op_calls S call29 (.cons (.t rfl) .nil) (c29 _ _ _ _ _ (by exact Sl.of_own S.wd (k := 1) rfl (fun _ => rfl)) (by exact ⟨(by exact Sl.of_own S.wd (k := 2) rfl (fun _ => rfl)), (by exact Sl.of_own S.wd (k := 3) rfl (fun _ => rfl))⟩)) rfl ?_); clear S a w; rintro _ _ ⟨A12, c12, A22, c22, A32, c36, rfl, rfl⟩ a w S)
  refine run S (.mv rfl <| .ex rfl rfl <| .ex rfl rfl <| .z) fun a w S => st_m (op_alloc S zeroValue39 (cs := _) rfl rfl fun g3 a w S => st_m (op_stW S sizeOf39 (.t rfl) (.t rfl) (k := 0) rfl rfl rfl (by simp [Value.oneCell']) fun a w S => run S (.as rfl <| .z) fun a w S => st_nil (then_normal (hK1 _ _ (wp_seq_k fun _ hK1 => wp_region_lit (run S (.la gt60 8 rfl rfl rfl <| .z) fun a w S => ?_))))))
  (refine st_m (op_calls S call30 (.cons (.t rfl) .nil) (c30 _ _ _ _ _ (by exact .old S.wd (by assumption)) (by exact .old S.wd (by assumption))) rfl ?_); clear S a w; rintro _ _ ⟨A13, c13, A23, c24, A33, c38, rfl, rfl⟩ a w S)
  refine run S (.mv rfl <| .ex rfl rfl <| .ex rfl rfl <| .z) fun a w S => st_m (op_alloc S zeroValue39 (cs := _) rfl rfl fun g4 a w S => st_m (op_stW S sizeOf39 (.t rfl) (.t rfl) (k := 0) rfl rfl rfl (by simp [Value.oneCell']) fun a w S => run S (.as rfl <| .z) fun a w S => st_nil (then_normal (hK1 _ _ (wp_seq_k fun _ hK1 => wp_seq_k fun _ hK2 => wp_region_lit ?_)))))
  refine run S (.la gt39 4 rfl rfl rfl <| .mv rfl <| .la gt39 0 rfl rfl rfl <| .mv rfl <| .xx (ys_call call23 (.cons (.t rfl) (.cons (.t rfl) (.cons (.t rfl) (.cons (.t rfl) .nil)))) (fun hp w W => c23 _ _ _ _ _ _ _ _ _ _ _ (by exact Sl.of_own W (k := 5) rfl (fun _ => rfl)) (by exact ⟨(by exact Sl.of_own W (k := 6) rfl (fun _ => rfl)), (by exact Sl.of_own W (k := 7) rfl (fun _ => rfl))⟩) (by exact Sl.of_own W (k := 1) rfl (fun _ => rfl)) (by exact ⟨(by exact Sl.of_own W (k := 2) rfl (fun _ => rfl)), (by exact Sl.of_own W (k := 3) rfl (fun _ => rfl))⟩) (by omega) (by (simp; done)))) rfl <| .nt rfl <| .mv rfl <| .gy rfl rfl (ys_ldA ⟨isAgg60, sizeOf60⟩ (.t rfl) (k := 8) rfl rfl) <| .gy rfl rfl (ys_ldA ⟨isAgg60, sizeOf60⟩ (.t rfl) (k := 12) rfl rfl) <| .gx rfl rfl (ys_call call31 (.cons (.t rfl) (.cons (.t rfl) .nil)) (fun hp w W => c31 _ _ _ _ _ _ _ _ _ (by exact Sl.of_own W (k := 9) rfl (fun _ => rfl)) (by exact ⟨(by exact Sl.of_own W (k := 10) rfl (fun _ => rfl)), (by exact Sl.of_own W (k := 11) rfl (fun _ => rfl))⟩) (by exact .old W (by assumption)) (by exact .old W (by assumption)) (by (simp; done)))) <| .gy rfl rfl (ys_not (.t rfl)) <| .yy (ys_pickF (.t rfl) (.t rfl)) rfl <| .z) fun a w S => st_nil (then_normal (hK2 _ _ (st_else S (.t rfl) (wp_skip (then_normal (hK1 _ _ (wp_seq_k fun _ hK1 => wp_region_lit (run S (.la gt39 4 rfl rfl rfl <| .z) fun a w S => ?_))))))))
  (replace S := S.pull 7 rfl; try simp only [List.set_cons_zero, List.set_cons_succ, List.eraseIdx_cons_succ, List.eraseIdx_cons_zero] at S; replace S := S.pull 7 rfl; try simp only [List.set_cons_zero, List.set_cons_succ, List.eraseIdx_cons_succ, List.eraseIdx_cons_zero] at S; replace S := S.pull 7 rfl; try simp only [List.set_cons_zero, List.set_cons_succ, List.eraseIdx_cons_succ, List.eraseIdx_cons_zero] at S; refine st_m (op_callO S call32 (.cons (.t rfl) .nil) (c32 S.wd (by first | assumption | omega | (dsimp only; omega) | exact Sl.nil_ | exact .old S.wd (by assumption) | exact Sl.of_own S.wd (k := 0) rfl (fun _ => rfl) | exact Sl.of_own S.wd (k := 1) rfl (fun _ => rfl) | exact Sl.of_own S.wd (k := 2) rfl (fun _ => rfl) | exact Sl.of_own S.wd (k := 3) rfl (fun _ => rfl) | exact Sl.of_own S.wd (k := 4) rfl (fun _ => rfl) | exact Sl.of_own S.wd (k := 5) rfl (fun _ => rfl) | exact Sl.of_own S.wd (k := 6) rfl (fun _ => rfl) | exact Sl.of_own S.wd (k := 7) rfl (fun _ => rfl) | exact Sl.of_own S.wd (k := 8) rfl (fun _ => rfl) | exact Sl.of_own S.wd (k := 9) rfl (fun _ => rfl) | exact Sl.of_own S.wd (k := 10) rfl (fun _ => rfl) | exact Sl.of_own S.wd (k := 11) rfl (fun _ => rfl) | exact Sl.of_own S.wd (k := 12) rfl (fun _ => rfl) | (simp at *; omega)) (by first | assumption | omega | (dsimp only; omega) | exact Sl.nil_ | exact .old S.wd (by assumption) | exact Sl.of_own S.wd (k := 0) rfl (fun _ => rfl) | exact Sl.of_own S.wd (k := 1) rfl (fun _ => rfl) | exact Sl.of_own S.wd (k := 2) rfl (fun _ => rfl) | exact Sl.of_own S.wd (k := 3) rfl (fun _ => rfl) | exact Sl.of_own S.wd (k := 4) rfl (fun _ => rfl) | exact Sl.of_own S.wd (k := 5) rfl (fun _ => rfl) | exact Sl.of_own S.wd (k := 6) rfl (fun _ => rfl) | exact Sl.of_own S.wd (k := 7) rfl (fun _ => rfl) | exact Sl.of_own S.wd (k := 8) rfl (fun _ => rfl) | exact Sl.of_own S.wd (k := 9) rfl (fun _ => rfl) | exact Sl.of_own S.wd (k := 10) rfl (fun _ => rfl) | exact Sl.of_own S.wd (k := 11) rfl (fun _ => rfl) | exact Sl.of_own S.wd (k := 12) rfl (fun _ => rfl) | (simp at *; omega)) (by first | assumption | omega | (dsimp only; omega) | exact Sl.nil_ | exact .old S.wd (by assumption) | exact Sl.of_own S.wd (k := 0) rfl (fun _ => rfl) | exact Sl.of_own S.wd (k := 1) rfl (fun _ => rfl) | exact Sl.of_own S.wd (k := 2) rfl (fun _ => rfl) | exact Sl.of_own S.wd (k := 3) rfl (fun _ => rfl) | exact Sl.of_own S.wd (k := 4) rfl (fun _ => rfl) | exact Sl.of_own S.wd (k := 5) rfl (fun _ => rfl) | exact Sl.of_own S.wd (k := 6) rfl (fun _ => rfl) | exact Sl.of_own S.wd (k := 7) rfl (fun _ => rfl) | exact Sl.of_own S.wd (k := 8) rfl (fun _ => rfl) | exact Sl.of_own S.wd (k := 9) rfl (fun _ => rfl) | exact Sl.of_own S.wd (k := 10) rfl (fun _ => rfl) | exact Sl.of_own S.wd (k := 11) rfl (fun _ => rfl) | exact Sl.of_own S.wd (k := 12) rfl (fun _ => rfl) | (simp at *; omega))) rfl ?_) <;> clear S a w)
  rintro _ _ ⟨rfl, rfl⟩ a w S
  refine st_nil (then_normal (hK1 _ _ (wp_seq_k fun _ hK1 => wp_region_lit (run S (.la gt60 5 rfl rfl rfl <| .la gt60 9 rfl rfl rfl <| .xx (ys_call call31 (.cons (.t rfl) (.cons (.t rfl) .nil)) (fun hp w W => c31 _ _ _ _ _ _ _ _ _ (by exact Sl.of_own W (k := 6) rfl (fun _ => rfl)) (by exact ⟨(by exact Sl.of_own W (k := 7) rfl (fun _ => rfl)), (by exact Sl.of_own W (k := 8) rfl (fun _ => rfl))⟩) (by exact .old W (by assumption)) (by exact .old W (by assumption)) (by (simp; done)))) rfl <| .as rfl <| .z) fun a w S => st_nil (then_normal (hK1 _ _ (wp_ret (st_ret S (results1 S results7 (Rv.tmp rfl)) ?_))))))))
  all_goals exact ⟨rfl, S.wd.below⟩
end Go.Proofs.YtfblmkocmnbdcaaGreat
