/- Contracts and laws that the statement Pln leans on, part 3. -/
import Derived.Test.YtcglchdbddlnjaaPlnK2
import Derived.Shelf.SlGeneric
import Derived.Shelf.SlSortCmp.WholeK
import Derived.Ground.SlsfProg
import Derived.Shelf.SlIterI.Nil
import Derived.Ground.GgzProg
import Derived.Shelf.SortM.Plain
import Derived.Shelf.SortM.SortNone
import Derived.Ground.SlgmProg
import Derived.Test.YtcglchdbddlnjaaProg
import Derived.Shelf.GgSortFunc.InsertionK
import Derived.Shelf.SlSortCmp.Insertion
import Derived.WalkKit
import Derived.Below
import Derived.OrdersHeld
import Derived.Deep.Quiet
import Derived.Laws.StructEq
import Derived.Deep.MidRow
import Derived.Sort.Grow
import Derived.Shelf.SlSortCmp.NoneTotal
import Derived.ScopeJumps
import Derived.LoopN
import Derived.Recover
set_option linter.unusedVariables false
set_option linter.unusedSimpArgs false
set_option maxRecDepth 100000
set_option maxHeartbeats 4000000
namespace Go.Proofs.Ytcglchdbddlnjaa
open Go.Fw Go.Proofs Go.RowKit
theorem c74 (w0 : World) (p c s : Int) (v : Value) (l : List Mbr) (x0 x1 x2 x3 : Int) (h : Sl Mbr.enc 4 w0 w0.heap.size v l) (hn : l.length ≤ 4194304) :
    Rets Try.prog 74 #[.agg #[.int .i64 p, .int .i64 c, .int .i64 s, v], .agg #[.int .i64 x0, .int .i64 x1, .int .i64 x2, .int .i64 x3]] w0 fun u L => ∃ A cp, u = rngV ⟨p, c, s, withL l ⟨x0, x1, x2, x3⟩⟩ A cp ∧ L = [rowOf 60 4 Mbr.enc A cp (withL l ⟨x0, x1, x2, x3⟩)] := by
  obtain ⟨A, cap, rfl, hl, hcap, hA⟩ := id h
  unfold Go.Fw.Rets
  refine enter2 Try.func74 rfl Try.ntmps74 rfl fun a S => ?_
  refine wp_seq_k fun _ hK1 => ?_
  refine wp_region_lit ?_
  (refine st_m (op_box S (Ev.t rfl) rfl ?_); clear S a; intro g1 a w S)
  (refine st_m (op_box S (Ev.t rfl) rfl ?_); clear S a w; intro g2 a w S)
  (refine st_m (op_alloc S Try.zeroValue24 (cs := _) rfl rfl ?_); clear S a w; intro g3 a w S)
  refine st_nil ?_
  (refine (then_normal (hK1 _ _ ?_)); clear hK1)
  refine wp_seq_k fun _ hK1 => ?_
  refine wp_region_lit ?_
  (refine st_y S (Yr.ys (ys_assign Ev.c)) rfl ?_; clear S a w; intro a w S)
  refine st_nil ?_
  (refine (then_normal (hK1 _ _ ?_)); clear hK1)
  refine wp_seq_k fun _ hK1 => ?_
  refine wp_seq_k fun _ hK2 => ?_
  refine wp_region_lit ?_
  (refine st_y S (Yr.ys (ys_assign Ev.c)) rfl ?_; clear S a w; intro a w S)
  refine st_nil ?_
  (refine (then_normal (hK2 _ _ ?_)); clear hK2)
  refine wp_block ?_
  replace S := S.nil_ 60 4 Mbr.enc none
  refine st_loopM S [5, 6] (X := Nat × Option Addr × Nat) (fun y => [(5, true, .slice y.2.1 (listing (withF l ⟨x0, x1, x2, x3⟩) y.1).length y.2.2), (6, true, .int .i64 (y.1 : Int))])
    (fun y => [rowOf 60 4 Mbr.enc y.2.1 y.2.2 (listing (withF l ⟨x0, x1, x2, x3⟩) y.1), .blk g3 (.cells #[.int .i64 0, .int .i64 0, .int .i64 0, .slice none 0 0] 24), .blk g2 (.cells #[.int .i64 x0, .int .i64 x1, .int .i64 x2, .int .i64 x3] 60), .blk g1 (.cells #[.int .i64 p, .int .i64 c, .int .i64 s, .slice A l.length cap] 24)])
    (fun y => y.1 ≤ 8) (fun y => 8 - y.1) (0, none, 0) (Nat.zero_le _) (by repeat (first | exact Fits.nil | refine Fits.skip rfl ?_ | refine Fits.cons rfl ?_)) (by repeat (first | exact Picks.nil | (refine Picks.rest ?_; (repeat (first | exact List.Sublist.refl _ | refine List.Sublist.cons_cons _ ?_ | refine List.Sublist.cons _ ?_)); done) | refine Picks.take 0 rfl ?_ | refine Picks.take 1 rfl ?_ | refine Picks.take 2 rfl ?_ | refine Picks.take 3 rfl ?_ | refine Picks.take 4 rfl ?_ | refine Picks.take 5 rfl ?_ | refine Picks.take 6 rfl ?_ | refine Picks.take 7 rfl ?_ | refine Picks.take 8 rfl ?_ | refine Picks.take 9 rfl ?_ | refine Picks.take 10 rfl ?_ | refine Picks.take 11 rfl ?_)) ?_
  clear S
  rintro ⟨k, B, cb⟩ a w hk S
  dsimp only at hk S
  by_cases hlt : k < 8
  · have rw_k : decide ((k : Int) < 8) = true := decide_eq_true (by omega)
    have hlen := listing_len (withF l ⟨x0, x1, x2, x3⟩) k
    refine wp_seq_k fun _ hK2 => ?_
    refine wp_seq_k fun _ hK3 => ?_
    refine wp_region_lit ?_
    (refine st_y S (Yr.ys (ys_move (Ev.t rfl))) rfl ?_; clear S a w; intro a w S)
    (refine st_y S (Yr.ys (ys_T (by omega) (ys_lss (Ev.t rfl) Ev.c))) rfl ?_; clear S a w; intro a w S)
    refine st_nil ?_
    (refine (then_normal (hK3 _ _ ?_)); clear hK3)
    refine st_then S (Ev.t rfl) ?_
    refine wp_skip ?_
    (refine (then_normal (hK2 _ _ ?_)); clear hK2)
    refine wp_seq_k fun _ hK2 => ?_
    refine wp_block ?_
    refine wp_seq_k fun _ hK3 => ?_
    refine wp_region_lit ?_
    (refine st_y S (Yr.ys (ys_ldA ⟨Try.isAgg24, Try.sizeOf24⟩ (Ev.t rfl) (k := 3) rfl rfl)) rfl ?_; clear S a w; intro a w S)
    (refine st_y S (Yr.ys (ys_move (Ev.t rfl))) rfl ?_; clear S a w; intro a w S)
    (refine st_y S (ys_call Try.call73 (EvL.cons (Ev.t rfl) (EvL.cons (Ev.t rfl) EvL.nil)) (fun hp w W => c73 _ _ _ _ _ _ _ (by exact .old W (by assumption)) (by assumption))) rfl ?_; clear S a w; intro a w S)
    (refine st_m (op_alloc S Try.zeroValue60 (cs := _) rfl rfl ?_); clear S a w; intro g4 a w S)
    (refine st_m (op_stW S Try.sizeOf60 (Ev.t rfl) (Ev.t rfl) (k := 0) rfl rfl rfl (by simp [Value.oneCell']) ?_); clear S a w; intro a w S)
    refine st_nil ?_
    (refine (then_normal (hK3 _ _ ?_)); clear hK3)
    refine wp_seq_k fun _ hK3 => ?_
    refine wp_seq_k fun _ hK4 => ?_
    refine wp_region_lit ?_
    (refine st_y S (Yr.ys (ys_move (Ev.t rfl))) rfl ?_; clear S a w; intro a w S)
    (refine st_y S (Yr.ys (ys_fieldN (FieldT.mk Try.underlying60 rfl Try.sizeOf3 rfl) (Ev.t rfl) (i' := 0) rfl)) rfl ?_; clear S a w; intro a w S)
    (refine st_y S (Yr.ys (ys_ld ⟨Try.isAgg3, Try.sizeOf3⟩ (Ev.t rfl) (k := 3) rfl rfl)) rfl ?_; clear S a w; intro a w S)
    (refine st_y S (Yr.ys (ys_eql (Ev.t rfl) (Ev.t rfl))) rfl ?_; clear S a w; intro a w S)
    refine st_nil ?_
    (refine (then_normal (hK4 _ _ ?_)); clear hK4)
    refine st_if S (Ev.t rfl) (fun h1 => ?_) (fun h1 => ?_)
    refine wp_region_lit ?_
    (refine st_y S (Yr.ys (ys_ldA ⟨Try.isAgg60, Try.sizeOf60⟩ (Ev.t rfl) (k := 3) rfl rfl)) rfl ?_; clear S a w; intro a w S)
    (refine st_m (op_stW S Try.sizeOf60 (Ev.t rfl) (Ev.t rfl) (k := 0) rfl rfl rfl (by simp [Value.oneCell']) ?_); clear S a w; intro a w S)
    refine st_nil ?_
    (refine (then_normal (hK3 _ _ ?_)); clear hK3)
    refine wp_seq_k fun _ hK3 => ?_
    refine wp_region_lit ?_
    (refine st_y S (Yr.ys (ys_fieldN (FieldT.mk Try.underlying60 rfl Try.sizeOf3 rfl) (Ev.t rfl) (i' := 1) rfl)) rfl ?_; clear S a w; intro a w S)
    (refine st_y S (Yr.ys (ys_ld ⟨Try.isAgg3, Try.sizeOf3⟩ (Ev.t rfl) (k := 0) rfl rfl)) rfl ?_; clear S a w; intro a w S)
    (refine st_y S (Yr.ys (ys_gtr (Ev.t rfl) Ev.c)) rfl ?_; clear S a w; intro a w S)
    refine st_nil ?_
    (refine (then_normal (hK3 _ _ ?_)); clear hK3)
    refine st_if S (Ev.t rfl) (fun h2 => ?_) (fun h2 => ?_)
    refine wp_region_lit ?_
    (refine st_y S (Yr.ys (ys_move (Ev.t rfl))) rfl ?_; clear S a w; intro a w S)
    (refine st_y S (Yr.ys (ys_ldA ⟨Try.isAgg60, Try.sizeOf60⟩ (Ev.t rfl) (k := 0) rfl rfl)) rfl ?_; clear S a w; intro a w S)
    (refine st_m (op_bslice1 S Try.underlying22 inf60 rfl rfl rfl (Ev.t rfl) rfl rfl rfl ?_); clear S a w; intro g5 a w S)
    (refine st_m (op_push S Try.underlying22 inf60 rfl (k := 2) (j := 0) rfl (Ev.t rfl) (Ev.t rfl) rfl Go.Fw.Mbr.mkEnc rfl rfl (by first | omega | (simp only [List.length_append, List.length_cons, List.length_nil]; omega)) rfl rfl rfl ?_); clear S a w; intro A1 cap1 a w S)
    (refine st_y S (Yr.ys (ys_assign (Ev.t rfl))) rfl ?_; clear S a w; intro a w S)
    refine st_nil ?_
    (refine (in_normal (then_normal (hK2 _ _ ?_))); clear hK2)
    refine wp_region_lit ?_
    (refine st_y S (Yr.ys (ys_move (Ev.t rfl))) rfl ?_; clear S a w; intro a w S)
    (refine st_y S (Yr.ys (ys_addI (Ev.t rfl) Ev.c (fun _ => by unfold I64; omega))) rfl ?_; clear S a w; intro a w S)
    (refine st_y S (Yr.ys (ys_assign (Ev.t rfl))) rfl ?_; clear S a w; intro a w S)
    refine st_nil ?_
    refine (then_normal ?_)
    rotate_left
    refine wp_skip ?_
    (refine (in_normal (then_normal (hK2 _ _ ?_))); clear hK2)
    refine wp_region_lit ?_
    (refine st_y S (Yr.ys (ys_move (Ev.t rfl))) rfl ?_; clear S a w; intro a w S)
    (refine st_y S (Yr.ys (ys_addI (Ev.t rfl) Ev.c (fun _ => by unfold I64; omega))) rfl ?_; clear S a w; intro a w S)
    (refine st_y S (Yr.ys (ys_assign (Ev.t rfl))) rfl ?_; clear S a w; intro a w S)
    refine st_nil ?_
    refine (then_normal ?_)
    rotate_left
    refine wp_skip ?_
    (refine (then_normal (hK3 _ _ ?_)); clear hK3)
    refine wp_seq_k fun _ hK3 => ?_
    refine wp_region_lit ?_
    (refine st_y S (Yr.ys (ys_fieldN (FieldT.mk Try.underlying60 rfl Try.sizeOf3 rfl) (Ev.t rfl) (i' := 1) rfl)) rfl ?_; clear S a w; intro a w S)
    (refine st_y S (Yr.ys (ys_ld ⟨Try.isAgg3, Try.sizeOf3⟩ (Ev.t rfl) (k := 0) rfl rfl)) rfl ?_; clear S a w; intro a w S)
    (refine st_y S (Yr.ys (ys_gtr (Ev.t rfl) Ev.c)) rfl ?_; clear S a w; intro a w S)
    refine st_nil ?_
    (refine (then_normal (hK3 _ _ ?_)); clear hK3)
    refine st_if S (Ev.t rfl) (fun h2 => ?_) (fun h2 => ?_)
    refine wp_region_lit ?_
    (refine st_y S (Yr.ys (ys_move (Ev.t rfl))) rfl ?_; clear S a w; intro a w S)
    (refine st_y S (Yr.ys (ys_ldA ⟨Try.isAgg60, Try.sizeOf60⟩ (Ev.t rfl) (k := 0) rfl rfl)) rfl ?_; clear S a w; intro a w S)
    (refine st_m (op_bslice1 S Try.underlying22 inf60 rfl rfl rfl (Ev.t rfl) rfl rfl rfl ?_); clear S a w; intro g5 a w S)
    (refine st_m (op_push S Try.underlying22 inf60 rfl (k := 2) (j := 0) rfl (Ev.t rfl) (Ev.t rfl) rfl rfl rfl rfl (by first | omega | (simp only [List.length_append, List.length_cons, List.length_nil]; omega)) rfl rfl rfl ?_); clear S a w; intro A1 cap1 a w S)
    (refine st_y S (Yr.ys (ys_assign (Ev.t rfl))) rfl ?_; clear S a w; intro a w S)
    refine st_nil ?_
    (refine (in_normal (then_normal (hK2 _ _ ?_))); clear hK2)
    refine wp_region_lit ?_
    (refine st_y S (Yr.ys (ys_move (Ev.t rfl))) rfl ?_; clear S a w; intro a w S)
    (refine st_y S (Yr.ys (ys_addI (Ev.t rfl) Ev.c (fun _ => by unfold I64; omega))) rfl ?_; clear S a w; intro a w S)
    (refine st_y S (Yr.ys (ys_assign (Ev.t rfl))) rfl ?_; clear S a w; intro a w S)
    refine st_nil ?_
    refine (then_normal ?_)
    rotate_left
    refine wp_skip ?_
    (refine (in_normal (then_normal (hK2 _ _ ?_))); clear hK2)
    refine wp_region_lit ?_
    (refine st_y S (Yr.ys (ys_move (Ev.t rfl))) rfl ?_; clear S a w; intro a w S)
    (refine st_y S (Yr.ys (ys_addI (Ev.t rfl) Ev.c (fun _ => by unfold I64; omega))) rfl ?_; clear S a w; intro a w S)
    (refine st_y S (Yr.ys (ys_assign (Ev.t rfl))) rfl ?_; clear S a w; intro a w S)
    refine st_nil ?_
    refine (then_normal ?_)
    rotate_left
    · have e := withF_at (l := l) (x1 := x1) (x2 := x2) (x3 := x3) h1
      exact ⟨(k + 1, A1, cap1), by dsimp only; omega, by dsimp only; omega, by dsimp only; rw [listing_add e h2]; exact S.picks (by repeat (first | exact Fits.nil | refine Fits.skip rfl ?_ | refine Fits.cons rfl ?_)) (by repeat (first | exact Picks.nil | (refine Picks.rest ?_; (repeat (first | exact List.Sublist.refl _ | refine List.Sublist.cons_cons _ ?_ | refine List.Sublist.cons _ ?_)); done) | refine Picks.take 0 rfl ?_ | refine Picks.take 1 rfl ?_ | refine Picks.take 2 rfl ?_ | refine Picks.take 3 rfl ?_ | refine Picks.take 4 rfl ?_ | refine Picks.take 5 rfl ?_ | refine Picks.take 6 rfl ?_ | refine Picks.take 7 rfl ?_ | refine Picks.take 8 rfl ?_ | refine Picks.take 9 rfl ?_ | refine Picks.take 10 rfl ?_ | refine Picks.take 11 rfl ?_))⟩
    · have e := withF_at (l := l) (x1 := x1) (x2 := x2) (x3 := x3) h1
      exact ⟨(k + 1, B, cb), by dsimp only; omega, by dsimp only; omega, by dsimp only; rw [listing_not e h2]; exact S.picks (by repeat (first | exact Fits.nil | refine Fits.skip rfl ?_ | refine Fits.cons rfl ?_)) (by repeat (first | exact Picks.nil | (refine Picks.rest ?_; (repeat (first | exact List.Sublist.refl _ | refine List.Sublist.cons_cons _ ?_ | refine List.Sublist.cons _ ?_)); done) | refine Picks.take 0 rfl ?_ | refine Picks.take 1 rfl ?_ | refine Picks.take 2 rfl ?_ | refine Picks.take 3 rfl ?_ | refine Picks.take 4 rfl ?_ | refine Picks.take 5 rfl ?_ | refine Picks.take 6 rfl ?_ | refine Picks.take 7 rfl ?_ | refine Picks.take 8 rfl ?_ | refine Picks.take 9 rfl ?_ | refine Picks.take 10 rfl ?_ | refine Picks.take 11 rfl ?_))⟩
    · have e := withF_off (l := l) (x := ⟨x0, x1, x2, x3⟩) h1
      exact ⟨(k + 1, A1, cap1), by dsimp only; omega, by dsimp only; omega, by dsimp only; rw [listing_add e h2]; exact S.picks (by repeat (first | exact Fits.nil | refine Fits.skip rfl ?_ | refine Fits.cons rfl ?_)) (by repeat (first | exact Picks.nil | (refine Picks.rest ?_; (repeat (first | exact List.Sublist.refl _ | refine List.Sublist.cons_cons _ ?_ | refine List.Sublist.cons _ ?_)); done) | refine Picks.take 0 rfl ?_ | refine Picks.take 1 rfl ?_ | refine Picks.take 2 rfl ?_ | refine Picks.take 3 rfl ?_ | refine Picks.take 4 rfl ?_ | refine Picks.take 5 rfl ?_ | refine Picks.take 6 rfl ?_ | refine Picks.take 7 rfl ?_ | refine Picks.take 8 rfl ?_ | refine Picks.take 9 rfl ?_ | refine Picks.take 10 rfl ?_ | refine Picks.take 11 rfl ?_))⟩
    · have e := withF_off (l := l) (x := ⟨x0, x1, x2, x3⟩) h1
      exact ⟨(k + 1, B, cb), by dsimp only; omega, by dsimp only; omega, by dsimp only; rw [listing_not e h2]; exact S.picks (by repeat (first | exact Fits.nil | refine Fits.skip rfl ?_ | refine Fits.cons rfl ?_)) (by repeat (first | exact Picks.nil | (refine Picks.rest ?_; (repeat (first | exact List.Sublist.refl _ | refine List.Sublist.cons_cons _ ?_ | refine List.Sublist.cons _ ?_)); done) | refine Picks.take 0 rfl ?_ | refine Picks.take 1 rfl ?_ | refine Picks.take 2 rfl ?_ | refine Picks.take 3 rfl ?_ | refine Picks.take 4 rfl ?_ | refine Picks.take 5 rfl ?_ | refine Picks.take 6 rfl ?_ | refine Picks.take 7 rfl ?_ | refine Picks.take 8 rfl ?_ | refine Picks.take 9 rfl ?_ | refine Picks.take 10 rfl ?_ | refine Picks.take 11 rfl ?_))⟩
  obtain rfl : k = 8 := by omega
  refine wp_seq_k fun _ hK2 => ?_
  refine wp_seq_k fun _ hK3 => ?_
  refine wp_region_lit ?_
  (refine st_y S (Yr.ys (ys_move (Ev.t rfl))) rfl ?_; clear S a w; intro a w S)
  (refine st_y S (Yr.ys (ys_F (by omega) (ys_lss (Ev.t rfl) Ev.c))) rfl ?_; clear S a w; intro a w S)
  refine st_nil ?_
  (refine (then_normal (hK3 _ _ ?_)); clear hK3)
  refine st_else S (Ev.t rfl) ?_
  refine wp_exit ?_
  (refine (then_exit (then_exit (in_here (then_normal (hK1 _ _ ?_))))); clear hK1)
  refine wp_seq_k fun _ hK1 => ?_
  refine wp_region_lit ?_
  (refine st_y S (Yr.ys (ys_fieldN (FieldT.mk Try.underlying24 rfl Try.sizeOf3 rfl) (Ev.t rfl) (i' := 0) rfl)) rfl ?_; clear S a w; intro a w S)
  (refine st_y S (Yr.ys (ys_ld ⟨Try.isAgg3, Try.sizeOf3⟩ (Ev.t rfl) (k := 3) rfl rfl)) rfl ?_; clear S a w; intro a w S)
  (refine st_y S (Yr.ys (ys_fieldN (FieldT.mk Try.underlying24 rfl Try.sizeOf3 rfl) (Ev.t rfl) (i' := 1) rfl)) rfl ?_; clear S a w; intro a w S)
  (refine st_y S (Yr.ys (ys_ld ⟨Try.isAgg3, Try.sizeOf3⟩ (Ev.t rfl) (k := 3) rfl rfl)) rfl ?_; clear S a w; intro a w S)
  (refine st_y S (Yr.ys (ys_fieldN (FieldT.mk Try.underlying24 rfl Try.sizeOf3 rfl) (Ev.t rfl) (i' := 2) rfl)) rfl ?_; clear S a w; intro a w S)
  (refine st_y S (Yr.ys (ys_ld ⟨Try.isAgg3, Try.sizeOf3⟩ (Ev.t rfl) (k := 3) rfl rfl)) rfl ?_; clear S a w; intro a w S)
  (refine st_y S (Yr.ys (ys_move (Ev.t rfl))) rfl ?_; clear S a w; intro a w S)
  (refine st_y S (Yr.ys (ys_bld (ps := [(0, Go.Operand.tmp 28), (1, Go.Operand.tmp 30), (2, Go.Operand.tmp 32), (3, Go.Operand.tmp 33)]) (us := [_, _, _, _]) bld24 (EvL.cons (Ev.t rfl) (EvL.cons (Ev.t rfl) (EvL.cons (Ev.t rfl) (EvL.cons (Ev.t rfl) EvL.nil)))) rfl)) rfl ?_; clear S a w; intro a w S)
  (refine st_m (op_stW S Try.sizeOf24 (Ev.t rfl) (Ev.t rfl) (k := 1) rfl rfl rfl (by simp [Value.oneCell']) ?_); clear S a w; intro a w S)
  refine st_nil ?_
  (refine (then_normal (hK1 _ _ ?_)); clear hK1)
  refine wp_ret ?_
  refine st_ret S (results1 S Try.results74 (Rv.cell (k := 1) ⟨Try.isAgg24, Try.sizeOf24⟩ rfl rfl rfl)) ?_
  exact ⟨_, _, rfl, S.wd.picks (by repeat (first | exact Picks.nil | (refine Picks.rest ?_; (repeat (first | exact List.Sublist.refl _ | refine List.Sublist.cons_cons _ ?_ | refine List.Sublist.cons _ ?_)); done) | refine Picks.take 0 rfl ?_ | refine Picks.take 1 rfl ?_ | refine Picks.take 2 rfl ?_ | refine Picks.take 3 rfl ?_ | refine Picks.take 4 rfl ?_ | refine Picks.take 5 rfl ?_ | refine Picks.take 6 rfl ?_ | refine Picks.take 7 rfl ?_ | refine Picks.take 8 rfl ?_ | refine Picks.take 9 rfl ?_ | refine Picks.take 10 rfl ?_ | refine Picks.take 11 rfl ?_)), _, _, rfl, rfl⟩
theorem c72 (w0 : World) (p c s n : Int) (v : Value) (l : List Mbr) (h : Sl Mbr.enc 4 w0 w0.heap.size v l) (hn : l.length ≤ 4194304) :
    Calls Try.prog 72 #[.agg #[.int .i64 p, .int .i64 c, .int .i64 s, v], .int .i64 n] w0 fun e w' => e = .returned (.int .i64 (lookE ⟨p, c, s, l⟩ n)) ∧ Bel w0.heap.size w0 w' := by
  refine enter2 Try.func72 rfl Try.ntmps72 rfl fun a S => ?_
  refine wp_seq_k fun _ hK1 => ?_
  refine wp_region_lit ?_
  (refine st_m (op_box S (Ev.t rfl) rfl ?_); clear S a; intro g1 a w S)
  (refine st_y S (Yr.ys (ys_assign Ev.c)) rfl ?_; clear S a w; intro a w S)
  refine st_nil ?_
  (refine (then_normal (hK1 _ _ ?_)); clear hK1)
  refine wp_seq_k fun _ hK1 => ?_
  refine wp_seq_k fun _ hK2 => ?_
  refine wp_region_lit ?_
  (refine st_y S (Yr.ys (ys_move (Ev.t rfl))) rfl ?_; clear S a w; intro a w S)
  (refine st_y S (Yr.ys (ys_lss (Ev.t rfl) Ev.c)) rfl ?_; clear S a w; intro a w S)
  (refine st_y S (Yr.ys (ys_move (Ev.t rfl))) rfl ?_; clear S a w; intro a w S)
  (refine st_yf S rfl rfl (Yr.ys (ys_move (Ev.t rfl))) rfl ?_; clear S a w; intro a w S)
  (refine st_yf S rfl rfl (Yr.ys (ys_geq (Ev.g rfl) Ev.c)) rfl ?_; clear S a w; intro a w S)
  (refine st_y S (Yr.ys (ys_or (Ev.t rfl) Ev.c (Ev.g rfl))) rfl ?_; clear S a w; intro a w S)
  refine st_nil ?_
  (refine (then_normal (hK2 _ _ ?_)); clear hK2)
  refine st_cond S (Ev.t rfl) (fun h1 => ?_) (fun h1 => ?_)
  refine wp_seq_k fun _ hK2 => ?_
  refine wp_region_lit ?_
  (refine st_y S (Yr.ys (ys_assign Ev.c)) rfl ?_; clear S a w; intro a w S)
  refine st_nil ?_
  (refine (then_normal (hK2 _ _ ?_)); clear hK2)
  refine wp_ret ?_
  refine (then_ret ?_)
  refine st_ret S (results1 S Try.results72 (Rv.tmp rfl)) ?_
  rotate_left
  refine wp_skip ?_
  (refine (then_normal (hK1 _ _ ?_)); clear hK1)
  refine wp_seq_k fun _ hK1 => ?_
  refine wp_region_lit ?_
  (refine st_y S (Yr.ys (ys_ldA ⟨Try.isAgg24, Try.sizeOf24⟩ (Ev.t rfl) (k := 0) rfl rfl)) rfl ?_; clear S a w; intro a w S)
  (refine st_y S (ys_call Try.call20 (EvL.cons (Ev.t rfl) EvL.nil) (fun hp w W => c20 _ _ _ _ _ _ (by exact .old W (by assumption)) (by assumption))) rfl ?_; clear S a w; intro a w S)
  (refine st_y S (Yr.ys (ys_assign (Ev.t rfl))) rfl ?_; clear S a w; intro a w S)
  refine st_nil ?_
  (refine (then_normal (hK1 _ _ ?_)); clear hK1)
  refine wp_ret ?_
  refine st_ret S (results1 S Try.results72 (Rv.tmp rfl)) ?_
  rotate_left
  · refine ⟨?_, S.wd.below⟩
    simp only [Bool.or_eq_true, decide_eq_true_eq] at h1
    rw [lookE, if_pos h1]
  · refine ⟨?_, S.wd.below⟩
    simp only [Bool.or_eq_false_iff, decide_eq_false_iff_not] at h1
    rw [lookE, if_neg (not_or.2 h1)]
theorem c22 (w0 : World) (p c s n : Int) (v : Value) (l : List Mbr) (h : Sl Mbr.enc 4 w0 w0.heap.size v l) (hn : l.length ≤ 4194304) :
    Rets Try.prog 22 #[.agg #[.int .i64 p, .int .i64 c, .int .i64 s, v], .int .i64 n] w0 fun u L => ∃ A cp, u = .tuple #[rngV (joinR ⟨p, c, s, l⟩ n).1 A cp, .int .i64 (joinR ⟨p, c, s, l⟩ n).2] ∧ L = [rowOf 60 4 Mbr.enc A cp (joinR ⟨p, c, s, l⟩ n).1.mem] := by
  by_cases hl : lookE ⟨p, c, s, l⟩ n ≠ 0
  · have rw_0 : decide (lookE ⟨p, c, s, l⟩ n ≠ 0) = true := decide_eq_true hl
    unfold Go.Fw.Rets
    refine enter2 Try.func22 rfl Try.ntmps22 rfl fun a S => ?_
    refine wp_seq_k fun _ hK1 => ?_
    refine wp_region_lit ?_
    (refine st_m (op_box S (Ev.t rfl) rfl ?_); clear S a; intro g1 a w S)
    (refine st_m (op_alloc S Try.zeroValue24 (cs := _) rfl rfl ?_); clear S a w; intro g2 a w S)
    (refine st_y S (Yr.ys (ys_assign Ev.c)) rfl ?_; clear S a w; intro a w S)
    refine st_nil ?_
    (refine (then_normal (hK1 _ _ ?_)); clear hK1)
    refine wp_seq_k fun _ hK1 => ?_
    refine wp_region_lit ?_
    (refine st_y S (Yr.ys (ys_ldA ⟨Try.isAgg24, Try.sizeOf24⟩ (Ev.t rfl) (k := 1) rfl rfl)) rfl ?_; clear S a w; intro a w S)
    (refine st_y S (Yr.ys (ys_move (Ev.t rfl))) rfl ?_; clear S a w; intro a w S)
    (refine st_y S (ys_call Try.call72 (EvL.cons (Ev.t rfl) (EvL.cons (Ev.t rfl) EvL.nil)) (fun hp w W => c72 _ _ _ _ _ _ _ (by exact .old W (by assumption)) (by assumption))) rfl ?_; clear S a w; intro a w S)
    (refine st_y S (Yr.ys (ys_assign (Ev.t rfl))) rfl ?_; clear S a w; intro a w S)
    refine st_nil ?_
    (refine (then_normal (hK1 _ _ ?_)); clear hK1)
    refine wp_seq_k fun _ hK1 => ?_
    refine wp_seq_k fun _ hK2 => ?_
    refine wp_region_lit ?_
    (refine st_y S (Yr.ys (ys_move (Ev.t rfl))) rfl ?_; clear S a w; intro a w S)
    (refine st_y S (Yr.ys (ys_T (by omega) (ys_neq (Ev.t rfl) Ev.c))) rfl ?_; clear S a w; intro a w S)
    refine st_nil ?_
    (refine (then_normal (hK2 _ _ ?_)); clear hK2)
    refine st_then S (Ev.t rfl) ?_
    refine wp_seq_k fun _ hK2 => ?_
    refine wp_region_lit ?_
    (refine st_y S (Yr.ys (ys_bld (ps := []) (us := [_, _, _, _]) bld24 EvL.nil rfl)) rfl ?_; clear S a w; intro a w S)
    (refine st_y S (Yr.ys (ys_move (Ev.t rfl))) rfl ?_; clear S a w; intro a w S)
    (refine st_m (op_stW S Try.sizeOf24 (Ev.t rfl) (Ev.t rfl) (k := 0) rfl rfl rfl (by simp [Value.oneCell']) ?_); clear S a w; intro a w S)
    (refine st_y S (Yr.ys (ys_assign (Ev.t rfl))) rfl ?_; clear S a w; intro a w S)
    refine st_nil ?_
    (refine (then_normal (hK2 _ _ ?_)); clear hK2)
    refine wp_ret ?_
    refine (then_ret ?_)
    refine st_ret S (results2 S Try.results22 (Rv.cell (k := 0) ⟨Try.isAgg24, Try.sizeOf24⟩ rfl rfl rfl) (Rv.tmp rfl)) ?_
    exact ⟨_, [rowOf 60 4 Mbr.enc none 0 []], rfl, (S.nil_ 60 4 Mbr.enc none).wd.picks (by repeat (first | exact Picks.nil | (refine Picks.rest ?_; (repeat (first | exact List.Sublist.refl _ | refine List.Sublist.cons_cons _ ?_ | refine List.Sublist.cons _ ?_)); done) | refine Picks.take 0 rfl ?_ | refine Picks.take 1 rfl ?_ | refine Picks.take 2 rfl ?_ | refine Picks.take 3 rfl ?_ | refine Picks.take 4 rfl ?_ | refine Picks.take 5 rfl ?_ | refine Picks.take 6 rfl ?_ | refine Picks.take 7 rfl ?_ | refine Picks.take 8 rfl ?_ | refine Picks.take 9 rfl ?_ | refine Picks.take 10 rfl ?_ | refine Picks.take 11 rfl ?_)), by rw [join_bad hl]; exact ⟨none, 0, rfl, rfl⟩⟩
  have rw_0 : decide (lookE ⟨p, c, s, l⟩ n ≠ 0) = false := decide_eq_false hl
  have hg := getM_small ((look_ok.1 (Decidable.not_not.1 hl)).2.2) n
  dsimp only at hg
  have rw_1 : IntKind.i64.wrap ((getM l n).epoch + 1) = (getM l n).epoch + 1 := by rw [IntKind.wrap_i64]; omega
  have rw_2 : IntKind.i64.wrap ((getM l n).stamp + 1) = (getM l n).stamp + 1 := by rw [IntKind.wrap_i64]; omega
  unfold Go.Fw.Rets
  refine enter2 Try.func22 rfl Try.ntmps22 rfl fun a S => ?_
  refine wp_seq_k fun _ hK1 => ?_
  refine wp_region_lit ?_
  (refine st_m (op_box S (Ev.t rfl) rfl ?_); clear S a; intro g1 a w S)
  (refine st_m (op_alloc S Try.zeroValue24 (cs := _) rfl rfl ?_); clear S a w; intro g2 a w S)
  (refine st_y S (Yr.ys (ys_assign Ev.c)) rfl ?_; clear S a w; intro a w S)
  refine st_nil ?_
  (refine (then_normal (hK1 _ _ ?_)); clear hK1)
  refine wp_seq_k fun _ hK1 => ?_
  refine wp_region_lit ?_
  (refine st_y S (Yr.ys (ys_ldA ⟨Try.isAgg24, Try.sizeOf24⟩ (Ev.t rfl) (k := 1) rfl rfl)) rfl ?_; clear S a w; intro a w S)
  (refine st_y S (Yr.ys (ys_move (Ev.t rfl))) rfl ?_; clear S a w; intro a w S)
  (refine st_y S (ys_call Try.call72 (EvL.cons (Ev.t rfl) (EvL.cons (Ev.t rfl) EvL.nil)) (fun hp w W => c72 _ _ _ _ _ _ _ (by exact .old W (by assumption)) (by assumption))) rfl ?_; clear S a w; intro a w S)
  (refine st_y S (Yr.ys (ys_assign (Ev.t rfl))) rfl ?_; clear S a w; intro a w S)
  refine st_nil ?_
  (refine (then_normal (hK1 _ _ ?_)); clear hK1)
  refine wp_seq_k fun _ hK1 => ?_
  refine wp_seq_k fun _ hK2 => ?_
  refine wp_region_lit ?_
  (refine st_y S (Yr.ys (ys_move (Ev.t rfl))) rfl ?_; clear S a w; intro a w S)
  (refine st_y S (Yr.ys (ys_F (by omega) (ys_neq (Ev.t rfl) Ev.c))) rfl ?_; clear S a w; intro a w S)
  refine st_nil ?_
  (refine (then_normal (hK2 _ _ ?_)); clear hK2)
  refine st_else S (Ev.t rfl) ?_
  refine wp_skip ?_
  (refine (then_normal (hK1 _ _ ?_)); clear hK1)
  refine wp_seq_k fun _ hK1 => ?_
  refine wp_region_lit ?_
  (refine st_y S (Yr.ys (ys_ldA ⟨Try.isAgg24, Try.sizeOf24⟩ (Ev.t rfl) (k := 1) rfl rfl)) rfl ?_; clear S a w; intro a w S)
  (refine st_y S (Yr.ys (ys_move (Ev.t rfl))) rfl ?_; clear S a w; intro a w S)
  (refine st_y S (ys_call Try.call73 (EvL.cons (Ev.t rfl) (EvL.cons (Ev.t rfl) EvL.nil)) (fun hp w W => c73 _ _ _ _ _ _ _ (by exact .old W (by assumption)) (by assumption))) rfl ?_; clear S a w; intro a w S)
  (refine st_m (op_alloc S Try.zeroValue60 (cs := _) rfl rfl ?_); clear S a w; intro g3 a w S)
  (refine st_m (op_stW S Try.sizeOf60 (Ev.t rfl) (Ev.t rfl) (k := 0) rfl rfl rfl (by simp [Value.oneCell']) ?_); clear S a w; intro a w S)
  refine st_nil ?_
  (refine (then_normal (hK1 _ _ ?_)); clear hK1)
  refine wp_seq_k fun _ hK1 => ?_
  refine wp_seq_k fun _ hK2 => ?_
  refine wp_region_lit ?_
  (refine st_y S (Yr.ys (ys_fieldN (FieldT.mk Try.underlying60 rfl Try.sizeOf3 rfl) (Ev.t rfl) (i' := 3) rfl)) rfl ?_; clear S a w; intro a w S)
  (refine st_y S (Yr.ys (ys_ld ⟨Try.isAgg3, Try.sizeOf3⟩ (Ev.t rfl) (k := 0) rfl rfl)) rfl ?_; clear S a w; intro a w S)
  (refine st_y S (Yr.ys (ys_eql (Ev.t rfl) Ev.c)) rfl ?_; clear S a w; intro a w S)
  refine st_nil ?_
  (refine (then_normal (hK2 _ _ ?_)); clear hK2)
  refine st_if S (Ev.t rfl) (fun h1 => ?_) (fun h1 => ?_)
  refine wp_seq_k fun _ hK2 => ?_
  refine wp_region_lit ?_
  (refine st_y S (Yr.ys (ys_bld (ps := []) (us := [_, _, _, _]) bld24 EvL.nil rfl)) rfl ?_; clear S a w; intro a w S)
  (refine st_m (op_stW S Try.sizeOf24 (Ev.t rfl) (Ev.t rfl) (k := 1) rfl rfl rfl (by simp [Value.oneCell']) ?_); clear S a w; intro a w S)
  (refine st_y S (Yr.ys (ys_assign Ev.c)) rfl ?_; clear S a w; intro a w S)
  refine st_nil ?_
  (refine (then_normal (hK2 _ _ ?_)); clear hK2)
  refine wp_ret ?_
  refine (then_ret ?_)
  refine st_ret S (results2 S Try.results22 (Rv.cell (k := 1) ⟨Try.isAgg24, Try.sizeOf24⟩ rfl rfl rfl) (Rv.tmp rfl)) ?_
  rotate_left
  refine wp_skip ?_
  (refine (then_normal (hK1 _ _ ?_)); clear hK1)
  refine wp_seq_k fun _ hK1 => ?_
  refine wp_seq_k fun _ hK2 => ?_
  refine wp_region_lit ?_
  (refine st_y S (Yr.ys (ys_fieldN (FieldT.mk Try.underlying60 rfl Try.sizeOf3 rfl) (Ev.t rfl) (i' := 1) rfl)) rfl ?_; clear S a w; intro a w S)
  (refine st_y S (Yr.ys (ys_ld ⟨Try.isAgg3, Try.sizeOf3⟩ (Ev.t rfl) (k := 0) rfl rfl)) rfl ?_; clear S a w; intro a w S)
  (refine st_y S (Yr.ys (ys_geq (Ev.t rfl) Ev.c)) rfl ?_; clear S a w; intro a w S)
  (refine st_y S (Yr.ys (ys_move (Ev.t rfl))) rfl ?_; clear S a w; intro a w S)
  (refine st_yf S rfl rfl (Yr.ys (ys_fieldN (FieldT.mk Try.underlying60 rfl Try.sizeOf3 rfl) (Ev.t rfl) (i' := 2) rfl)) rfl ?_; clear S a w; intro a w S)
  (refine st_yf S rfl rfl (Yr.ys (ys_ld ⟨Try.isAgg3, Try.sizeOf3⟩ (Ev.g rfl) (k := 0) rfl rfl)) rfl ?_; clear S a w; intro a w S)
  (refine st_yf S rfl rfl (Yr.ys (ys_geq (Ev.g rfl) Ev.c)) rfl ?_; clear S a w; intro a w S)
  (refine st_y S (Yr.ys (ys_or (Ev.t rfl) Ev.c (Ev.g rfl))) rfl ?_; clear S a w; intro a w S)
  refine st_nil ?_
  (refine (then_normal (hK2 _ _ ?_)); clear hK2)
  refine st_cond S (Ev.t rfl) (fun h2 => ?_) (fun h2 => ?_)
  refine wp_seq_k fun _ hK2 => ?_
  refine wp_region_lit ?_
  (refine st_y S (Yr.ys (ys_bld (ps := []) (us := [_, _, _, _]) bld24 EvL.nil rfl)) rfl ?_; clear S a w; intro a w S)
  (refine st_m (op_stW S Try.sizeOf24 (Ev.t rfl) (Ev.t rfl) (k := 1) rfl rfl rfl (by simp [Value.oneCell']) ?_); clear S a w; intro a w S)
  (refine st_y S (Yr.ys (ys_assign Ev.c)) rfl ?_; clear S a w; intro a w S)
  refine st_nil ?_
  (refine (then_normal (hK2 _ _ ?_)); clear hK2)
  refine wp_ret ?_
  refine (then_ret ?_)
  refine st_ret S (results2 S Try.results22 (Rv.cell (k := 1) ⟨Try.isAgg24, Try.sizeOf24⟩ rfl rfl rfl) (Rv.tmp rfl)) ?_
  rotate_left
  refine wp_skip ?_
  (refine (then_normal (hK1 _ _ ?_)); clear hK1)
  refine wp_seq_k fun _ hK1 => ?_
  refine wp_region_lit ?_
  (refine st_y S (Yr.ys (ys_ldA ⟨Try.isAgg24, Try.sizeOf24⟩ (Ev.t rfl) (k := 2) rfl rfl)) rfl ?_; clear S a w; intro a w S)
  (refine st_y S (Yr.ys (ys_move (Ev.t rfl))) rfl ?_; clear S a w; intro a w S)
  (refine st_y S (Yr.ys (ys_fieldN (FieldT.mk Try.underlying60 rfl Try.sizeOf3 rfl) (Ev.t rfl) (i' := 1) rfl)) rfl ?_; clear S a w; intro a w S)
  (refine st_y S (Yr.ys (ys_ld ⟨Try.isAgg3, Try.sizeOf3⟩ (Ev.t rfl) (k := 0) rfl rfl)) rfl ?_; clear S a w; intro a w S)
  (refine st_y S (Yr.ys (ys_addI (Ev.t rfl) Ev.c (fun _ => by unfold I64; omega))) rfl ?_; clear S a w; intro a w S)
  (refine st_y S (Yr.ys (ys_fieldN (FieldT.mk Try.underlying60 rfl Try.sizeOf3 rfl) (Ev.t rfl) (i' := 2) rfl)) rfl ?_; clear S a w; intro a w S)
  (refine st_y S (Yr.ys (ys_ld ⟨Try.isAgg3, Try.sizeOf3⟩ (Ev.t rfl) (k := 0) rfl rfl)) rfl ?_; clear S a w; intro a w S)
  (refine st_y S (Yr.ys (ys_addI (Ev.t rfl) Ev.c (fun _ => by unfold I64; omega))) rfl ?_; clear S a w; intro a w S)
  (refine st_y S (Yr.ys (ys_bld (ps := [(0, Go.Operand.tmp 32), (1, Go.Operand.tmp 35), (2, Go.Operand.tmp 38), (3, _)]) (us := [_, _, _, _]) bld60 (EvL.cons (Ev.t rfl) (EvL.cons (Ev.t rfl) (EvL.cons (Ev.t rfl) (EvL.cons Ev.c EvL.nil)))) rfl)) rfl ?_; clear S a w; intro a w S)
  (refine st_m (op_calls S Try.call74 (EvL.cons (Ev.t rfl) (EvL.cons (Ev.t rfl) EvL.nil)) (c74 _ _ _ _ _ _ _ _ _ _ (by exact .old S.wd (by assumption)) (by assumption)) rfl ?_); clear S a w; rintro _ _ ⟨A1, cp1, rfl, rfl⟩ a w S)
  (refine st_m (op_stW S Try.sizeOf24 (Ev.t rfl) (Ev.t rfl) (k := 2) rfl rfl rfl (by simp [Value.oneCell']) ?_); clear S a w; intro a w S)
  (refine st_y S (Yr.ys (ys_assign Ev.c)) rfl ?_; clear S a w; intro a w S)
  refine st_nil ?_
  (refine (then_normal (hK1 _ _ ?_)); clear hK1)
  refine wp_ret ?_
  refine st_ret S (results2 S Try.results22 (Rv.cell (k := 2) ⟨Try.isAgg24, Try.sizeOf24⟩ rfl rfl rfl) (Rv.tmp rfl)) ?_
  rotate_left
  · exact ⟨_, [rowOf 60 4 Mbr.enc none 0 []], rfl, (S.nil_ 60 4 Mbr.enc none).wd.picks (by repeat (first | exact Picks.nil | (refine Picks.rest ?_; (repeat (first | exact List.Sublist.refl _ | refine List.Sublist.cons_cons _ ?_ | refine List.Sublist.cons _ ?_)); done) | refine Picks.take 0 rfl ?_ | refine Picks.take 1 rfl ?_ | refine Picks.take 2 rfl ?_ | refine Picks.take 3 rfl ?_ | refine Picks.take 4 rfl ?_ | refine Picks.take 5 rfl ?_ | refine Picks.take 6 rfl ?_ | refine Picks.take 7 rfl ?_ | refine Picks.take 8 rfl ?_ | refine Picks.take 9 rfl ?_ | refine Picks.take 10 rfl ?_ | refine Picks.take 11 rfl ?_)), by rw [join_there hl h1]; exact ⟨none, 0, rfl, rfl⟩⟩
  · simp only [Bool.or_eq_true, decide_eq_true_eq] at h2
    exact ⟨_, [rowOf 60 4 Mbr.enc none 0 []], rfl, (S.nil_ 60 4 Mbr.enc none).wd.picks (by repeat (first | exact Picks.nil | (refine Picks.rest ?_; (repeat (first | exact List.Sublist.refl _ | refine List.Sublist.cons_cons _ ?_ | refine List.Sublist.cons _ ?_)); done) | refine Picks.take 0 rfl ?_ | refine Picks.take 1 rfl ?_ | refine Picks.take 2 rfl ?_ | refine Picks.take 3 rfl ?_ | refine Picks.take 4 rfl ?_ | refine Picks.take 5 rfl ?_ | refine Picks.take 6 rfl ?_ | refine Picks.take 7 rfl ?_ | refine Picks.take 8 rfl ?_ | refine Picks.take 9 rfl ?_ | refine Picks.take 10 rfl ?_ | refine Picks.take 11 rfl ?_)), by rw [join_full hl h1 h2]; exact ⟨none, 0, rfl, rfl⟩⟩
  · simp only [Bool.or_eq_false_iff, decide_eq_false_iff_not] at h2
    exact ⟨_, [rowOf 60 4 Mbr.enc A1 cp1 _], rfl, S.wd.picks (by repeat (first | exact Picks.nil | (refine Picks.rest ?_; (repeat (first | exact List.Sublist.refl _ | refine List.Sublist.cons_cons _ ?_ | refine List.Sublist.cons _ ?_)); done) | refine Picks.take 0 rfl ?_ | refine Picks.take 1 rfl ?_ | refine Picks.take 2 rfl ?_ | refine Picks.take 3 rfl ?_ | refine Picks.take 4 rfl ?_ | refine Picks.take 5 rfl ?_ | refine Picks.take 6 rfl ?_ | refine Picks.take 7 rfl ?_ | refine Picks.take 8 rfl ?_ | refine Picks.take 9 rfl ?_ | refine Picks.take 10 rfl ?_ | refine Picks.take 11 rfl ?_)), by rw [join_good hl h1 (not_or.2 h2)]; exact ⟨_, _, rfl, rfl⟩⟩
theorem c23 (w0 : World) (p c s n : Int) (v : Value) (l : List Mbr) (h : Sl Mbr.enc 4 w0 w0.heap.size v l) (hn : l.length ≤ 4194304) :
    Rets Try.prog 23 #[.agg #[.int .i64 p, .int .i64 c, .int .i64 s, v], .int .i64 n] w0 fun u L => ∃ A cp, u = .tuple #[rngV (leaveR ⟨p, c, s, l⟩ n).1 A cp, .int .i64 (leaveR ⟨p, c, s, l⟩ n).2] ∧ L = [rowOf 60 4 Mbr.enc A cp (leaveR ⟨p, c, s, l⟩ n).1.mem] := by
  by_cases hl : lookE ⟨p, c, s, l⟩ n ≠ 0
  · have rw_0 : decide (lookE ⟨p, c, s, l⟩ n ≠ 0) = true := decide_eq_true hl
    unfold Go.Fw.Rets
    refine enter2 Try.func23 rfl Try.ntmps23 rfl fun a S => ?_
    refine wp_seq_k fun _ hK1 => ?_
    refine wp_region_lit ?_
    (refine st_m (op_box S (Ev.t rfl) rfl ?_); clear S a; intro g1 a w S)
    (refine st_m (op_alloc S Try.zeroValue24 (cs := _) rfl rfl ?_); clear S a w; intro g2 a w S)
    (refine st_y S (Yr.ys (ys_assign Ev.c)) rfl ?_; clear S a w; intro a w S)
    refine st_nil ?_
    (refine (then_normal (hK1 _ _ ?_)); clear hK1)
    refine wp_seq_k fun _ hK1 => ?_
    refine wp_region_lit ?_
    (refine st_y S (Yr.ys (ys_ldA ⟨Try.isAgg24, Try.sizeOf24⟩ (Ev.t rfl) (k := 1) rfl rfl)) rfl ?_; clear S a w; intro a w S)
    (refine st_y S (Yr.ys (ys_move (Ev.t rfl))) rfl ?_; clear S a w; intro a w S)
    (refine st_y S (ys_call Try.call72 (EvL.cons (Ev.t rfl) (EvL.cons (Ev.t rfl) EvL.nil)) (fun hp w W => c72 _ _ _ _ _ _ _ (by exact .old W (by assumption)) (by assumption))) rfl ?_; clear S a w; intro a w S)
    (refine st_y S (Yr.ys (ys_assign (Ev.t rfl))) rfl ?_; clear S a w; intro a w S)
    refine st_nil ?_
    (refine (then_normal (hK1 _ _ ?_)); clear hK1)
    refine wp_seq_k fun _ hK1 => ?_
    refine wp_seq_k fun _ hK2 => ?_
    refine wp_region_lit ?_
    (refine st_y S (Yr.ys (ys_move (Ev.t rfl))) rfl ?_; clear S a w; intro a w S)
    (refine st_y S (Yr.ys (ys_T (by omega) (ys_neq (Ev.t rfl) Ev.c))) rfl ?_; clear S a w; intro a w S)
    refine st_nil ?_
    (refine (then_normal (hK2 _ _ ?_)); clear hK2)
    refine st_then S (Ev.t rfl) ?_
    refine wp_seq_k fun _ hK2 => ?_
    refine wp_region_lit ?_
    (refine st_y S (Yr.ys (ys_bld (ps := []) (us := [_, _, _, _]) bld24 EvL.nil rfl)) rfl ?_; clear S a w; intro a w S)
    (refine st_y S (Yr.ys (ys_move (Ev.t rfl))) rfl ?_; clear S a w; intro a w S)
    (refine st_m (op_stW S Try.sizeOf24 (Ev.t rfl) (Ev.t rfl) (k := 0) rfl rfl rfl (by simp [Value.oneCell']) ?_); clear S a w; intro a w S)
    (refine st_y S (Yr.ys (ys_assign (Ev.t rfl))) rfl ?_; clear S a w; intro a w S)
    refine st_nil ?_
    (refine (then_normal (hK2 _ _ ?_)); clear hK2)
    refine wp_ret ?_
    refine (then_ret ?_)
    refine st_ret S (results2 S Try.results23 (Rv.cell (k := 0) ⟨Try.isAgg24, Try.sizeOf24⟩ rfl rfl rfl) (Rv.tmp rfl)) ?_
    exact ⟨_, [rowOf 60 4 Mbr.enc none 0 []], rfl, (S.nil_ 60 4 Mbr.enc none).wd.picks (by repeat (first | exact Picks.nil | (refine Picks.rest ?_; (repeat (first | exact List.Sublist.refl _ | refine List.Sublist.cons_cons _ ?_ | refine List.Sublist.cons _ ?_)); done) | refine Picks.take 0 rfl ?_ | refine Picks.take 1 rfl ?_ | refine Picks.take 2 rfl ?_ | refine Picks.take 3 rfl ?_ | refine Picks.take 4 rfl ?_ | refine Picks.take 5 rfl ?_ | refine Picks.take 6 rfl ?_ | refine Picks.take 7 rfl ?_ | refine Picks.take 8 rfl ?_ | refine Picks.take 9 rfl ?_ | refine Picks.take 10 rfl ?_ | refine Picks.take 11 rfl ?_)), by rw [leave_bad hl]; exact ⟨none, 0, rfl, rfl⟩⟩
  have rw_0 : decide (lookE ⟨p, c, s, l⟩ n ≠ 0) = false := decide_eq_false hl
  have hg := getM_small ((look_ok.1 (Decidable.not_not.1 hl)).2.2) n
  dsimp only at hg
  have rw_2 : IntKind.i64.wrap ((getM l n).stamp + 1) = (getM l n).stamp + 1 := by rw [IntKind.wrap_i64]; omega
  unfold Go.Fw.Rets
  refine enter2 Try.func23 rfl Try.ntmps23 rfl fun a S => ?_
  refine wp_seq_k fun _ hK1 => ?_
  refine wp_region_lit ?_
  (refine st_m (op_box S (Ev.t rfl) rfl ?_); clear S a; intro g1 a w S)
  (refine st_m (op_alloc S Try.zeroValue24 (cs := _) rfl rfl ?_); clear S a w; intro g2 a w S)
  (refine st_y S (Yr.ys (ys_assign Ev.c)) rfl ?_; clear S a w; intro a w S)
  refine st_nil ?_
  (refine (then_normal (hK1 _ _ ?_)); clear hK1)
  refine wp_seq_k fun _ hK1 => ?_
  refine wp_region_lit ?_
  (refine st_y S (Yr.ys (ys_ldA ⟨Try.isAgg24, Try.sizeOf24⟩ (Ev.t rfl) (k := 1) rfl rfl)) rfl ?_; clear S a w; intro a w S)
  (refine st_y S (Yr.ys (ys_move (Ev.t rfl))) rfl ?_; clear S a w; intro a w S)
  (refine st_y S (ys_call Try.call72 (EvL.cons (Ev.t rfl) (EvL.cons (Ev.t rfl) EvL.nil)) (fun hp w W => c72 _ _ _ _ _ _ _ (by exact .old W (by assumption)) (by assumption))) rfl ?_; clear S a w; intro a w S)
  (refine st_y S (Yr.ys (ys_assign (Ev.t rfl))) rfl ?_; clear S a w; intro a w S)
  refine st_nil ?_
  (refine (then_normal (hK1 _ _ ?_)); clear hK1)
  refine wp_seq_k fun _ hK1 => ?_
  refine wp_seq_k fun _ hK2 => ?_
  refine wp_region_lit ?_
  (refine st_y S (Yr.ys (ys_move (Ev.t rfl))) rfl ?_; clear S a w; intro a w S)
  (refine st_y S (Yr.ys (ys_F (by omega) (ys_neq (Ev.t rfl) Ev.c))) rfl ?_; clear S a w; intro a w S)
  refine st_nil ?_
  (refine (then_normal (hK2 _ _ ?_)); clear hK2)
  refine st_else S (Ev.t rfl) ?_
  refine wp_skip ?_
  (refine (then_normal (hK1 _ _ ?_)); clear hK1)
  refine wp_seq_k fun _ hK1 => ?_
  refine wp_region_lit ?_
  (refine st_y S (Yr.ys (ys_ldA ⟨Try.isAgg24, Try.sizeOf24⟩ (Ev.t rfl) (k := 1) rfl rfl)) rfl ?_; clear S a w; intro a w S)
  (refine st_y S (Yr.ys (ys_move (Ev.t rfl))) rfl ?_; clear S a w; intro a w S)
  (refine st_y S (ys_call Try.call73 (EvL.cons (Ev.t rfl) (EvL.cons (Ev.t rfl) EvL.nil)) (fun hp w W => c73 _ _ _ _ _ _ _ (by exact .old W (by assumption)) (by assumption))) rfl ?_; clear S a w; intro a w S)
  (refine st_m (op_alloc S Try.zeroValue60 (cs := _) rfl rfl ?_); clear S a w; intro g3 a w S)
  (refine st_m (op_stW S Try.sizeOf60 (Ev.t rfl) (Ev.t rfl) (k := 0) rfl rfl rfl (by simp [Value.oneCell']) ?_); clear S a w; intro a w S)
  refine st_nil ?_
  (refine (then_normal (hK1 _ _ ?_)); clear hK1)
  refine wp_seq_k fun _ hK1 => ?_
  refine wp_seq_k fun _ hK2 => ?_
  refine wp_region_lit ?_
  (refine st_y S (Yr.ys (ys_fieldN (FieldT.mk Try.underlying60 rfl Try.sizeOf3 rfl) (Ev.t rfl) (i' := 3) rfl)) rfl ?_; clear S a w; intro a w S)
  (refine st_y S (Yr.ys (ys_ld ⟨Try.isAgg3, Try.sizeOf3⟩ (Ev.t rfl) (k := 0) rfl rfl)) rfl ?_; clear S a w; intro a w S)
  (refine st_y S (Yr.ys (ys_neq (Ev.t rfl) Ev.c)) rfl ?_; clear S a w; intro a w S)
  refine st_nil ?_
  (refine (then_normal (hK2 _ _ ?_)); clear hK2)
  refine st_if S (Ev.t rfl) (fun h1 => ?_) (fun h1 => ?_)
  refine wp_seq_k fun _ hK2 => ?_
  refine wp_region_lit ?_
  (refine st_y S (Yr.ys (ys_bld (ps := []) (us := [_, _, _, _]) bld24 EvL.nil rfl)) rfl ?_; clear S a w; intro a w S)
  (refine st_m (op_stW S Try.sizeOf24 (Ev.t rfl) (Ev.t rfl) (k := 1) rfl rfl rfl (by simp [Value.oneCell']) ?_); clear S a w; intro a w S)
  (refine st_y S (Yr.ys (ys_assign Ev.c)) rfl ?_; clear S a w; intro a w S)
  refine st_nil ?_
  (refine (then_normal (hK2 _ _ ?_)); clear hK2)
  refine wp_ret ?_
  refine (then_ret ?_)
  refine st_ret S (results2 S Try.results23 (Rv.cell (k := 1) ⟨Try.isAgg24, Try.sizeOf24⟩ rfl rfl rfl) (Rv.tmp rfl)) ?_
  rotate_left
  refine wp_skip ?_
  (refine (then_normal (hK1 _ _ ?_)); clear hK1)
  refine wp_seq_k fun _ hK1 => ?_
  refine wp_seq_k fun _ hK2 => ?_
  refine wp_region_lit ?_
  (refine st_y S (Yr.ys (ys_fieldN (FieldT.mk Try.underlying60 rfl Try.sizeOf3 rfl) (Ev.t rfl) (i' := 2) rfl)) rfl ?_; clear S a w; intro a w S)
  (refine st_y S (Yr.ys (ys_ld ⟨Try.isAgg3, Try.sizeOf3⟩ (Ev.t rfl) (k := 0) rfl rfl)) rfl ?_; clear S a w; intro a w S)
  (refine st_y S (Yr.ys (ys_geq (Ev.t rfl) Ev.c)) rfl ?_; clear S a w; intro a w S)
  refine st_nil ?_
  (refine (then_normal (hK2 _ _ ?_)); clear hK2)
  refine st_if S (Ev.t rfl) (fun h2 => ?_) (fun h2 => ?_)
  refine wp_seq_k fun _ hK2 => ?_
  refine wp_region_lit ?_
  (refine st_y S (Yr.ys (ys_bld (ps := []) (us := [_, _, _, _]) bld24 EvL.nil rfl)) rfl ?_; clear S a w; intro a w S)
  (refine st_m (op_stW S Try.sizeOf24 (Ev.t rfl) (Ev.t rfl) (k := 1) rfl rfl rfl (by simp [Value.oneCell']) ?_); clear S a w; intro a w S)
  (refine st_y S (Yr.ys (ys_assign Ev.c)) rfl ?_; clear S a w; intro a w S)
  refine st_nil ?_
  (refine (then_normal (hK2 _ _ ?_)); clear hK2)
  refine wp_ret ?_
  refine (then_ret ?_)
  refine st_ret S (results2 S Try.results23 (Rv.cell (k := 1) ⟨Try.isAgg24, Try.sizeOf24⟩ rfl rfl rfl) (Rv.tmp rfl)) ?_
  rotate_left
  refine wp_skip ?_
  (refine (then_normal (hK1 _ _ ?_)); clear hK1)
  refine wp_seq_k fun _ hK1 => ?_
  refine wp_region_lit ?_
  (refine st_y S (Yr.ys (ys_ldA ⟨Try.isAgg24, Try.sizeOf24⟩ (Ev.t rfl) (k := 2) rfl rfl)) rfl ?_; clear S a w; intro a w S)
  (refine st_y S (Yr.ys (ys_move (Ev.t rfl))) rfl ?_; clear S a w; intro a w S)
  (refine st_y S (Yr.ys (ys_fieldN (FieldT.mk Try.underlying60 rfl Try.sizeOf3 rfl) (Ev.t rfl) (i' := 1) rfl)) rfl ?_; clear S a w; intro a w S)
  (refine st_y S (Yr.ys (ys_ld ⟨Try.isAgg3, Try.sizeOf3⟩ (Ev.t rfl) (k := 0) rfl rfl)) rfl ?_; clear S a w; intro a w S)
  (refine st_y S (Yr.ys (ys_fieldN (FieldT.mk Try.underlying60 rfl Try.sizeOf3 rfl) (Ev.t rfl) (i' := 2) rfl)) rfl ?_; clear S a w; intro a w S)
  (refine st_y S (Yr.ys (ys_ld ⟨Try.isAgg3, Try.sizeOf3⟩ (Ev.t rfl) (k := 0) rfl rfl)) rfl ?_; clear S a w; intro a w S)
  (refine st_y S (Yr.ys (ys_addI (Ev.t rfl) Ev.c (fun _ => by unfold I64; omega))) rfl ?_; clear S a w; intro a w S)
  (refine st_y S (Yr.ys (ys_bld (ps := [(0, Go.Operand.tmp 27), (1, Go.Operand.tmp 29), (2, Go.Operand.tmp 32), (3, _)]) (us := [_, _, _, _]) bld60 (EvL.cons (Ev.t rfl) (EvL.cons (Ev.t rfl) (EvL.cons (Ev.t rfl) (EvL.cons Ev.c EvL.nil)))) rfl)) rfl ?_; clear S a w; intro a w S)
  (refine st_m (op_calls S Try.call74 (EvL.cons (Ev.t rfl) (EvL.cons (Ev.t rfl) EvL.nil)) (c74 _ _ _ _ _ _ _ _ _ _ (by exact .old S.wd (by assumption)) (by assumption)) rfl ?_); clear S a w; rintro _ _ ⟨A1, cp1, rfl, rfl⟩ a w S)
  (refine st_m (op_stW S Try.sizeOf24 (Ev.t rfl) (Ev.t rfl) (k := 2) rfl rfl rfl (by simp [Value.oneCell']) ?_); clear S a w; intro a w S)
  (refine st_y S (Yr.ys (ys_assign Ev.c)) rfl ?_; clear S a w; intro a w S)
  refine st_nil ?_
  (refine (then_normal (hK1 _ _ ?_)); clear hK1)
  refine wp_ret ?_
  refine st_ret S (results2 S Try.results23 (Rv.cell (k := 2) ⟨Try.isAgg24, Try.sizeOf24⟩ rfl rfl rfl) (Rv.tmp rfl)) ?_
  rotate_left
  · exact ⟨_, [rowOf 60 4 Mbr.enc none 0 []], rfl, (S.nil_ 60 4 Mbr.enc none).wd.picks (by repeat (first | exact Picks.nil | (refine Picks.rest ?_; (repeat (first | exact List.Sublist.refl _ | refine List.Sublist.cons_cons _ ?_ | refine List.Sublist.cons _ ?_)); done) | refine Picks.take 0 rfl ?_ | refine Picks.take 1 rfl ?_ | refine Picks.take 2 rfl ?_ | refine Picks.take 3 rfl ?_ | refine Picks.take 4 rfl ?_ | refine Picks.take 5 rfl ?_ | refine Picks.take 6 rfl ?_ | refine Picks.take 7 rfl ?_ | refine Picks.take 8 rfl ?_ | refine Picks.take 9 rfl ?_ | refine Picks.take 10 rfl ?_ | refine Picks.take 11 rfl ?_)), by rw [leave_absent hl h1]; exact ⟨none, 0, rfl, rfl⟩⟩
  · exact ⟨_, [rowOf 60 4 Mbr.enc none 0 []], rfl, (S.nil_ 60 4 Mbr.enc none).wd.picks (by repeat (first | exact Picks.nil | (refine Picks.rest ?_; (repeat (first | exact List.Sublist.refl _ | refine List.Sublist.cons_cons _ ?_ | refine List.Sublist.cons _ ?_)); done) | refine Picks.take 0 rfl ?_ | refine Picks.take 1 rfl ?_ | refine Picks.take 2 rfl ?_ | refine Picks.take 3 rfl ?_ | refine Picks.take 4 rfl ?_ | refine Picks.take 5 rfl ?_ | refine Picks.take 6 rfl ?_ | refine Picks.take 7 rfl ?_ | refine Picks.take 8 rfl ?_ | refine Picks.take 9 rfl ?_ | refine Picks.take 10 rfl ?_ | refine Picks.take 11 rfl ?_)), by rw [leave_full hl h1 h2]; exact ⟨none, 0, rfl, rfl⟩⟩
  · exact ⟨_, [rowOf 60 4 Mbr.enc A1 cp1 _], rfl, S.wd.picks (by repeat (first | exact Picks.nil | (refine Picks.rest ?_; (repeat (first | exact List.Sublist.refl _ | refine List.Sublist.cons_cons _ ?_ | refine List.Sublist.cons _ ?_)); done) | refine Picks.take 0 rfl ?_ | refine Picks.take 1 rfl ?_ | refine Picks.take 2 rfl ?_ | refine Picks.take 3 rfl ?_ | refine Picks.take 4 rfl ?_ | refine Picks.take 5 rfl ?_ | refine Picks.take 6 rfl ?_ | refine Picks.take 7 rfl ?_ | refine Picks.take 8 rfl ?_ | refine Picks.take 9 rfl ?_ | refine Picks.take 10 rfl ?_ | refine Picks.take 11 rfl ?_)), by rw [leave_good hl h1 h2]; exact ⟨_, _, rfl, rfl⟩⟩
theorem same_next {l l' : List Mbr} {k : Nat} {x y : Mbr} (hx : l[k]? = some x) (hy : l'[k]? = some y) (h : l.take k = l'.take k) : l.take (k + 1) = l'.take (k + 1) ↔ x = y := by
  rw [List.take_add_one, List.take_add_one, hx, hy, h]
  simp
theorem same_all {l l' : List Mbr} (hl : l.length = l'.length) (h : l.take l.length = l'.take l.length) : l = l' := by
  rw [List.take_length, hl, List.take_length] at h; exact h
theorem c26 (w0 : World) (p c s : Int) (v : Value) (l : List Mbr) (h : Sl Mbr.enc 4 w0 w0.heap.size v l) (p' c' s' : Int) (v' : Value) (l' : List Mbr) (h' : Sl Mbr.enc 4 w0 w0.heap.size v' l') :
    Calls Try.prog 26 #[.agg #[.int .i64 p, .int .i64 c, .int .i64 s, v], .agg #[.int .i64 p', .int .i64 c', .int .i64 s', v']] w0 fun e w' => e = .returned (.bool (decide ((⟨p, c, s, l⟩ : Rng) = ⟨p', c', s', l'⟩))) ∧ Bel w0.heap.size w0 w' := by
  obtain ⟨A, cap, rfl, hl, hcap, hA⟩ := id h
  obtain ⟨A', cap', rfl, hl', hcap', hA'⟩ := id h'
  refine enter2 Try.func26 rfl Try.ntmps26 rfl fun a S => ?_
  refine wp_seq_k fun _ hK1 => ?_
  refine wp_region_lit ?_
  (refine st_m (op_box S (Ev.t rfl) rfl ?_); clear S a; intro g1 a w S)
  (refine st_m (op_box S (Ev.t rfl) rfl ?_); clear S a w; intro g2 a w S)
  (refine st_y S (Yr.ys (ys_assign Ev.c)) rfl ?_; clear S a w; intro a w S)
  refine st_nil ?_
  (refine (then_normal (hK1 _ _ ?_)); clear hK1)
  refine wp_seq_k fun _ hK1 => ?_
  refine wp_seq_k fun _ hK2 => ?_
  refine wp_region_lit ?_
  (refine st_y S (Yr.ys (ys_fieldN (FieldT.mk Try.underlying24 rfl Try.sizeOf3 rfl) (Ev.t rfl) (i' := 0) rfl)) rfl ?_; clear S a w; intro a w S)
  (refine st_y S (Yr.ys (ys_ld ⟨Try.isAgg3, Try.sizeOf3⟩ (Ev.t rfl) (k := 1) rfl rfl)) rfl ?_; clear S a w; intro a w S)
  (refine st_y S (Yr.ys (ys_fieldN (FieldT.mk Try.underlying24 rfl Try.sizeOf3 rfl) (Ev.t rfl) (i' := 0) rfl)) rfl ?_; clear S a w; intro a w S)
  (refine st_y S (Yr.ys (ys_ld ⟨Try.isAgg3, Try.sizeOf3⟩ (Ev.t rfl) (k := 0) rfl rfl)) rfl ?_; clear S a w; intro a w S)
  (refine st_y S (Yr.ys (ys_neq (Ev.t rfl) (Ev.t rfl))) rfl ?_; clear S a w; intro a w S)
  (refine st_y S (Yr.ys (ys_move (Ev.t rfl))) rfl ?_; clear S a w; intro a w S)
  (refine st_yf S rfl rfl (Yr.ys (ys_fieldN (FieldT.mk Try.underlying24 rfl Try.sizeOf3 rfl) (Ev.t rfl) (i' := 1) rfl)) rfl ?_; clear S a w; intro a w S)
  (refine st_yf S rfl rfl (Yr.ys (ys_ld ⟨Try.isAgg3, Try.sizeOf3⟩ (Ev.g rfl) (k := 1) rfl rfl)) rfl ?_; clear S a w; intro a w S)
  (refine st_yf S rfl rfl (Yr.ys (ys_fieldN (FieldT.mk Try.underlying24 rfl Try.sizeOf3 rfl) (Ev.t rfl) (i' := 1) rfl)) rfl ?_; clear S a w; intro a w S)
  (refine st_yf S rfl rfl (Yr.ys (ys_ld ⟨Try.isAgg3, Try.sizeOf3⟩ (Ev.g rfl) (k := 0) rfl rfl)) rfl ?_; clear S a w; intro a w S)
  (refine st_yf S rfl rfl (Yr.ys (ys_neq (Ev.g rfl) (Ev.g rfl))) rfl ?_; clear S a w; intro a w S)
  (refine st_y S (Yr.ys (ys_or (Ev.t rfl) Ev.c (Ev.g rfl))) rfl ?_; clear S a w; intro a w S)
  (refine st_y S (Yr.ys (ys_move (Ev.t rfl))) rfl ?_; clear S a w; intro a w S)
  (refine st_yf S rfl rfl (Yr.ys (ys_fieldN (FieldT.mk Try.underlying24 rfl Try.sizeOf3 rfl) (Ev.t rfl) (i' := 2) rfl)) rfl ?_; clear S a w; intro a w S)
  (refine st_yf S rfl rfl (Yr.ys (ys_ld ⟨Try.isAgg3, Try.sizeOf3⟩ (Ev.g rfl) (k := 1) rfl rfl)) rfl ?_; clear S a w; intro a w S)
  (refine st_yf S rfl rfl (Yr.ys (ys_fieldN (FieldT.mk Try.underlying24 rfl Try.sizeOf3 rfl) (Ev.t rfl) (i' := 2) rfl)) rfl ?_; clear S a w; intro a w S)
  (refine st_yf S rfl rfl (Yr.ys (ys_ld ⟨Try.isAgg3, Try.sizeOf3⟩ (Ev.g rfl) (k := 0) rfl rfl)) rfl ?_; clear S a w; intro a w S)
  (refine st_yf S rfl rfl (Yr.ys (ys_neq (Ev.g rfl) (Ev.g rfl))) rfl ?_; clear S a w; intro a w S)
  (refine st_y S (Yr.ys (ys_or (Ev.t rfl) Ev.c (Ev.g rfl))) rfl ?_; clear S a w; intro a w S)
  (refine st_y S (Yr.ys (ys_move (Ev.t rfl))) rfl ?_; clear S a w; intro a w S)
  (refine st_yf S rfl rfl (Yr.ys (ys_fieldN (FieldT.mk Try.underlying24 rfl Try.sizeOf22 rfl) (Ev.t rfl) (i' := 3) rfl)) rfl ?_; clear S a w; intro a w S)
  (refine st_yf S rfl rfl (Yr.ys (ys_ld ⟨Try.isAgg22, Try.sizeOf22⟩ (Ev.g rfl) (k := 1) rfl rfl)) rfl ?_; clear S a w; intro a w S)
  (refine st_yf S rfl rfl (Yr.ys (ys_lenS Try.underlying22 (Ev.g rfl))) rfl ?_; clear S a w; intro a w S)
  (refine st_yf S rfl rfl (Yr.ys (ys_fieldN (FieldT.mk Try.underlying24 rfl Try.sizeOf22 rfl) (Ev.t rfl) (i' := 3) rfl)) rfl ?_; clear S a w; intro a w S)
  (refine st_yf S rfl rfl (Yr.ys (ys_ld ⟨Try.isAgg22, Try.sizeOf22⟩ (Ev.g rfl) (k := 0) rfl rfl)) rfl ?_; clear S a w; intro a w S)
  (refine st_yf S rfl rfl (Yr.ys (ys_lenS Try.underlying22 (Ev.g rfl))) rfl ?_; clear S a w; intro a w S)
  (refine st_yf S rfl rfl (Yr.ys (ys_neq (Ev.g rfl) (Ev.g rfl))) rfl ?_; clear S a w; intro a w S)
  (refine st_y S (Yr.ys (ys_or (Ev.t rfl) Ev.c (Ev.g rfl))) rfl ?_; clear S a w; intro a w S)
  refine st_nil ?_
  (refine (then_normal (hK2 _ _ ?_)); clear hK2)
  refine st_cond S (Ev.t rfl) (fun h1 => ?_) (fun h1 => ?_)
  refine wp_seq_k fun _ hK2 => ?_
  refine wp_region_lit ?_
  (refine st_y S (Yr.ys (ys_assign Ev.c)) rfl ?_; clear S a w; intro a w S)
  refine st_nil ?_
  (refine (then_normal (hK2 _ _ ?_)); clear hK2)
  refine wp_ret ?_
  refine (then_ret ?_)
  refine st_ret S (results1 S Try.results26 (Rv.tmp rfl)) ?_
  rotate_left
  refine wp_skip ?_
  (refine (then_normal (hK1 _ _ ?_)); clear hK1)
  refine wp_seq_k fun _ hK1 => ?_
  refine wp_seq_k fun _ hK2 => ?_
  refine wp_region_lit ?_
  (refine st_y S (Yr.ys (ys_assign Ev.c)) rfl ?_; clear S a w; intro a w S)
  refine st_nil ?_
  (refine (then_normal (hK2 _ _ ?_)); clear hK2)
  refine wp_block ?_
  rotate_left
  · refine ⟨?_, S.wd.below⟩
    rw [decide_eq_false]
    intro he
    injection he with e1 e2 e3 e4
    subst e1 e2 e3 e4
    simp at h1
  simp only [Bool.or_eq_false_iff, decide_eq_false_iff_not, Decidable.not_not] at h1
  obtain ⟨⟨⟨rfl, rfl⟩, rfl⟩, hll⟩ := h1
  have hll' : l.length = l'.length := by omega
  refine st_loopM S [4, 5] (X := Nat) (fun k => [(5, true, .int .i64 (k : Int))]) (fun k => [.blk g2 (.cells #[.int .i64 p, .int .i64 c, .int .i64 s, .slice A' l'.length cap'] 24), .blk g1 (.cells #[.int .i64 p, .int .i64 c, .int .i64 s, .slice A l.length cap] 24)])
    (fun k => k ≤ l.length ∧ l.take k = l'.take k) (fun k => l.length - k) 0 ⟨Nat.zero_le _, rfl⟩ (by repeat (first | exact Fits.nil | refine Fits.skip rfl ?_ | refine Fits.cons rfl ?_)) (by repeat (first | exact Picks.nil | (refine Picks.rest ?_; (repeat (first | exact List.Sublist.refl _ | refine List.Sublist.cons_cons _ ?_ | refine List.Sublist.cons _ ?_)); done) | refine Picks.take 0 rfl ?_ | refine Picks.take 1 rfl ?_ | refine Picks.take 2 rfl ?_ | refine Picks.take 3 rfl ?_ | refine Picks.take 4 rfl ?_ | refine Picks.take 5 rfl ?_ | refine Picks.take 6 rfl ?_ | refine Picks.take 7 rfl ?_ | refine Picks.take 8 rfl ?_ | refine Picks.take 9 rfl ?_ | refine Picks.take 10 rfl ?_ | refine Picks.take 11 rfl ?_)) ?_
  clear S
  intro k a w ⟨hk, hg⟩ S
  by_cases hlt : k < l.length
  · obtain ⟨gq, oq, x, rfl, hx, hdq, hc⟩ := row_at hA hlt
    obtain ⟨gr, or, y, rfl, hy, hdr, hcr⟩ := row_at hA' (show k < l'.length by omega)
    have hs := same_next hx hy hg
    have hxy : x = y ↔ x.node = y.node ∧ x.epoch = y.epoch ∧ x.stamp = y.stamp ∧ x.status = y.status := ⟨fun e => by subst e; exact ⟨rfl, rfl, rfl, rfl⟩, fun ⟨e1, e2, e3, e4⟩ => by cases x; cases y; simp_all⟩
    refine wp_seq_k fun _ hK2 => ?_
    refine wp_seq_k fun _ hK3 => ?_
    refine wp_region_lit ?_
    (refine st_y S (Yr.ys (ys_move (Ev.t rfl))) rfl ?_; clear S a w; intro a w S)
    (refine st_y S (Yr.ys (ys_fieldN (FieldT.mk Try.underlying24 rfl Try.sizeOf22 rfl) (Ev.t rfl) (i' := 3) rfl)) rfl ?_; clear S a w; intro a w S)
    (refine st_y S (Yr.ys (ys_ld ⟨Try.isAgg22, Try.sizeOf22⟩ (Ev.t rfl) (k := 1) rfl rfl)) rfl ?_; clear S a w; intro a w S)
    (refine st_y S (Yr.ys (ys_lenS Try.underlying22 (Ev.t rfl))) rfl ?_; clear S a w; intro a w S)
    (refine st_y S (Yr.ys (ys_T (by omega) (ys_lss (Ev.t rfl) (Ev.t rfl)))) rfl ?_; clear S a w; intro a w S)
    refine st_nil ?_
    (refine (then_normal (hK3 _ _ ?_)); clear hK3)
    refine st_then S (Ev.t rfl) ?_
    refine wp_skip ?_
    (refine (then_normal (hK2 _ _ ?_)); clear hK2)
    refine wp_seq_k fun _ hK2 => ?_
    refine wp_block ?_
    refine wp_seq_k fun _ hK3 => ?_
    (refine st_quiet S (by kernel_rfl) (by kernel_rfl) ?_; clear S w; intro a S)
    (refine q_y S (Yr.ys (ys_fieldN (FieldT.mk Try.underlying24 rfl Try.sizeOf22 rfl) (Ev.t rfl) (i' := 3) rfl)) rfl ?_; clear S a; intro a S)
    (refine q_y S (Yr.ys (ys_ld ⟨Try.isAgg22, Try.sizeOf22⟩ (Ev.t rfl) (k := 1) rfl rfl)) rfl ?_; clear S a; intro a S)
    (refine q_y S (Yr.ys (ys_move (Ev.t rfl))) rfl ?_; clear S a; intro a S)
    (refine q_y S (Yr.ys (ys_ixS Try.underlying22 Try.sizeOf60 (Ev.t rfl) (Ev.t rfl) (fun _ => by omega))) rfl ?_; clear S a; intro a S)
    (refine q_y S (Yr.ys (ys_ldOA ⟨Try.isAgg60, Try.sizeOf60⟩ (Ev.t rfl) (vs := [_, _, _, _]) rfl (fun _ => hc))) rfl ?_; clear S a; intro a S)
    (refine q_y S (Yr.ys (ys_fieldN (FieldT.mk Try.underlying24 rfl Try.sizeOf22 rfl) (Ev.t rfl) (i' := 3) rfl)) rfl ?_; clear S a; intro a S)
    (refine q_y S (Yr.ys (ys_ld ⟨Try.isAgg22, Try.sizeOf22⟩ (Ev.t rfl) (k := 0) rfl rfl)) rfl ?_; clear S a; intro a S)
    (refine q_y S (Yr.ys (ys_move (Ev.t rfl))) rfl ?_; clear S a; intro a S)
    (refine q_y S (Yr.ys (ys_ixS Try.underlying22 Try.sizeOf60 (Ev.t rfl) (Ev.t rfl) (fun _ => by omega))) rfl ?_; clear S a; intro a S)
    (refine q_y S (Yr.ys (ys_ldOA ⟨Try.isAgg60, Try.sizeOf60⟩ (Ev.t rfl) (vs := [_, _, _, _]) rfl (fun _ => hcr))) rfl ?_; clear S a; intro a S)
    (refine q_y S (Yr.ys (ys_neA (Ev.t rfl) (Ev.t rfl) eq60)) rfl ?_; clear S a; intro a S)
    (refine q_nil ?_; intro w W; replace S := St.mk S W; clear W)
    (refine (then_normal (hK3 _ _ ?_)); clear hK3)
    refine st_cond S (Ev.t rfl) (fun h1 => ?_) (fun h1 => ?_)
    refine wp_seq_k fun _ hK3 => ?_
    refine wp_region_lit ?_
    (refine st_y S (Yr.ys (ys_assign Ev.c)) rfl ?_; clear S a w; intro a w S)
    refine st_nil ?_
    (refine (then_normal (hK3 _ _ ?_)); clear hK3)
    refine wp_ret ?_
    refine (in_ret (then_ret (then_ret (in_ret (then_ret ?_)))))
    refine st_ret S (results1 S Try.results26 (Rv.tmp rfl)) ?_
    rotate_left
    refine wp_skip ?_
    (refine (in_normal (then_normal (hK2 _ _ ?_))); clear hK2)
    refine wp_region_lit ?_
    (refine st_y S (Yr.ys (ys_move (Ev.t rfl))) rfl ?_; clear S a w; intro a w S)
    (refine st_y S (Yr.ys (ys_addI (Ev.t rfl) Ev.c (fun _ => by unfold I64; omega))) rfl ?_; clear S a w; intro a w S)
    (refine st_y S (Yr.ys (ys_assign (Ev.t rfl))) rfl ?_; clear S a w; intro a w S)
    refine st_nil ?_
    refine (then_normal ?_)
    rotate_left
    · refine ⟨?_, S.wd.below⟩
      simp only [Bool.not_eq_true', decide_eq_false_iff_not, ← hxy] at h1
      rw [decide_eq_false]
      intro he
      injection he with _ _ _ e4
      exact h1 (hs.1 (by rw [e4]))
    · simp only [Bool.not_eq_false', decide_eq_true_eq, ← hxy] at h1
      exact ⟨k + 1, ⟨by omega, hs.2 h1⟩, by omega, S.picks (by repeat (first | exact Fits.nil | refine Fits.skip rfl ?_ | refine Fits.cons rfl ?_)) (by repeat (first | exact Picks.nil | (refine Picks.rest ?_; (repeat (first | exact List.Sublist.refl _ | refine List.Sublist.cons_cons _ ?_ | refine List.Sublist.cons _ ?_)); done) | refine Picks.take 0 rfl ?_ | refine Picks.take 1 rfl ?_ | refine Picks.take 2 rfl ?_ | refine Picks.take 3 rfl ?_ | refine Picks.take 4 rfl ?_ | refine Picks.take 5 rfl ?_ | refine Picks.take 6 rfl ?_ | refine Picks.take 7 rfl ?_ | refine Picks.take 8 rfl ?_ | refine Picks.take 9 rfl ?_ | refine Picks.take 10 rfl ?_ | refine Picks.take 11 rfl ?_))⟩
  obtain rfl : k = l.length := by omega
  have hf := same_all hll' hg
  refine wp_seq_k fun _ hK2 => ?_
  refine wp_seq_k fun _ hK3 => ?_
  refine wp_region_lit ?_
  (refine st_y S (Yr.ys (ys_move (Ev.t rfl))) rfl ?_; clear S a w; intro a w S)
  (refine st_y S (Yr.ys (ys_fieldN (FieldT.mk Try.underlying24 rfl Try.sizeOf22 rfl) (Ev.t rfl) (i' := 3) rfl)) rfl ?_; clear S a w; intro a w S)
  (refine st_y S (Yr.ys (ys_ld ⟨Try.isAgg22, Try.sizeOf22⟩ (Ev.t rfl) (k := 1) rfl rfl)) rfl ?_; clear S a w; intro a w S)
  (refine st_y S (Yr.ys (ys_lenS Try.underlying22 (Ev.t rfl))) rfl ?_; clear S a w; intro a w S)
  (refine st_y S (Yr.ys (ys_F (by omega) (ys_lss (Ev.t rfl) (Ev.t rfl)))) rfl ?_; clear S a w; intro a w S)
  refine st_nil ?_
  (refine (then_normal (hK3 _ _ ?_)); clear hK3)
  refine st_else S (Ev.t rfl) ?_
  refine wp_exit ?_
  (refine (then_exit (then_exit (in_here (then_normal (hK1 _ _ ?_))))); clear hK1)
  refine wp_seq_k fun _ hK1 => ?_
  refine wp_region_lit ?_
  (refine st_y S (Yr.ys (ys_assign Ev.c)) rfl ?_; clear S a w; intro a w S)
  refine st_nil ?_
  (refine (then_normal (hK1 _ _ ?_)); clear hK1)
  refine wp_ret ?_
  refine st_ret S (results1 S Try.results26 (Rv.tmp rfl)) ?_
  exact ⟨by rw [hf, decide_eq_true rfl], S.wd.below⟩
theorem c34 (w0 : World) (p c s : Int) (v : Value) (l : List Mbr) (h : Sl Mbr.enc 4 w0 w0.heap.size v l) (hn : l.length ≤ 4194304) :
    Rets Try.prog 34 #[.agg #[.int .i64 p, .int .i64 c, .int .i64 s, v]] w0 fun u L => ∃ A cp, u = .slice A (inR ⟨p, c, s, l⟩).length cp ∧ L = [rowOf 3 1 encI A cp (inR ⟨p, c, s, l⟩)] := by
  by_cases hc : shapeP p c s ∧ goodL l
  rotate_left
  · have rw_0 : (if shapeP p c s ∧ goodL l then (0 : Int) else 60) = 60 := if_neg hc
    unfold Go.Fw.Rets
    refine enter1 Try.func34 rfl Try.ntmps34 rfl fun a S => ?_
    refine wp_seq_k fun _ hK1 => ?_
    refine wp_region_lit ?_
    (refine st_m (op_box S (Ev.t rfl) rfl ?_); clear S a; intro g1 a w S)
    (refine st_y S (Yr.ys (ys_assign Ev.c)) rfl ?_; clear S a w; intro a w S)
    refine st_nil ?_
    (refine (then_normal (hK1 _ _ ?_)); clear hK1)
    refine wp_seq_k fun _ hK1 => ?_
    refine wp_region_lit ?_
    (refine st_y S (Yr.ys (ys_assign Ev.c)) rfl ?_; clear S a w; intro a w S)
    refine st_nil ?_
    (refine (then_normal (hK1 _ _ ?_)); clear hK1)
    refine wp_seq_k fun _ hK1 => ?_
    refine wp_seq_k fun _ hK2 => ?_
    refine wp_region_lit ?_
    (refine st_y S (Yr.ys (ys_ldA ⟨Try.isAgg24, Try.sizeOf24⟩ (Ev.t rfl) (k := 0) rfl rfl)) rfl ?_; clear S a w; intro a w S)
    (refine st_y S (ys_call Try.call20 (EvL.cons (Ev.t rfl) EvL.nil) (fun hp w W => c20 _ _ _ _ _ _ (by exact .old W (by assumption)) (by assumption))) rfl ?_; clear S a w; intro a w S)
    rw [rw_0] at S
    (refine st_y S (Yr.ys (ys_T (by omega) (ys_neq (Ev.t rfl) Ev.c))) rfl ?_; clear S a w; intro a w S)
    refine st_nil ?_
    (refine (then_normal (hK2 _ _ ?_)); clear hK2)
    refine st_then S (Ev.t rfl) ?_
    refine wp_seq_k fun _ hK2 => ?_
    refine wp_region_lit ?_
    (refine st_y S (Yr.ys (ys_assign Ev.c)) rfl ?_; clear S a w; intro a w S)
    refine st_nil ?_
    (refine (then_normal (hK2 _ _ ?_)); clear hK2)
    refine wp_ret ?_
    refine (then_ret ?_)
    refine st_ret S (results1 S Try.results34 (Rv.tmp rfl)) ?_
    have e : inR ⟨p, c, s, l⟩ = [] := if_neg hc
    exact ⟨_, [rowOf 3 1 encI none 0 []], rfl, (S.nil_ 3 1 encI none).wd.picks (by repeat (first | exact Picks.nil | (refine Picks.rest ?_; (repeat (first | exact List.Sublist.refl _ | refine List.Sublist.cons_cons _ ?_ | refine List.Sublist.cons _ ?_)); done) | refine Picks.take 0 rfl ?_ | refine Picks.take 1 rfl ?_ | refine Picks.take 2 rfl ?_ | refine Picks.take 3 rfl ?_ | refine Picks.take 4 rfl ?_ | refine Picks.take 5 rfl ?_ | refine Picks.take 6 rfl ?_ | refine Picks.take 7 rfl ?_ | refine Picks.take 8 rfl ?_ | refine Picks.take 9 rfl ?_ | refine Picks.take 10 rfl ?_ | refine Picks.take 11 rfl ?_)), by rw [e]; exact ⟨none, 0, rfl, rfl⟩⟩
  have rw_0 : (if shapeP p c s ∧ goodL l then (0 : Int) else 60) = 0 := if_pos hc
  have e : inR ⟨p, c, s, l⟩ = inL l := if_pos hc
  obtain ⟨A, cap, rfl, hl, hcap, hA⟩ := id h
  unfold Go.Fw.Rets
  refine enter1 Try.func34 rfl Try.ntmps34 rfl fun a S => ?_
  refine wp_seq_k fun _ hK1 => ?_
  refine wp_region_lit ?_
  (refine st_m (op_box S (Ev.t rfl) rfl ?_); clear S a; intro g1 a w S)
  (refine st_y S (Yr.ys (ys_assign Ev.c)) rfl ?_; clear S a w; intro a w S)
  refine st_nil ?_
  (refine (then_normal (hK1 _ _ ?_)); clear hK1)
  refine wp_seq_k fun _ hK1 => ?_
  refine wp_region_lit ?_
  (refine st_y S (Yr.ys (ys_assign Ev.c)) rfl ?_; clear S a w; intro a w S)
  refine st_nil ?_
  (refine (then_normal (hK1 _ _ ?_)); clear hK1)
  refine wp_seq_k fun _ hK1 => ?_
  refine wp_seq_k fun _ hK2 => ?_
  refine wp_region_lit ?_
  (refine st_y S (Yr.ys (ys_ldA ⟨Try.isAgg24, Try.sizeOf24⟩ (Ev.t rfl) (k := 0) rfl rfl)) rfl ?_; clear S a w; intro a w S)
  (refine st_y S (ys_call Try.call20 (EvL.cons (Ev.t rfl) EvL.nil) (fun hp w W => c20 _ _ _ _ _ _ (by exact .old W (by assumption)) (by assumption))) rfl ?_; clear S a w; intro a w S)
  rw [rw_0] at S
  (refine st_y S (Yr.ys (ys_F (by omega) (ys_neq (Ev.t rfl) Ev.c))) rfl ?_; clear S a w; intro a w S)
  refine st_nil ?_
  (refine (then_normal (hK2 _ _ ?_)); clear hK2)
  refine st_else S (Ev.t rfl) ?_
  refine wp_skip ?_
  (refine (then_normal (hK1 _ _ ?_)); clear hK1)
  refine wp_seq_k fun _ hK1 => ?_
  refine wp_seq_k fun _ hK2 => ?_
  refine wp_region_lit ?_
  (refine st_y S (Yr.ys (ys_assign Ev.c)) rfl ?_; clear S a w; intro a w S)
  refine st_nil ?_
  (refine (then_normal (hK2 _ _ ?_)); clear hK2)
  refine wp_block ?_
  replace S := S.nil_ 3 1 encI none
  refine st_loopM S [3, 4] (X := Nat × Option Addr × Nat) (fun y => [(3, true, .slice y.2.1 (inL (l.take y.1)).length y.2.2), (4, true, .int .i64 (y.1 : Int))])
    (fun y => [rowOf 3 1 encI y.2.1 y.2.2 (inL (l.take y.1)), .blk g1 (.cells #[.int .i64 p, .int .i64 c, .int .i64 s, .slice A l.length cap] 24)])
    (fun y => y.1 ≤ l.length) (fun y => l.length - y.1) (0, none, 0) (Nat.zero_le _) (by repeat (first | exact Fits.nil | refine Fits.skip rfl ?_ | refine Fits.cons rfl ?_)) (by repeat (first | exact Picks.nil | (refine Picks.rest ?_; (repeat (first | exact List.Sublist.refl _ | refine List.Sublist.cons_cons _ ?_ | refine List.Sublist.cons _ ?_)); done) | refine Picks.take 0 rfl ?_ | refine Picks.take 1 rfl ?_ | refine Picks.take 2 rfl ?_ | refine Picks.take 3 rfl ?_ | refine Picks.take 4 rfl ?_ | refine Picks.take 5 rfl ?_ | refine Picks.take 6 rfl ?_ | refine Picks.take 7 rfl ?_ | refine Picks.take 8 rfl ?_ | refine Picks.take 9 rfl ?_ | refine Picks.take 10 rfl ?_ | refine Picks.take 11 rfl ?_)) ?_
  clear S
  rintro ⟨k, B, cb⟩ a w hk S
  dsimp only at hk S
  by_cases hlt : k < l.length
  · obtain ⟨gq, oq, x, rfl, hx, hdq, hcc⟩ := row_at hA hlt
    have hlen := inL_le (l.take k)
    rw [List.length_take] at hlen
    have ht : inL (l.take (k + 1)) = inL (l.take k) ++ if x.status = 1 then [x.node] else [] := by rw [List.take_add_one, hx, Option.toList_some, inL_snoc]
    refine wp_seq_k fun _ hK2 => ?_
    refine wp_seq_k fun _ hK3 => ?_
    refine wp_region_lit ?_
    (refine st_y S (Yr.ys (ys_move (Ev.t rfl))) rfl ?_; clear S a w; intro a w S)
    (refine st_y S (Yr.ys (ys_fieldN (FieldT.mk Try.underlying24 rfl Try.sizeOf22 rfl) (Ev.t rfl) (i' := 3) rfl)) rfl ?_; clear S a w; intro a w S)
    (refine st_y S (Yr.ys (ys_ld ⟨Try.isAgg22, Try.sizeOf22⟩ (Ev.t rfl) (k := 1) rfl rfl)) rfl ?_; clear S a w; intro a w S)
    (refine st_y S (Yr.ys (ys_lenS Try.underlying22 (Ev.t rfl))) rfl ?_; clear S a w; intro a w S)
    (refine st_y S (Yr.ys (ys_T (by omega) (ys_lss (Ev.t rfl) (Ev.t rfl)))) rfl ?_; clear S a w; intro a w S)
    refine st_nil ?_
    (refine (then_normal (hK3 _ _ ?_)); clear hK3)
    refine st_then S (Ev.t rfl) ?_
    refine wp_skip ?_
    (refine (then_normal (hK2 _ _ ?_)); clear hK2)
    refine wp_seq_k fun _ hK2 => ?_
    refine wp_block ?_
    refine wp_seq_k fun _ hK3 => ?_
    refine wp_region_lit ?_
    (refine st_y S (Yr.ys (ys_fieldN (FieldT.mk Try.underlying24 rfl Try.sizeOf22 rfl) (Ev.t rfl) (i' := 3) rfl)) rfl ?_; clear S a w; intro a w S)
    (refine st_y S (Yr.ys (ys_ld ⟨Try.isAgg22, Try.sizeOf22⟩ (Ev.t rfl) (k := 1) rfl rfl)) rfl ?_; clear S a w; intro a w S)
    (refine st_y S (Yr.ys (ys_move (Ev.t rfl))) rfl ?_; clear S a w; intro a w S)
    (refine st_y S (Yr.ys (ys_ixS Try.underlying22 Try.sizeOf60 (Ev.t rfl) (Ev.t rfl) (fun _ => by omega))) rfl ?_; clear S a w; intro a w S)
    (refine st_y S (Yr.ys (ys_field (FieldT.mk Try.underlying60 rfl Try.sizeOf3 rfl) (Ev.t rfl))) rfl ?_; clear S a w; intro a w S)
    (refine st_y S (Yr.ys (ys_ldO ⟨Try.isAgg3, Try.sizeOf3⟩ (Ev.t rfl) (fun _ => hcc _ _ rfl))) rfl ?_; clear S a w; intro a w S)
    (refine st_y S (Yr.ys (ys_eql (Ev.t rfl) Ev.c)) rfl ?_; clear S a w; intro a w S)
    refine st_nil ?_
    (refine (then_normal (hK3 _ _ ?_)); clear hK3)
    refine st_if S (Ev.t rfl) (fun h1 => ?_) (fun h1 => ?_)
    refine wp_region_lit ?_
    (refine st_y S (Yr.ys (ys_move (Ev.t rfl))) rfl ?_; clear S a w; intro a w S)
    (refine st_y S (Yr.ys (ys_fieldN (FieldT.mk Try.underlying24 rfl Try.sizeOf22 rfl) (Ev.t rfl) (i' := 3) rfl)) rfl ?_; clear S a w; intro a w S)
    (refine st_y S (Yr.ys (ys_ld ⟨Try.isAgg22, Try.sizeOf22⟩ (Ev.t rfl) (k := 1) rfl rfl)) rfl ?_; clear S a w; intro a w S)
    (refine st_y S (Yr.ys (ys_move (Ev.t rfl))) rfl ?_; clear S a w; intro a w S)
    (refine st_y S (Yr.ys (ys_ixS Try.underlying22 Try.sizeOf60 (Ev.t rfl) (Ev.t rfl) (fun _ => by omega))) rfl ?_; clear S a w; intro a w S)
    (refine st_y S (Yr.ys (ys_field (FieldT.mk Try.underlying60 rfl Try.sizeOf3 rfl) (Ev.t rfl))) rfl ?_; clear S a w; intro a w S)
    (refine st_y S (Yr.ys (ys_ldO ⟨Try.isAgg3, Try.sizeOf3⟩ (Ev.t rfl) (fun _ => hcc _ _ rfl))) rfl ?_; clear S a w; intro a w S)
    (refine st_m (op_bslice1 S Try.underlying40 inf3 rfl rfl rfl (Ev.t rfl) rfl rfl rfl ?_); clear S a w; intro g2 a w S)
    (refine st_m (op_push S Try.underlying40 inf3 rfl (k := 1) (j := 0) rfl (Ev.t rfl) (Ev.t rfl) rfl rfl rfl rfl (by first | omega | (simp only [List.length_append, List.length_cons, List.length_nil]; omega)) rfl rfl rfl ?_); clear S a w; intro A1 cap1 a w S)
    (refine st_y S (Yr.ys (ys_assign (Ev.t rfl))) rfl ?_; clear S a w; intro a w S)
    refine st_nil ?_
    (refine (in_normal (then_normal (hK2 _ _ ?_))); clear hK2)
    refine wp_region_lit ?_
    (refine st_y S (Yr.ys (ys_move (Ev.t rfl))) rfl ?_; clear S a w; intro a w S)
    (refine st_y S (Yr.ys (ys_addI (Ev.t rfl) Ev.c (fun _ => by unfold I64; omega))) rfl ?_; clear S a w; intro a w S)
    (refine st_y S (Yr.ys (ys_assign (Ev.t rfl))) rfl ?_; clear S a w; intro a w S)
    refine st_nil ?_
    refine (then_normal ?_)
    rotate_left
    refine wp_skip ?_
    (refine (in_normal (then_normal (hK2 _ _ ?_))); clear hK2)
    refine wp_region_lit ?_
    (refine st_y S (Yr.ys (ys_move (Ev.t rfl))) rfl ?_; clear S a w; intro a w S)
    (refine st_y S (Yr.ys (ys_addI (Ev.t rfl) Ev.c (fun _ => by unfold I64; omega))) rfl ?_; clear S a w; intro a w S)
    (refine st_y S (Yr.ys (ys_assign (Ev.t rfl))) rfl ?_; clear S a w; intro a w S)
    refine st_nil ?_
    refine (then_normal ?_)
    rotate_left
    · rw [if_pos h1] at ht
      exact ⟨(k + 1, A1, cap1), by dsimp only; omega, by dsimp only; omega, by dsimp only; rw [ht]; exact S.picks (by repeat (first | exact Fits.nil | refine Fits.skip rfl ?_ | refine Fits.cons rfl ?_)) (by repeat (first | exact Picks.nil | (refine Picks.rest ?_; (repeat (first | exact List.Sublist.refl _ | refine List.Sublist.cons_cons _ ?_ | refine List.Sublist.cons _ ?_)); done) | refine Picks.take 0 rfl ?_ | refine Picks.take 1 rfl ?_ | refine Picks.take 2 rfl ?_ | refine Picks.take 3 rfl ?_ | refine Picks.take 4 rfl ?_ | refine Picks.take 5 rfl ?_ | refine Picks.take 6 rfl ?_ | refine Picks.take 7 rfl ?_ | refine Picks.take 8 rfl ?_ | refine Picks.take 9 rfl ?_ | refine Picks.take 10 rfl ?_ | refine Picks.take 11 rfl ?_))⟩
    · rw [if_neg h1, List.append_nil] at ht
      exact ⟨(k + 1, B, cb), by dsimp only; omega, by dsimp only; omega, by dsimp only; rw [ht]; exact S.picks (by repeat (first | exact Fits.nil | refine Fits.skip rfl ?_ | refine Fits.cons rfl ?_)) (by repeat (first | exact Picks.nil | (refine Picks.rest ?_; (repeat (first | exact List.Sublist.refl _ | refine List.Sublist.cons_cons _ ?_ | refine List.Sublist.cons _ ?_)); done) | refine Picks.take 0 rfl ?_ | refine Picks.take 1 rfl ?_ | refine Picks.take 2 rfl ?_ | refine Picks.take 3 rfl ?_ | refine Picks.take 4 rfl ?_ | refine Picks.take 5 rfl ?_ | refine Picks.take 6 rfl ?_ | refine Picks.take 7 rfl ?_ | refine Picks.take 8 rfl ?_ | refine Picks.take 9 rfl ?_ | refine Picks.take 10 rfl ?_ | refine Picks.take 11 rfl ?_))⟩
  obtain rfl : k = l.length := by omega
  rw [List.take_length] at S
  refine wp_seq_k fun _ hK2 => ?_
  refine wp_seq_k fun _ hK3 => ?_
  refine wp_region_lit ?_
  (refine st_y S (Yr.ys (ys_move (Ev.t rfl))) rfl ?_; clear S a w; intro a w S)
  (refine st_y S (Yr.ys (ys_fieldN (FieldT.mk Try.underlying24 rfl Try.sizeOf22 rfl) (Ev.t rfl) (i' := 3) rfl)) rfl ?_; clear S a w; intro a w S)
  (refine st_y S (Yr.ys (ys_ld ⟨Try.isAgg22, Try.sizeOf22⟩ (Ev.t rfl) (k := 1) rfl rfl)) rfl ?_; clear S a w; intro a w S)
  (refine st_y S (Yr.ys (ys_lenS Try.underlying22 (Ev.t rfl))) rfl ?_; clear S a w; intro a w S)
  (refine st_y S (Yr.ys (ys_F (by omega) (ys_lss (Ev.t rfl) (Ev.t rfl)))) rfl ?_; clear S a w; intro a w S)
  refine st_nil ?_
  (refine (then_normal (hK3 _ _ ?_)); clear hK3)
  refine st_else S (Ev.t rfl) ?_
  refine wp_exit ?_
  (refine (then_exit (then_exit (in_here (then_normal (hK1 _ _ ?_))))); clear hK1)
  refine wp_seq_k fun _ hK1 => ?_
  refine wp_region_lit ?_
  (refine st_y S (Yr.ys (ys_move (Ev.t rfl))) rfl ?_; clear S a w; intro a w S)
  (refine st_y S (Yr.ys (ys_assign (Ev.t rfl))) rfl ?_; clear S a w; intro a w S)
  refine st_nil ?_
  (refine (then_normal (hK1 _ _ ?_)); clear hK1)
  refine wp_ret ?_
  refine st_ret S (results1 S Try.results34 (Rv.tmp rfl)) ?_
  exact ⟨_, [rowOf 3 1 encI B cb (inL l)], rfl, S.wd.picks (by repeat (first | exact Picks.nil | (refine Picks.rest ?_; (repeat (first | exact List.Sublist.refl _ | refine List.Sublist.cons_cons _ ?_ | refine List.Sublist.cons _ ?_)); done) | refine Picks.take 0 rfl ?_ | refine Picks.take 1 rfl ?_ | refine Picks.take 2 rfl ?_ | refine Picks.take 3 rfl ?_ | refine Picks.take 4 rfl ?_ | refine Picks.take 5 rfl ?_ | refine Picks.take 6 rfl ?_ | refine Picks.take 7 rfl ?_ | refine Picks.take 8 rfl ?_ | refine Picks.take 9 rfl ?_ | refine Picks.take 10 rfl ?_ | refine Picks.take 11 rfl ?_)), by rw [e]; exact ⟨_, _, rfl, rfl⟩⟩
theorem c90 (w0 : World) (n : Int) (v : Value) (l : List Int) (h : Sl encI 1 w0 w0.heap.size v l) :
    Calls Try.prog 90 #[v, .int .i64 n] w0 fun e w' => e = .returned (.bool (decide (n ∈ l))) ∧ Bel w0.heap.size w0 w' := by
  obtain ⟨A, cap, rfl, hl, hcap, hA⟩ := h
  refine enter2 Try.func90 rfl Try.ntmps90 rfl fun a S => ?_
  refine wp_seq_k fun _ hK1 => ?_
  refine wp_region_lit ?_
  (refine st_y S (Yr.ys (ys_assign Ev.c)) rfl ?_; clear S a; intro a w S)
  refine st_nil ?_
  (refine (then_normal (hK1 _ _ ?_)); clear hK1)
  refine wp_seq_k fun _ hK1 => ?_
  refine wp_seq_k fun _ hK2 => ?_
  refine wp_region_lit ?_
  (refine st_y S (Yr.ys (ys_assign Ev.c)) rfl ?_; clear S a w; intro a w S)
  refine st_nil ?_
  (refine (then_normal (hK2 _ _ ?_)); clear hK2)
  refine wp_block ?_
  refine st_loopM S [4, 5] (X := Nat) (fun k => [(5, true, .int .i64 (k : Int))]) (fun k => []) (fun k => k ≤ l.length ∧ n ∉ l.take k) (fun k => l.length - k) 0 ⟨Nat.zero_le _, by simp⟩ (by repeat (first | exact Fits.nil | refine Fits.skip rfl ?_ | refine Fits.cons rfl ?_)) (by repeat (first | exact Picks.nil | (refine Picks.rest ?_; (repeat (first | exact List.Sublist.refl _ | refine List.Sublist.cons_cons _ ?_ | refine List.Sublist.cons _ ?_)); done) | refine Picks.take 0 rfl ?_ | refine Picks.take 1 rfl ?_ | refine Picks.take 2 rfl ?_ | refine Picks.take 3 rfl ?_ | refine Picks.take 4 rfl ?_ | refine Picks.take 5 rfl ?_ | refine Picks.take 6 rfl ?_ | refine Picks.take 7 rfl ?_ | refine Picks.take 8 rfl ?_ | refine Picks.take 9 rfl ?_ | refine Picks.take 10 rfl ?_ | refine Picks.take 11 rfl ?_)) ?_
  clear S
  intro k a w ⟨hk, hg⟩ S
  by_cases hlt : k < l.length
  · obtain ⟨gq, oq, x, rfl, hx, hdq, hc⟩ := row_at hA hlt
    refine wp_seq_k fun _ hK2 => ?_
    refine wp_seq_k fun _ hK3 => ?_
    refine wp_region_lit ?_
    (refine st_y S (Yr.ys (ys_move (Ev.t rfl))) rfl ?_; clear S a w; intro a w S)
    (refine st_y S (Yr.ys (ys_move (Ev.t rfl))) rfl ?_; clear S a w; intro a w S)
    (refine st_y S (Yr.ys (ys_lenS Try.underlying40 (Ev.t rfl))) rfl ?_; clear S a w; intro a w S)
    (refine st_y S (Yr.ys (ys_T (by omega) (ys_lss (Ev.t rfl) (Ev.t rfl)))) rfl ?_; clear S a w; intro a w S)
    refine st_nil ?_
    (refine (then_normal (hK3 _ _ ?_)); clear hK3)
    refine st_then S (Ev.t rfl) ?_
    refine wp_skip ?_
    (refine (then_normal (hK2 _ _ ?_)); clear hK2)
    refine wp_seq_k fun _ hK2 => ?_
    refine wp_block ?_
    refine wp_seq_k fun _ hK3 => ?_
    refine wp_region_lit ?_
    (refine st_y S (Yr.ys (ys_move (Ev.t rfl))) rfl ?_; clear S a w; intro a w S)
    (refine st_y S (Yr.ys (ys_move (Ev.t rfl))) rfl ?_; clear S a w; intro a w S)
    (refine st_y S (Yr.ys (ys_ixS Try.underlying40 Try.sizeOf3 (Ev.t rfl) (Ev.t rfl) (fun _ => by omega))) rfl ?_; clear S a w; intro a w S)
    (refine st_y S (Yr.ys (ys_ldO ⟨Try.isAgg3, Try.sizeOf3⟩ (Ev.t rfl) (fun _ => hc 0 _ rfl))) rfl ?_; clear S a w; intro a w S)
    (refine st_y S (Yr.ys (ys_move (Ev.t rfl))) rfl ?_; clear S a w; intro a w S)
    (refine st_y S (Yr.ys (ys_eql (Ev.t rfl) (Ev.t rfl))) rfl ?_; clear S a w; intro a w S)
    refine st_nil ?_
    (refine (then_normal (hK3 _ _ ?_)); clear hK3)
    refine st_if S (Ev.t rfl) (fun h1 => ?_) (fun h1 => ?_)
    refine wp_seq_k fun _ hK3 => ?_
    refine wp_region_lit ?_
    (refine st_y S (Yr.ys (ys_assign Ev.c)) rfl ?_; clear S a w; intro a w S)
    refine st_nil ?_
    (refine (then_normal (hK3 _ _ ?_)); clear hK3)
    refine wp_ret ?_
    refine (in_ret (then_ret (then_ret (in_ret (then_ret ?_)))))
    refine st_ret S (results1 S Try.results90 (Rv.tmp rfl)) ?_
    rotate_left
    refine wp_skip ?_
    (refine (in_normal (then_normal (hK2 _ _ ?_))); clear hK2)
    refine wp_region_lit ?_
    (refine st_y S (Yr.ys (ys_move (Ev.t rfl))) rfl ?_; clear S a w; intro a w S)
    (refine st_y S (Yr.ys (ys_addI (Ev.t rfl) Ev.c (fun _ => by unfold I64; omega))) rfl ?_; clear S a w; intro a w S)
    (refine st_y S (Yr.ys (ys_assign (Ev.t rfl))) rfl ?_; clear S a w; intro a w S)
    refine st_nil ?_
    refine (then_normal ?_)
    rotate_left
    · exact ⟨by rw [decide_eq_true (h1 ▸ List.mem_of_getElem? hx)], S.wd.below⟩
    · refine ⟨k + 1, ⟨by omega, ?_⟩, by omega, S.picks (by repeat (first | exact Fits.nil | refine Fits.skip rfl ?_ | refine Fits.cons rfl ?_)) (by repeat (first | exact Picks.nil | (refine Picks.rest ?_; (repeat (first | exact List.Sublist.refl _ | refine List.Sublist.cons_cons _ ?_ | refine List.Sublist.cons _ ?_)); done) | refine Picks.take 0 rfl ?_ | refine Picks.take 1 rfl ?_ | refine Picks.take 2 rfl ?_ | refine Picks.take 3 rfl ?_ | refine Picks.take 4 rfl ?_ | refine Picks.take 5 rfl ?_ | refine Picks.take 6 rfl ?_ | refine Picks.take 7 rfl ?_ | refine Picks.take 8 rfl ?_ | refine Picks.take 9 rfl ?_ | refine Picks.take 10 rfl ?_ | refine Picks.take 11 rfl ?_))⟩
      rw [List.take_add_one, hx, Option.toList_some, List.mem_append, List.mem_singleton]
      exact not_or.2 ⟨hg, fun e => h1 e.symm⟩
  obtain rfl : k = l.length := by omega
  rw [List.take_length] at hg
  refine wp_seq_k fun _ hK2 => ?_
  refine wp_seq_k fun _ hK3 => ?_
  refine wp_region_lit ?_
  (refine st_y S (Yr.ys (ys_move (Ev.t rfl))) rfl ?_; clear S a w; intro a w S)
  (refine st_y S (Yr.ys (ys_move (Ev.t rfl))) rfl ?_; clear S a w; intro a w S)
  (refine st_y S (Yr.ys (ys_lenS Try.underlying40 (Ev.t rfl))) rfl ?_; clear S a w; intro a w S)
  (refine st_y S (Yr.ys (ys_F (by omega) (ys_lss (Ev.t rfl) (Ev.t rfl)))) rfl ?_; clear S a w; intro a w S)
  refine st_nil ?_
  (refine (then_normal (hK3 _ _ ?_)); clear hK3)
  refine st_else S (Ev.t rfl) ?_
  refine wp_exit ?_
  (refine (then_exit (then_exit (in_here (then_normal (hK1 _ _ ?_))))); clear hK1)
  refine wp_seq_k fun _ hK1 => ?_
  refine wp_region_lit ?_
  (refine st_y S (Yr.ys (ys_assign Ev.c)) rfl ?_; clear S a w; intro a w S)
  refine st_nil ?_
  (refine (then_normal (hK1 _ _ ?_)); clear hK1)
  refine wp_ret ?_
  refine st_ret S (results1 S Try.results90 (Rv.tmp rfl)) ?_
  exact ⟨by rw [decide_eq_false hg], S.wd.below⟩
end Go.Proofs.Ytcglchdbddlnjaa
set_option linter.unusedVariables false
set_option linter.unusedSimpArgs false
set_option maxRecDepth 100000
set_option maxHeartbeats 4000000
namespace Go.Proofs.Ytcglchdbddlnjaa
open Go.Fw Go.Proofs Go.RowKit
theorem can_of_in {p c s : Int} {l : List Mbr} (h : 0 < (inR ⟨p, c, s, l⟩).length) : 0 < s.toNat ∧ s = (s.toNat : Int) ∧ s.toNat ≤ 16 := by
  unfold inR at h
  split at h
  · rename_i hc
    have := hc.1.2.2
    dsimp only at this
    omega
  · simp at h
abbrev seenP (way : Int → Nat → Int) (s : Nat) (all lst : List Int) (k : Nat) : List (Int × Int) := places way s (rest (all.take k) lst)
abbrev someP (way : Int → Nat → Int) (n : Int) (i : Nat) : List (Int × Int) := (List.range i).map fun j => (way n j, n)
theorem seenP_skip {way : Int → Nat → Int} {s : Nat} {all lst : List Int} {k : Nat} {n : Int} (hn : all[k]? = some n) (h : n ∈ lst) : seenP way s all lst (k + 1) = seenP way s all lst k := by
  unfold seenP rest
  rw [List.take_add_one, hn, Option.toList_some, List.filter_append]
  simp [h]
theorem seenP_next {way : Int → Nat → Int} {s : Nat} {all lst : List Int} {k : Nat} {n : Int} (hn : all[k]? = some n) (h : n ∉ lst) : seenP way s all lst (k + 1) = seenP way s all lst k ++ someP way n s := by
  unfold seenP rest places
  rw [List.take_add_one, hn, Option.toList_some, List.filter_append]
  simp [h]
theorem someP_next (way : Int → Nat → Int) (n : Int) (i : Nat) (ps : List (Int × Int)) : bestOf (ps ++ someP way n (i + 1)) = bestF (bestOf (ps ++ someP way n i)) (way n i, n) := by
  unfold someP
  rw [List.range_succ, List.map_append, ← List.append_assoc, List.map_singleton, best_snoc]
theorem c47 (w0 : World) (p c s pos : Int) (v : Value) (l : List Mbr) (h : Sl Mbr.enc 4 w0 w0.heap.size v l) (hn : l.length ≤ 4194304) :
    Rets Try.prog 47 #[.agg #[.int .i64 p, .int .i64 c, .int .i64 s, v], .int .u64 pos] w0 fun u L => ∃ A cp, u = .slice A (walkR ⟨p, c, s, l⟩ pos).length cp ∧ L = [rowOf 3 1 encI A cp (walkR ⟨p, c, s, l⟩ pos)] := by
  have hs := can_of_in (p := p) (c := c) (s := s) (l := l)
  have hr := inR_rise ⟨p, c, s, l⟩
  have h8 := inR_le ⟨p, c, s, l⟩
  have hm : ∀ n ∈ inR ⟨p, c, s, l⟩, 0 ≤ n ∧ n < 8 := fun n => mem_inR
  have hw : walkR ⟨p, c, s, l⟩ pos = walkL (wayP pos) s.toNat (inR ⟨p, c, s, l⟩) := rfl
  unfold Go.Fw.Rets
  refine enter2 Try.func47 rfl Try.ntmps47 rfl fun a S => ?_
  refine wp_seq_k fun _ hK1 => ?_
  refine wp_region_lit ?_
  (refine st_m (op_box S (Ev.t rfl) rfl ?_); clear S a; intro g1 a w S)
  (refine st_y S (Yr.ys (ys_assign Ev.c)) rfl ?_; clear S a w; intro a w S)
  refine st_nil ?_
  (refine (then_normal (hK1 _ _ ?_)); clear hK1)
  refine wp_seq_k fun _ hK1 => ?_
  refine wp_region_lit ?_
  (refine st_y S (Yr.ys (ys_ldA ⟨Try.isAgg24, Try.sizeOf24⟩ (Ev.t rfl) (k := 0) rfl rfl)) rfl ?_; clear S a w; intro a w S)
  (refine st_m (op_calls S Try.call34 (EvL.cons (Ev.t rfl) EvL.nil) (c34 _ _ _ _ _ _ (by exact .old S.wd (by assumption)) (by assumption)) rfl ?_); clear S a w; rintro _ _ ⟨A1, cp1, rfl, rfl⟩ a w S)
  (refine st_y S (Yr.ys (ys_assign (Ev.t rfl))) rfl ?_; clear S a w; intro a w S)
  refine st_nil ?_
  (refine (then_normal (hK1 _ _ ?_)); clear hK1)
  refine wp_seq_k fun _ hK1 => ?_
  refine wp_region_lit ?_
  (refine st_y S (Yr.ys (ys_assign Ev.c)) rfl ?_; clear S a w; intro a w S)
  refine st_nil ?_
  (refine (then_normal (hK1 _ _ ?_)); clear hK1)
  refine wp_seq_k fun _ hK1 => ?_
  refine wp_block ?_
  generalize inR ⟨p, c, s, l⟩ = all at *
  replace S := S.nil_ 3 1 encI none
  refine st_loopM S [6] (X := List Int × Option Addr × Nat) (fun y => [(6, true, .slice y.2.1 y.1.length y.2.2)])
    (fun y => [rowOf 3 1 encI y.2.1 y.2.2 y.1, rowOf 3 1 encI A1 cp1 all, .blk g1 (.cells #[.int .i64 p, .int .i64 c, .int .i64 s, v] 24)])
    (fun y => (∀ n ∈ y.1, n ∈ all) ∧ y.1.length ≤ all.length ∧ y.1.Nodup ∧ y.1.Pairwise (Go.Fw.ahead (wayP pos) s.toNat) ∧ ∀ a ∈ y.1, ∀ b ∈ rest all y.1, Go.Fw.ahead (wayP pos) s.toNat a b) (fun y => all.length - y.1.length) ([], none, 0)
    ⟨by simp, Nat.zero_le _, List.nodup_nil, List.Pairwise.nil, by simp⟩ (by repeat (first | exact Fits.nil | refine Fits.skip rfl ?_ | refine Fits.cons rfl ?_)) (by repeat (first | exact Picks.nil | (refine Picks.rest ?_; (repeat (first | exact List.Sublist.refl _ | refine List.Sublist.cons_cons _ ?_ | refine List.Sublist.cons _ ?_)); done) | refine Picks.take 0 rfl ?_ | refine Picks.take 1 rfl ?_ | refine Picks.take 2 rfl ?_ | refine Picks.take 3 rfl ?_ | refine Picks.take 4 rfl ?_ | refine Picks.take 5 rfl ?_ | refine Picks.take 6 rfl ?_ | refine Picks.take 7 rfl ?_ | refine Picks.take 8 rfl ?_ | refine Picks.take 9 rfl ?_ | refine Picks.take 10 rfl ?_ | refine Picks.take 11 rfl ?_)) ?_
  clear S
  rintro ⟨lst, B, cb⟩ a w ⟨i1, i2, i3, i4, i5⟩ S
  dsimp only at i1 i2 i3 i4 i5 S
  by_cases hlt : lst.length < all.length
  rotate_left
  · have hf := picked_walk (way := wayP pos) (s := s.toNat) (hr.imp fun h e => by omega) i1 (by omega) i3 i4
    have rw_1 : decide ((lst.length : Int) < (all.length : Int)) = false := decide_eq_false (by omega)
    refine wp_seq_k fun _ hK2 => ?_
    refine wp_seq_k fun _ hK3 => ?_
    refine wp_region_lit ?_
    (refine st_y S (Yr.ys (ys_move (Ev.t rfl))) rfl ?_; clear S a w; intro a w S)
    (refine st_y S (Yr.ys (ys_lenS Try.underlying40 (Ev.t rfl))) rfl ?_; clear S a w; intro a w S)
    (refine st_y S (Yr.ys (ys_move (Ev.t rfl))) rfl ?_; clear S a w; intro a w S)
    (refine st_y S (Yr.ys (ys_lenS Try.underlying40 (Ev.t rfl))) rfl ?_; clear S a w; intro a w S)
    (refine st_y S (Yr.ys (ys_F (by omega) (ys_lss (Ev.t rfl) (Ev.t rfl)))) rfl ?_; clear S a w; intro a w S)
    refine st_nil ?_
    (refine (then_normal (hK3 _ _ ?_)); clear hK3)
    refine st_else S (Ev.t rfl) ?_
    refine wp_exit ?_
    (refine (then_exit (then_exit (in_here (then_normal (hK1 _ _ ?_))))); clear hK1)
    refine wp_seq_k fun _ hK1 => ?_
    refine wp_region_lit ?_
    (refine st_y S (Yr.ys (ys_move (Ev.t rfl))) rfl ?_; clear S a w; intro a w S)
    (refine st_y S (Yr.ys (ys_assign (Ev.t rfl))) rfl ?_; clear S a w; intro a w S)
    refine st_nil ?_
    (refine (then_normal (hK1 _ _ ?_)); clear hK1)
    refine wp_ret ?_
    refine st_ret S (results1 S Try.results47 (Rv.tmp rfl)) ?_
    exact ⟨_, [rowOf 3 1 encI B cb lst], rfl, S.wd.picks (by repeat (first | exact Picks.nil | (refine Picks.rest ?_; (repeat (first | exact List.Sublist.refl _ | refine List.Sublist.cons_cons _ ?_ | refine List.Sublist.cons _ ?_)); done) | refine Picks.take 0 rfl ?_ | refine Picks.take 1 rfl ?_ | refine Picks.take 2 rfl ?_ | refine Picks.take 3 rfl ?_ | refine Picks.take 4 rfl ?_ | refine Picks.take 5 rfl ?_ | refine Picks.take 6 rfl ?_ | refine Picks.take 7 rfl ?_ | refine Picks.take 8 rfl ?_ | refine Picks.take 9 rfl ?_ | refine Picks.take 10 rfl ?_ | refine Picks.take 11 rfl ?_)), by rw [hw, ← hf]; exact ⟨_, _, rfl, rfl⟩⟩
  obtain ⟨hs0, hse, hs16⟩ := hs (by omega)
  have hroom := S.wd.room (k := 1) rfl
  obtain ⟨ga, rfl⟩ := S.wd.row_at (k := 1) rfl (by omega)
  have rw_1 : decide ((lst.length : Int) < (all.length : Int)) = true := decide_eq_true (by omega)
  refine wp_seq_k fun _ hK2 => ?_
  refine wp_seq_k fun _ hK3 => ?_
  refine wp_region_lit ?_
  (refine st_y S (Yr.ys (ys_move (Ev.t rfl))) rfl ?_; clear S a w; intro a w S)
  (refine st_y S (Yr.ys (ys_lenS Try.underlying40 (Ev.t rfl))) rfl ?_; clear S a w; intro a w S)
  (refine st_y S (Yr.ys (ys_move (Ev.t rfl))) rfl ?_; clear S a w; intro a w S)
  (refine st_y S (Yr.ys (ys_lenS Try.underlying40 (Ev.t rfl))) rfl ?_; clear S a w; intro a w S)
  (refine st_y S (Yr.ys (ys_T (by omega) (ys_lss (Ev.t rfl) (Ev.t rfl)))) rfl ?_; clear S a w; intro a w S)
  refine st_nil ?_
  (refine (then_normal (hK3 _ _ ?_)); clear hK3)
  refine st_then S (Ev.t rfl) ?_
  refine wp_skip ?_
  (refine (then_normal (hK2 _ _ ?_)); clear hK2)
  refine wp_block ?_
  refine wp_seq_k fun _ hK2 => ?_
  refine wp_region_lit ?_
  (refine st_y S (Yr.ys (ys_assign Ev.c)) rfl ?_; clear S a w; intro a w S)
  refine st_nil ?_
  (refine (then_normal (hK2 _ _ ?_)); clear hK2)
  refine wp_seq_k fun _ hK2 => ?_
  refine wp_region_lit ?_
  (refine st_y S (Yr.ys (ys_assign Ev.c)) rfl ?_; clear S a w; intro a w S)
  refine st_nil ?_
  (refine (then_normal (hK2 _ _ ?_)); clear hK2)
  refine wp_seq_k fun _ hK2 => ?_
  refine wp_seq_k fun _ hK3 => ?_
  refine wp_region_lit ?_
  (refine st_y S (Yr.ys (ys_assign Ev.c)) rfl ?_; clear S a w; intro a w S)
  refine st_nil ?_
  (refine (then_normal (hK3 _ _ ?_)); clear hK3)
  refine wp_block ?_
  clear rw_1
  refine st_loopM S [6, 7, 8, 9] (X := Nat) (fun k => [(7, true, .int .i64 (bestOf (seenP (wayP pos) s.toNat all lst k)).1), (8, true, .int .u64 (bestOf (seenP (wayP pos) s.toNat all lst k)).2), (9, true, .int .i64 (k : Int)), (6, true, .slice B lst.length cb)])
    (fun k => [rowOf 3 1 encI B cb lst, rowOf 3 1 encI (some ⟨ga, 0, none⟩) cp1 all, .blk g1 (.cells #[.int .i64 p, .int .i64 c, .int .i64 s, v] 24)])
    (fun k => k ≤ all.length) (fun k => all.length - k) 0 (Nat.zero_le _) (by repeat (first | exact Fits.nil | refine Fits.skip rfl ?_ | refine Fits.cons rfl ?_)) (by repeat (first | exact Picks.nil | (refine Picks.rest ?_; (repeat (first | exact List.Sublist.refl _ | refine List.Sublist.cons_cons _ ?_ | refine List.Sublist.cons _ ?_)); done) | refine Picks.take 0 rfl ?_ | refine Picks.take 1 rfl ?_ | refine Picks.take 2 rfl ?_ | refine Picks.take 3 rfl ?_ | refine Picks.take 4 rfl ?_ | refine Picks.take 5 rfl ?_ | refine Picks.take 6 rfl ?_ | refine Picks.take 7 rfl ?_ | refine Picks.take 8 rfl ?_ | refine Picks.take 9 rfl ?_ | refine Picks.take 10 rfl ?_ | refine Picks.take 11 rfl ?_)) ?_
  clear S
  intro k a w hk S
  by_cases hkl : k < all.length
  rotate_left
  · obtain rfl : k = all.length := by omega
    have hb := best_next (way := wayP pos) (s := s.toNat) hr (fun n hn => (hm n hn).1) hs0 i1 hlt i3 i4 i5
    have e0 : seenP (wayP pos) s.toNat all lst all.length = places (wayP pos) s.toNat (rest all lst) := by unfold seenP; rw [List.take_length]
    rw [e0] at S
    dsimp only at hb
    generalize bestOf (places (wayP pos) s.toNat (rest all lst)) = best at *
    obtain ⟨j1, j2, j3, j4⟩ := hb
    refine wp_seq_k fun _ hK3 => ?_
    refine wp_seq_k fun _ hK4 => ?_
    refine wp_region_lit ?_
    (refine st_y S (Yr.ys (ys_move (Ev.t rfl))) rfl ?_; clear S a w; intro a w S)
    (refine st_y S (Yr.ys (ys_move (Ev.t rfl))) rfl ?_; clear S a w; intro a w S)
    (refine st_y S (Yr.ys (ys_lenS Try.underlying40 (Ev.t rfl))) rfl ?_; clear S a w; intro a w S)
    (refine st_y S (Yr.ys (ys_F (by omega) (ys_lss (Ev.t rfl) (Ev.t rfl)))) rfl ?_; clear S a w; intro a w S)
    refine st_nil ?_
    (refine (then_normal (hK4 _ _ ?_)); clear hK4)
    refine st_else S (Ev.t rfl) ?_
    refine wp_exit ?_
    (refine (then_exit (then_exit (in_here (then_normal (hK2 _ _ ?_))))); clear hK2)
    refine wp_region_lit ?_
    (refine st_y S (Yr.ys (ys_move (Ev.t rfl))) rfl ?_; clear S a w; intro a w S)
    (refine st_y S (Yr.ys (ys_move (Ev.t rfl))) rfl ?_; clear S a w; intro a w S)
    (refine st_m (op_bslice1 S Try.underlying40 inf3 rfl rfl rfl (Ev.t rfl) rfl rfl rfl ?_); clear S a w; intro g2 a w S)
    (refine st_m (op_push S Try.underlying40 inf3 rfl (k := 1) (j := 0) rfl (Ev.t rfl) (Ev.t rfl) rfl rfl rfl rfl (by first | omega | (simp only [List.length_append, List.length_cons, List.length_nil]; omega)) rfl rfl rfl ?_); clear S a w; intro A1 cap1 a w S)
    (refine st_y S (Yr.ys (ys_assign (Ev.t rfl))) rfl ?_; clear S a w; intro a w S)
    refine st_nil ?_
    refine (in_normal (then_normal ?_))
    refine ⟨(lst ++ [best.1], A1, cap1), ⟨fun n hn => ?_, ?_, j2, j3, j4⟩, ?_, S.picks (by repeat (first | exact Fits.nil | refine Fits.skip rfl ?_ | refine Fits.cons rfl ?_)) (by repeat (first | exact Picks.nil | (refine Picks.rest ?_; (repeat (first | exact List.Sublist.refl _ | refine List.Sublist.cons_cons _ ?_ | refine List.Sublist.cons _ ?_)); done) | refine Picks.take 0 rfl ?_ | refine Picks.take 1 rfl ?_ | refine Picks.take 2 rfl ?_ | refine Picks.take 3 rfl ?_ | refine Picks.take 4 rfl ?_ | refine Picks.take 5 rfl ?_ | refine Picks.take 6 rfl ?_ | refine Picks.take 7 rfl ?_ | refine Picks.take 8 rfl ?_ | refine Picks.take 9 rfl ?_ | refine Picks.take 10 rfl ?_ | refine Picks.take 11 rfl ?_))⟩
    · rcases List.mem_append.1 hn with hn | hn
      · exact i1 n hn
      · simp at hn; subst hn; exact (mem_rest.1 j1).1
    · simp; omega
    · simp; omega
  obtain ⟨n, hx⟩ : ∃ n, all[k]? = some n := ⟨_, List.getElem?_eq_getElem hkl⟩
  have hn8 := hm n (List.mem_of_getElem? hx)
  by_cases hin : n ∈ lst
  · have rw_in : decide (n ∈ lst) = true := decide_eq_true hin
    refine wp_seq_k fun _ hK3 => ?_
    refine wp_seq_k fun _ hK4 => ?_
    refine wp_region_lit ?_
    (refine st_y S (Yr.ys (ys_move (Ev.t rfl))) rfl ?_; clear S a w; intro a w S)
    (refine st_y S (Yr.ys (ys_move (Ev.t rfl))) rfl ?_; clear S a w; intro a w S)
    (refine st_y S (Yr.ys (ys_lenS Try.underlying40 (Ev.t rfl))) rfl ?_; clear S a w; intro a w S)
    (refine st_y S (Yr.ys (ys_T (by omega) (ys_lss (Ev.t rfl) (Ev.t rfl)))) rfl ?_; clear S a w; intro a w S)
    refine st_nil ?_
    (refine (then_normal (hK4 _ _ ?_)); clear hK4)
    refine st_then S (Ev.t rfl) ?_
    refine wp_skip ?_
    (refine (then_normal (hK3 _ _ ?_)); clear hK3)
    refine wp_seq_k fun _ hK3 => ?_
    refine wp_block ?_
    refine wp_seq_k fun _ hK4 => ?_
    refine wp_seq_k fun _ hK5 => ?_
    refine wp_region_lit ?_
    (refine st_y S (Yr.ys (ys_move (Ev.t rfl))) rfl ?_; clear S a w; intro a w S)
    (refine st_y S (Yr.ys (ys_move (Ev.t rfl))) rfl ?_; clear S a w; intro a w S)
    (refine st_y S (Yr.ys (ys_move (Ev.t rfl))) rfl ?_; clear S a w; intro a w S)
    (refine st_y S (Yr.ys (ys_ixS Try.underlying40 Try.sizeOf3 (Ev.t rfl) (Ev.t rfl) (fun _ => by omega))) rfl ?_; clear S a w; intro a w S)
    (refine st_y S (Yr.ys (ys_ldW0 ⟨Try.isAgg3, Try.sizeOf3⟩ (Ev.t rfl) (k := 1) rfl hx (fun _ => rfl) rfl)) rfl ?_; clear S a w; intro a w S)
    (refine st_y S (ys_call Try.call90 (EvL.cons (Ev.t rfl) (EvL.cons (Ev.t rfl) EvL.nil)) (fun hp w W => c90 _ _ _ _ (by exact Sl.of_own W (k := 0) rfl (fun _ => rfl)))) rfl ?_; clear S a w; intro a w S)
    rw [rw_in] at S
    refine st_nil ?_
    (refine (then_normal (hK5 _ _ ?_)); clear hK5)
    refine st_then S (Ev.t rfl) ?_
    refine wp_exit ?_
    (refine (then_exit (in_here (then_normal (hK3 _ _ ?_)))); clear hK3)
    refine wp_region_lit ?_
    (refine st_y S (Yr.ys (ys_move (Ev.t rfl))) rfl ?_; clear S a w; intro a w S)
    (refine st_y S (Yr.ys (ys_addI (Ev.t rfl) Ev.c (fun _ => by unfold I64; omega))) rfl ?_; clear S a w; intro a w S)
    (refine st_y S (Yr.ys (ys_assign (Ev.t rfl))) rfl ?_; clear S a w; intro a w S)
    refine st_nil ?_
    refine (then_normal ?_)
    exact ⟨k + 1, by omega, by omega, by rw [seenP_skip hx hin]; exact S.picks (by repeat (first | exact Fits.nil | refine Fits.skip rfl ?_ | refine Fits.cons rfl ?_)) (by repeat (first | exact Picks.nil | (refine Picks.rest ?_; (repeat (first | exact List.Sublist.refl _ | refine List.Sublist.cons_cons _ ?_ | refine List.Sublist.cons _ ?_)); done) | refine Picks.take 0 rfl ?_ | refine Picks.take 1 rfl ?_ | refine Picks.take 2 rfl ?_ | refine Picks.take 3 rfl ?_ | refine Picks.take 4 rfl ?_ | refine Picks.take 5 rfl ?_ | refine Picks.take 6 rfl ?_ | refine Picks.take 7 rfl ?_ | refine Picks.take 8 rfl ?_ | refine Picks.take 9 rfl ?_ | refine Picks.take 10 rfl ?_ | refine Picks.take 11 rfl ?_))⟩
  have rw_in : decide (n ∈ lst) = false := decide_eq_false hin
  refine wp_seq_k fun _ hK3 => ?_
  refine wp_seq_k fun _ hK4 => ?_
  refine wp_region_lit ?_
  (refine st_y S (Yr.ys (ys_move (Ev.t rfl))) rfl ?_; clear S a w; intro a w S)
  (refine st_y S (Yr.ys (ys_move (Ev.t rfl))) rfl ?_; clear S a w; intro a w S)
  (refine st_y S (Yr.ys (ys_lenS Try.underlying40 (Ev.t rfl))) rfl ?_; clear S a w; intro a w S)
  (refine st_y S (Yr.ys (ys_T (by omega) (ys_lss (Ev.t rfl) (Ev.t rfl)))) rfl ?_; clear S a w; intro a w S)
  refine st_nil ?_
  (refine (then_normal (hK4 _ _ ?_)); clear hK4)
  refine st_then S (Ev.t rfl) ?_
  refine wp_skip ?_
  (refine (then_normal (hK3 _ _ ?_)); clear hK3)
  refine wp_seq_k fun _ hK3 => ?_
  refine wp_block ?_
  refine wp_seq_k fun _ hK4 => ?_
  refine wp_seq_k fun _ hK5 => ?_
  refine wp_region_lit ?_
  (refine st_y S (Yr.ys (ys_move (Ev.t rfl))) rfl ?_; clear S a w; intro a w S)
  (refine st_y S (Yr.ys (ys_move (Ev.t rfl))) rfl ?_; clear S a w; intro a w S)
  (refine st_y S (Yr.ys (ys_move (Ev.t rfl))) rfl ?_; clear S a w; intro a w S)
  (refine st_y S (Yr.ys (ys_ixS Try.underlying40 Try.sizeOf3 (Ev.t rfl) (Ev.t rfl) (fun _ => by omega))) rfl ?_; clear S a w; intro a w S)
  (refine st_y S (Yr.ys (ys_ldW0 ⟨Try.isAgg3, Try.sizeOf3⟩ (Ev.t rfl) (k := 1) rfl hx (fun _ => rfl) rfl)) rfl ?_; clear S a w; intro a w S)
  (refine st_y S (ys_call Try.call90 (EvL.cons (Ev.t rfl) (EvL.cons (Ev.t rfl) EvL.nil)) (fun hp w W => c90 _ _ _ _ (by exact Sl.of_own W (k := 0) rfl (fun _ => rfl)))) rfl ?_; clear S a w; intro a w S)
  rw [rw_in] at S
  refine st_nil ?_
  (refine (then_normal (hK5 _ _ ?_)); clear hK5)
  refine st_else S (Ev.t rfl) ?_
  refine wp_skip ?_
  (refine (then_normal (hK4 _ _ ?_)); clear hK4)
  refine wp_seq_k fun _ hK4 => ?_
  refine wp_region_lit ?_
  (refine st_y S (Yr.ys (ys_assign Ev.c)) rfl ?_; clear S a w; intro a w S)
  refine st_nil ?_
  (refine (then_normal (hK4 _ _ ?_)); clear hK4)
  refine wp_block ?_
  clear rw_in
  refine st_loopM S [7, 8, 10] (X := Nat) (fun i => [(7, true, .int .i64 (bestOf (seenP (wayP pos) s.toNat all lst k ++ someP (wayP pos) n i)).1), (8, true, .int .u64 (bestOf (seenP (wayP pos) s.toNat all lst k ++ someP (wayP pos) n i)).2), (10, true, .int .i64 (i : Int))])
    (fun i => [rowOf 3 1 encI B cb lst, rowOf 3 1 encI (some ⟨ga, 0, none⟩) cp1 all, .blk g1 (.cells #[.int .i64 p, .int .i64 c, .int .i64 s, v] 24)])
    (fun i => i ≤ s.toNat) (fun i => s.toNat - i) 0 (Nat.zero_le _) (by simp only [someP, List.range_zero, List.map_nil, List.append_nil]; exact (by repeat (first | exact Fits.nil | refine Fits.skip rfl ?_ | refine Fits.cons rfl ?_))) (by repeat (first | exact Picks.nil | (refine Picks.rest ?_; (repeat (first | exact List.Sublist.refl _ | refine List.Sublist.cons_cons _ ?_ | refine List.Sublist.cons _ ?_)); done) | refine Picks.take 0 rfl ?_ | refine Picks.take 1 rfl ?_ | refine Picks.take 2 rfl ?_ | refine Picks.take 3 rfl ?_ | refine Picks.take 4 rfl ?_ | refine Picks.take 5 rfl ?_ | refine Picks.take 6 rfl ?_ | refine Picks.take 7 rfl ?_ | refine Picks.take 8 rfl ?_ | refine Picks.take 9 rfl ?_ | refine Picks.take 10 rfl ?_ | refine Picks.take 11 rfl ?_)) ?_
  clear S
  intro i a w hi S
  by_cases his : i < s.toNat
  · have rw_i : decide ((i : Int) < s) = true := decide_eq_true (by omega)
    have hsp := someP_next (wayP pos) n i (seenP (wayP pos) s.toNat all lst k)
    generalize bestOf (seenP (wayP pos) s.toNat all lst k ++ someP (wayP pos) n i) = best at *
    have hi16 : i < 16 := by omega
    refine wp_seq_k fun _ hK4 => ?_
    refine wp_seq_k fun _ hK5 => ?_
    refine wp_region_lit ?_
    (refine st_y S (Yr.ys (ys_move (Ev.t rfl))) rfl ?_; clear S a w; intro a w S)
    (refine st_y S (Yr.ys (ys_fieldN (FieldT.mk Try.underlying24 rfl Try.sizeOf3 rfl) (Ev.t rfl) (i' := 2) rfl)) rfl ?_; clear S a w; intro a w S)
    (refine st_y S (Yr.ys (ys_ld ⟨Try.isAgg3, Try.sizeOf3⟩ (Ev.t rfl) (k := 2) rfl rfl)) rfl ?_; clear S a w; intro a w S)
    (refine st_y S (Yr.ys (ys_T (by omega) (ys_lss (Ev.t rfl) (Ev.t rfl)))) rfl ?_; clear S a w; intro a w S)
    refine st_nil ?_
    (refine (then_normal (hK5 _ _ ?_)); clear hK5)
    refine st_then S (Ev.t rfl) ?_
    refine wp_skip ?_
    (refine (then_normal (hK4 _ _ ?_)); clear hK4)
    refine wp_seq_k fun _ hK4 => ?_
    refine wp_block ?_
    refine wp_seq_k fun _ hK5 => ?_
    refine wp_region_lit ?_
    (refine st_y S (Yr.ys (ys_move (Ev.t rfl))) rfl ?_; clear S a w; intro a w S)
    (refine st_y S (Yr.ys (ys_move (Ev.t rfl))) rfl ?_; clear S a w; intro a w S)
    (refine st_y S (Yr.ys (ys_ixS Try.underlying40 Try.sizeOf3 (Ev.t rfl) (Ev.t rfl) (fun _ => by omega))) rfl ?_; clear S a w; intro a w S)
    (refine st_y S (Yr.ys (ys_ldW0 ⟨Try.isAgg3, Try.sizeOf3⟩ (Ev.t rfl) (k := 1) rfl hx (fun _ => rfl) rfl)) rfl ?_; clear S a w; intro a w S)
    (refine st_y S (Yr.ys (ys_move (Ev.t rfl))) rfl ?_; clear S a w; intro a w S)
    (refine st_y S (ys_call Try.call91 (EvL.cons (Ev.t rfl) (EvL.cons (Ev.t rfl) EvL.nil)) (fun hp w W => c91 _ _ _ (by assumption) (by assumption))) rfl ?_; clear S a w; intro a w S)
    (refine st_y S (Yr.ys (ys_move (Ev.t rfl))) rfl ?_; clear S a w; intro a w S)
    (refine st_y S (Yr.ys (ys_sub (Ev.t rfl) (Ev.t rfl))) rfl ?_; clear S a w; intro a w S)
    (refine st_y S (Yr.ys (ys_assign (Ev.t rfl))) rfl ?_; clear S a w; intro a w S)
    refine st_nil ?_
    (refine (then_normal (hK5 _ _ ?_)); clear hK5)
    refine wp_seq_k fun _ hK5 => ?_
    refine wp_region_lit ?_
    (refine st_y S (Yr.ys (ys_move (Ev.t rfl))) rfl ?_; clear S a w; intro a w S)
    (refine st_y S (Yr.ys (ys_lss (Ev.t rfl) Ev.c)) rfl ?_; clear S a w; intro a w S)
    (refine st_y S (Yr.ys (ys_move (Ev.t rfl))) rfl ?_; clear S a w; intro a w S)
    (refine st_yf S rfl rfl (Yr.ys (ys_move (Ev.t rfl))) rfl ?_; clear S a w; intro a w S)
    (refine st_yf S rfl rfl (Yr.ys (ys_move (Ev.t rfl))) rfl ?_; clear S a w; intro a w S)
    (refine st_yf S rfl rfl (Yr.ys (ys_lss (Ev.g rfl) (Ev.g rfl))) rfl ?_; clear S a w; intro a w S)
    (refine st_y S (Yr.ys (ys_or (Ev.t rfl) Ev.c (Ev.g rfl))) rfl ?_; clear S a w; intro a w S)
    refine st_nil ?_
    (refine (then_normal (hK5 _ _ ?_)); clear hK5)
    refine st_cond S (Ev.t rfl) (fun h1 => ?_) (fun h1 => ?_)
    refine wp_seq_k fun _ hK5 => ?_
    refine wp_region_lit ?_
    (refine st_y S (Yr.ys (ys_move (Ev.t rfl))) rfl ?_; clear S a w; intro a w S)
    (refine st_y S (Yr.ys (ys_move (Ev.t rfl))) rfl ?_; clear S a w; intro a w S)
    (refine st_y S (Yr.ys (ys_ixS Try.underlying40 Try.sizeOf3 (Ev.t rfl) (Ev.t rfl) (fun _ => by omega))) rfl ?_; clear S a w; intro a w S)
    (refine st_y S (Yr.ys (ys_ldW0 ⟨Try.isAgg3, Try.sizeOf3⟩ (Ev.t rfl) (k := 1) rfl hx (fun _ => rfl) rfl)) rfl ?_; clear S a w; intro a w S)
    (refine st_y S (Yr.ys (ys_assign (Ev.t rfl))) rfl ?_; clear S a w; intro a w S)
    refine st_nil ?_
    (refine (then_normal (hK5 _ _ ?_)); clear hK5)
    refine wp_region_lit ?_
    (refine st_y S (Yr.ys (ys_move (Ev.t rfl))) rfl ?_; clear S a w; intro a w S)
    (refine st_y S (Yr.ys (ys_assign (Ev.t rfl))) rfl ?_; clear S a w; intro a w S)
    refine st_nil ?_
    (refine (in_normal (then_normal (hK4 _ _ ?_))); clear hK4)
    refine wp_region_lit ?_
    (refine st_y S (Yr.ys (ys_move (Ev.t rfl))) rfl ?_; clear S a w; intro a w S)
    (refine st_y S (Yr.ys (ys_addI (Ev.t rfl) Ev.c (fun _ => by unfold I64; omega))) rfl ?_; clear S a w; intro a w S)
    (refine st_y S (Yr.ys (ys_assign (Ev.t rfl))) rfl ?_; clear S a w; intro a w S)
    refine st_nil ?_
    refine (then_normal ?_)
    rotate_left
    refine wp_skip ?_
    (refine (in_normal (then_normal (hK4 _ _ ?_))); clear hK4)
    refine wp_region_lit ?_
    (refine st_y S (Yr.ys (ys_move (Ev.t rfl))) rfl ?_; clear S a w; intro a w S)
    (refine st_y S (Yr.ys (ys_addI (Ev.t rfl) Ev.c (fun _ => by unfold I64; omega))) rfl ?_; clear S a w; intro a w S)
    (refine st_y S (Yr.ys (ys_assign (Ev.t rfl))) rfl ?_; clear S a w; intro a w S)
    refine st_nil ?_
    refine (then_normal ?_)
    rotate_left
    · have e : bestF best (wayP pos n i, n) = (n, wayP pos n i) := if_pos (by simp only [Bool.or_eq_true, decide_eq_true_eq] at h1; exact h1)
      rw [e] at hsp
      exact ⟨i + 1, by omega, by omega, by rw [hsp]; exact S.picks (by repeat (first | exact Fits.nil | refine Fits.skip rfl ?_ | refine Fits.cons rfl ?_)) (by repeat (first | exact Picks.nil | (refine Picks.rest ?_; (repeat (first | exact List.Sublist.refl _ | refine List.Sublist.cons_cons _ ?_ | refine List.Sublist.cons _ ?_)); done) | refine Picks.take 0 rfl ?_ | refine Picks.take 1 rfl ?_ | refine Picks.take 2 rfl ?_ | refine Picks.take 3 rfl ?_ | refine Picks.take 4 rfl ?_ | refine Picks.take 5 rfl ?_ | refine Picks.take 6 rfl ?_ | refine Picks.take 7 rfl ?_ | refine Picks.take 8 rfl ?_ | refine Picks.take 9 rfl ?_ | refine Picks.take 10 rfl ?_ | refine Picks.take 11 rfl ?_))⟩
    · have e : bestF best (wayP pos n i, n) = best := if_neg (by
        simp only [Bool.or_eq_false_iff, decide_eq_false_iff_not] at h1
        exact not_or.2 h1)
      rw [e] at hsp
      exact ⟨i + 1, by omega, by omega, by rw [hsp]; exact S.picks (by repeat (first | exact Fits.nil | refine Fits.skip rfl ?_ | refine Fits.cons rfl ?_)) (by repeat (first | exact Picks.nil | (refine Picks.rest ?_; (repeat (first | exact List.Sublist.refl _ | refine List.Sublist.cons_cons _ ?_ | refine List.Sublist.cons _ ?_)); done) | refine Picks.take 0 rfl ?_ | refine Picks.take 1 rfl ?_ | refine Picks.take 2 rfl ?_ | refine Picks.take 3 rfl ?_ | refine Picks.take 4 rfl ?_ | refine Picks.take 5 rfl ?_ | refine Picks.take 6 rfl ?_ | refine Picks.take 7 rfl ?_ | refine Picks.take 8 rfl ?_ | refine Picks.take 9 rfl ?_ | refine Picks.take 10 rfl ?_ | refine Picks.take 11 rfl ?_))⟩
  obtain rfl : i = s.toNat := by omega
  have rw_i : decide ((s.toNat : Int) < s) = false := decide_eq_false (by omega)
  rw [← seenP_next hx hin] at S
  refine wp_seq_k fun _ hK4 => ?_
  refine wp_seq_k fun _ hK5 => ?_
  refine wp_region_lit ?_
  (refine st_y S (Yr.ys (ys_move (Ev.t rfl))) rfl ?_; clear S a w; intro a w S)
  (refine st_y S (Yr.ys (ys_fieldN (FieldT.mk Try.underlying24 rfl Try.sizeOf3 rfl) (Ev.t rfl) (i' := 2) rfl)) rfl ?_; clear S a w; intro a w S)
  (refine st_y S (Yr.ys (ys_ld ⟨Try.isAgg3, Try.sizeOf3⟩ (Ev.t rfl) (k := 2) rfl rfl)) rfl ?_; clear S a w; intro a w S)
  (refine st_y S (Yr.ys (ys_F (by omega) (ys_lss (Ev.t rfl) (Ev.t rfl)))) rfl ?_; clear S a w; intro a w S)
  refine st_nil ?_
  (refine (then_normal (hK5 _ _ ?_)); clear hK5)
  refine st_else S (Ev.t rfl) ?_
  refine wp_exit ?_
  (refine (then_exit (then_exit (in_here (in_normal (then_normal (hK3 _ _ ?_)))))); clear hK3)
  refine wp_region_lit ?_
  (refine st_y S (Yr.ys (ys_move (Ev.t rfl))) rfl ?_; clear S a w; intro a w S)
  (refine st_y S (Yr.ys (ys_addI (Ev.t rfl) Ev.c (fun _ => by unfold I64; omega))) rfl ?_; clear S a w; intro a w S)
  (refine st_y S (Yr.ys (ys_assign (Ev.t rfl))) rfl ?_; clear S a w; intro a w S)
  refine st_nil ?_
  refine (then_normal ?_)
  exact ⟨k + 1, by omega, by omega, S.picks (by repeat (first | exact Fits.nil | refine Fits.skip rfl ?_ | refine Fits.cons rfl ?_)) (by repeat (first | exact Picks.nil | (refine Picks.rest ?_; (repeat (first | exact List.Sublist.refl _ | refine List.Sublist.cons_cons _ ?_ | refine List.Sublist.cons _ ?_)); done) | refine Picks.take 0 rfl ?_ | refine Picks.take 1 rfl ?_ | refine Picks.take 2 rfl ?_ | refine Picks.take 3 rfl ?_ | refine Picks.take 4 rfl ?_ | refine Picks.take 5 rfl ?_ | refine Picks.take 6 rfl ?_ | refine Picks.take 7 rfl ?_ | refine Picks.take 8 rfl ?_ | refine Picks.take 9 rfl ?_ | refine Picks.take 10 rfl ?_ | refine Picks.take 11 rfl ?_))⟩
theorem owners_no {p c s q : Int} {l : List Mbr} (h : ¬ (shapeP p c s ∧ goodL l) ∨ ¬ startOk q p) : ownersR ⟨p, c, s, l⟩ q = [] := if_neg fun h2 => h.elim (fun h3 => h3 h2.1) (fun h3 => h3 h2.2)
theorem owners_yes {p c s q : Int} {l : List Mbr} (h : shapeP p c s ∧ goodL l) (h' : startOk q p) : ownersR ⟨p, c, s, l⟩ q = (walkR ⟨p, c, s, l⟩ (startL q p)).take c.toNat := if_pos ⟨h, h'⟩
theorem c27 (w0 : World) (p c s q : Int) (v : Value) (l : List Mbr) (h : Sl Mbr.enc 4 w0 w0.heap.size v l) (hn : l.length ≤ 4194304) :
    Rets Try.prog 27 #[.agg #[.int .i64 p, .int .i64 c, .int .i64 s, v], .int .i64 q] w0 fun u L => ∃ A cp, u = .slice A (ownersR ⟨p, c, s, l⟩ q).length cp ∧ L = [rowOf 3 1 encI A cp (ownersR ⟨p, c, s, l⟩ q)] := by
  by_cases hc : shapeP p c s ∧ goodL l
  rotate_left
  · have rw_0 : (if shapeP p c s ∧ goodL l then (0 : Int) else 60) = 60 := if_neg hc
    have e := owners_no (q := q) (.inl hc)
    unfold Go.Fw.Rets
    refine enter2 Try.func27 rfl Try.ntmps27 rfl fun a S => ?_
    refine wp_seq_k fun _ hK1 => ?_
    refine wp_region_lit ?_
    (refine st_m (op_box S (Ev.t rfl) rfl ?_); clear S a; intro g1 a w S)
    (refine st_y S (Yr.ys (ys_assign Ev.c)) rfl ?_; clear S a w; intro a w S)
    refine st_nil ?_
    (refine (then_normal (hK1 _ _ ?_)); clear hK1)
    refine wp_seq_k fun _ hK1 => ?_
    refine wp_seq_k fun _ hK2 => ?_
    refine wp_region_lit ?_
    (refine st_y S (Yr.ys (ys_ldA ⟨Try.isAgg24, Try.sizeOf24⟩ (Ev.t rfl) (k := 0) rfl rfl)) rfl ?_; clear S a w; intro a w S)
    (refine st_y S (ys_call Try.call20 (EvL.cons (Ev.t rfl) EvL.nil) (fun hp w W => c20 _ _ _ _ _ _ (by exact .old W (by assumption)) (by assumption))) rfl ?_; clear S a w; intro a w S)
    rw [rw_0] at S
    (refine st_y S (Yr.ys (ys_T (by omega) (ys_neq (Ev.t rfl) Ev.c))) rfl ?_; clear S a w; intro a w S)
    refine st_nil ?_
    (refine (then_normal (hK2 _ _ ?_)); clear hK2)
    refine st_then S (Ev.t rfl) ?_
    refine wp_seq_k fun _ hK2 => ?_
    refine wp_region_lit ?_
    (refine st_y S (Yr.ys (ys_assign Ev.c)) rfl ?_; clear S a w; intro a w S)
    refine st_nil ?_
    (refine (then_normal (hK2 _ _ ?_)); clear hK2)
    refine wp_ret ?_
    refine (then_ret ?_)
    refine st_ret S (results1 S Try.results27 (Rv.tmp rfl)) ?_
    exact ⟨_, [rowOf 3 1 encI none 0 []], rfl, (S.nil_ 3 1 encI none).wd.picks (by repeat (first | exact Picks.nil | (refine Picks.rest ?_; (repeat (first | exact List.Sublist.refl _ | refine List.Sublist.cons_cons _ ?_ | refine List.Sublist.cons _ ?_)); done) | refine Picks.take 0 rfl ?_ | refine Picks.take 1 rfl ?_ | refine Picks.take 2 rfl ?_ | refine Picks.take 3 rfl ?_ | refine Picks.take 4 rfl ?_ | refine Picks.take 5 rfl ?_ | refine Picks.take 6 rfl ?_ | refine Picks.take 7 rfl ?_ | refine Picks.take 8 rfl ?_ | refine Picks.take 9 rfl ?_ | refine Picks.take 10 rfl ?_ | refine Picks.take 11 rfl ?_)), by rw [e]; exact ⟨none, 0, rfl, rfl⟩⟩
  have rw_0 : (if shapeP p c s ∧ goodL l then (0 : Int) else 60) = 0 := if_pos hc
  have hcc := hc.1.2.1
  obtain ⟨cn, rfl⟩ : ∃ m : Nat, c = m := ⟨c.toNat, by omega⟩
  by_cases hst : startOk q p
  rotate_left
  · have rw_1 : decide (startOk q p) = false := decide_eq_false hst
    have e := owners_no (c := (cn : Int)) (s := s) (l := l) (.inr hst)
    unfold Go.Fw.Rets
    refine enter2 Try.func27 rfl Try.ntmps27 rfl fun a S => ?_
    refine wp_seq_k fun _ hK1 => ?_
    refine wp_region_lit ?_
    (refine st_m (op_box S (Ev.t rfl) rfl ?_); clear S a; intro g1 a w S)
    (refine st_y S (Yr.ys (ys_assign Ev.c)) rfl ?_; clear S a w; intro a w S)
    refine st_nil ?_
    (refine (then_normal (hK1 _ _ ?_)); clear hK1)
    refine wp_seq_k fun _ hK1 => ?_
    refine wp_seq_k fun _ hK2 => ?_
    refine wp_region_lit ?_
    (refine st_y S (Yr.ys (ys_ldA ⟨Try.isAgg24, Try.sizeOf24⟩ (Ev.t rfl) (k := 0) rfl rfl)) rfl ?_; clear S a w; intro a w S)
    (refine st_y S (ys_call Try.call20 (EvL.cons (Ev.t rfl) EvL.nil) (fun hp w W => c20 _ _ _ _ _ _ (by exact .old W (by assumption)) (by assumption))) rfl ?_; clear S a w; intro a w S)
    rw [rw_0] at S
    (refine st_y S (Yr.ys (ys_F (by omega) (ys_neq (Ev.t rfl) Ev.c))) rfl ?_; clear S a w; intro a w S)
    refine st_nil ?_
    (refine (then_normal (hK2 _ _ ?_)); clear hK2)
    refine st_else S (Ev.t rfl) ?_
    refine wp_skip ?_
    (refine (then_normal (hK1 _ _ ?_)); clear hK1)
    refine wp_seq_k fun _ hK1 => ?_
    refine wp_region_lit ?_
    (refine st_y S (Yr.ys (ys_move (Ev.t rfl))) rfl ?_; clear S a w; intro a w S)
    (refine st_y S (Yr.ys (ys_fieldN (FieldT.mk Try.underlying24 rfl Try.sizeOf3 rfl) (Ev.t rfl) (i' := 0) rfl)) rfl ?_; clear S a w; intro a w S)
    (refine st_y S (Yr.ys (ys_ld ⟨Try.isAgg3, Try.sizeOf3⟩ (Ev.t rfl) (k := 0) rfl rfl)) rfl ?_; clear S a w; intro a w S)
    (refine st_y S (ys_call Try.call77 (EvL.cons (Ev.t rfl) (EvL.cons (Ev.t rfl) EvL.nil)) (fun hp w W => c77 _ _ _)) rfl ?_; clear S a w; intro a w S)
    rw [rw_1] at S
    (refine st_y S (Yr.ys (ys_move (Ev.t rfl))) rfl ?_; clear S a w; intro a w S)
    (refine st_y S (Yr.ys (ys_ext (Ev.t rfl) rfl)) rfl ?_; clear S a w; intro a w S)
    (refine st_y S (Yr.ys (ys_ext (Ev.t rfl) rfl)) rfl ?_; clear S a w; intro a w S)
    (refine st_y S (Yr.ys (ys_assign (Ev.t rfl))) rfl ?_; clear S a w; intro a w S)
    (refine st_y S (Yr.ys (ys_assign (Ev.t rfl))) rfl ?_; clear S a w; intro a w S)
    refine st_nil ?_
    (refine (then_normal (hK1 _ _ ?_)); clear hK1)
    refine wp_seq_k fun _ hK1 => ?_
    refine wp_seq_k fun _ hK2 => ?_
    refine wp_region_lit ?_
    (refine st_y S (Yr.ys (ys_move (Ev.t rfl))) rfl ?_; clear S a w; intro a w S)
    (refine st_y S (Yr.ys (ys_not (Ev.t rfl))) rfl ?_; clear S a w; intro a w S)
    refine st_nil ?_
    (refine (then_normal (hK2 _ _ ?_)); clear hK2)
    refine st_then S (Ev.t rfl) ?_
    refine wp_seq_k fun _ hK2 => ?_
    refine wp_region_lit ?_
    (refine st_y S (Yr.ys (ys_assign Ev.c)) rfl ?_; clear S a w; intro a w S)
    refine st_nil ?_
    (refine (then_normal (hK2 _ _ ?_)); clear hK2)
    refine wp_ret ?_
    refine (then_ret ?_)
    refine st_ret S (results1 S Try.results27 (Rv.tmp rfl)) ?_
    exact ⟨_, [rowOf 3 1 encI none 0 []], rfl, (S.nil_ 3 1 encI none).wd.picks (by repeat (first | exact Picks.nil | (refine Picks.rest ?_; (repeat (first | exact List.Sublist.refl _ | refine List.Sublist.cons_cons _ ?_ | refine List.Sublist.cons _ ?_)); done) | refine Picks.take 0 rfl ?_ | refine Picks.take 1 rfl ?_ | refine Picks.take 2 rfl ?_ | refine Picks.take 3 rfl ?_ | refine Picks.take 4 rfl ?_ | refine Picks.take 5 rfl ?_ | refine Picks.take 6 rfl ?_ | refine Picks.take 7 rfl ?_ | refine Picks.take 8 rfl ?_ | refine Picks.take 9 rfl ?_ | refine Picks.take 10 rfl ?_ | refine Picks.take 11 rfl ?_)), by rw [e]; exact ⟨none, 0, rfl, rfl⟩⟩
  have rw_1 : decide (startOk q p) = true := decide_eq_true hst
  have rw_2 : (if startOk q p then startL q p else 0) = startL q p := if_pos hst
  have e := owners_yes hc hst
  rw [Int.toNat_natCast] at e
  unfold Go.Fw.Rets
  refine enter2 Try.func27 rfl Try.ntmps27 rfl fun a S => ?_
  refine wp_seq_k fun _ hK1 => ?_
  refine wp_region_lit ?_
  (refine st_m (op_box S (Ev.t rfl) rfl ?_); clear S a; intro g1 a w S)
  (refine st_y S (Yr.ys (ys_assign Ev.c)) rfl ?_; clear S a w; intro a w S)
  refine st_nil ?_
  (refine (then_normal (hK1 _ _ ?_)); clear hK1)
  refine wp_seq_k fun _ hK1 => ?_
  refine wp_seq_k fun _ hK2 => ?_
  refine wp_region_lit ?_
  (refine st_y S (Yr.ys (ys_ldA ⟨Try.isAgg24, Try.sizeOf24⟩ (Ev.t rfl) (k := 0) rfl rfl)) rfl ?_; clear S a w; intro a w S)
  (refine st_y S (ys_call Try.call20 (EvL.cons (Ev.t rfl) EvL.nil) (fun hp w W => c20 _ _ _ _ _ _ (by exact .old W (by assumption)) (by assumption))) rfl ?_; clear S a w; intro a w S)
  rw [rw_0] at S
  (refine st_y S (Yr.ys (ys_F (by omega) (ys_neq (Ev.t rfl) Ev.c))) rfl ?_; clear S a w; intro a w S)
  refine st_nil ?_
  (refine (then_normal (hK2 _ _ ?_)); clear hK2)
  refine st_else S (Ev.t rfl) ?_
  refine wp_skip ?_
  (refine (then_normal (hK1 _ _ ?_)); clear hK1)
  refine wp_seq_k fun _ hK1 => ?_
  refine wp_region_lit ?_
  (refine st_y S (Yr.ys (ys_move (Ev.t rfl))) rfl ?_; clear S a w; intro a w S)
  (refine st_y S (Yr.ys (ys_fieldN (FieldT.mk Try.underlying24 rfl Try.sizeOf3 rfl) (Ev.t rfl) (i' := 0) rfl)) rfl ?_; clear S a w; intro a w S)
  (refine st_y S (Yr.ys (ys_ld ⟨Try.isAgg3, Try.sizeOf3⟩ (Ev.t rfl) (k := 0) rfl rfl)) rfl ?_; clear S a w; intro a w S)
  (refine st_y S (ys_call Try.call77 (EvL.cons (Ev.t rfl) (EvL.cons (Ev.t rfl) EvL.nil)) (fun hp w W => c77 _ _ _)) rfl ?_; clear S a w; intro a w S)
  rw [rw_1] at S
  rw [rw_2] at S
  (refine st_y S (Yr.ys (ys_move (Ev.t rfl))) rfl ?_; clear S a w; intro a w S)
  (refine st_y S (Yr.ys (ys_ext (Ev.t rfl) rfl)) rfl ?_; clear S a w; intro a w S)
  (refine st_y S (Yr.ys (ys_ext (Ev.t rfl) rfl)) rfl ?_; clear S a w; intro a w S)
  (refine st_y S (Yr.ys (ys_assign (Ev.t rfl))) rfl ?_; clear S a w; intro a w S)
  (refine st_y S (Yr.ys (ys_assign (Ev.t rfl))) rfl ?_; clear S a w; intro a w S)
  refine st_nil ?_
  (refine (then_normal (hK1 _ _ ?_)); clear hK1)
  refine wp_seq_k fun _ hK1 => ?_
  refine wp_seq_k fun _ hK2 => ?_
  refine wp_region_lit ?_
  (refine st_y S (Yr.ys (ys_move (Ev.t rfl))) rfl ?_; clear S a w; intro a w S)
  (refine st_y S (Yr.ys (ys_not (Ev.t rfl))) rfl ?_; clear S a w; intro a w S)
  refine st_nil ?_
  (refine (then_normal (hK2 _ _ ?_)); clear hK2)
  refine st_else S (Ev.t rfl) ?_
  refine wp_skip ?_
  (refine (then_normal (hK1 _ _ ?_)); clear hK1)
  refine wp_seq_k fun _ hK1 => ?_
  refine wp_region_lit ?_
  (refine st_y S (Yr.ys (ys_ldA ⟨Try.isAgg24, Try.sizeOf24⟩ (Ev.t rfl) (k := 0) rfl rfl)) rfl ?_; clear S a w; intro a w S)
  (refine st_y S (Yr.ys (ys_move (Ev.t rfl))) rfl ?_; clear S a w; intro a w S)
  (refine st_m (op_calls S Try.call47 (EvL.cons (Ev.t rfl) (EvL.cons (Ev.t rfl) EvL.nil)) (c47 _ _ _ _ _ _ _ (by exact .old S.wd (by assumption)) (by assumption)) rfl ?_); clear S a w; rintro _ _ ⟨A1, cp1, rfl, rfl⟩ a w S)
  (refine st_y S (Yr.ys (ys_assign (Ev.t rfl))) rfl ?_; clear S a w; intro a w S)
  refine st_nil ?_
  (refine (then_normal (hK1 _ _ ?_)); clear hK1)
  refine wp_seq_k fun _ hK1 => ?_
  refine wp_seq_k fun _ hK2 => ?_
  refine wp_region_lit ?_
  (refine st_y S (Yr.ys (ys_move (Ev.t rfl))) rfl ?_; clear S a w; intro a w S)
  (refine st_y S (Yr.ys (ys_lenS Try.underlying40 (Ev.t rfl))) rfl ?_; clear S a w; intro a w S)
  (refine st_y S (Yr.ys (ys_fieldN (FieldT.mk Try.underlying24 rfl Try.sizeOf3 rfl) (Ev.t rfl) (i' := 1) rfl)) rfl ?_; clear S a w; intro a w S)
  (refine st_y S (Yr.ys (ys_ld ⟨Try.isAgg3, Try.sizeOf3⟩ (Ev.t rfl) (k := 1) rfl rfl)) rfl ?_; clear S a w; intro a w S)
  (refine st_y S (Yr.ys (ys_gtr (Ev.t rfl) (Ev.t rfl))) rfl ?_; clear S a w; intro a w S)
  refine st_nil ?_
  (refine (then_normal (hK2 _ _ ?_)); clear hK2)
  refine st_if S (Ev.t rfl) (fun h1 => ?_) (fun h1 => ?_)
  refine wp_region_lit ?_
  (refine st_y S (Yr.ys (ys_move (Ev.t rfl))) rfl ?_; clear S a w; intro a w S)
  (refine st_y S (Yr.ys (ys_fieldN (FieldT.mk Try.underlying24 rfl Try.sizeOf3 rfl) (Ev.t rfl) (i' := 1) rfl)) rfl ?_; clear S a w; intro a w S)
  (refine st_y S (Yr.ys (ys_ld ⟨Try.isAgg3, Try.sizeOf3⟩ (Ev.t rfl) (k := 1) rfl rfl)) rfl ?_; clear S a w; intro a w S)
  rotate_left
  refine wp_skip ?_
  (refine (then_normal (hK1 _ _ ?_)); clear hK1)
  refine wp_seq_k fun _ hK1 => ?_
  refine wp_region_lit ?_
  (refine st_y S (Yr.ys (ys_move (Ev.t rfl))) rfl ?_; clear S a w; intro a w S)
  (refine st_y S (Yr.ys (ys_assign (Ev.t rfl))) rfl ?_; clear S a w; intro a w S)
  refine st_nil ?_
  (refine (then_normal (hK1 _ _ ?_)); clear hK1)
  refine wp_ret ?_
  refine st_ret S (results1 S Try.results27 (Rv.tmp rfl)) ?_
  rotate_left
  · have hroom := S.wd.room (k := 0) rfl
    (refine st_y S (Yr.ys (ys_slHi Try.underlying40 Try.sizeOf3 (Ev.t rfl) (Ev.t rfl) (fun _ => by first | omega | (simp; done) | (simp; omega)))) rfl ?_; clear S a w; intro a w S)
    (refine st_y S (Yr.ys (ys_assign (Ev.t rfl))) rfl ?_; clear S a w; intro a w S)
    refine st_nil ?_
    (refine (then_normal (hK1 _ _ ?_)); clear hK1)
    refine wp_seq_k fun _ hK1 => ?_
    refine wp_region_lit ?_
    (refine st_y S (Yr.ys (ys_move (Ev.t rfl))) rfl ?_; clear S a w; intro a w S)
    (refine st_y S (Yr.ys (ys_assign (Ev.t rfl))) rfl ?_; clear S a w; intro a w S)
    refine st_nil ?_
    (refine (then_normal (hK1 _ _ ?_)); clear hK1)
    refine wp_ret ?_
    refine st_ret S (results1 S Try.results27 (Rv.tmp rfl)) ?_
    have S := S.cut (k := 0) encI_len rfl cn
    exact ⟨_, [rowOf 3 1 encI A1 cp1 (List.take cn (walkR ⟨p, cn, s, l⟩ (startL q p)))], rfl, S.wd.picks (by repeat (first | exact Picks.nil | (refine Picks.rest ?_; (repeat (first | exact List.Sublist.refl _ | refine List.Sublist.cons_cons _ ?_ | refine List.Sublist.cons _ ?_)); done) | refine Picks.take 0 rfl ?_ | refine Picks.take 1 rfl ?_ | refine Picks.take 2 rfl ?_ | refine Picks.take 3 rfl ?_ | refine Picks.take 4 rfl ?_ | refine Picks.take 5 rfl ?_ | refine Picks.take 6 rfl ?_ | refine Picks.take 7 rfl ?_ | refine Picks.take 8 rfl ?_ | refine Picks.take 9 rfl ?_ | refine Picks.take 10 rfl ?_ | refine Picks.take 11 rfl ?_)), by rw [e]; exact ⟨A1, cp1, by rw [List.length_take, Nat.min_eq_left (by omega)], rfl⟩⟩
  · rw [List.take_of_length_le (by omega)] at e
    exact ⟨_, [rowOf 3 1 encI A1 cp1 (walkR ⟨p, cn, s, l⟩ (startL q p))], rfl, S.wd.picks (by repeat (first | exact Picks.nil | (refine Picks.rest ?_; (repeat (first | exact List.Sublist.refl _ | refine List.Sublist.cons_cons _ ?_ | refine List.Sublist.cons _ ?_)); done) | refine Picks.take 0 rfl ?_ | refine Picks.take 1 rfl ?_ | refine Picks.take 2 rfl ?_ | refine Picks.take 3 rfl ?_ | refine Picks.take 4 rfl ?_ | refine Picks.take 5 rfl ?_ | refine Picks.take 6 rfl ?_ | refine Picks.take 7 rfl ?_ | refine Picks.take 8 rfl ?_ | refine Picks.take 9 rfl ?_ | refine Picks.take 10 rfl ?_ | refine Picks.take 11 rfl ?_)), by rw [e]; exact ⟨_, _, rfl, rfl⟩⟩
theorem c50 (w0 : World) (p c s n q : Int) (v : Value) (l : List Mbr) (h : Sl Mbr.enc 4 w0 w0.heap.size v l) (hn : l.length ≤ 4194304) :
    Calls Try.prog 50 #[.agg #[.int .i64 p, .int .i64 c, .int .i64 s, v], .int .i64 n, .int .i64 q] w0 fun e w' => e = .returned (.bool (decide (n ∈ ownersR ⟨p, c, s, l⟩ q))) ∧ Bel w0.heap.size w0 w' := by
  refine enter3 Try.func50 rfl Try.ntmps50 rfl fun a S => ?_
  refine wp_seq_k fun _ hK1 => ?_
  refine wp_region_lit ?_
  (refine st_m (op_box S (Ev.t rfl) rfl ?_); clear S a; intro g1 a w S)
  (refine st_y S (Yr.ys (ys_assign Ev.c)) rfl ?_; clear S a w; intro a w S)
  refine st_nil ?_
  (refine (then_normal (hK1 _ _ ?_)); clear hK1)
  refine wp_seq_k fun _ hK1 => ?_
  refine wp_region_lit ?_
  (refine st_y S (Yr.ys (ys_ldA ⟨Try.isAgg24, Try.sizeOf24⟩ (Ev.t rfl) (k := 0) rfl rfl)) rfl ?_; clear S a w; intro a w S)
  (refine st_y S (Yr.ys (ys_move (Ev.t rfl))) rfl ?_; clear S a w; intro a w S)
  (refine st_m (op_calls S Try.call27 (EvL.cons (Ev.t rfl) (EvL.cons (Ev.t rfl) EvL.nil)) (c27 _ _ _ _ _ _ _ (by exact .old S.wd (by assumption)) (by assumption)) rfl ?_); clear S a w; rintro _ _ ⟨A1, cp1, rfl, rfl⟩ a w S)
  (refine st_y S (Yr.ys (ys_move (Ev.t rfl))) rfl ?_; clear S a w; intro a w S)
  (refine st_y S (ys_call Try.call90 (EvL.cons (Ev.t rfl) (EvL.cons (Ev.t rfl) EvL.nil)) (fun hp w W => c90 _ _ _ _ (by exact Sl.of_own W (k := 0) rfl (fun _ => rfl)))) rfl ?_; clear S a w; intro a w S)
  (refine st_y S (Yr.ys (ys_assign (Ev.t rfl))) rfl ?_; clear S a w; intro a w S)
  refine st_nil ?_
  (refine (then_normal (hK1 _ _ ?_)); clear hK1)
  refine wp_ret ?_
  refine st_ret S (results1 S Try.results50 (Rv.tmp rfl)) ?_
  exact ⟨rfl, S.wd.below⟩
end Go.Proofs.Ytcglchdbddlnjaa
set_option linter.unusedVariables false
set_option linter.unusedSimpArgs false
set_option maxRecDepth 100000
set_option maxHeartbeats 4000000
namespace Go.Fw
section
variable {α : Type} [DecidableEq α]
def idxG (x : α) : Nat → List α → Int
  | _, [] => -1
  | k, y :: r => if y = x then (k : Int) else idxG x (k + 1) r
theorem idxG_mem (x : α) : ∀ (l : List α) (k : Nat), decide (0 ≤ idxG x k l) = decide (x ∈ l)
  | [], k => by simp [idxG]
  | y :: r, k => by
    unfold idxG
    by_cases h : y = x
    · subst h; simp
    · rw [if_neg h, idxG_mem x r (k + 1)]
      have h' : ¬ x = y := fun e => h e.symm
      simp [h']
end
end Go.Fw
namespace Go.Proofs.Ytcglchdbddlnjaa
open Go.Fw Go.Proofs Go.RowKit
theorem at_ne {α : Type} [DecidableEq α] {l l' : List α} {k : Nat} {x y : α} (hx : l[k]? = some x) (hy : l'[k]? = some y) (h : ¬ x = y) : Ending.returned (.bool false) = Ending.returned (.bool (decide (l = l'))) := by
  rw [decide_eq_false fun e => h (by subst e; rw [hx] at hy; exact Option.some.inj hy)]
theorem at_step {α : Type} {l l' : List α} {k : Nat} {x y : α} (h : l.take k = l'.take k) (hx : l[k]? = some x) (hy : l'[k]? = some y) (e : x = y) : l.take (k + 1) = l'.take (k + 1) := by
  rw [List.take_add_one, List.take_add_one, hx, hy, h, e]
theorem c70 (w0 : World) (v1 : Value) (l : List Mbr) (h : Sl Mbr.enc 4 w0 w0.heap.size v1 l) (hn : l.length ≤ 4194304) :
    Rets Try.prog 70 #[v1] w0 fun v L => ∃ A c, v = .slice A l.length c ∧ L = [rowOf 60 4 Mbr.enc A c l] := by
  have h0 := h
  obtain ⟨A, cap, rfl, hl, hcap, hA⟩ := h
  unfold Go.Fw.Rets
  refine enter1 Try.func70 rfl Try.ntmps70 rfl fun a S => ?_
  refine wp_seq_k fun _ hK1 => ?_
  refine wp_region_lit ?_
  (refine st_y S (Yr.ys (ys_assign Ev.c)) rfl ?_; clear S a; intro a w S)
  refine st_nil ?_
  (refine (then_normal (hK1 _ _ ?_)); clear hK1)
  refine wp_seq_k fun _ hK1 => ?_
  refine wp_seq_k fun _ hK2 => ?_
  refine wp_region_lit ?_
  (refine st_y S (Yr.ys (ys_move (Ev.t rfl))) rfl ?_; clear S a w; intro a w S)
  (refine st_y S (Yr.ys (ys_sNil Try.underlying22 (Ev.t rfl) Ev.c)) rfl ?_; clear S a w; intro a w S)
  refine st_nil ?_
  (refine (then_normal (hK2 _ _ ?_)); clear hK2)
  refine st_cond S (Ev.t rfl) (fun h1 => ?_) (fun h1 => ?_)
  refine wp_seq_k fun _ hK2 => ?_
  refine wp_region_lit ?_
  (refine st_y S (Yr.ys (ys_assign Ev.c)) rfl ?_; clear S a w; intro a w S)
  refine st_nil ?_
  (refine (then_normal (hK2 _ _ ?_)); clear hK2)
  refine wp_ret ?_
  refine (then_ret ?_)
  refine st_ret S (results1 S Try.results70 (Rv.tmp rfl)) ?_
  rotate_left
  refine wp_skip ?_
  (refine (then_normal (hK1 _ _ ?_)); clear hK1)
  refine wp_seq_k fun _ hK1 => ?_
  refine wp_region_lit ?_
  (refine st_m (op_bslice0 S Try.underlying22 Try.sizeOf60 rfl ?_); clear S a w; intro g1 a w S)
  (refine st_y S (Yr.ys (ys_move (Ev.t rfl))) rfl ?_; clear S a w; intro a w S)
  (refine st_m (op_extend _ (S.nil_ 60 _ Go.Fw.Mbr.enc _) Try.underlying22 Try.underlying22 (.inr ⟨_, rfl⟩) inf60 rfl (k := 0) rfl (Ev.t rfl) (Ev.t rfl) (Src.sl (Sl.old S.wd h0) (by decide) Go.Fw.Mbr.enc_len Go.Fw.Mbr.enc_one) (by first | omega | (simp only [List.length_append, List.length_cons, List.length_nil]; omega) | (simp; omega)) rfl rfl rfl ?_); clear S a w; intro A1 cap1 a w S)
  simp only [List.nil_append] at S
  (refine st_y S (Yr.ys (ys_assign (Ev.t rfl))) rfl ?_; clear S a w; intro a w S)
  refine st_nil ?_
  (refine (then_normal (hK1 _ _ ?_)); clear hK1)
  refine wp_ret ?_
  refine st_ret S (results1 S Try.results70 (Rv.tmp rfl)) ?_
  rotate_left
  · have hnil : l = [] := by
      refine List.eq_nil_of_length_eq_zero (Decidable.byContradiction fun hne => ?_)
      obtain ⟨g, o, rfl, _⟩ := hA (by omega)
      cases h1
    subst hnil
    exact ⟨_, _, rfl, (S.nil_ 60 4 Mbr.enc none).wd.sub (by repeat (first | exact List.Sublist.refl _ | exact List.nil_sublist _ | refine .cons_cons _ ?_ | refine .cons _ ?_)), none, 0, rfl, rfl⟩
  · try simp only [List.nil_append] at S ⊢
    exact ⟨_, _, rfl, S.wd.sub (by repeat (first | exact List.Sublist.refl _ | exact List.nil_sublist _ | refine .cons_cons _ ?_ | refine .cons _ ?_)), _, _, rfl, rfl⟩
theorem c30 (w0 : World) (v1 : Value) (l : List Int) (h : Sl encI 1 w0 w0.heap.size v1 l) (hn : l.length ≤ 4194304) :
    Rets Try.prog 30 #[v1] w0 fun v L => ∃ A c, v = .slice A l.length c ∧ L = [rowOf 3 1 encI A c l] := by
  have h0 := h
  obtain ⟨A, cap, rfl, hl, hcap, hA⟩ := h
  unfold Go.Fw.Rets
  refine enter1 Try.func30 rfl Try.ntmps30 rfl fun a S => ?_
  refine wp_seq_k fun _ hK1 => ?_
  refine wp_region_lit ?_
  (refine st_y S (Yr.ys (ys_assign Ev.c)) rfl ?_; clear S a; intro a w S)
  refine st_nil ?_
  (refine (then_normal (hK1 _ _ ?_)); clear hK1)
  refine wp_seq_k fun _ hK1 => ?_
  refine wp_seq_k fun _ hK2 => ?_
  refine wp_region_lit ?_
  (refine st_y S (Yr.ys (ys_move (Ev.t rfl))) rfl ?_; clear S a w; intro a w S)
  (refine st_y S (Yr.ys (ys_sNil Try.underlying40 (Ev.t rfl) Ev.c)) rfl ?_; clear S a w; intro a w S)
  refine st_nil ?_
  (refine (then_normal (hK2 _ _ ?_)); clear hK2)
  refine st_cond S (Ev.t rfl) (fun h1 => ?_) (fun h1 => ?_)
  refine wp_seq_k fun _ hK2 => ?_
  refine wp_region_lit ?_
  (refine st_y S (Yr.ys (ys_assign Ev.c)) rfl ?_; clear S a w; intro a w S)
  refine st_nil ?_
  (refine (then_normal (hK2 _ _ ?_)); clear hK2)
  refine wp_ret ?_
  refine (then_ret ?_)
  refine st_ret S (results1 S Try.results30 (Rv.tmp rfl)) ?_
  rotate_left
  refine wp_skip ?_
  (refine (then_normal (hK1 _ _ ?_)); clear hK1)
  refine wp_seq_k fun _ hK1 => ?_
  refine wp_region_lit ?_
  (refine st_m (op_bslice0 S Try.underlying40 Try.sizeOf3 rfl ?_); clear S a w; intro g1 a w S)
  (refine st_y S (Yr.ys (ys_move (Ev.t rfl))) rfl ?_; clear S a w; intro a w S)
  (refine st_m (op_extend _ (S.nil_ 3 _ Go.Proofs.Ytcglchdbddlnjaa.encI _) Try.underlying40 Try.underlying40 (.inr ⟨_, rfl⟩) inf3 rfl (k := 0) rfl (Ev.t rfl) (Ev.t rfl) (Src.sl (Sl.old S.wd h0) (by decide) Go.Proofs.Ytcglchdbddlnjaa.encI_len Go.Proofs.Ytcglchdbddlnjaa.encI_one) (by first | omega | (simp only [List.length_append, List.length_cons, List.length_nil]; omega) | (simp; omega)) rfl rfl rfl ?_); clear S a w; intro A1 cap1 a w S)
  simp only [List.nil_append] at S
  (refine st_y S (Yr.ys (ys_assign (Ev.t rfl))) rfl ?_; clear S a w; intro a w S)
  refine st_nil ?_
  (refine (then_normal (hK1 _ _ ?_)); clear hK1)
  refine wp_ret ?_
  refine st_ret S (results1 S Try.results30 (Rv.tmp rfl)) ?_
  rotate_left
  · have hnil : l = [] := by
      refine List.eq_nil_of_length_eq_zero (Decidable.byContradiction fun hne => ?_)
      obtain ⟨g, o, rfl, _⟩ := hA (by omega)
      cases h1
    subst hnil
    exact ⟨_, _, rfl, (S.nil_ 3 1 encI none).wd.sub (by repeat (first | exact List.Sublist.refl _ | exact List.nil_sublist _ | refine .cons_cons _ ?_ | refine .cons _ ?_)), none, 0, rfl, rfl⟩
  · try simp only [List.nil_append] at S ⊢
    exact ⟨_, _, rfl, S.wd.sub (by repeat (first | exact List.Sublist.refl _ | exact List.nil_sublist _ | refine .cons_cons _ ?_ | refine .cons _ ?_)), _, _, rfl, rfl⟩
theorem c32 (w0 : World) (v v' : Value) (l l' : List Int) (h : Sl encI 1 w0 w0.heap.size v l) (h' : Sl encI 1 w0 w0.heap.size v' l') :
    Calls Try.prog 32 #[v, v'] w0 fun e w' => e = .returned (.bool (decide (l = l'))) ∧ Bel w0.heap.size w0 w' := by
  obtain ⟨A, cap, rfl, hl, hcap, hA⟩ := h
  obtain ⟨A', cap', rfl, hl', hcap', hA'⟩ := h'
  refine enter2 Try.func32 rfl Try.ntmps32 rfl fun a S => ?_
  refine wp_seq_k fun _ hK1 => ?_
  refine wp_region_lit ?_
  (refine st_y S (Yr.ys (ys_assign Ev.c)) rfl ?_; clear S a; intro a w S)
  refine st_nil ?_
  (refine (then_normal (hK1 _ _ ?_)); clear hK1)
  refine wp_seq_k fun _ hK1 => ?_
  refine wp_seq_k fun _ hK2 => ?_
  refine wp_region_lit ?_
  (refine st_y S (Yr.ys (ys_move (Ev.t rfl))) rfl ?_; clear S a w; intro a w S)
  (refine st_y S (Yr.ys (ys_lenS Try.underlying40 (Ev.t rfl))) rfl ?_; clear S a w; intro a w S)
  (refine st_y S (Yr.ys (ys_move (Ev.t rfl))) rfl ?_; clear S a w; intro a w S)
  (refine st_y S (Yr.ys (ys_lenS Try.underlying40 (Ev.t rfl))) rfl ?_; clear S a w; intro a w S)
  (refine st_y S (Yr.ys (ys_neq (Ev.t rfl) (Ev.t rfl))) rfl ?_; clear S a w; intro a w S)
  refine st_nil ?_
  (refine (then_normal (hK2 _ _ ?_)); clear hK2)
  refine st_if S (Ev.t rfl) (fun h1 => ?_) (fun h1 => ?_)
  refine wp_seq_k fun _ hK2 => ?_
  refine wp_region_lit ?_
  (refine st_y S (Yr.ys (ys_assign Ev.c)) rfl ?_; clear S a w; intro a w S)
  refine st_nil ?_
  (refine (then_normal (hK2 _ _ ?_)); clear hK2)
  refine wp_ret ?_
  refine (then_ret ?_)
  refine st_ret S (results1 S Try.results32 (Rv.tmp rfl)) ?_
  rotate_left
  refine wp_skip ?_
  (refine (then_normal (hK1 _ _ ?_)); clear hK1)
  refine wp_seq_k fun _ hK1 => ?_
  refine wp_seq_k fun _ hK2 => ?_
  refine wp_region_lit ?_
  (refine st_y S (Yr.ys (ys_move (Ev.t rfl))) rfl ?_; clear S a w; intro a w S)
  (refine st_y S (Yr.ys (ys_lenS Try.underlying40 (Ev.t rfl))) rfl ?_; clear S a w; intro a w S)
  (refine st_y S (Yr.ys (ys_move Ev.c)) rfl ?_; clear S a w; intro a w S)
  refine st_nil ?_
  (refine (then_normal (hK2 _ _ ?_)); clear hK2)
  refine wp_block ?_
  rotate_left
  · refine ⟨?_, S.wd.below⟩
    rw [decide_eq_false (fun e => h1 (by rw [e]))]
  · refine st_loopK S (X := Nat) (fun k => [(13, true, .int .i64 (k : Int))]) (fun _ L => L) (fun k => k ≤ l.length ∧ l.take k = l'.take k) (fun k => l.length - k) 0 ⟨Nat.zero_le _, rfl⟩ (by repeat (first | exact Fits.nil | refine Fits.skip rfl ?_ | refine Fits.cons rfl ?_)) (by repeat (first | exact List.Sublist.refl _ | exact List.nil_sublist _ | refine .cons_cons _ ?_ | refine .cons _ ?_)) ?_
    clear S
    intro k a w ⟨hk, hno⟩ S
    by_cases hlt : k < l.length
    · obtain ⟨g, o, m, rfl, hmm, hd, hc⟩ := row_at hA hlt
      obtain ⟨g', o', m', rfl, hmm', hd', hc'⟩ := row_at hA' (show k < l'.length by omega)
      clear hA hA'
      refine wp_seq_k fun _ hK2 => ?_
      refine wp_region_lit ?_
      (refine st_y S (Yr.ys (ys_T (by omega) (ys_lss (Ev.t rfl) (Ev.t rfl)))) rfl ?_; clear S a w; intro a w S)
      refine st_nil ?_
      (refine (then_normal (hK2 _ _ ?_)); clear hK2)
      refine wp_seq_k fun _ hK2 => ?_
      refine st_then S (Ev.t rfl) ?_
      refine wp_skip ?_
      (refine (then_normal (hK2 _ _ ?_)); clear hK2)
      refine wp_seq_k fun _ hK2 => ?_
      refine wp_block ?_
      refine wp_seq_k fun _ hK3 => ?_
      refine wp_region_lit ?_
      (refine st_y S (Yr.ys (ys_move (Ev.t rfl))) rfl ?_; clear S a w; intro a w S)
      (refine st_y S (Yr.ys (ys_assign (Ev.t rfl))) rfl ?_; clear S a w; intro a w S)
      refine st_nil ?_
      (refine (then_normal (hK3 _ _ ?_)); clear hK3)
      refine wp_seq_k fun _ hK3 => ?_
      (refine st_quiet S (by kernel_rfl) (by kernel_rfl) ?_; clear S w; intro a S)
      (refine q_y S (Yr.ys (ys_move (Ev.t rfl))) rfl ?_; clear S a; intro a S)
      (refine q_y S (Yr.ys (ys_move (Ev.t rfl))) rfl ?_; clear S a; intro a S)
      (refine q_y S (Yr.ys (ys_ixS Try.underlying40 Try.sizeOf3 (Ev.t rfl) (Ev.t rfl) (fun _ => by omega))) rfl ?_; clear S a; intro a S)
      (refine q_y S (Yr.ys (ys_ldO ⟨Try.isAgg3, Try.sizeOf3⟩ (Ev.t rfl) (fun _ => hc 0 _ rfl))) rfl ?_; clear S a; intro a S)
      (refine q_y S (Yr.ys (ys_move (Ev.t rfl))) rfl ?_; clear S a; intro a S)
      (refine q_y S (Yr.ys (ys_move (Ev.t rfl))) rfl ?_; clear S a; intro a S)
      (refine q_y S (Yr.ys (ys_ixS Try.underlying40 Try.sizeOf3 (Ev.t rfl) (Ev.t rfl) (fun _ => by omega))) rfl ?_; clear S a; intro a S)
      (refine q_y S (Yr.ys (ys_ldO ⟨Try.isAgg3, Try.sizeOf3⟩ (Ev.t rfl) (fun _ => hc' 0 _ rfl))) rfl ?_; clear S a; intro a S)
      (refine q_y S (Yr.ys (ys_neq (Ev.t rfl) (Ev.t rfl))) rfl ?_; clear S a; intro a S)
      (refine q_nil ?_; intro w W; replace S := St.mk S W; clear W)
      (refine (then_normal (hK3 _ _ ?_)); clear hK3)
      refine st_if S (Ev.t rfl) (fun h2 => ?_) (fun h2 => ?_)
      refine wp_seq_k fun _ hK3 => ?_
      refine wp_region_lit ?_
      (refine st_y S (Yr.ys (ys_assign Ev.c)) rfl ?_; clear S a w; intro a w S)
      refine st_nil ?_
      (refine (then_normal (hK3 _ _ ?_)); clear hK3)
      refine wp_ret ?_
      refine (in_ret (then_ret (then_ret (in_ret (then_ret ?_)))))
      refine st_ret S (results1 S Try.results32 (Rv.tmp rfl)) ?_
      rotate_left
      refine wp_skip ?_
      (refine (in_normal (then_normal (hK2 _ _ ?_))); clear hK2)
      refine wp_region_lit ?_
      (refine st_y S (Yr.ys (ys_addI (Ev.t rfl) Ev.c (fun _ => by unfold I64; omega))) rfl ?_; clear S a w; intro a w S)
      (refine st_y S (Yr.ys (ys_move (Ev.t rfl))) rfl ?_; clear S a w; intro a w S)
      refine st_nil ?_
      refine (then_normal ?_)
      rotate_left
      · refine ⟨?_, S.wd.below⟩
        have hne : ¬ m = m' := fun e => by
          have h3 := h2
          rw [(Iff.rfl : m = m' ↔ m = m')] at e
          simp at h3
          simp_all
        rw [at_ne hmm hmm' hne]
      · have heq : m = m' := by
          have h3 := h2
          rw [(Iff.rfl : m = m' ↔ m = m')]
          simpa using h3
        exact ⟨k + 1, ⟨by omega, at_step hno hmm hmm' heq⟩, by omega, S.weak (by repeat (first | exact Fits.nil | refine Fits.skip rfl ?_ | refine Fits.cons rfl ?_)) (by repeat (first | exact List.Sublist.refl _ | exact List.nil_sublist _ | refine .cons_cons _ ?_ | refine .cons _ ?_))⟩
    · refine wp_seq_k fun _ hK2 => ?_
      refine wp_region_lit ?_
      (refine st_y S (Yr.ys (ys_F (by omega) (ys_lss (Ev.t rfl) (Ev.t rfl)))) rfl ?_; clear S a w; intro a w S)
      refine st_nil ?_
      (refine (then_normal (hK2 _ _ ?_)); clear hK2)
      refine wp_seq_k fun _ hK2 => ?_
      refine st_else S (Ev.t rfl) ?_
      refine wp_exit ?_
      (refine (then_exit (then_exit (in_here (then_normal (hK1 _ _ ?_))))); clear hK1)
      refine wp_seq_k fun _ hK1 => ?_
      refine wp_region_lit ?_
      (refine st_y S (Yr.ys (ys_assign Ev.c)) rfl ?_; clear S a w; intro a w S)
      refine st_nil ?_
      (refine (then_normal (hK1 _ _ ?_)); clear hK1)
      refine wp_ret ?_
      refine st_ret S (results1 S Try.results32 (Rv.tmp rfl)) ?_
      refine ⟨?_, S.wd.below⟩
      rw [decide_eq_true]
      rw [List.take_of_length_le (by omega), List.take_of_length_le (by omega)] at hno
      exact hno
theorem c78 (w0 : World) (v1 : Value) (l : List Int) (x : Int) (h : Sl encI 1 w0 w0.heap.size v1 l) :
    Calls Try.prog 78 #[v1, .int .i64 x] w0 fun e w' => e = .returned (.int .i64 (idxG x 0 l)) ∧ Bel w0.heap.size w0 w' := by
  obtain ⟨A, cap, rfl, hl, hcap, hA⟩ := h
  refine enter2 Try.func78 rfl Try.ntmps78 rfl fun a S => ?_
  refine wp_seq_k fun _ hK1 => ?_
  refine wp_region_lit ?_
  (refine st_y S (Yr.ys (ys_assign Ev.c)) rfl ?_; clear S a; intro a w S)
  refine st_nil ?_
  (refine (then_normal (hK1 _ _ ?_)); clear hK1)
  refine wp_seq_k fun _ hK1 => ?_
  refine wp_seq_k fun _ hK2 => ?_
  refine wp_region_lit ?_
  (refine st_y S (Yr.ys (ys_move (Ev.t rfl))) rfl ?_; clear S a w; intro a w S)
  (refine st_y S (Yr.ys (ys_lenS Try.underlying40 (Ev.t rfl))) rfl ?_; clear S a w; intro a w S)
  (refine st_y S (Yr.ys (ys_move Ev.c)) rfl ?_; clear S a w; intro a w S)
  refine st_nil ?_
  (refine (then_normal (hK2 _ _ ?_)); clear hK2)
  refine wp_block ?_
  refine st_loopK S (X := Nat) (fun k => [(8, true, .int .i64 (k : Int))]) (fun _ L => L) (fun k => k ≤ l.length ∧ idxG x k (l.drop k) = idxG x 0 l) (fun k => l.length - k) 0 ⟨Nat.zero_le _, rfl⟩ (by repeat (first | exact Fits.nil | refine Fits.skip rfl ?_ | refine Fits.cons rfl ?_)) (by repeat (first | exact List.Sublist.refl _ | exact List.nil_sublist _ | refine .cons_cons _ ?_ | refine .cons _ ?_)) ?_
  clear S
  intro k a w ⟨hk, hno⟩ S
  by_cases hlt : k < l.length
  · obtain ⟨g, o, m, rfl, hm, hd, hc⟩ := row_at hA hlt
    clear hA
    refine wp_seq_k fun _ hK2 => ?_
    refine wp_region_lit ?_
    (refine st_y S (Yr.ys (ys_T (by omega) (ys_lss (Ev.t rfl) (Ev.t rfl)))) rfl ?_; clear S a w; intro a w S)
    refine st_nil ?_
    (refine (then_normal (hK2 _ _ ?_)); clear hK2)
    refine wp_seq_k fun _ hK2 => ?_
    refine st_then S (Ev.t rfl) ?_
    refine wp_skip ?_
    (refine (then_normal (hK2 _ _ ?_)); clear hK2)
    refine wp_seq_k fun _ hK2 => ?_
    refine wp_block ?_
    refine wp_seq_k fun _ hK3 => ?_
    refine wp_region_lit ?_
    (refine st_y S (Yr.ys (ys_move (Ev.t rfl))) rfl ?_; clear S a w; intro a w S)
    (refine st_y S (Yr.ys (ys_assign (Ev.t rfl))) rfl ?_; clear S a w; intro a w S)
    refine st_nil ?_
    (refine (then_normal (hK3 _ _ ?_)); clear hK3)
    refine wp_seq_k fun _ hK3 => ?_
    refine wp_region_lit ?_
    (refine st_y S (Yr.ys (ys_move (Ev.t rfl))) rfl ?_; clear S a w; intro a w S)
    (refine st_y S (Yr.ys (ys_move (Ev.t rfl))) rfl ?_; clear S a w; intro a w S)
    (refine st_y S (Yr.ys (ys_move (Ev.t rfl))) rfl ?_; clear S a w; intro a w S)
    (refine st_y S (Yr.ys (ys_ixS Try.underlying40 Try.sizeOf3 (Ev.t rfl) (Ev.t rfl) (fun _ => by omega))) rfl ?_; clear S a w; intro a w S)
    (refine st_y S (Yr.ys (ys_ldO ⟨Try.isAgg3, Try.sizeOf3⟩ (Ev.t rfl) (fun _ => hc 0 _ rfl))) rfl ?_; clear S a w; intro a w S)
    (refine st_y S (Yr.ys (ys_eql (Ev.t rfl) (Ev.t rfl))) rfl ?_; clear S a w; intro a w S)
    refine st_nil ?_
    (refine (then_normal (hK3 _ _ ?_)); clear hK3)
    refine st_if S (Ev.t rfl) (fun h1 => ?_) (fun h1 => ?_)
    refine wp_seq_k fun _ hK3 => ?_
    refine wp_region_lit ?_
    (refine st_y S (Yr.ys (ys_move (Ev.t rfl))) rfl ?_; clear S a w; intro a w S)
    (refine st_y S (Yr.ys (ys_assign (Ev.t rfl))) rfl ?_; clear S a w; intro a w S)
    refine st_nil ?_
    (refine (then_normal (hK3 _ _ ?_)); clear hK3)
    refine wp_ret ?_
    refine (in_ret (then_ret (then_ret (in_ret (then_ret ?_)))))
    refine st_ret S (results1 S Try.results78 (Rv.tmp rfl)) ?_
    rotate_left
    refine wp_skip ?_
    (refine (in_normal (then_normal (hK2 _ _ ?_))); clear hK2)
    refine wp_region_lit ?_
    (refine st_y S (Yr.ys (ys_addI (Ev.t rfl) Ev.c (fun _ => by unfold I64; omega))) rfl ?_; clear S a w; intro a w S)
    (refine st_y S (Yr.ys (ys_move (Ev.t rfl))) rfl ?_; clear S a w; intro a w S)
    refine st_nil ?_
    refine (then_normal ?_)
    rotate_left
    · refine ⟨?_, S.wd.below⟩
      rw [← hno, hd, idxG, if_pos h1.symm]
    · rw [hd, idxG, if_neg (fun e => h1 e.symm)] at hno
      exact ⟨k + 1, ⟨by omega, hno⟩, by omega, S.weak (by repeat (first | exact Fits.nil | refine Fits.skip rfl ?_ | refine Fits.cons rfl ?_)) (by repeat (first | exact List.Sublist.refl _ | exact List.nil_sublist _ | refine .cons_cons _ ?_ | refine .cons _ ?_))⟩
  · refine wp_seq_k fun _ hK2 => ?_
    refine wp_region_lit ?_
    (refine st_y S (Yr.ys (ys_F (by omega) (ys_lss (Ev.t rfl) (Ev.t rfl)))) rfl ?_; clear S a w; intro a w S)
    refine st_nil ?_
    (refine (then_normal (hK2 _ _ ?_)); clear hK2)
    refine wp_seq_k fun _ hK2 => ?_
    refine st_else S (Ev.t rfl) ?_
    refine wp_exit ?_
    (refine (then_exit (then_exit (in_here (then_normal (hK1 _ _ ?_))))); clear hK1)
    refine wp_seq_k fun _ hK1 => ?_
    refine wp_region_lit ?_
    (refine st_y S (Yr.ys (ys_assign Ev.c)) rfl ?_; clear S a w; intro a w S)
    refine st_nil ?_
    (refine (then_normal (hK1 _ _ ?_)); clear hK1)
    refine wp_ret ?_
    refine st_ret S (results1 S Try.results78 (Rv.tmp rfl)) ?_
    refine ⟨?_, S.wd.below⟩
    rw [← hno, List.drop_eq_nil_of_le (by omega)]; rfl
theorem c28 (w0 : World) (v1 : Value) (l : List Int) (x : Int) (h : Sl encI 1 w0 w0.heap.size v1 l) :
    Calls Try.prog 28 #[v1, .int .i64 x] w0 fun e w' => e = .returned (.bool (decide (x ∈ l))) ∧ Bel w0.heap.size w0 w' := by
  refine enter2 Try.func28 rfl Try.ntmps28 rfl fun a S => ?_
  refine wp_seq_k fun _ hK1 => ?_
  refine wp_region_lit ?_
  (refine st_y S (Yr.ys (ys_assign Ev.c)) rfl ?_; clear S a; intro a w S)
  refine st_nil ?_
  (refine (then_normal (hK1 _ _ ?_)); clear hK1)
  refine wp_seq_k fun _ hK1 => ?_
  refine wp_region_lit ?_
  (refine st_y S (Yr.ys (ys_move (Ev.t rfl))) rfl ?_; clear S a w; intro a w S)
  (refine st_y S (Yr.ys (ys_move (Ev.t rfl))) rfl ?_; clear S a w; intro a w S)
  (refine st_y S (ys_call Try.call78 (EvL.cons (Ev.t rfl) (EvL.cons (Ev.t rfl) EvL.nil)) (fun hp w W => c78 _ _ _ _ (by exact .old W (by assumption)))) rfl ?_; clear S a w; intro a w S)
  (refine st_y S (Yr.ys (ys_geq (Ev.t rfl) Ev.c)) rfl ?_; clear S a w; intro a w S)
  (refine st_y S (Yr.ys (ys_assign (Ev.t rfl))) rfl ?_; clear S a w; intro a w S)
  refine st_nil ?_
  (refine (then_normal (hK1 _ _ ?_)); clear hK1)
  refine wp_ret ?_
  refine st_ret S (results1 S Try.results28 (Rv.tmp rfl)) ?_
  refine ⟨?_, S.wd.below⟩
  rw [idxG_mem]
end Go.Proofs.Ytcglchdbddlnjaa
set_option linter.unusedVariables false
set_option linter.unusedSimpArgs false
set_option maxRecDepth 100000
set_option maxHeartbeats 4000000
namespace Go.Proofs.Ytcglchdbddlnjaa
open Go.Fw Go.Proofs Go.RowKit
theorem c45 (w0 : World) (p c s : Int) (v : Value) (l : List Mbr) (h : Sl Mbr.enc 4 w0 w0.heap.size v l) (hn : l.length ≤ 4194304) :
    Rets Try.prog 45 #[.agg #[.int .i64 p, .int .i64 c, .int .i64 s, v]] w0 fun u L => ∃ A cp, u = .slice A (inR ⟨p, c, s, l⟩).length cp ∧ L = [rowOf 3 1 encI A cp (inR ⟨p, c, s, l⟩)] := by
  by_cases hc : shapeP p c s ∧ goodL l
  rotate_left
  · have rw_0 : (if shapeP p c s ∧ goodL l then (0 : Int) else 60) = 60 := if_neg hc
    unfold Go.Fw.Rets
    refine enter1 Try.func45 rfl Try.ntmps45 rfl fun a S => ?_
    refine wp_seq_k fun _ hK1 => ?_
    refine wp_region_lit ?_
    (refine st_m (op_box S (Ev.t rfl) rfl ?_); clear S a; intro g1 a w S)
    (refine st_y S (Yr.ys (ys_assign Ev.c)) rfl ?_; clear S a w; intro a w S)
    refine st_nil ?_
    (refine (then_normal (hK1 _ _ ?_)); clear hK1)
    refine wp_seq_k fun _ hK1 => ?_
    refine wp_seq_k fun _ hK2 => ?_
    refine wp_region_lit ?_
    (refine st_y S (Yr.ys (ys_ldA ⟨Try.isAgg24, Try.sizeOf24⟩ (Ev.t rfl) (k := 0) rfl rfl)) rfl ?_; clear S a w; intro a w S)
    (refine st_y S (ys_call Try.call55 (EvL.cons (Ev.t rfl) EvL.nil) (fun hp w W => c55 _ _ _ _ _ _ (by exact .old W (by assumption)) (by assumption))) rfl ?_; clear S a w; intro a w S)
    rw [rw_0] at S
    (refine st_y S (Yr.ys (ys_T (by omega) (ys_neq (Ev.t rfl) Ev.c))) rfl ?_; clear S a w; intro a w S)
    refine st_nil ?_
    (refine (then_normal (hK2 _ _ ?_)); clear hK2)
    refine st_then S (Ev.t rfl) ?_
    refine wp_seq_k fun _ hK2 => ?_
    refine wp_region_lit ?_
    (refine st_y S (Yr.ys (ys_assign Ev.c)) rfl ?_; clear S a w; intro a w S)
    refine st_nil ?_
    (refine (then_normal (hK2 _ _ ?_)); clear hK2)
    refine wp_ret ?_
    refine (then_ret ?_)
    refine st_ret S (results1 S Try.results45 (Rv.tmp rfl)) ?_
    have e : inR ⟨p, c, s, l⟩ = [] := if_neg hc
    exact ⟨_, [rowOf 3 1 encI none 0 []], rfl, (S.nil_ 3 1 encI none).wd.picks (by repeat (first | exact Picks.nil | (refine Picks.rest ?_; (repeat (first | exact List.Sublist.refl _ | refine List.Sublist.cons_cons _ ?_ | refine List.Sublist.cons _ ?_)); done) | refine Picks.take 0 rfl ?_ | refine Picks.take 1 rfl ?_ | refine Picks.take 2 rfl ?_ | refine Picks.take 3 rfl ?_ | refine Picks.take 4 rfl ?_ | refine Picks.take 5 rfl ?_ | refine Picks.take 6 rfl ?_ | refine Picks.take 7 rfl ?_ | refine Picks.take 8 rfl ?_ | refine Picks.take 9 rfl ?_ | refine Picks.take 10 rfl ?_ | refine Picks.take 11 rfl ?_)), by rw [e]; exact ⟨none, 0, rfl, rfl⟩⟩
  have rw_0 : (if shapeP p c s ∧ goodL l then (0 : Int) else 60) = 0 := if_pos hc
  have e : inR ⟨p, c, s, l⟩ = inL l := if_pos hc
  obtain ⟨A, cap, rfl, hl, hcap, hA⟩ := id h
  unfold Go.Fw.Rets
  refine enter1 Try.func45 rfl Try.ntmps45 rfl fun a S => ?_
  refine wp_seq_k fun _ hK1 => ?_
  refine wp_region_lit ?_
  (refine st_m (op_box S (Ev.t rfl) rfl ?_); clear S a; intro g1 a w S)
  (refine st_y S (Yr.ys (ys_assign Ev.c)) rfl ?_; clear S a w; intro a w S)
  refine st_nil ?_
  (refine (then_normal (hK1 _ _ ?_)); clear hK1)
  refine wp_seq_k fun _ hK1 => ?_
  refine wp_seq_k fun _ hK2 => ?_
  refine wp_region_lit ?_
  (refine st_y S (Yr.ys (ys_ldA ⟨Try.isAgg24, Try.sizeOf24⟩ (Ev.t rfl) (k := 0) rfl rfl)) rfl ?_; clear S a w; intro a w S)
  (refine st_y S (ys_call Try.call55 (EvL.cons (Ev.t rfl) EvL.nil) (fun hp w W => c55 _ _ _ _ _ _ (by exact .old W (by assumption)) (by assumption))) rfl ?_; clear S a w; intro a w S)
  rw [rw_0] at S
  (refine st_y S (Yr.ys (ys_F (by omega) (ys_neq (Ev.t rfl) Ev.c))) rfl ?_; clear S a w; intro a w S)
  refine st_nil ?_
  (refine (then_normal (hK2 _ _ ?_)); clear hK2)
  refine st_else S (Ev.t rfl) ?_
  refine wp_skip ?_
  (refine (then_normal (hK1 _ _ ?_)); clear hK1)
  refine wp_seq_k fun _ hK1 => ?_
  refine wp_region_lit ?_
  (refine st_y S (Yr.ys (ys_assign Ev.c)) rfl ?_; clear S a w; intro a w S)
  refine st_nil ?_
  (refine (then_normal (hK1 _ _ ?_)); clear hK1)
  refine wp_seq_k fun _ hK1 => ?_
  refine wp_seq_k fun _ hK2 => ?_
  refine wp_region_lit ?_
  (refine st_y S (Yr.ys (ys_fieldN (FieldT.mk Try.underlying24 rfl Try.sizeOf22 rfl) (Ev.t rfl) (i' := 3) rfl)) rfl ?_; clear S a w; intro a w S)
  (refine st_y S (Yr.ys (ys_ld ⟨Try.isAgg22, Try.sizeOf22⟩ (Ev.t rfl) (k := 0) rfl rfl)) rfl ?_; clear S a w; intro a w S)
  (refine st_y S (Yr.ys (ys_lenS Try.underlying22 (Ev.t rfl))) rfl ?_; clear S a w; intro a w S)
  (refine st_y S (Yr.ys (ys_move Ev.c)) rfl ?_; clear S a w; intro a w S)
  refine st_nil ?_
  (refine (then_normal (hK2 _ _ ?_)); clear hK2)
  refine wp_block ?_
  replace S := S.nil_ 3 1 encI none
  refine st_loopM S [3, 12] (X := Nat × Option Addr × Nat) (fun y => [(3, true, .slice y.2.1 (inL (l.take y.1)).length y.2.2), (12, true, .int .i64 (y.1 : Int))])
    (fun y => [rowOf 3 1 encI y.2.1 y.2.2 (inL (l.take y.1)), .blk g1 (.cells #[.int .i64 p, .int .i64 c, .int .i64 s, .slice A l.length cap] 24)])
    (fun y => y.1 ≤ l.length) (fun y => l.length - y.1) (0, none, 0) (Nat.zero_le _) (by repeat (first | exact Fits.nil | refine Fits.skip rfl ?_ | refine Fits.cons rfl ?_)) (by repeat (first | exact Picks.nil | (refine Picks.rest ?_; (repeat (first | exact List.Sublist.refl _ | refine List.Sublist.cons_cons _ ?_ | refine List.Sublist.cons _ ?_)); done) | refine Picks.take 0 rfl ?_ | refine Picks.take 1 rfl ?_ | refine Picks.take 2 rfl ?_ | refine Picks.take 3 rfl ?_ | refine Picks.take 4 rfl ?_ | refine Picks.take 5 rfl ?_ | refine Picks.take 6 rfl ?_ | refine Picks.take 7 rfl ?_ | refine Picks.take 8 rfl ?_ | refine Picks.take 9 rfl ?_ | refine Picks.take 10 rfl ?_ | refine Picks.take 11 rfl ?_)) ?_
  clear S
  rintro ⟨k, B, cb⟩ a w hk S
  dsimp only at hk S
  by_cases hlt : k < l.length
  · obtain ⟨gq, oq, x, rfl, hx, hdq, hcc⟩ := row_at hA hlt
    have hlen := inL_le (l.take k)
    rw [List.length_take] at hlen
    have ht : inL (l.take (k + 1)) = inL (l.take k) ++ if x.status = 1 then [x.node] else [] := by rw [List.take_add_one, hx, Option.toList_some, inL_snoc]
    refine wp_seq_k fun _ hK2 => ?_
    refine wp_region_lit ?_
    (refine st_y S (Yr.ys (ys_T (by omega) (ys_lss (Ev.t rfl) (Ev.t rfl)))) rfl ?_; clear S a w; intro a w S)
    refine st_nil ?_
    (refine (then_normal (hK2 _ _ ?_)); clear hK2)
    refine wp_seq_k fun _ hK2 => ?_
    refine st_then S (Ev.t rfl) ?_
    refine wp_skip ?_
    (refine (then_normal (hK2 _ _ ?_)); clear hK2)
    refine wp_seq_k fun _ hK2 => ?_
    refine wp_block ?_
    refine wp_seq_k fun _ hK3 => ?_
    refine wp_region_lit ?_
    (refine st_y S (Yr.ys (ys_ixS Try.underlying22 Try.sizeOf60 (Ev.t rfl) (Ev.t rfl) (fun _ => by omega))) rfl ?_; clear S a w; intro a w S)
    (refine st_y S (Yr.ys (ys_ldOA ⟨Try.isAgg60, Try.sizeOf60⟩ (Ev.t rfl) (vs := [_, _, _, _]) rfl (fun _ => hcc))) rfl ?_; clear S a w; intro a w S)
    (refine st_m (op_alloc S Try.zeroValue60 (cs := _) rfl rfl ?_); clear S a w; intro g2 a w S)
    (refine st_m (op_stW S Try.sizeOf60 (Ev.t rfl) (Ev.t rfl) (k := 0) rfl rfl rfl (by simp [Value.oneCell']) ?_); clear S a w; intro a w S)
    refine st_nil ?_
    (refine (then_normal (hK3 _ _ ?_)); clear hK3)
    refine wp_seq_k fun _ hK3 => ?_
    refine wp_region_lit ?_
    (refine st_y S (Yr.ys (ys_fieldN (FieldT.mk Try.underlying60 rfl Try.sizeOf3 rfl) (Ev.t rfl) (i' := 3) rfl)) rfl ?_; clear S a w; intro a w S)
    (refine st_y S (Yr.ys (ys_ld ⟨Try.isAgg3, Try.sizeOf3⟩ (Ev.t rfl) (k := 0) rfl rfl)) rfl ?_; clear S a w; intro a w S)
    (refine st_y S (Yr.ys (ys_eql (Ev.t rfl) Ev.c)) rfl ?_; clear S a w; intro a w S)
    refine st_nil ?_
    (refine (then_normal (hK3 _ _ ?_)); clear hK3)
    refine st_if S (Ev.t rfl) (fun h1 => ?_) (fun h1 => ?_)
    refine wp_region_lit ?_
    (refine st_y S (Yr.ys (ys_move (Ev.t rfl))) rfl ?_; clear S a w; intro a w S)
    (refine st_y S (Yr.ys (ys_fieldN (FieldT.mk Try.underlying60 rfl Try.sizeOf3 rfl) (Ev.t rfl) (i' := 0) rfl)) rfl ?_; clear S a w; intro a w S)
    (refine st_y S (Yr.ys (ys_ld ⟨Try.isAgg3, Try.sizeOf3⟩ (Ev.t rfl) (k := 0) rfl rfl)) rfl ?_; clear S a w; intro a w S)
    (refine st_m (op_bslice1 S Try.underlying40 inf3 rfl rfl rfl (Ev.t rfl) rfl rfl rfl ?_); clear S a w; intro g3 a w S)
    (refine st_m (op_push S Try.underlying40 inf3 rfl (k := 2) (j := 0) rfl (Ev.t rfl) (Ev.t rfl) rfl rfl rfl rfl (by first | omega | (simp only [List.length_append, List.length_cons, List.length_nil]; omega)) rfl rfl rfl ?_); clear S a w; intro A1 cap1 a w S)
    (refine st_y S (Yr.ys (ys_assign (Ev.t rfl))) rfl ?_; clear S a w; intro a w S)
    refine st_nil ?_
    (refine (in_normal (then_normal (hK2 _ _ ?_))); clear hK2)
    refine wp_region_lit ?_
    (refine st_y S (Yr.ys (ys_addI (Ev.t rfl) Ev.c (fun _ => by unfold I64; omega))) rfl ?_; clear S a w; intro a w S)
    (refine st_y S (Yr.ys (ys_move (Ev.t rfl))) rfl ?_; clear S a w; intro a w S)
    refine st_nil ?_
    refine (then_normal ?_)
    rotate_left
    refine wp_skip ?_
    (refine (in_normal (then_normal (hK2 _ _ ?_))); clear hK2)
    refine wp_region_lit ?_
    (refine st_y S (Yr.ys (ys_addI (Ev.t rfl) Ev.c (fun _ => by unfold I64; omega))) rfl ?_; clear S a w; intro a w S)
    (refine st_y S (Yr.ys (ys_move (Ev.t rfl))) rfl ?_; clear S a w; intro a w S)
    refine st_nil ?_
    refine (then_normal ?_)
    rotate_left
    · rw [if_pos h1] at ht
      exact ⟨(k + 1, A1, cap1), by dsimp only; omega, by dsimp only; omega, by dsimp only; rw [ht]; exact S.picks (by repeat (first | exact Fits.nil | refine Fits.skip rfl ?_ | refine Fits.cons rfl ?_)) (by repeat (first | exact Picks.nil | (refine Picks.rest ?_; (repeat (first | exact List.Sublist.refl _ | refine List.Sublist.cons_cons _ ?_ | refine List.Sublist.cons _ ?_)); done) | refine Picks.take 0 rfl ?_ | refine Picks.take 1 rfl ?_ | refine Picks.take 2 rfl ?_ | refine Picks.take 3 rfl ?_ | refine Picks.take 4 rfl ?_ | refine Picks.take 5 rfl ?_ | refine Picks.take 6 rfl ?_ | refine Picks.take 7 rfl ?_ | refine Picks.take 8 rfl ?_ | refine Picks.take 9 rfl ?_ | refine Picks.take 10 rfl ?_ | refine Picks.take 11 rfl ?_))⟩
    · rw [if_neg h1, List.append_nil] at ht
      exact ⟨(k + 1, B, cb), by dsimp only; omega, by dsimp only; omega, by dsimp only; rw [ht]; exact S.picks (by repeat (first | exact Fits.nil | refine Fits.skip rfl ?_ | refine Fits.cons rfl ?_)) (by repeat (first | exact Picks.nil | (refine Picks.rest ?_; (repeat (first | exact List.Sublist.refl _ | refine List.Sublist.cons_cons _ ?_ | refine List.Sublist.cons _ ?_)); done) | refine Picks.take 0 rfl ?_ | refine Picks.take 1 rfl ?_ | refine Picks.take 2 rfl ?_ | refine Picks.take 3 rfl ?_ | refine Picks.take 4 rfl ?_ | refine Picks.take 5 rfl ?_ | refine Picks.take 6 rfl ?_ | refine Picks.take 7 rfl ?_ | refine Picks.take 8 rfl ?_ | refine Picks.take 9 rfl ?_ | refine Picks.take 10 rfl ?_ | refine Picks.take 11 rfl ?_))⟩
  obtain rfl : k = l.length := by omega
  rw [List.take_length] at S
  refine wp_seq_k fun _ hK2 => ?_
  refine wp_region_lit ?_
  (refine st_y S (Yr.ys (ys_F (by omega) (ys_lss (Ev.t rfl) (Ev.t rfl)))) rfl ?_; clear S a w; intro a w S)
  refine st_nil ?_
  (refine (then_normal (hK2 _ _ ?_)); clear hK2)
  refine wp_seq_k fun _ hK2 => ?_
  refine st_else S (Ev.t rfl) ?_
  refine wp_exit ?_
  (refine (then_exit (then_exit (in_here (then_normal (hK1 _ _ ?_))))); clear hK1)
  refine wp_seq_k fun _ hK1 => ?_
  refine wp_region_lit ?_
  (refine st_y S (Yr.ys (ys_move (Ev.t rfl))) rfl ?_; clear S a w; intro a w S)
  (refine st_y S (Yr.ys (ys_assign (Ev.t rfl))) rfl ?_; clear S a w; intro a w S)
  refine st_nil ?_
  (refine (then_normal (hK1 _ _ ?_)); clear hK1)
  refine wp_ret ?_
  refine st_ret S (results1 S Try.results45 (Rv.tmp rfl)) ?_
  exact ⟨_, [rowOf 3 1 encI B cb (inL l)], rfl, S.wd.picks (by repeat (first | exact Picks.nil | (refine Picks.rest ?_; (repeat (first | exact List.Sublist.refl _ | refine List.Sublist.cons_cons _ ?_ | refine List.Sublist.cons _ ?_)); done) | refine Picks.take 0 rfl ?_ | refine Picks.take 1 rfl ?_ | refine Picks.take 2 rfl ?_ | refine Picks.take 3 rfl ?_ | refine Picks.take 4 rfl ?_ | refine Picks.take 5 rfl ?_ | refine Picks.take 6 rfl ?_ | refine Picks.take 7 rfl ?_ | refine Picks.take 8 rfl ?_ | refine Picks.take 9 rfl ?_ | refine Picks.take 10 rfl ?_ | refine Picks.take 11 rfl ?_)), by rw [e]; exact ⟨_, _, rfl, rfl⟩⟩
end Go.Proofs.Ytcglchdbddlnjaa
set_option linter.unusedVariables false
set_option linter.unusedSimpArgs false
set_option maxRecDepth 100000
set_option maxHeartbeats 4000000
namespace Go.Fw
def cmpI (x y : Int) : Int := if x < y then -1 else if y < x then 1 else 0
def orI (x y : Int) : Int := if x ≠ 0 then x else y
end Go.Fw
namespace Go.Proofs.Ytcglchdbddlnjaa
open Go.Fw Go.Proofs Go.RowKit
theorem c113 (w0 : World) (x : Int) : Calls Try.prog 113 #[.int .i64 x] w0 fun e w' => e = .returned (.bool false) ∧ Bel w0.heap.size w0 w' := by
  refine enter1 Try.func113 rfl Try.ntmps113 rfl fun a S => ?_
  refine wp_seq_k fun _ hK1 => ?_
  refine wp_region_lit ?_
  (refine st_y S (Yr.ys (ys_assign Ev.c)) rfl ?_; clear S a; intro a w S)
  refine st_nil ?_
  (refine (then_normal (hK1 _ _ ?_)); clear hK1)
  refine wp_seq_k fun _ hK1 => ?_
  refine wp_region_lit ?_
  (refine st_y S (Yr.ys (ys_move (Ev.t rfl))) rfl ?_; clear S a w; intro a w S)
  (refine st_y S (Yr.ys (ys_move (Ev.t rfl))) rfl ?_; clear S a w; intro a w S)
  (refine st_y S (Yr.ys (ys_F (by omega) (ys_neq (Ev.t rfl) (Ev.t rfl)))) rfl ?_; clear S a w; intro a w S)
  (refine st_y S (Yr.ys (ys_assign (Ev.t rfl))) rfl ?_; clear S a w; intro a w S)
  refine st_nil ?_
  (refine (then_normal (hK1 _ _ ?_)); clear hK1)
  refine wp_ret ?_
  refine st_ret S (results1 S Try.results113 (Rv.tmp rfl)) ?_
  exact ⟨by simp, S.wd.below⟩
theorem c112 (w0 : World) (x : Int) : Calls Try.prog 112 #[.int .u64 x] w0 fun e w' => e = .returned (.bool false) ∧ Bel w0.heap.size w0 w' := by
  refine enter1 Try.func112 rfl Try.ntmps112 rfl fun a S => ?_
  refine wp_seq_k fun _ hK1 => ?_
  refine wp_region_lit ?_
  (refine st_y S (Yr.ys (ys_assign Ev.c)) rfl ?_; clear S a; intro a w S)
  refine st_nil ?_
  (refine (then_normal (hK1 _ _ ?_)); clear hK1)
  refine wp_seq_k fun _ hK1 => ?_
  refine wp_region_lit ?_
  (refine st_y S (Yr.ys (ys_move (Ev.t rfl))) rfl ?_; clear S a w; intro a w S)
  (refine st_y S (Yr.ys (ys_move (Ev.t rfl))) rfl ?_; clear S a w; intro a w S)
  (refine st_y S (Yr.ys (ys_F (by omega) (ys_neq (Ev.t rfl) (Ev.t rfl)))) rfl ?_; clear S a w; intro a w S)
  (refine st_y S (Yr.ys (ys_assign (Ev.t rfl))) rfl ?_; clear S a w; intro a w S)
  refine st_nil ?_
  (refine (then_normal (hK1 _ _ ?_)); clear hK1)
  refine wp_ret ?_
  refine st_ret S (results1 S Try.results112 (Rv.tmp rfl)) ?_
  exact ⟨by simp, S.wd.below⟩
theorem c87 (w0 : World) (x y : Int) :
    Calls Try.prog 87 #[.int .i64 x, .int .i64 y] w0 fun e w' => e = .returned (.int .i64 (cmpI x y)) ∧ Bel w0.heap.size w0 w' := by
  refine enter2 Try.func87 rfl Try.ntmps87 rfl fun a S => ?_
  refine wp_seq_k fun _ hK1 => ?_
  refine wp_region_lit ?_
  (refine st_y S (Yr.ys (ys_assign Ev.c)) rfl ?_; clear S a; intro a w S)
  refine st_nil ?_
  (refine (then_normal (hK1 _ _ ?_)); clear hK1)
  refine wp_seq_k fun _ hK1 => ?_
  refine wp_region_lit ?_
  (refine st_y S (Yr.ys (ys_move (Ev.t rfl))) rfl ?_; clear S a w; intro a w S)
  (refine st_y S (ys_call Try.call113 (EvL.cons (Ev.t rfl) EvL.nil) (fun hp w W => c113 _ _)) rfl ?_; clear S a w; intro a w S)
  (refine st_y S (Yr.ys (ys_assign (Ev.t rfl))) rfl ?_; clear S a w; intro a w S)
  refine st_nil ?_
  (refine (then_normal (hK1 _ _ ?_)); clear hK1)
  refine wp_seq_k fun _ hK1 => ?_
  refine wp_region_lit ?_
  (refine st_y S (Yr.ys (ys_move (Ev.t rfl))) rfl ?_; clear S a w; intro a w S)
  (refine st_y S (ys_call Try.call113 (EvL.cons (Ev.t rfl) EvL.nil) (fun hp w W => c113 _ _)) rfl ?_; clear S a w; intro a w S)
  (refine st_y S (Yr.ys (ys_assign (Ev.t rfl))) rfl ?_; clear S a w; intro a w S)
  refine st_nil ?_
  (refine (then_normal (hK1 _ _ ?_)); clear hK1)
  refine wp_seq_k fun _ hK1 => ?_
  refine wp_seq_k fun _ hK2 => ?_
  refine wp_region_lit ?_
  (refine st_y S (Yr.ys (ys_move (Ev.t rfl))) rfl ?_; clear S a w; intro a w S)
  refine st_nil ?_
  (refine (then_normal (hK2 _ _ ?_)); clear hK2)
  refine st_else S (Ev.t rfl) ?_
  refine wp_skip ?_
  (refine (then_normal (hK1 _ _ ?_)); clear hK1)
  refine wp_seq_k fun _ hK1 => ?_
  refine wp_seq_k fun _ hK2 => ?_
  refine wp_region_lit ?_
  (refine st_y S (Yr.ys (ys_move (Ev.t rfl))) rfl ?_; clear S a w; intro a w S)
  refine st_nil ?_
  (refine (then_normal (hK2 _ _ ?_)); clear hK2)
  refine st_else S (Ev.t rfl) ?_
  refine wp_skip ?_
  (refine (then_normal (hK1 _ _ ?_)); clear hK1)
  refine wp_seq_k fun _ hK1 => ?_
  refine wp_seq_k fun _ hK2 => ?_
  refine wp_region_lit ?_
  (refine st_y S (Yr.ys (ys_move (Ev.t rfl))) rfl ?_; clear S a w; intro a w S)
  (refine st_y S (Yr.ys (ys_move (Ev.t rfl))) rfl ?_; clear S a w; intro a w S)
  (refine st_y S (Yr.ys (ys_lss (Ev.t rfl) (Ev.t rfl))) rfl ?_; clear S a w; intro a w S)
  refine st_nil ?_
  (refine (then_normal (hK2 _ _ ?_)); clear hK2)
  refine st_if S (Ev.t rfl) (fun h1 => ?_) (fun h1 => ?_)
  refine wp_seq_k fun _ hK2 => ?_
  refine wp_region_lit ?_
  (refine st_y S (Yr.ys (ys_assign Ev.c)) rfl ?_; clear S a w; intro a w S)
  refine st_nil ?_
  (refine (then_normal (hK2 _ _ ?_)); clear hK2)
  refine wp_ret ?_
  refine (then_ret ?_)
  refine st_ret S (results1 S Try.results87 (Rv.tmp rfl)) ?_
  rotate_left
  refine wp_skip ?_
  (refine (then_normal (hK1 _ _ ?_)); clear hK1)
  refine wp_seq_k fun _ hK1 => ?_
  refine wp_seq_k fun _ hK2 => ?_
  refine wp_region_lit ?_
  (refine st_y S (Yr.ys (ys_move (Ev.t rfl))) rfl ?_; clear S a w; intro a w S)
  (refine st_y S (Yr.ys (ys_move (Ev.t rfl))) rfl ?_; clear S a w; intro a w S)
  (refine st_y S (Yr.ys (ys_gtr (Ev.t rfl) (Ev.t rfl))) rfl ?_; clear S a w; intro a w S)
  refine st_nil ?_
  (refine (then_normal (hK2 _ _ ?_)); clear hK2)
  refine st_if S (Ev.t rfl) (fun h2 => ?_) (fun h2 => ?_)
  refine wp_seq_k fun _ hK2 => ?_
  refine wp_region_lit ?_
  (refine st_y S (Yr.ys (ys_assign Ev.c)) rfl ?_; clear S a w; intro a w S)
  refine st_nil ?_
  (refine (then_normal (hK2 _ _ ?_)); clear hK2)
  refine wp_ret ?_
  refine (then_ret ?_)
  refine st_ret S (results1 S Try.results87 (Rv.tmp rfl)) ?_
  rotate_left
  refine wp_skip ?_
  (refine (then_normal (hK1 _ _ ?_)); clear hK1)
  refine wp_seq_k fun _ hK1 => ?_
  refine wp_region_lit ?_
  (refine st_y S (Yr.ys (ys_assign Ev.c)) rfl ?_; clear S a w; intro a w S)
  refine st_nil ?_
  (refine (then_normal (hK1 _ _ ?_)); clear hK1)
  refine wp_ret ?_
  refine st_ret S (results1 S Try.results87 (Rv.tmp rfl)) ?_
  rotate_left
  · exact ⟨by rw [cmpI, if_pos h1], S.wd.below⟩
  · exact ⟨by rw [cmpI, if_neg h1, if_pos h2], S.wd.below⟩
  · exact ⟨by rw [cmpI, if_neg h1, if_neg h2], S.wd.below⟩
theorem c86 (w0 : World) (x y : Int) :
    Calls Try.prog 86 #[.int .u64 x, .int .u64 y] w0 fun e w' => e = .returned (.int .i64 (cmpI x y)) ∧ Bel w0.heap.size w0 w' := by
  refine enter2 Try.func86 rfl Try.ntmps86 rfl fun a S => ?_
  refine wp_seq_k fun _ hK1 => ?_
  refine wp_region_lit ?_
  (refine st_y S (Yr.ys (ys_assign Ev.c)) rfl ?_; clear S a; intro a w S)
  refine st_nil ?_
  (refine (then_normal (hK1 _ _ ?_)); clear hK1)
  refine wp_seq_k fun _ hK1 => ?_
  refine wp_region_lit ?_
  (refine st_y S (Yr.ys (ys_move (Ev.t rfl))) rfl ?_; clear S a w; intro a w S)
  (refine st_y S (ys_call Try.call112 (EvL.cons (Ev.t rfl) EvL.nil) (fun hp w W => c112 _ _)) rfl ?_; clear S a w; intro a w S)
  (refine st_y S (Yr.ys (ys_assign (Ev.t rfl))) rfl ?_; clear S a w; intro a w S)
  refine st_nil ?_
  (refine (then_normal (hK1 _ _ ?_)); clear hK1)
  refine wp_seq_k fun _ hK1 => ?_
  refine wp_region_lit ?_
  (refine st_y S (Yr.ys (ys_move (Ev.t rfl))) rfl ?_; clear S a w; intro a w S)
  (refine st_y S (ys_call Try.call112 (EvL.cons (Ev.t rfl) EvL.nil) (fun hp w W => c112 _ _)) rfl ?_; clear S a w; intro a w S)
  (refine st_y S (Yr.ys (ys_assign (Ev.t rfl))) rfl ?_; clear S a w; intro a w S)
  refine st_nil ?_
  (refine (then_normal (hK1 _ _ ?_)); clear hK1)
  refine wp_seq_k fun _ hK1 => ?_
  refine wp_seq_k fun _ hK2 => ?_
  refine wp_region_lit ?_
  (refine st_y S (Yr.ys (ys_move (Ev.t rfl))) rfl ?_; clear S a w; intro a w S)
  refine st_nil ?_
  (refine (then_normal (hK2 _ _ ?_)); clear hK2)
  refine st_else S (Ev.t rfl) ?_
  refine wp_skip ?_
  (refine (then_normal (hK1 _ _ ?_)); clear hK1)
  refine wp_seq_k fun _ hK1 => ?_
  refine wp_seq_k fun _ hK2 => ?_
  refine wp_region_lit ?_
  (refine st_y S (Yr.ys (ys_move (Ev.t rfl))) rfl ?_; clear S a w; intro a w S)
  refine st_nil ?_
  (refine (then_normal (hK2 _ _ ?_)); clear hK2)
  refine st_else S (Ev.t rfl) ?_
  refine wp_skip ?_
  (refine (then_normal (hK1 _ _ ?_)); clear hK1)
  refine wp_seq_k fun _ hK1 => ?_
  refine wp_seq_k fun _ hK2 => ?_
  refine wp_region_lit ?_
  (refine st_y S (Yr.ys (ys_move (Ev.t rfl))) rfl ?_; clear S a w; intro a w S)
  (refine st_y S (Yr.ys (ys_move (Ev.t rfl))) rfl ?_; clear S a w; intro a w S)
  (refine st_y S (Yr.ys (ys_lss (Ev.t rfl) (Ev.t rfl))) rfl ?_; clear S a w; intro a w S)
  refine st_nil ?_
  (refine (then_normal (hK2 _ _ ?_)); clear hK2)
  refine st_if S (Ev.t rfl) (fun h1 => ?_) (fun h1 => ?_)
  refine wp_seq_k fun _ hK2 => ?_
  refine wp_region_lit ?_
  (refine st_y S (Yr.ys (ys_assign Ev.c)) rfl ?_; clear S a w; intro a w S)
  refine st_nil ?_
  (refine (then_normal (hK2 _ _ ?_)); clear hK2)
  refine wp_ret ?_
  refine (then_ret ?_)
  refine st_ret S (results1 S Try.results86 (Rv.tmp rfl)) ?_
  rotate_left
  refine wp_skip ?_
  (refine (then_normal (hK1 _ _ ?_)); clear hK1)
  refine wp_seq_k fun _ hK1 => ?_
  refine wp_seq_k fun _ hK2 => ?_
  refine wp_region_lit ?_
  (refine st_y S (Yr.ys (ys_move (Ev.t rfl))) rfl ?_; clear S a w; intro a w S)
  (refine st_y S (Yr.ys (ys_move (Ev.t rfl))) rfl ?_; clear S a w; intro a w S)
  (refine st_y S (Yr.ys (ys_gtr (Ev.t rfl) (Ev.t rfl))) rfl ?_; clear S a w; intro a w S)
  refine st_nil ?_
  (refine (then_normal (hK2 _ _ ?_)); clear hK2)
  refine st_if S (Ev.t rfl) (fun h2 => ?_) (fun h2 => ?_)
  refine wp_seq_k fun _ hK2 => ?_
  refine wp_region_lit ?_
  (refine st_y S (Yr.ys (ys_assign Ev.c)) rfl ?_; clear S a w; intro a w S)
  refine st_nil ?_
  (refine (then_normal (hK2 _ _ ?_)); clear hK2)
  refine wp_ret ?_
  refine (then_ret ?_)
  refine st_ret S (results1 S Try.results86 (Rv.tmp rfl)) ?_
  rotate_left
  refine wp_skip ?_
  (refine (then_normal (hK1 _ _ ?_)); clear hK1)
  refine wp_seq_k fun _ hK1 => ?_
  refine wp_region_lit ?_
  (refine st_y S (Yr.ys (ys_assign Ev.c)) rfl ?_; clear S a w; intro a w S)
  refine st_nil ?_
  (refine (then_normal (hK1 _ _ ?_)); clear hK1)
  refine wp_ret ?_
  refine st_ret S (results1 S Try.results86 (Rv.tmp rfl)) ?_
  rotate_left
  · exact ⟨by rw [cmpI, if_pos h1], S.wd.below⟩
  · exact ⟨by rw [cmpI, if_neg h1, if_pos h2], S.wd.below⟩
  · exact ⟨by rw [cmpI, if_neg h1, if_neg h2], S.wd.below⟩
theorem c85 (w0 : World) (g : Nat) (x y : Int) (h0 : w0.cell? ⟨g, 0, none⟩ = some (.int .i64 x)) (h1 : w0.cell? ⟨g, 1, none⟩ = some (.int .i64 y)) :
    Calls Try.prog 85 #[.slice (some ⟨g, 0, none⟩) 2 2] w0 fun e w' => e = .returned (.int .i64 (orI x y)) ∧ Bel w0.heap.size w0 w' := by
  have rw_1 : (0 : Int) + 1 = ((1 : Nat) : Int) := rfl
  have rw_2 : ((1 : Nat) : Int) + 1 = ((2 : Nat) : Int) := rfl
  refine enter1 Try.func85 rfl Try.ntmps85 rfl fun a S => ?_
  refine wp_seq_k fun _ hK1 => ?_
  refine wp_region_lit ?_
  (refine st_y S (Yr.ys (ys_assign Ev.c)) rfl ?_; clear S a; intro a w S)
  refine st_nil ?_
  (refine (then_normal (hK1 _ _ ?_)); clear hK1)
  refine wp_seq_k fun _ hK1 => ?_
  refine wp_region_lit ?_
  (refine st_y S (Yr.ys (ys_assign Ev.c)) rfl ?_; clear S a w; intro a w S)
  refine st_nil ?_
  (refine (then_normal (hK1 _ _ ?_)); clear hK1)
  refine wp_seq_k fun _ hK1 => ?_
  refine wp_seq_k fun _ hK2 => ?_
  refine wp_region_lit ?_
  (refine st_y S (Yr.ys (ys_move (Ev.t rfl))) rfl ?_; clear S a w; intro a w S)
  (refine st_y S (Yr.ys (ys_lenS Try.underlying40 (Ev.t rfl))) rfl ?_; clear S a w; intro a w S)
  (refine st_y S (Yr.ys (ys_move Ev.c)) rfl ?_; clear S a w; intro a w S)
  refine st_nil ?_
  (refine (then_normal (hK2 _ _ ?_)); clear hK2)
  refine wp_block ?_
  refine st_rounds 3 (st_round ?_)
  refine wp_seq_k fun _ hK2 => ?_
  refine wp_region_lit ?_
  (refine st_y S (Yr.ys (ys_T (by omega) (ys_lss (Ev.t rfl) (Ev.t rfl)))) rfl ?_; clear S a w; intro a w S)
  refine st_nil ?_
  (refine (then_normal (hK2 _ _ ?_)); clear hK2)
  refine wp_seq_k fun _ hK2 => ?_
  refine st_then S (Ev.t rfl) ?_
  refine wp_skip ?_
  (refine (then_normal (hK2 _ _ ?_)); clear hK2)
  refine wp_seq_k fun _ hK2 => ?_
  refine wp_block ?_
  refine wp_seq_k fun _ hK3 => ?_
  refine wp_region_lit ?_
  (refine st_y S (Yr.ys (ys_ixS (j := 0) Try.underlying40 Try.sizeOf3 (Ev.t rfl) (Ev.t rfl) (fun _ => by omega))) rfl ?_; clear S a w; intro a w S)
  (refine st_y S (Yr.ys (ys_ldO ⟨Try.isAgg3, Try.sizeOf3⟩ (Ev.t rfl) (fun _ => h0))) rfl ?_; clear S a w; intro a w S)
  (refine st_y S (Yr.ys (ys_assign (Ev.t rfl))) rfl ?_; clear S a w; intro a w S)
  refine st_nil ?_
  (refine (then_normal (hK3 _ _ ?_)); clear hK3)
  refine wp_seq_k fun _ hK3 => ?_
  refine wp_region_lit ?_
  (refine st_y S (Yr.ys (ys_move (Ev.t rfl))) rfl ?_; clear S a w; intro a w S)
  (refine st_y S (Yr.ys (ys_move (Ev.t rfl))) rfl ?_; clear S a w; intro a w S)
  (refine st_y S (Yr.ys (ys_neq (Ev.t rfl) (Ev.t rfl))) rfl ?_; clear S a w; intro a w S)
  refine st_nil ?_
  (refine (then_normal (hK3 _ _ ?_)); clear hK3)
  refine st_if S (Ev.t rfl) (fun h2 => ?_) (fun h2 => ?_)
  refine wp_seq_k fun _ hK3 => ?_
  refine wp_region_lit ?_
  (refine st_y S (Yr.ys (ys_move (Ev.t rfl))) rfl ?_; clear S a w; intro a w S)
  (refine st_y S (Yr.ys (ys_assign (Ev.t rfl))) rfl ?_; clear S a w; intro a w S)
  refine st_nil ?_
  (refine (then_normal (hK3 _ _ ?_)); clear hK3)
  refine wp_ret ?_
  refine (in_ret (then_ret (then_ret (in_ret (then_ret ?_)))))
  refine st_ret S (results1 S Try.results85 (Rv.tmp rfl)) ?_
  rotate_left
  refine wp_skip ?_
  (refine (in_normal (then_normal (hK2 _ _ ?_))); clear hK2)
  refine wp_region_lit ?_
  (refine st_y S (Yr.ys (ys_addI (Ev.t rfl) Ev.c (fun _ => by unfold I64; omega))) rfl ?_; clear S a w; intro a w S)
  rw [rw_1] at S
  (refine st_y S (Yr.ys (ys_move (Ev.t rfl))) rfl ?_; clear S a w; intro a w S)
  refine st_nil ?_
  refine (then_normal ?_)
  rotate_left
  · exact ⟨by rw [orI, if_pos h2], S.wd.below⟩
  refine st_round ?_
  refine wp_seq_k fun _ hK2 => ?_
  refine wp_region_lit ?_
  (refine st_y S (Yr.ys (ys_T (by omega) (ys_lss (Ev.t rfl) (Ev.t rfl)))) rfl ?_; clear S a w; intro a w S)
  refine st_nil ?_
  (refine (then_normal (hK2 _ _ ?_)); clear hK2)
  refine wp_seq_k fun _ hK2 => ?_
  refine st_then S (Ev.t rfl) ?_
  refine wp_skip ?_
  (refine (then_normal (hK2 _ _ ?_)); clear hK2)
  refine wp_seq_k fun _ hK2 => ?_
  refine wp_block ?_
  refine wp_seq_k fun _ hK3 => ?_
  refine wp_region_lit ?_
  (refine st_y S (Yr.ys (ys_ixS (j := 1) Try.underlying40 Try.sizeOf3 (Ev.t rfl) (Ev.t rfl) (fun _ => by omega))) rfl ?_; clear S a w; intro a w S)
  (refine st_y S (Yr.ys (ys_ldO ⟨Try.isAgg3, Try.sizeOf3⟩ (Ev.t rfl) (fun _ => h1))) rfl ?_; clear S a w; intro a w S)
  (refine st_y S (Yr.ys (ys_assign (Ev.t rfl))) rfl ?_; clear S a w; intro a w S)
  refine st_nil ?_
  (refine (then_normal (hK3 _ _ ?_)); clear hK3)
  refine wp_seq_k fun _ hK3 => ?_
  refine wp_region_lit ?_
  (refine st_y S (Yr.ys (ys_move (Ev.t rfl))) rfl ?_; clear S a w; intro a w S)
  (refine st_y S (Yr.ys (ys_move (Ev.t rfl))) rfl ?_; clear S a w; intro a w S)
  (refine st_y S (Yr.ys (ys_neq (Ev.t rfl) (Ev.t rfl))) rfl ?_; clear S a w; intro a w S)
  refine st_nil ?_
  (refine (then_normal (hK3 _ _ ?_)); clear hK3)
  refine st_if S (Ev.t rfl) (fun h3 => ?_) (fun h3 => ?_)
  refine wp_seq_k fun _ hK3 => ?_
  refine wp_region_lit ?_
  (refine st_y S (Yr.ys (ys_move (Ev.t rfl))) rfl ?_; clear S a w; intro a w S)
  (refine st_y S (Yr.ys (ys_assign (Ev.t rfl))) rfl ?_; clear S a w; intro a w S)
  refine st_nil ?_
  (refine (then_normal (hK3 _ _ ?_)); clear hK3)
  refine wp_ret ?_
  refine (in_ret (then_ret (then_ret (in_ret (then_ret ?_)))))
  refine st_ret S (results1 S Try.results85 (Rv.tmp rfl)) ?_
  rotate_left
  refine wp_skip ?_
  (refine (in_normal (then_normal (hK2 _ _ ?_))); clear hK2)
  refine wp_region_lit ?_
  (refine st_y S (Yr.ys (ys_addI (Ev.t rfl) Ev.c (fun _ => by unfold I64; omega))) rfl ?_; clear S a w; intro a w S)
  rw [rw_2] at S
  (refine st_y S (Yr.ys (ys_move (Ev.t rfl))) rfl ?_; clear S a w; intro a w S)
  refine st_nil ?_
  refine (then_normal ?_)
  rotate_left
  · exact ⟨by rw [orI, if_neg h2], S.wd.below⟩
  refine st_round ?_
  refine wp_seq_k fun _ hK2 => ?_
  refine wp_region_lit ?_
  (refine st_y S (Yr.ys (ys_F (by omega) (ys_lss (Ev.t rfl) (Ev.t rfl)))) rfl ?_; clear S a w; intro a w S)
  refine st_nil ?_
  (refine (then_normal (hK2 _ _ ?_)); clear hK2)
  refine wp_seq_k fun _ hK2 => ?_
  refine st_else S (Ev.t rfl) ?_
  refine wp_exit ?_
  (refine (then_exit (then_exit (in_here (then_normal (hK1 _ _ ?_))))); clear hK1)
  refine wp_seq_k fun _ hK1 => ?_
  refine wp_region_lit ?_
  (refine st_y S (Yr.ys (ys_move (Ev.t rfl))) rfl ?_; clear S a w; intro a w S)
  (refine st_y S (Yr.ys (ys_assign (Ev.t rfl))) rfl ?_; clear S a w; intro a w S)
  refine st_nil ?_
  (refine (then_normal (hK1 _ _ ?_)); clear hK1)
  refine wp_ret ?_
  refine st_ret S (results1 S Try.results85 (Rv.tmp rfl)) ?_
  exact ⟨by rw [orI, if_neg h2, Decidable.not_not.1 h3], S.wd.below⟩
theorem c84 (w0 : World) (x0 x1 y0 y1 : Int) :
    Calls Try.prog 84 #[.agg #[.int .u64 x0, .int .i64 x1], .agg #[.int .u64 y0, .int .i64 y1]] w0 fun e w' => e = .returned (.int .i64 (orI (cmpI x0 y0) (cmpI x1 y1))) ∧ Bel w0.heap.size w0 w' := by
  refine enter2 Try.func84 rfl Try.ntmps84 rfl fun a S => ?_
  refine wp_seq_k fun _ hK1 => ?_
  refine wp_region_lit ?_
  (refine st_m (op_box S (Ev.t rfl) rfl ?_); clear S a; intro g1 a w S)
  (refine st_m (op_box S (Ev.t rfl) rfl ?_); clear S a w; intro g2 a w S)
  (refine st_y S (Yr.ys (ys_assign Ev.c)) rfl ?_; clear S a w; intro a w S)
  refine st_nil ?_
  (refine (then_normal (hK1 _ _ ?_)); clear hK1)
  refine wp_seq_k fun _ hK1 => ?_
  (refine h_begin0 S (by kernel_rfl) ?_; clear S a w; intro a w S)
  (refine h_y (i := 0) S (by repeat (first | exact List.Sublist.refl _ | exact List.nil_sublist _ | refine .cons_cons _ ?_ | refine .cons _ ?_)) rfl (by kernel_rfl) (by kernel_rfl) (by kernel_rfl) (fun _ _ _ _ h => h) (ys_fieldN (FieldT.mk Try.underlying82 rfl Try.sizeOf53 rfl) (Ev.t rfl) (i' := 0) rfl) rfl ?_; clear S a w; intro a w S)
  (refine h_y (i := 1) S (by repeat (first | exact List.Sublist.refl _ | exact List.nil_sublist _ | refine .cons_cons _ ?_ | refine .cons _ ?_)) rfl (by kernel_rfl) (by kernel_rfl) (by kernel_rfl) (fun _ _ _ _ h => h) (ys_ld ⟨Try.isAgg53, Try.sizeOf53⟩ (Ev.t rfl) (k := 1) rfl rfl) rfl ?_; clear S a w; intro a w S)
  (refine h_y (i := 2) S (by repeat (first | exact List.Sublist.refl _ | exact List.nil_sublist _ | refine .cons_cons _ ?_ | refine .cons _ ?_)) rfl (by kernel_rfl) (by kernel_rfl) (by kernel_rfl) (fun _ _ _ _ h => h) (ys_fieldN (FieldT.mk Try.underlying82 rfl Try.sizeOf53 rfl) (Ev.t rfl) (i' := 0) rfl) rfl ?_; clear S a w; intro a w S)
  (refine h_y (i := 3) S (by repeat (first | exact List.Sublist.refl _ | exact List.nil_sublist _ | refine .cons_cons _ ?_ | refine .cons _ ?_)) rfl (by kernel_rfl) (by kernel_rfl) (by kernel_rfl) (fun _ _ _ _ h => h) (ys_ld ⟨Try.isAgg53, Try.sizeOf53⟩ (Ev.t rfl) (k := 0) rfl rfl) rfl ?_; clear S a w; intro a w S)
  (refine h_y (i := 5) S (by repeat (first | exact List.Sublist.refl _ | exact List.nil_sublist _ | refine .cons_cons _ ?_ | refine .cons _ ?_)) rfl (by kernel_rfl) (by kernel_rfl) (by kernel_rfl) (fun _ _ _ _ h => h) (ys_fieldN (FieldT.mk Try.underlying82 rfl Try.sizeOf3 rfl) (Ev.t rfl) (i' := 1) rfl) rfl ?_; clear S a w; intro a w S)
  (refine h_y (i := 6) S (by repeat (first | exact List.Sublist.refl _ | exact List.nil_sublist _ | refine .cons_cons _ ?_ | refine .cons _ ?_)) rfl (by kernel_rfl) (by kernel_rfl) (by kernel_rfl) (fun _ _ _ _ h => h) (ys_ld ⟨Try.isAgg3, Try.sizeOf3⟩ (Ev.t rfl) (k := 1) rfl rfl) rfl ?_; clear S a w; intro a w S)
  (refine h_y (i := 7) S (by repeat (first | exact List.Sublist.refl _ | exact List.nil_sublist _ | refine .cons_cons _ ?_ | refine .cons _ ?_)) rfl (by kernel_rfl) (by kernel_rfl) (by kernel_rfl) (fun _ _ _ _ h => h) (ys_fieldN (FieldT.mk Try.underlying82 rfl Try.sizeOf3 rfl) (Ev.t rfl) (i' := 1) rfl) rfl ?_; clear S a w; intro a w S)
  (refine h_y (i := 8) S (by repeat (first | exact List.Sublist.refl _ | exact List.nil_sublist _ | refine .cons_cons _ ?_ | refine .cons _ ?_)) rfl (by kernel_rfl) (by kernel_rfl) (by kernel_rfl) (fun _ _ _ _ h => h) (ys_ld ⟨Try.isAgg3, Try.sizeOf3⟩ (Ev.t rfl) (k := 0) rfl rfl) rfl ?_; clear S a w; intro a w S)
  (refine h_q (i := 4) S (by repeat (first | exact List.Sublist.refl _ | exact List.nil_sublist _ | refine .cons_cons _ ?_ | refine .cons _ ?_)) rfl (by kernel_rfl) (ys_call Try.call86 (EvL.cons (Ev.t rfl) (EvL.cons (Ev.t rfl) EvL.nil)) (fun hp w W => c86 _ _ _)) rfl ?_; clear S a w; intro a w S)
  (refine h_q (i := 9) S (by repeat (first | exact List.Sublist.refl _ | exact List.nil_sublist _ | refine .cons_cons _ ?_ | refine .cons _ ?_)) rfl (by kernel_rfl) (ys_call Try.call87 (EvL.cons (Ev.t rfl) (EvL.cons (Ev.t rfl) EvL.nil)) (fun hp w W => c87 _ _ _)) rfl ?_; clear S a w; intro a w S)
  (refine h_m (i := 10) rfl (by kernel_rfl) (op_bsliceZ (ps := [(0, Go.Operand.tmp 9), (1, Go.Operand.tmp 14)]) (us := [_, _]) S Try.underlying40 Try.sizeOf3 Try.zeroValue3 rfl rfl (EvL.cons (Ev.t rfl) (EvL.cons (Ev.t rfl) EvL.nil)) rfl rfl ?_); clear S a w; intro g3 a w S; refine h_on S _ (by repeat (first | exact List.Sublist.refl _ | exact List.nil_sublist _ | refine .cons_cons _ ?_ | refine .cons _ ?_)) (List.Sublist.refl _) ?_)
  (refine h_q (i := 11) S (by repeat (first | exact List.Sublist.refl _ | exact List.nil_sublist _ | refine .cons_cons _ ?_ | refine .cons _ ?_)) rfl (by kernel_rfl) (ys_call Try.call85 (EvL.cons (Ev.t rfl) EvL.nil) (fun hp w W => c85 _ _ _ _ (by exact Wd.cell W (k := 0) rfl rfl) (by exact Wd.cell W (k := 0) rfl rfl))) rfl ?_; clear S a w; intro a w S)
  (refine h_y (i := 12) S (by repeat (first | exact List.Sublist.refl _ | exact List.nil_sublist _ | refine .cons_cons _ ?_ | refine .cons _ ?_)) rfl (by kernel_rfl) (by kernel_rfl) (by kernel_rfl) (fun _ _ _ _ h => h) (ys_assign (Ev.t rfl)) rfl ?_; clear S a w; intro a w S)
  refine h_done (by kernel_rfl) ?_
  (refine (then_normal (hK1 _ _ ?_)); clear hK1)
  refine wp_ret ?_
  refine st_ret S (results1 S Try.results84 (Rv.tmp rfl)) ?_
  exact ⟨rfl, S.wd.below⟩
end Go.Proofs.Ytcglchdbddlnjaa
namespace Go.Proofs
open Go.Shelf
def Try.sortSpots_ren : Go.Shelf.Ren := ⟨fun | 6 => 83 | 15 => 89 | 14 => 111 | 28 => 123 | 29 => 124 | 20 => 132 | 21 => 133 | 22 => 134 | 23 => 135 | 24 => 136 | 25 => 137 | 26 => 138 | 27 => 139 | 46 => 148 | 47 => 141 | 48 => 142 | 49 => 149 | 50 => 150 | 57 => 153 | n => n, fun | 22 => 79 | 24 => 82 | 25 => 87 | 3 => 3 | 39 => 90 | 0 => 0 | 53 => 116 | 55 => 53 | 4 => 4 | 46 => 109 | 45 => 108 | 50 => 96 | 5 => 5 | 9 => 9 | 66 => 132 | 70 => 136 | 76 => 142 | 77 => 143 | n => n, fun | n => n⟩
theorem Try.sortSpots : Go.Proofs.SlLaysF0.n6 Try.prog Try.sortSpots_ren := {
  mixed := by kernel_rfl
  f6 := ⟨Try.f83.name, by decide, Try.func83.trans (congrArg some (by kernel_rfl))⟩
  f14 := ⟨Try.f111.name, by decide, Try.func111.trans (congrArg some (by kernel_rfl))⟩
  f15 := Try.func89.trans (congrArg some (by kernel_rfl))
  f20 := ⟨Try.f132.name, by decide, Try.func132.trans (congrArg some (by kernel_rfl))⟩
  f21 := ⟨Try.f133.name, by decide, Try.func133.trans (congrArg some (by kernel_rfl))⟩
  f22 := ⟨Try.f134.name, by decide, Try.func134.trans (congrArg some (by kernel_rfl))⟩
  f23 := ⟨Try.f135.name, by decide, Try.func135.trans (congrArg some (by kernel_rfl))⟩
  f24 := ⟨Try.f136.name, by decide, Try.func136.trans (congrArg some (by kernel_rfl))⟩
  f25 := ⟨Try.f137.name, by decide, Try.func137.trans (congrArg some (by kernel_rfl))⟩
  f26 := ⟨Try.f138.name, by decide, Try.func138.trans (congrArg some (by kernel_rfl))⟩
  f27 := ⟨Try.f139.name, by decide, Try.func139.trans (congrArg some (by kernel_rfl))⟩
  f28 := Try.func123.trans (congrArg some (by kernel_rfl))
  f29 := Try.func124.trans (congrArg some (by kernel_rfl))
  f46 := ⟨Try.f148.name, by decide, Try.func148.trans (congrArg some (by kernel_rfl))⟩
  f47 := Try.func141.trans (congrArg some (by kernel_rfl))
  f48 := Try.func142.trans (congrArg some (by kernel_rfl))
  f49 := ⟨Try.f149.name, by decide, Try.func149.trans (congrArg some (by kernel_rfl))⟩
  f50 := ⟨Try.f150.name, by decide, Try.func150.trans (congrArg some (by kernel_rfl))⟩
  f57 := ⟨Try.f153.name, by decide, Try.func153.trans (congrArg some (by kernel_rfl))⟩
  t0 := Try.underlying0
  a0 := Try.isAgg0
  z0 := Try.sizeOf0
  v0 := Try.zeroValue0
  t3 := Try.underlying3
  a3 := Try.isAgg3
  z3 := Try.sizeOf3
  v3 := Try.zeroValue3
  t4 := Try.underlying4
  a4 := Try.isAgg4
  z4 := Try.sizeOf4
  v4 := Try.zeroValue4
  t5 := Try.underlying5
  a5 := Try.isAgg5
  z5 := Try.sizeOf5
  v5 := Try.zeroValue5
  t9 := Try.underlying9
  a9 := Try.isAgg9
  z9 := Try.sizeOf9
  v9 := Try.zeroValue9
  t22 := Try.underlying79
  a22 := Try.isAgg79
  z22 := Try.sizeOf79
  v22 := Try.zeroValue79
  t25 := Try.underlying87
  a25 := Try.isAgg87
  z25 := Try.sizeOf87
  v25 := Try.zeroValue87
  t39 := Try.underlying90
  a39 := Try.isAgg90
  z39 := Try.sizeOf90
  v39 := Try.zeroValue90
  t45 := Try.underlying108
  a45 := Try.isAgg108
  z45 := Try.sizeOf108
  v45 := Try.zeroValue108
  t46 := Try.underlying109
  a46 := Try.isAgg109
  z46 := Try.sizeOf109
  v46 := Try.zeroValue109
  t50 := Try.underlying96
  a50 := Try.isAgg96
  z50 := Try.sizeOf96
  v50 := Try.zeroValue96
  t53 := Try.underlying116
  a53 := Try.isAgg116
  z53 := Try.sizeOf116
  v53 := Try.zeroValue116
  t55 := Try.underlying53
  a55 := Try.isAgg53
  z55 := Try.sizeOf53
  v55 := Try.zeroValue53
  t66 := Try.underlying132
  a66 := Try.isAgg132
  z66 := Try.sizeOf132
  v66 := Try.zeroValue132
  t70 := Try.underlying136
  a70 := Try.isAgg136
  z70 := Try.sizeOf136
  v70 := Try.zeroValue136
  t76 := Try.underlying142
  a76 := Try.isAgg142
  z76 := Try.sizeOf142
  v76 := Try.zeroValue142
  t77 := Try.underlying143
  a77 := Try.isAgg143
  z77 := Try.sizeOf143
  v77 := Try.zeroValue143 }
end Go.Proofs
set_option linter.unusedVariables false
set_option linter.unusedSimpArgs false
set_option maxRecDepth 100000
set_option maxHeartbeats 4000000
namespace Go.Fw
def mapL (l : List Mbr) : List (Int × Mbr) := l.foldl (fun m x => aput m x.node x) []
theorem mapL_snoc (l : List Mbr) (x : Mbr) : mapL (l ++ [x]) = aput (mapL l) x.node x := by unfold mapL; rw [List.foldl_append]; rfl
theorem mapL_good : ∀ {l : List Mbr}, goodL l → mapL l = l.map fun x => (x.node, x) := by
  intro l
  induction l using snocInd with
  | h0 => intro _; rfl
  | h1 l x ih =>
    intro h
    have h1 := (good_snoc.1 h).1
    rw [mapL_snoc, ih h1, List.map_append]
    have hn : afind x.node 0 (l.map fun x => (x.node, x)) = none := by
      have : aget (l.map fun x => (x.node, x)) x.node = none := by
        rw [aget_none]
        intro hm
        simp only [List.map_map, List.mem_map, Function.comp] at hm
        obtain ⟨y, hy, e⟩ := hm
        have := (List.pairwise_append.1 h.2).2.2 y hy x (by simp)
        omega
      have h2 := afind_get (l.map fun x => (x.node, x)) x.node 0
      rw [this] at h2
      simpa using h2
    rw [aput_none hn]; rfl
theorem mapL_keys {l : List Mbr} (h : goodL l) : (mapL l).map (·.1) = l.map (·.node) := by rw [mapL_good h, List.map_map]; rfl
theorem mapL_nodup {l : List Mbr} (h : goodL l) : ((mapL l).map (·.1)).Nodup := by
  rw [mapL_keys h]
  exact List.pairwise_map.2 (h.2.imp fun h e => by omega)
end Go.Fw
namespace Go.Proofs.Ytcglchdbddlnjaa
open Go.Fw Go.Proofs Go.RowKit Go.Shelf Go.Sort
end Go.Proofs.Ytcglchdbddlnjaa
set_option linter.unusedVariables false
set_option linter.unusedSimpArgs false
set_option maxRecDepth 100000
set_option maxHeartbeats 4000000
namespace Go.Fw
theorem mem_aput {α β : Type} [DecidableEq α] {l : List (α × β)} {k : α} {v : β} {q : α × β} (h : q ∈ aput l k v) : q = (k, v) ∨ q ∈ l := by
  induction l with
  | nil => simpa [aput] using h
  | cons p r ih =>
    obtain ⟨x, u⟩ := p
    unfold aput at h
    split at h
    · rcases List.mem_cons.1 h with h | h
      · exact .inl h
      · exact .inr (by simp [h])
    · rcases List.mem_cons.1 h with h | h
      · exact .inr (by simp [h])
      · rcases ih h with h | h
        · exact .inl h
        · exact .inr (by simp [h])
def MapOk (m : List (Int × Mbr)) : Prop := (m.map (·.1)).Nodup ∧ ∀ q ∈ m, (0 ≤ q.1 ∧ q.1 < 8) ∧ q.2.node = q.1 ∧ 0 < q.2.epoch
theorem MapOk.len {m : List (Int × Mbr)} (h : MapOk m) : m.length ≤ 8 := by
  have h2 := List.Nodup.length_le_of_subset (l₂ := (List.range 8).map fun n : Nat => (n : Int)) h.1 (by
    intro x hx
    obtain ⟨q, hq, rfl⟩ := List.mem_map.1 hx
    have := (h.2 q hq).1
    exact List.mem_map.2 ⟨q.1.toNat, List.mem_range.2 (by omega), by omega⟩)
  simpa using h2
theorem MapOk.put {m : List (Int × Mbr)} (h : MapOk m) {n e s t : Int} (hn : 0 ≤ n ∧ n < 8) (he : 0 < e) : MapOk (aput m n ⟨n, e, s, t⟩) := by
  refine ⟨?_, fun q hq => ?_⟩
  · rw [aput_keys]
    split
    · exact h.1
    · rename_i hk
      exact List.nodup_append.2 ⟨h.1, by simp, fun a ha b hb => by simp at hb; subst hb; exact fun e => hk (e ▸ ha)⟩
  · rcases mem_aput hq with rfl | hq
    · exact ⟨hn, rfl, he⟩
    · exact h.2 q hq
def MergeAt (la lb : List Mbr) (seen : Array Nat) (m : List (Int × Mbr)) : Prop :=
  ∀ n : Int, 0 ≤ n → n < 8 → ((∃ j ∈ seen, ∃ x, (mapL lb)[j]? = some (n, x)) → (aget m n).getD Mbr.zero = mxM (getM la n) (getM lb n)) ∧ (¬ (∃ j ∈ seen, ∃ x, (mapL lb)[j]? = some (n, x)) → (aget m n).getD Mbr.zero = getM la n)
theorem mapL_at {l : List Mbr} (h : goodL l) {j : Nat} {n : Int} {x : Mbr} (hj : (mapL l)[j]? = some (n, x)) : x = getM l n ∧ x.ok ∧ x.node = n := by
  rw [mapL_good h] at hj
  rw [List.getElem?_map] at hj
  obtain ⟨y, hy, e⟩ := Option.map_eq_some_iff.1 hj
  cases e
  have hm := List.mem_of_getElem? hy
  exact ⟨(getM_mem h.2 hm).symm, h.1 _ hm, rfl⟩
theorem mapL_once {l : List Mbr} (h : goodL l) {i j : Nat} {n : Int} {x y : Mbr} (hi : (mapL l)[i]? = some (n, x)) (hj : (mapL l)[j]? = some (n, y)) : i = j := by
  have hn := mapL_nodup h
  have h1 : ((mapL l).map (·.1))[i]? = some n := by rw [List.getElem?_map, hi]; rfl
  have h2 : ((mapL l).map (·.1))[j]? = some n := by rw [List.getElem?_map, hj]; rfl
  exact (List.getElem?_inj (List.getElem?_eq_some_iff.1 h1).1 hn).1 (h1.trans h2.symm)
theorem MergeAt.done {la lb : List Mbr} (ha : goodL la) (hb : goodL lb) {seen : Array Nat} {m : List (Int × Mbr)} (h : MergeAt la lb seen m) (hall : ∀ j, j < (mapL lb).length → j ∈ seen) : listing (fun n => (aget m n).getD Mbr.zero) 8 = mergeL la lb := by
  refine listing_congr fun k hk => ?_
  have hk := h k (by omega) (by omega)
  by_cases hns : ∃ j ∈ seen, ∃ x, (mapL lb)[j]? = some ((k : Int), x)
  · exact hk.1 hns
  · show (aget m (k : Int)).getD Mbr.zero = mxM (getM la (k : Int)) (getM lb (k : Int))
    rw [hk.2 hns]
    rcases getM_zero_or hb (k : Int) with e | ⟨hok, hnode, hpos⟩
    · rw [e]
      have : ¬ lessM (getM la (k : Int)) Mbr.zero := by
        rcases getM_zero_or ha (k : Int) with e | ⟨hok, _, hpos⟩
        · rw [e]; decide
        · unfold lessM; dsimp only; omega
      unfold mxM
      rw [if_neg this]
    · exfalso
      have hmem := (getM_epoch hpos).1
      have h1 : ((k : Int), getM lb (k : Int)) ∈ mapL lb := by
        rw [mapL_good hb]
        exact List.mem_map.2 ⟨_, hmem, by rw [hnode]⟩
      obtain ⟨j, hj⟩ := List.mem_iff_getElem?.1 h1
      exact hns ⟨j, hall j (List.getElem?_eq_some_iff.1 hj).1, _, hj⟩
theorem MergeAt.look {la lb : List Mbr} (hb : goodL lb) {seen : Array Nat} {m : List (Int × Mbr)} (h : MergeAt la lb seen m) {j : Nat} {n : Int} {x : Mbr} (hj : (mapL lb)[j]? = some (n, x)) (hn : j ∉ seen) : (aget m n).getD Mbr.zero = getM la n := by
  obtain ⟨e, hok, hnode⟩ := mapL_at hb hj
  have := hok.1
  refine (h n (by omega) (by omega)).2 ?_
  rintro ⟨i, hi, y, hy⟩
  exact hn (mapL_once hb hy hj ▸ hi)
theorem MergeAt.next {la lb : List Mbr} (hb : goodL lb) {seen : Array Nat} {m m' : List (Int × Mbr)} (h : MergeAt la lb seen m) {j : Nat} {n : Int} {x : Mbr} (hj : (mapL lb)[j]? = some (n, x)) (hn : j ∉ seen)
    (hm : ∀ k, (aget m' k).getD Mbr.zero = if k = n then mxM (getM la n) x else (aget m k).getD Mbr.zero) : MergeAt la lb (seen.push j) m' := by
  intro k h0 h8
  rw [hm k]
  have e := (mapL_at hb hj).1
  by_cases hk : k = n
  · subst hk
    rw [if_pos rfl, ← e]
    exact ⟨fun _ => rfl, fun h2 => absurd ⟨j, by simp, x, hj⟩ h2⟩
  · rw [if_neg hk]
    have : (∃ i ∈ seen.push j, ∃ y, (mapL lb)[i]? = some (k, y)) ↔ ∃ i ∈ seen, ∃ y, (mapL lb)[i]? = some (k, y) := by
      constructor
      · rintro ⟨i, hi, y, hy⟩
        rcases Array.mem_push.1 hi with hi | rfl
        · exact ⟨i, hi, y, hy⟩
        · rw [hj] at hy; cases hy; exact absurd rfl hk
      · rintro ⟨i, hi, y, hy⟩
        exact ⟨i, Array.mem_push.2 (.inl hi), y, hy⟩
    rw [this]
    exact h k h0 h8
end Go.Fw
namespace Go.Proofs.Ytcglchdbddlnjaa
open Go.Fw Go.Proofs Go.RowKit
end Go.Proofs.Ytcglchdbddlnjaa
set_option linter.unusedVariables false
set_option linter.unusedSimpArgs false
namespace Go.Fw
open Go.RowKit Go.Sort Go.Proofs Go.Shelf
section
variable {w0 w w' : World} {L : List Chunk}
variable {α : Type} [Inhabited α] {enc : α → List Value} {size : Nat}
theorem flatK_list (he : ∀ x, (enc x).length = size) (hs : 0 < size) (l : List α) : (flatK enc size l.toArray).toList = l.flatMap enc := by
  have hl := flat_len he l
  apply List.ext_getElem?
  intro i
  by_cases hi : i < l.length * size
  · have hd : i / size < l.length := (Nat.div_lt_iff_lt_mul hs).2 hi
    have hx : l[i / size]? = some l[i / size] := by simp
    rw [flat_get he hs l i _ hx]
    have hm : i % size < (enc l[i / size]).length := by rw [he]; exact Nat.mod_lt _ hs
    rw [List.getElem?_eq_getElem hm]
    simp only [flatK, Array.getElem?_toList, Array.getElem?_map]
    rw [Array.getElem?_range, if_pos (by simpa using hi)]
    simp [hd, hm]
  · rw [List.getElem?_eq_none (by simp; omega), List.getElem?_eq_none (by omega)]
theorem holdsK_of (W : Wd w0 L w) (he : ∀ x, (enc x).length = size) (hs : 0 < size) {k e cap g : Nat} {l : List α} (hk : L[k]? = some (rowOf e size enc (some ⟨g, 0, none⟩) cap l)) (hc : cap ≠ 0) : HoldsK enc size w g 0 l.toArray ∧ g < w.heap.size := by
  have h := W.get hk
  refine ⟨fun j hj => ?_, (h.lt (b := g) ⟨hc, rfl⟩).2⟩
  rcases h.2 with ⟨_, h0⟩ | ⟨g', cur, hA, hp, hB, hg, hn, hm, hcs, ht⟩
  · exact absurd h0 hc
  · simp only [Option.some.injEq, Addr.mk.injEq, and_true] at hA
    subst hA
    rw [size_flatK] at hj
    have hj' : j < l.length * size := by simpa using hj
    refine ⟨?_, frozen_of_row w g _ _ e hg⟩
    rw [cell_of_row w g (0 + j) cur e (0, 0) hg, Nat.zero_add]
    have e1 : (flatK enc size l.toArray)[j]? = cur[j]? := by
      rw [← Array.getElem?_toList, ← Array.getElem?_toList, flatK_list he hs, ← ht, List.getElem?_take, if_pos hj']
    rw [← e1]
    have : j < (flatK enc size l.toArray).size := by rw [size_flatK]; exact hj
    rw [Array.getElem?_eq_getElem this, getElem!_pos _ j this]; rfl
theorem Wd.sorted (W : Wd w0 L w) (he : ∀ x, (enc x).length = size) (hs : 0 < size) {k e cap g : Nat} {l l' : List α} (hk : L[k]? = some (rowOf e size enc (some ⟨g, 0, none⟩) cap l)) (hc : cap ≠ 0) (hl : l'.length = l.length) (m : Nat) (os : Array Obj) :
    Wd w0 (L.set k (rowOf e size enc (some ⟨g, 0, none⟩) cap l')) (sortWorldK enc size w g 0 m l'.toArray os) := by
  have h := W.get hk
  have hlt := (h.lt (b := g) ⟨hc, rfl⟩).2
  rcases h.2 with ⟨_, h0⟩ | ⟨g', cur, hA, hp, hB, hg, hn, hm, hcs, ht⟩
  · exact absurd h0 hc
  · simp only [Option.some.injEq, Addr.mk.injEq, and_true] at hA
    subst hA
    have hheap : ∀ j, j < w.heap.size → (sortWorldK enc size w g 0 m l'.toArray os).heap[j]? = if g = j then some (.cells (putCells id 0 (flatK enc size l'.toArray) cur) e (0, 0)) else w.heap[j]? := fun j hj => by
      unfold sortWorldK putRowK putRow mapBlock grow Go.Sort.ahead
      simp only
      rw [Array.getElem?_append_left (by simpa using hj), Array.getElem?_modify]
      split
      · rename_i e1
        subst e1
        rw [hg]
        rfl
      · rfl
    have hcl : (l'.flatMap enc).length = l'.length * size := flat_len he l'
    refine W.change hk ⟨rfl, rfl, rfl, by simp [sortWorldK, putRowK, putRow, mapBlock, grow, Go.Sort.ahead], fun j hj hne => ?_, by simp [sortWorldK, putRowK, putRow, mapBlock, grow, Go.Sort.ahead]⟩ ⟨by rw [flat_len he], .inr ⟨g, _, rfl, hp, hB, by rw [hheap g hlt, if_pos rfl], by rw [hl]; exact hn, hm, by simp [putCells, hcs], ?_⟩⟩ fun b hb => .inl hb
    · rw [hheap j hj, if_neg (fun e1 => hne ⟨hc, by simp [e1]⟩)]
    · have hF := flatK_list he hs l'
      have hle : l'.length * size ≤ cur.size := by rw [hcs, hl]; exact Nat.mul_le_mul_right _ hn
      apply List.ext_getElem?
      intro i
      rw [List.getElem?_take]
      split
      · rename_i hi
        rw [Array.getElem?_toList, putCells, Array.getElem?_mapIdx]
        have hF2 : (flatK enc size l'.toArray)[i]? = (l'.flatMap enc)[i]? := by rw [← hF, Array.getElem?_toList]
        rw [Array.getElem?_eq_getElem (by omega)]
        have hsz : i < (flatK enc size l'.toArray).size := by simp; omega
        simp only [Option.map_some, id_eq, Nat.zero_le, Nat.zero_add, true_and, Nat.sub_zero]
        rw [if_pos hsz, ← hF2, Array.getElem?_eq_getElem hsz, getElem!_pos _ i hsz]
      · rename_i hi
        rw [List.getElem?_eq_none (by omega)]
end
end Go.Fw
set_option linter.unusedVariables false
set_option linter.unusedSimpArgs false
namespace Go.Ft
open Go.RowKit
abbrev KL := List (Nat × Bool × Value)
def look : KL → Nat → Option (Bool × Value)
  | [], _ => none
  | (j, v) :: r, i => bif Nat.beq i j then some v else look r i
structure Kn (n : Nat) (K : KL) (a : Act) : Prop where
  defers : a.defers = []
  size : a.tmps.size = n
  slot : ∀ i g v, look K i = some (g, v) → a.tmps[i]? = some (bif g then v else undef)
def Ev (n : Nat) (b : Bool) (K : KL) (x : Operand) (v : Value) : Prop := ∀ a, b = true → Kn n K a → a.eval x = v
def EvL (n : Nat) (b : Bool) (K : KL) (xs : List Operand) (vs : List Value) : Prop := ∀ a, b = true → Kn n K a → xs.map a.eval = vs
section kn
variable {n : Nat} {K : KL} {a : Act} {b : Bool}
theorem Ev.t {t : Nat} {v : Value} (h : look K t = some (true, v)) : Ev n b K (.tmp t) v := fun a _ hk => by
  simp [Act.eval, hk.slot t true v h]
theorem Ev.g {t : Nat} {v : Value} (h : look K t = some (b, v)) : Ev n b K (.tmp t) v := fun a hb hk => by
  simp [Act.eval, hk.slot t b v h, hb]
theorem Ev.c {v : Value} : Ev n b K (.const v) v := fun _ _ _ => rfl
theorem Ev.f {f : Nat} : Ev n b K (.func f) (.func (.func f) #[] #[]) := fun _ _ _ => rfl
theorem EvL.nil : EvL n b K [] [] := fun _ _ _ => rfl
theorem EvL.cons {x : Operand} {xs : List Operand} {v : Value} {vs : List Value} (h : Ev n b K x v) (h' : EvL n b K xs vs) : EvL n b K (x :: xs) (v :: vs) := fun a hb hk => by
  simp only [List.map_cons, h a hb hk, h' a hb hk]
theorem Kn.putg (h : Kn n K a) {d : Nat} (hd : Nat.blt d n = true) (g : Bool) (v : Value) : Kn n ((d, g, v) :: K) (a.put (some d) (bif g then v else undef)) := by
  refine ⟨h.defers, by simp [Act.put, h.size], fun i g' u hu => ?_⟩
  have hdn : d < n := by simpa [Nat.blt_eq] using hd
  unfold look at hu
  by_cases hi : i = d
  · subst hi
    simp only [Nat.beq_refl, cond_true, Option.some.injEq, Prod.mk.injEq] at hu
    obtain ⟨rfl, rfl⟩ := hu
    simp [Act.put, h.size, hdn]
  · have : Nat.beq i d = false := by simpa [Nat.beq_eq_true_eq, ← Bool.not_eq_true] using hi
    simp only [this, cond_false] at hu
    simp only [Act.put]
    rw [Array.getElem?_setIfInBounds_ne (fun e => hi e.symm)]
    exact h.slot i g' u hu
theorem Kn.put (h : Kn n K a) {d : Nat} (hd : Nat.blt d n = true) (v : Value) : Kn n ((d, true, v) :: K) (a.put (some d) v) := h.putg hd true v
def Fits (sn : List Nat) (K : KL) : KL → Prop
  | [] => True
  | (i, g, v) :: r => (List.elem i sn = true ∨ look K i = some (g, v)) ∧ Fits (i :: sn) K r
theorem Fits.nil {sn : List Nat} {K : KL} : Fits sn K [] := trivial
theorem Fits.cons {sn : List Nat} {K r : KL} {i : Nat} {g : Bool} {v : Value} (h : Ft.look K i = some (g, v)) (h' : Fits (i :: sn) K r) : Fits sn K ((i, g, v) :: r) := ⟨.inr h, h'⟩
theorem Fits.skip {sn : List Nat} {K r : KL} {i : Nat} {g : Bool} {v : Value} (h : List.elem i sn = true) (h' : Fits (i :: sn) K r) : Fits sn K ((i, g, v) :: r) := ⟨.inl h, h'⟩
theorem Fits.look {K : KL} : ∀ {K' : KL} {sn : List Nat}, Fits sn K K' → ∀ i v, List.elem i sn = false → Ft.look K' i = some v → Ft.look K i = some v
  | [], _, _, i, v, _, h => by simp [Ft.look] at h
  | (j, g, u) :: r, sn, hf, i, v, hn, h => by
    obtain ⟨h1, h2⟩ := hf
    unfold Ft.look at h
    by_cases hi : i = j
    · subst hi
      simp only [Nat.beq_refl, cond_true, Option.some.injEq] at h
      rw [← h]
      rcases h1 with h1 | h1
      · rw [h1] at hn; cases hn
      · exact h1
    · have : Nat.beq i j = false := by simpa [Nat.beq_eq_true_eq, ← Bool.not_eq_true] using hi
      simp only [this, cond_false] at h
      refine Fits.look h2 i v ?_ h
      have hne : (i == j) = false := by simpa using hi
      simp only [List.elem, hne]
      exact hn
end kn
abbrev Dle (a b : Nat) : Prop := a ≤ b
theorem Dle.succ (a : Nat) : Dle a (a + 1) := by unfold Dle; omega
structure Bel (B : Nat) (w w' : World) : Prop extends Below B w w' where
  drawn : Dle w.drawn w'.drawn
section bel
variable {B B' : Nat} {a b c : World}
theorem Bel.refl (B : Nat) (w : World) : Bel B w w := ⟨Below.refl B w, Nat.le_refl _⟩
theorem Bel.trans (h : Bel B a b) (k : Bel B b c) : Bel B a c := ⟨h.toBelow.trans k.toBelow, Nat.le_trans h.drawn k.drawn⟩
theorem Bel.mono (h : Bel B a b) (hB : B' ≤ B) : Bel B' a b := ⟨h.toBelow.mono hB, h.drawn⟩
theorem Bel.alloc (h : Bel B a b) (hb : B ≤ b.heap.size) (o : Obj) : Bel B a (b.alloc o) := ⟨h.toBelow.alloc hb o, h.drawn⟩
theorem Bel.drew (h : Bel B a b) : Bel B a b.drew := ⟨h.toBelow.drew, Nat.le_trans h.drawn (Dle.succ _)⟩
theorem Bel.grows (h : Bel a.heap.size a b) : ∃ q os', b = Go.Sort.grow (a.drewN q) os' := by
  refine ⟨b.drawn - a.drawn, b.heap.extract a.heap.size b.heap.size, ?_⟩
  have hh : b.heap = a.heap ++ b.heap.extract a.heap.size b.heap.size := by
    have hs := h.size
    apply Array.ext
    · simp; omega
    · intro i h1 h2
      rw [Array.getElem_append]
      split
      · rename_i hlt
        have := h.block i hlt
        rw [Array.getElem?_eq_getElem h1, Array.getElem?_eq_getElem hlt] at this
        simpa using this
      · rw [Array.getElem_extract]
        congr 1
        omega
  obtain ⟨h1, h2, h3, _, _⟩ := h.toBelow
  have h4 := h.drawn
  cases a; cases b
  simp only at h1 h2 h3 h4 hh ⊢
  subst h1; subst h2; subst h3
  simp only [Go.Sort.grow, World.drewN, World.mk.injEq, and_true, true_and]
  exact ⟨hh, by omega⟩
end bel
structure Turned (S : Nat → Prop) (w w' : World) : Prop where
  os : w'.os = w.os
  tape : w'.tape = w.tape
  output : w'.output = w.output
  size : w.heap.size ≤ w'.heap.size
  block : ∀ k, k < w.heap.size → ¬ S k → w'.heap[k]? = w.heap[k]?
  drawn : Dle w.drawn w'.drawn
theorem Turned.mono {S S' : Nat → Prop} {w w' : World} (h : Turned S w w') (hS : ∀ k, S k → S' k) : Turned S' w w' :=
  ⟨h.os, h.tape, h.output, h.size, fun k hk hn => h.block k hk fun e => hn (hS k e), h.drawn⟩
def Owns (w : World) (B : Nat) (e size : Nat) (A : Option Addr) (n cap : Nat) (xs : List Value) : Prop :=
  xs.length = n * size ∧ ((n = 0 ∧ cap = 0) ∨ ∃ g cur, A = some ⟨g, 0, none⟩ ∧ 0 < cap ∧ B ≤ g ∧ w.heap[g]? = some (.cells cur e (0, 0)) ∧ n ≤ cap ∧ cap ≤ maxLen ∧ cur.size = cap * size ∧ cur.toList.take (n * size) = xs)
inductive Chunk where
  | blk (b : Nat) (o : Obj)
  | row (e size : Nat) (A : Option Addr) (n cap : Nat) (xs : List Value)
  | ice (w1 : World) (bs : List Nat)
def Chunk.holds (B : Nat) (w : World) : Chunk → Prop
  | .blk b o => B ≤ b ∧ w.heap[b]? = some o
  | .row e size A n cap xs => Owns w B e size A n cap xs
  | .ice w1 bs => ∀ b ∈ bs, B ≤ b ∧ b < w.heap.size ∧ w.heap[b]? = w1.heap[b]?
def Chunk.own : Chunk → Nat → Prop
  | .blk b _ => fun x => x = b
  | .row _ _ A _ cap _ => fun x => cap ≠ 0 ∧ A.map (·.block) = some x
  | .ice _ bs => fun x => x ∈ bs
def Chunk.apart (c d : Chunk) : Prop := ∀ b, c.own b → ¬ d.own b
theorem Chunk.apart.symm {c d : Chunk} (h : c.apart d) : d.apart c := fun b hd hc => h b hc hd
theorem Chunk.holds.lt {B : Nat} {w : World} {c : Chunk} (h : c.holds B w) {b : Nat} (hb : c.own b) : B ≤ b ∧ b < w.heap.size := by
  cases c with
  | blk b' o =>
    obtain ⟨h1, h2⟩ := h
    simp only [Chunk.own] at hb
    subst hb
    exact ⟨h1, (Array.getElem?_eq_some_iff.1 h2).1⟩
  | row e size A n cap xs =>
    obtain ⟨h0, hb⟩ := hb
    rcases h.2 with ⟨_, hc⟩ | ⟨g, cur, rfl, hp, hB, hg, _⟩
    · exact absurd hc h0
    · simp only [Option.map_some, Option.some.injEq] at hb
      subst hb
      exact ⟨hB, (Array.getElem?_eq_some_iff.1 hg).1⟩
  | ice w1 bs => exact ⟨(h b hb).1, (h b hb).2.1⟩
theorem Chunk.holds.keep {B : Nat} {w w' : World} {c : Chunk} (h : c.holds B w) (hs : w.heap.size ≤ w'.heap.size) (hk : ∀ b, c.own b → w'.heap[b]? = w.heap[b]?) : c.holds B w' := by
  cases c with
  | blk b o => exact ⟨h.1, (hk b rfl).trans h.2⟩
  | row e size A n cap xs =>
    refine ⟨h.1, ?_⟩
    rcases h.2 with hn | ⟨g, cur, rfl, hp, hb, hgg, rest⟩
    · exact .inl hn
    · exact .inr ⟨g, cur, rfl, hp, hb, (hk g ⟨Nat.pos_iff_ne_zero.1 hp, rfl⟩).trans hgg, rest⟩
  | ice w1 bs => exact fun b hb => ⟨(h b hb).1, Nat.lt_of_lt_of_le (h b hb).2.1 hs, (hk b hb).trans (h b hb).2.2⟩
theorem Chunk.holds.mono {B B' : Nat} {w : World} {c : Chunk} (h : c.holds B w) (hB : B' ≤ B) : c.holds B' w := by
  cases c with
  | blk b o => exact ⟨Nat.le_trans hB h.1, h.2⟩
  | row e size A n cap xs =>
    refine ⟨h.1, ?_⟩
    rcases h.2 with hn | ⟨g, cur, rfl, hp, hb, rest⟩
    · exact .inl hn
    · exact .inr ⟨g, cur, rfl, hp, Nat.le_trans hB hb, rest⟩
  | ice w1 bs => exact fun b hb => ⟨Nat.le_trans hB (h b hb).1, (h b hb).2⟩
structure Wd (w0 : World) (L : List Chunk) (w : World) : Prop where
  below : Bel w0.heap.size w0 w
  all : ∀ c ∈ L, c.holds w0.heap.size w
  apart : L.Pairwise Chunk.apart
section wd
variable {w0 : World} {L : List Chunk} {w w' : World}
theorem Wd.start (w : World) : Wd w [] w := ⟨Bel.refl _ _, (fun _ h => by cases h), List.Pairwise.nil⟩
theorem Wd.get (h : Wd w0 L w) {k : Nat} {c : Chunk} (hk : L[k]? = some c) : c.holds w0.heap.size w := h.all c (List.mem_of_getElem? hk)
theorem Wd.sub (h : Wd w0 L w) {L' : List Chunk} (hs : L'.Sublist L) : Wd w0 L' w :=
  ⟨h.below, fun c hc => h.all c (hs.subset hc), h.apart.sublist hs⟩
theorem Wd.step (h : Wd w0 L w) (hb : Bel w.heap.size w w') : Wd w0 L w' :=
  ⟨h.below.trans (hb.mono h.below.size), fun c hc => (h.all c hc).keep hb.size fun b hbk => hb.block b ((h.all c hc).lt hbk).2, h.apart⟩
theorem Wd.more (h : Wd w0 L w) (hb : Bel w.heap.size w w') {c : Chunk} (hc : c.holds w.heap.size w') : Wd w0 (c :: L) w' := by
  have h' := h.step hb
  refine ⟨h'.below, fun d hd => ?_, List.Pairwise.cons (fun d hd b hcb hdb => ?_) h'.apart⟩
  · rcases List.mem_cons.1 hd with rfl | hd
    · exact hc.mono h.below.size
    · exact h'.all d hd
  · have h1 := (hc.lt hcb).1
    have h2 := ((h.all d hd).lt hdb).2
    omega
theorem Wd.drew (h : Wd w0 L w) : Wd w0 L w.drew := h.step (Bel.refl _ _).drew
theorem Wd.alloc (h : Wd w0 L w) (o : Obj) : Wd w0 (.blk w.heap.size o :: L) (w.alloc o) :=
  h.more ((Bel.refl _ _).alloc (Nat.le_refl _) o) ⟨Nat.le_refl _, heap_alloc_new w o⟩
end wd
structure St (n : Nat) (w0 : World) (K : KL) (L : List Chunk) (a : Act) (w : World) : Prop where
  kn : Kn n K a
  wd : Wd w0 L w
section code
variable {P : Program} {Q : Exit → Act → World → Prop} {n : Nat} {w0 : World} {K : KL} {L : List Chunk} {a : Act} {w : World}
theorem enter {f : FuncId} {fn : Func} {c : Code} {args : List Value} {w : World} {R : Ending → World → Prop} (hf : P.funcs[f]? = some fn) (hb : fn.body = some c)
    {n : Nat} {K : KL} (hn : fn.ntmps = n) (hsz : Nat.ble args.length n = true) (hK : ∀ i g v, look K i = some (g, v) → g = true ∧ args[i]? = some v)
    (h : ∀ a, St n w K [] a w → c.wp P (bodyPost P fn R) a w) : Calls P f args.toArray w R := by
  refine calls_of_wp hf hb (h _ ⟨⟨rfl, ?_, fun i g v hv => ?_⟩, Wd.start w⟩)
  · have := Nat.le_of_ble_eq_true hsz
    simp [hn]; omega
  · obtain ⟨rfl, h1⟩ := hK i g v hv
    have hi : i < args.length := (List.getElem?_eq_some_iff.1 h1).1
    simp [Array.getElem?_append, hi, (List.getElem?_eq_some_iff.1 h1).2]
section enters
def argsK : Nat → List Value → KL
  | _, [] => []
  | i, v :: vs => (i, true, v) :: argsK (i + 1) vs
theorem argsK_ok : ∀ (vs : List Value) (i j : Nat) (g : Bool) (v : Value), look (argsK i vs) j = some (g, v) → g = true ∧ i ≤ j ∧ vs[j - i]? = some v
  | [], i, j, g, v, h => by simp [argsK, look] at h
  | u :: us, i, j, g, v, h => by
    unfold argsK look at h
    by_cases hj : j = i
    · subst hj
      simp only [Nat.beq_refl, cond_true, Option.some.injEq, Prod.mk.injEq] at h
      obtain ⟨rfl, rfl⟩ := h
      exact ⟨rfl, Nat.le_refl _, by simp⟩
    · have : Nat.beq j i = false := by simpa [Nat.beq_eq_true_eq, ← Bool.not_eq_true] using hj
      simp only [this, cond_false] at h
      obtain ⟨h1, h2, h3⟩ := argsK_ok us (i + 1) j g v h
      refine ⟨h1, by omega, ?_⟩
      rw [show j - i = (j - (i + 1)) + 1 by omega]
      simpa using h3
theorem enterL {f : FuncId} {fn : Func} {c : Code} {args : List Value} {w : World} {R : Ending → World → Prop} (hf : P.funcs[f]? = some fn) (hb : fn.body = some c)
    {n : Nat} (hn : fn.ntmps = n) (hsz : Nat.ble args.length n = true) (h : ∀ a, St n w (argsK 0 args) [] a w → c.wp P (bodyPost P fn R) a w) : Calls P f args.toArray w R :=
  enter hf hb hn hsz (fun i g v hv => have h := argsK_ok args 0 i g v hv; ⟨h.1, by simpa using h.2.2⟩) h
variable {f : FuncId} {fn : Func} {c : Code} {R : Ending → World → Prop} {v0 v1 v2 v3 v4 v5 v6 v7 v8 : Value}
theorem enter1 (hf : P.funcs[f]? = some fn) (hb : fn.body = some c) {n : Nat} (hn : fn.ntmps = n) (hsz : Nat.ble 1 n = true)
    (h : ∀ a, St n w [(0, true, v0)] [] a w → c.wp P (bodyPost P fn R) a w) : Calls P f #[v0] w R := enterL (args := [v0]) hf hb hn hsz h
theorem enter2 (hf : P.funcs[f]? = some fn) (hb : fn.body = some c) {n : Nat} (hn : fn.ntmps = n) (hsz : Nat.ble 2 n = true)
    (h : ∀ a, St n w [(0, true, v0), (1, true, v1)] [] a w → c.wp P (bodyPost P fn R) a w) : Calls P f #[v0, v1] w R := enterL (args := [v0, v1]) hf hb hn hsz h
end enters
theorem st_if {c : Operand} {x y : Code} {p : Prop} {_ : Decidable p} (S : St n w0 K L a w) (hc : Ev n true K c (.bool (decide p))) (ht : p → x.wp P Q a w) (hf : ¬p → y.wp P Q a w) : (Code.cond c x y).wp P Q a w :=
  wp_cond_split (hc a rfl S.kn) (fun h => ht (of_decide_eq_true h)) (fun h => hf (of_decide_eq_false h))
theorem st_then {c : Operand} {x y : Code} (S : St n w0 K L a w) (hc : Ev n true K c (.bool true)) (ht : x.wp P Q a w) : (Code.cond c x y).wp P Q a w := wp_cond_true (hc a rfl S.kn) ht
theorem st_else {c : Operand} {x y : Code} (S : St n w0 K L a w) (hc : Ev n true K c (.bool false)) (hf : y.wp P Q a w) : (Code.cond c x y).wp P Q a w := wp_cond_false (hc a rfl S.kn) hf
def Ys (P : Program) (o : Oper) (n : Nat) (K : KL) (w0 : World) (L : List Chunk) (b : Bool) (v : Value) : Prop :=
  ∀ a w, b = true → Kn n K a → Wd w0 L w → Oper.quietUpon P (Wd w0 L) w v ((execOp a.eval o).run P w)
def Yr (P : Program) (o : Oper) (n : Nat) (K : KL) (w0 : World) (L : List Chunk) (b : Bool) (v : Value) : Prop :=
  ∀ a w, b = true → Kn n K a → Wd w0 L w → (execOp a.eval o).run P w = .ok (.value v) w
theorem Yr.ys {o : Oper} {b : Bool} {v : Value} (h : Yr P o n K w0 L b v) : Ys P o n K w0 L b v := fun a w hb hk hw => by
  rw [h a w hb hk hw]; exact ⟨rfl, rfl⟩
theorem Ys.wp {o : Oper} {v : Value} (hy : Ys P o n K w0 L true v) (S : St n w0 K L a w) {K' : Act → World → Prop} (h : ∀ w', Wd w0 L w' → K' (a.put o.dst v) w') : o.wp P a w K' Q := by
  have h3 := hy a w rfl S.kn S.wd
  unfold Oper.wp
  generalize (execOp a.eval o).run P w = r at *
  cases r with
  | ok x w' =>
    cases x <;> simp only [Oper.quietUpon] at h3 <;> simp only [Oper.upon]
    case value u => obtain ⟨rfl, rfl⟩ := h3; exact h _ S.wd
    case skip => obtain ⟨rfl, rfl⟩ := h3; exact h _ S.wd
    case enter f args =>
      obtain ⟨rfl, hc⟩ := h3
      exact hc.mono fun e w'' ⟨he, hw''⟩ => by subst he; exact h _ hw''
  | halt x w' => simp only [Oper.quietUpon] at h3
section list
variable {ops : Array Oper} {rest : List Oper} {op : Op} {ty : TypeId} {pos : String} {aft : Array Edge} {v : Value} {d t j : Nat} {p : Bool}
theorem st_nil (h : Q .normal a w) : wpList P ops Q [] a w := h
theorem st_m {d : Option Tmp} (h : Oper.wp P ⟨d, op, ty, pos, aft, none⟩ a w (wpList P ops Q rest) Q) : wpList P ops Q (⟨d, op, ty, pos, aft, none⟩ :: rest) a w :=
  wpList_plain rfl fun _ hK => Oper.wp_mono hK h
theorem st_y (S : St n w0 K L a w) (hy : Ys P ⟨some d, op, ty, pos, aft, none⟩ n K w0 L true v) (hd : Nat.blt d n = true)
    (next : ∀ a w, St n w0 ((d, true, v) :: K) L a w → wpList P ops Q rest a w) : wpList P ops Q (⟨some d, op, ty, pos, aft, none⟩ :: rest) a w :=
  st_m (hy.wp S fun _ hw => next _ _ ⟨S.kn.put hd v, hw⟩)
variable {Z : Act → Prop} {C : World → Prop}
end list
section held
variable {ops : Array Oper} {Lr : List Chunk} {fuel i : Nat} {listed : Array Bool} {op : Op} {ty : TypeId} {pos : String} {aft : Array Edge} {gd : Option (Nat × Bool)} {v : Value} {d t j : Nat} {p : Bool} {md : Region.Mode}
theorem h_begin0 {id : Nat} (S : St n w0 K L a w) (hm : P.follows .mixedOrders = true)
    (h : ∀ a w, St n w0 K L a w → wpAnyH P .any ops Q (Wd w0 L) ops.size (Array.replicate ops.size false) a w) : (Code.region id ops true).wp P Q a w :=
  wp_region_held hm (h _ _ ⟨S.kn, S.wd.drew⟩)
theorem h_take {o : Oper} {v : Value} (S : St n w0 K L a w) (hsub : Lr.Sublist L) (hi : ops[i]? = some o) (hs : Region.noSelect ops = true) (hf : Region.free md ops listed i = true) (hr : (Region.ready md ops listed).contains i = true)
    (hQ : ∀ c a w, Q (.panic c) (a.put o.dst v) w → Q (.panic c) a w) (hy : YieldsIf P ops (Wd w0 Lr) o v a)
    (h : wpAnyH P md ops Q (Wd w0 Lr) fuel (listed.setIfInBounds i true) (a.put o.dst v) w) : wpAnyH P md ops Q (Wd w0 Lr) (fuel + 1) listed a w :=
  wpAnyH_take hi hs hf hr hQ hy (S.wd.sub hsub) h
theorem h_y (S : St n w0 K L a w) (hsub : Lr.Sublist L) (hi : ops[i]? = some ⟨some d, op, ty, pos, aft, none⟩) (hs : Region.noSelect ops = true) (hf : Region.free md ops listed i = true) (hr : (Region.ready md ops listed).contains i = true)
    (hQ : ∀ v c a w, Q (.panic c) (a.put (some d) v) w → Q (.panic c) a w) (hy : Yr P ⟨some d, op, ty, pos, aft, none⟩ n K w0 Lr true v) (hd : Nat.blt d n = true)
    (next : ∀ a w, St n w0 ((d, true, v) :: K) L a w → wpAnyH P md ops Q (Wd w0 Lr) fuel (listed.setIfInBounds i true) a w) : wpAnyH P md ops Q (Wd w0 Lr) (fuel + 1) listed a w :=
  h_take S hsub hi hs hf hr (hQ v) (.inl ⟨rfl, fun w hw => hy a w rfl S.kn hw⟩) (next _ _ ⟨S.kn.put hd v, S.wd⟩)
theorem h_m (hi : ops[i]? = some ⟨some d, op, ty, pos, aft, none⟩) (hr : Region.ready md ops listed = [i])
    (h : Oper.wp P ⟨some d, op, ty, pos, aft, none⟩ a w (fun a' w' => Wd w0 Lr w' ∧ wpAnyH P md ops Q (Wd w0 Lr) fuel (listed.setIfInBounds i true) a' w') Q) : wpAnyH P md ops Q (Wd w0 Lr) (fuel + 1) listed a w :=
  wpAnyH_all hr (by simp) fun k hk => by
    simp only [List.mem_singleton] at hk
    subst hk
    unfold wpOp
    simp only [hi, Region.wanted, if_true]
    exact .inl h
theorem h_q (S : St n w0 K L a w) (hsub : Lr.Sublist L) (hi : ops[i]? = some ⟨some d, op, ty, pos, aft, none⟩) (hr : Region.ready md ops listed = [i]) (hy : Ys P ⟨some d, op, ty, pos, aft, none⟩ n K w0 L true v) (hd : Nat.blt d n = true)
    (next : ∀ a w, St n w0 ((d, true, v) :: K) L a w → wpAnyH P md ops Q (Wd w0 Lr) fuel (listed.setIfInBounds i true) a w) : wpAnyH P md ops Q (Wd w0 Lr) (fuel + 1) listed a w :=
  h_m hi hr (hy.wp S fun w' hw => ⟨hw.sub hsub, next _ _ ⟨S.kn.put hd v, hw⟩⟩)
theorem h_on (S : St n w0 K L a w) (Lr' : List Chunk) (h1 : Lr.Sublist Lr') (h2 : Lr'.Sublist L) (h : wpAnyH P md ops Q (Wd w0 Lr') fuel listed a w) : Wd w0 Lr w ∧ wpAnyH P md ops Q (Wd w0 Lr) fuel listed a w := by
  refine ⟨S.wd.sub (h1.trans h2), ?_⟩
  clear S h2
  induction fuel generalizing listed a w with
  | zero => exact h
  | succ fuel ih => exact ⟨h.1, fun i hi => wpOp_mono (fun a' w' h' => ⟨h'.1.sub h1, ih h'.2⟩) (h.2 i hi)⟩
theorem h_done (hr : Region.ready md ops listed = []) (h : Q .normal a w) : wpAnyH P md ops Q (Wd w0 Lr) fuel listed a w := wpAnyH_done hr h fuel
end held
end code
end Go.Ft
set_option linter.unusedVariables false
set_option linter.unusedSimpArgs false
namespace Go.Fw
open Go.RowKit Go.Sort Go.Proofs Go.Shelf
theorem sort_any {P : Program} {ρ : Ren} (LL : SlLaysF0.n6 P ρ) {α : Type} [Inhabited α] (k : Nat) (hk0 : 0 < k) (aE : ∀ w, (isAgg (ρ.t 24)).run P w = .ok true w) (zE : ∀ w, (Go.sizeOf (ρ.t 24)).run P w = .ok k w) (enc : α → List Value) (hk : ∀ x, (enc x).length = k) (h1 : ∀ x, ∀ v ∈ enc x, v.oneCell' = true)
    (cf : α → α → Int) (hO : SWO (ltOf cf)) (g : Nat) (eg : ∀ args w, (callFunc g args).run P w = .ok (.enter g args) w) (hcmp : ∀ (x y : α) W, Calls P g #[.agg (enc x).toArray, .agg (enc y).toArray] W fun e w' => e = .returned (.int .i64 (cf x y)) ∧ Go.Ft.Bel W.heap.size W w')
    {w0 w : World} {L : List Chunk} {A : Option Addr} {cap e : Nat} {l : List α} (W : Wd w0 (rowOf e k enc A cap l :: L) w) (hn : l.length ≤ 4194304) :
    RetsO P (ρ.f 6) #[.slice A l.length cap, .func (.func g) #[] #[]] w0 w fun v L' => ∃ l', v = .tuple #[] ∧ l'.Perm l ∧ l'.Pairwise (fun a b => ¬ cf b a < 0) ∧ L' = rowOf e k enc A cap l' :: L := by
  obtain ⟨hlc, hcm⟩ := W.room (k := 0) rfl
  by_cases hc : cap = 0
  · have : l = [] := List.eq_nil_of_length_eq_zero (by omega)
    subst this
    refine Calls.mono (AnyF.slices_SortFunc_none LL A cap _ w) fun e' w' ⟨he, hw⟩ => ?_
    subst hw
    exact ⟨_, _, he, W, [], rfl, List.Perm.refl _, List.Pairwise.nil, rfl⟩
  · obtain ⟨ga, rfl⟩ := W.row_at (k := 0) rfl hc
    obtain ⟨hH, hlt⟩ := holdsK_of W hk hk0 (k := 0) rfl hc
    have hcon := AnyQ.slices_SortFunc LL k aE zE enc hk h1 cf hO g #[] ga 0 cap l.toArray w eg (fun m os dk hs x y => (hcmp x y _).mono fun e' w' ⟨he, hb⟩ => ⟨he, hb.grows⟩) hH hlt (by simp; omega)
    refine Calls.mono hcon fun e' w' ⟨he, d', n, os, ⟨hsz, _, hp⟩, hs, hw⟩ => ?_
    subst hw
    have hlen : d'.toList.length = l.length := by simpa using hsz
    have hW := W.sorted (k := 0) hk hk0 rfl hc (l' := d'.toList) hlen n os
    refine ⟨_, _, he, by simpa using hW, d'.toList, rfl, ?_, ?_, rfl⟩
    · have e1 : d'.extract 0 l.toArray.size = d' := by rw [← hsz]; exact Array.extract_size
      rw [e1, Array.extract_size] at hp
      simpa using hp
    · refine List.pairwise_iff_getElem.2 fun i j hi hj hij => ?_
      have := hs i j (Nat.zero_le _) hij (by simpa using (by omega : j < l.length))
      rw [getElem!_pos d' j (by simpa using hj), getElem!_pos d' i (by simpa using hi)] at this
      simpa [ltOf] using this
end Go.Fw
set_option linter.unusedVariables false
set_option linter.unusedSimpArgs false
namespace Go.Ft
open Go.RowKit
def I64 (x : Int) : Prop := -9223372036854775808 ≤ x ∧ x ≤ 9223372036854775807
theorem wrap_i64 {x : Int} (h : I64 x) : IntKind.i64.wrap x = x := by
  obtain ⟨h1, h2⟩ := h
  rw [IntKind.wrap_i64]; omega
section ops
variable {P : Program} {n : Nat} {w0 : World} {K : KL} {L : List Chunk} {b : Bool} {dst : Option Tmp} {ty : TypeId} {pos : String} {aft : Array Edge} {gd : Option (Nat × Bool)}
theorem ys_move {x : Operand} {v : Value} (hx : Ev n b K x v) : Yr P ⟨dst, .move x, ty, pos, aft, gd⟩ n K w0 L b v := fun a w hb hk _ => by
  simp [execOp, hx a hb hk]
theorem ys_assign {x : Operand} {v : Value} (hx : Ev n b K x v) : Yr P ⟨dst, .assign x, ty, pos, aft, gd⟩ n K w0 L b v := fun a w hb hk _ => by
  simp [execOp, hx a hb hk]
def One (P : Program) (t : TypeId) : Prop := (∀ w, (isAgg t).run P w = .ok false w) ∧ ∀ w, (sizeOf t).run P w = .ok 1 w
def Many (P : Program) (t : TypeId) (k : Nat) : Prop := (∀ w, (isAgg t).run P w = .ok true w) ∧ ∀ w, (sizeOf t).run P w = .ok k w
def Size (P : Program) (t : TypeId) (k : Nat) : Prop := ∀ w, (sizeOf t).run P w = .ok k w
def nth : List Value → Nat → Option Value
  | [], _ => none
  | v :: _, 0 => some v
  | _ :: r, i + 1 => nth r i
theorem nth_eq : ∀ (cs : List Value) (i : Nat), nth cs i = cs[i]?
  | [], i => by simp [nth]
  | v :: r, 0 => by simp [nth]
  | v :: r, i + 1 => by simp [nth, nth_eq r i]
def upto : List Value → Nat → Option (List Value)
  | _, 0 => some []
  | [], _ + 1 => none
  | v :: r, k + 1 => match upto r k with
    | some l => some (v :: l)
    | none => none
def cellsAt : List Value → Nat → Nat → Option (List Value)
  | cs, 0, k => upto cs k
  | [], _ + 1, _ => none
  | _ :: r, i + 1, k => cellsAt r i k
theorem upto_eq : ∀ {cs : List Value} {k : Nat} {vs : List Value}, upto cs k = some vs → vs.length = k ∧ vs = cs.take k
  | cs, 0, vs, h => by cases cs <;> simp [upto] at h <;> simp [h]
  | [], k + 1, vs, h => by simp [upto] at h
  | v :: r, k + 1, vs, h => by
    unfold upto at h
    split at h
    · rename_i l hl
      obtain ⟨h1, h2⟩ := upto_eq hl
      simp only [Option.some.injEq] at h
      subst h
      exact ⟨by simp [h1], by simp [← h2]⟩
    · cases h
theorem cellsAt_eq : ∀ {cs : List Value} {i k : Nat} {vs : List Value}, cellsAt cs i k = some vs → vs.length = k ∧ vs = (cs.drop i).take k
  | cs, 0, k, vs, h => by cases cs <;> exact upto_eq h
  | [], i + 1, k, vs, h => by simp [cellsAt] at h
  | v :: r, i + 1, k, vs, h => by simpa using cellsAt_eq (cs := r) (i := i) h
theorem run_load_one {t : TypeId} (h1 : One P t) {w : World} {ad : Addr} {v : Value} (hc : w.cell? ad = some v) : (loadVar t ad).run P w = .ok v w := by
  simp [loadVar, Sem.run_bind, h1.1, run_load, hc]
theorem run_load_many {t : TypeId} {k : Nat} (h1 : Many P t k) {w : World} {ad : Addr} {vs : List Value} (hl : vs.length = k) (hc : ∀ j u, vs[j]? = some u → w.cell? (ad.add j) = some u) :
    (loadVar t ad).run P w = .ok (.agg vs.toArray) w := by
  have h := run_loadCells_list (P := P) w ad vs hc
  rw [hl] at h
  simp [loadVar, Sem.run_bind, h1.1, h1.2, h]
theorem ys_ld {t : TypeId} {x : Operand} {g i k : Nat} {cs : List Value} {e : TypeId} {fr : Nat × Nat} {v : Value} (h1 : One P t) (hx : Ev n b K x (.pointer (some ⟨g, i, none⟩)))
    (hk : L[k]? = some (.blk g (.cells cs.toArray e fr))) (hc : nth cs i = some v) : Yr P ⟨dst, .load t x, ty, pos, aft, gd⟩ n K w0 L b v := fun a w hb hkn hw => by
  have hg := (hw.get hk).2
  simp [execOp, hx a hb hkn, Instr.loadAt, Instr.sureAddr, run_load_one h1 (ad := ⟨g, i, none⟩) ((cell_of_row w g i _ e fr hg).trans (by rw [nth_eq] at hc; simpa using hc))]
theorem ys_ldO {t : TypeId} {x : Operand} {ad : Addr} {v : Value} (h1 : One P t) (hx : Ev n b K x (.pointer (some ad))) (hc : b = true → w0.cell? ad = some v) : Yr P ⟨dst, .load t x, ty, pos, aft, gd⟩ n K w0 L b v := fun a w hb hkn hw => by
  have hc' := hc hb
  have h := (hw.below.cell (World.block_lt_of_cell? w0 ad hc')).trans hc'
  simp [execOp, hx a hb hkn, Instr.loadAt, Instr.sureAddr, run_load_one h1 h]
theorem Owns.cell {w : World} {B e size n cap g : Nat} {xs : List Value} (h : Owns w B e size (some ⟨g, 0, none⟩) n cap xs) {j : Nat} {u : Value} (hj : xs[j]? = some u) : w.cell? ⟨g, j, none⟩ = some u := by
  rcases h.2 with ⟨h0, _⟩ | ⟨g', cur, hA, _, _, hg, _, _, _, ht⟩
  · have h1 := h.1
    rw [h0] at h1
    have : xs = [] := List.eq_nil_of_length_eq_zero (by simpa using h1)
    subst this; simp at hj
  · simp only [Option.some.injEq, Addr.mk.injEq] at hA
    obtain ⟨rfl, _, _⟩ := hA
    rw [cell_of_row w _ j cur e (0, 0) hg]
    rw [← ht, List.getElem?_take] at hj
    split at hj
    · simpa using hj
    · cases hj
def FieldT (P : Program) (s : TypeId) (f o : Nat) : Prop := ∀ w ad, (Instr.fieldAt s (.pointer (some ad)) f).run P w = .ok (.pointer (some (ad.add o))) w
theorem FieldT.mk {s f : Nat} {fs : Array Field} {nm : String} {tt o : Nat} {em : Bool} {tg pp : String} {bo : Nat} {m : Nat} (hu : P.underlying s = some (.struct fs)) (hf : fs[f]? = some ⟨nm, tt, o, em, tg, pp, bo⟩) (hz : ∀ w, (sizeOf tt).run P w = .ok m w) (hm : Nat.blt 0 m = true) : FieldT P s f o := fun w ad => by
  have hm' : m ≠ 0 := by have := Nat.le_of_ble_eq_true hm; omega
  simp [Instr.fieldAt, run_underlying hu, hf, Instr.sureAddr, fieldPlace, hz, hm']
theorem ys_field {s f o : Nat} {x : Operand} {g i : Nat} (h1 : FieldT P s f o) (hx : Ev n b K x (.pointer (some ⟨g, i, none⟩))) : Yr P ⟨dst, .fieldAddr s x f, ty, pos, aft, gd⟩ n K w0 L b (.pointer (some ⟨g, i + o, none⟩)) := fun a w hb hkn _ => by
  have h := h1 w ⟨g, i, none⟩
  rw [Addr.add_mid] at h
  simp [execOp, hx a hb hkn, h]
theorem ys_fieldN {s f o : Nat} {x : Operand} {g i i' : Nat} (h1 : FieldT P s f o) (hx : Ev n b K x (.pointer (some ⟨g, i, none⟩))) (hi : i + o = i') : Yr P ⟨dst, .fieldAddr s x f, ty, pos, aft, gd⟩ n K w0 L b (.pointer (some ⟨g, i', none⟩)) := hi ▸ ys_field h1 hx
def SliceT (P : Program) (t e : TypeId) : Prop := P.underlying t = some (.slice e)
theorem ys_ixS {t e sz : Nat} {x y : Operand} {g o len cap j : Nat} {ik : IntKind} (h1 : SliceT P t e) (h2 : Size P e sz) (hx : Ev n b K x (.slice (some ⟨g, o, none⟩) len cap)) (hy : Ev n b K y (.int ik (j : Int))) (h : b = true → j < len) :
    Yr P ⟨dst, .indexAddr t x y, ty, pos, aft, gd⟩ n K w0 L b (.pointer (some ⟨g, o + j * sz, none⟩)) := fun a w hb hkn _ => by
  have h' := h hb
  simp [execOp, hx a hb hkn, hy a hb hkn, Instr.indexAt, run_underlying h1, asIntOf, h2 w, Addr.add_mid]
  intro h4; omega
theorem ys_add {t t' : TypeId} {x y : Operand} {k : IntKind} {p q : Int} (hx : Ev n b K x (.int k p)) (hy : Ev n b K y (.int k q)) : Yr P ⟨dst, .binOp .add t x y t', ty, pos, aft, gd⟩ n K w0 L b (.int k (k.wrap (p + q))) := fun a w hb hkn _ => by
  simp only [execOp, hx a hb hkn, hy a hb hkn]
  simp [eqGuard, binOp, Op.intArith]
theorem Yr.of_imp {o : Oper} {v u : Value} (h : b = true → v = u) (hy : Yr P o n K w0 L b v) : Yr P o n K w0 L b u := fun a w hb hk hw => by
  rw [← h hb]; exact hy a w hb hk hw
theorem ys_addI {t t' : TypeId} {x y : Operand} {p q : Int} (hx : Ev n b K x (.int .i64 p)) (hy : Ev n b K y (.int .i64 q)) (h : b = true → I64 (p + q)) : Yr P ⟨dst, .binOp .add t x y t', ty, pos, aft, gd⟩ n K w0 L b (.int .i64 (p + q)) :=
  Yr.of_imp (fun hb => by rw [wrap_i64 (h hb)]) (ys_add hx hy)
section cmp
variable {t t' : TypeId} {x y : Operand} {k : IntKind} {p q : Int} (hx : Ev n b K x (.int k p)) (hy : Ev n b K y (.int k q))
include hx hy
theorem ys_lss : Yr P ⟨dst, .binOp .lss t x y t', ty, pos, aft, gd⟩ n K w0 L b (.bool (decide (p < q))) := fun a w hb hkn _ => by
  simp only [execOp, hx a hb hkn, hy a hb hkn]
  simp [eqGuard, binOp, Op.intCmp]
theorem ys_gtr : Yr P ⟨dst, .binOp .gtr t x y t', ty, pos, aft, gd⟩ n K w0 L b (.bool (decide (q < p))) := fun a w hb hkn _ => by
  simp only [execOp, hx a hb hkn, hy a hb hkn]
  simp [eqGuard, binOp, Op.intCmp]
theorem ys_neq : Yr P ⟨dst, .binOp .neq t x y t', ty, pos, aft, gd⟩ n K w0 L b (.bool (decide (p ≠ q))) := fun a w hb hkn _ => by
  simp only [execOp, hx a hb hkn, hy a hb hkn]
  simp [eqGuard, binOp, Op.intCmp]
  rw [Bool.eq_iff_iff]; simp
end cmp
def EqT (P : Program) (t : TypeId) (vs us : List Value) (r : Bool) : Prop :=
  ∀ w, (eqGuard .eql t (.tmp 0) (.tmp 0) (.agg vs.toArray) (.agg us.toArray)).run P w = .ok () w ∧ (Op.equalIn 10000 t (.agg vs.toArray) (.agg us.toArray)).run P w = .ok r w
theorem ys_lenS {t t' e : TypeId} {x : Operand} {A : Option Addr} {m c : Nat} (h1 : SliceT P t e) (hx : Ev n b K x (.slice A m c)) : Yr P ⟨dst, .call ⟨.builtin .len, #[x], #[t]⟩, t', pos, aft, gd⟩ n K w0 L b (.int .i64 (m : Int)) := fun a w hb hkn _ => by
  simp [execOp, resolve, invoke, builtin, Builtin.len_, hx a hb hkn, run_underlying h1, goInt]
def lay (cs : List Value) : Nat → List Value → List Value
  | _, [] => cs
  | i, v :: vs => lay (cs.set i v) (i + 1) vs
def fillL (places : Nat → Option (Nat × Nat)) (zs : List Value) : List (Nat × Value) → Option (List Value)
  | [] => some zs
  | (i, v) :: rest => match places i with
    | none => none
    | some (off, size) => bif Nat.beq v.cells.toList.length size && Nat.ble (off + size) zs.length then fillL places (lay zs off v.cells.toList) rest else none
theorem foldl_lay : ∀ (vs : List Value) (off j : Nat) (zs : List Value), (vs.zipIdx j).foldl (fun cs (x : Value × Nat) => cs.setIfInBounds (off + x.2) x.1) zs.toArray = (lay zs (off + j) vs).toArray
  | [], off, j, zs => rfl
  | v :: vs, off, j, zs => by
    simp only [List.zipIdx_cons, List.foldl_cons, lay]
    rw [List.setIfInBounds_toArray, foldl_lay vs off (j + 1)]
    rfl
theorem fill_of : ∀ {places : Nat → Option (Nat × Nat)} {parts : List (Nat × Value)} {zs us : List Value}, fillL places zs parts = some us → Instr.fill places zs.toArray parts = some us.toArray
  | places, [], zs, us, h => by simp [fillL] at h; simp [Instr.fill, h]
  | places, (i, v) :: rest, zs, us, h => by
    unfold fillL at h
    unfold Instr.fill
    split at h
    · cases h
    · rename_i off size hp
      simp only [hp]
      cases hc : (Nat.beq v.cells.toList.length size && Nat.ble (off + size) zs.length) with
      | false => rw [hc] at h; simp at h
      | true =>
        rw [hc] at h
        simp only [cond_true] at h
        simp only [Bool.and_eq_true, Nat.ble_eq] at hc
        obtain ⟨h1, h2⟩ := hc
        have h1' : v.cells.size = size := by simpa using h1
        have h3 : (decide (v.cells.size ≠ size) || decide (off + v.cells.size > zs.toArray.size)) = false := by
          simp [h1']; omega
        have h4 : v.cells.zipIdx.foldl (fun cs (x : Value × Nat) => cs.setIfInBounds (off + x.2) x.1) zs.toArray = (lay zs off v.cells.toList).toArray := by
          have := foldl_lay v.cells.toList off 0 zs
          rw [← Array.foldl_toList, Array.toList_zipIdx]
          simpa using this
        rw [if_neg (by rw [h3]; simp)]
        have h5 := fill_of (places := places) (parts := rest) h
        rw [← h4] at h5
        exact h5
def BuildT (P : Program) (t : TypeId) (zs : List Value) (places : List (Nat × Nat)) : Prop :=
  (∃ z, (∀ w, (zeroValue t).run P w = .ok z w) ∧ z.cells = zs.toArray) ∧ ∃ fs, P.underlying t = some (.struct fs) ∧ ∀ w, (fs.mapM (fun f => do pure (f.offset, ← sizeOf f.type)) : Sem (Array (Nat × Nat))).run P w = .ok places.toArray w
theorem BuildT.run {t : TypeId} {zs : List Value} {places : List (Nat × Nat)} (h : BuildT P t zs places) {parts : List (Nat × Value)} {us : List Value} (hf : fillL (places[·]?) zs parts = some us) (w : World) : (Instr.build t parts.toArray).run P w = .ok (.agg us.toArray) w := by
  obtain ⟨⟨z, hz, hc⟩, fs, hu, hm⟩ := h
  have h1 : Instr.fill (fun x => places[x]?) zs.toArray parts = some us.toArray := fill_of hf
  simp only [Instr.build, Sem.run_bind, hz, Result.andThen_ok, run_underlying hu, hm, hc]
  simp [h1]
theorem ys_call {f : FuncId} {xs : List Operand} {ts : Array TypeId} {vs : List Value} {v : Value} (hf : ∀ args w, (callFunc f args).run P w = .ok (.enter f args) w) (hx : EvL n b K xs vs)
    (hc : b = true → ∀ w, Wd w0 L w → Calls P f vs.toArray w fun e w' => e = .returned v ∧ Bel w.heap.size w w') : Ys P ⟨dst, .call ⟨.value (.func f), xs.toArray, ts⟩, ty, pos, aft, gd⟩ n K w0 L b v := fun a w hb hkn hw => by
  have e : (xs.toArray.map a.eval) = vs.toArray := by rw [List.map_toArray, hx a hb hkn]
  have hrun : (execOp a.eval ⟨dst, .call ⟨.value (.func f), xs.toArray, ts⟩, ty, pos, aft, gd⟩).run P w = .ok (.enter f vs.toArray) w := by
    simp only [execOp, resolve, e]
    simp [Act.eval, Deferred.ofValue, invoke, hf]
  rw [hrun]
  exact ⟨rfl, (hc hb w hw).mono fun e w' ⟨he, hbl⟩ => ⟨he, hw.step hbl⟩⟩
end ops
section movers
variable {P : Program} {n : Nat} {w0 : World} {K : KL} {L : List Chunk} {ty : TypeId} {pos : String} {aft : Array Edge} {gd : Option (Nat × Bool)} {a : Act} {w : World} {Z : Act → World → Prop} {Q : Exit → Act → World → Prop} {d : Nat}
theorem run_wp {o : Oper} {v : Value} {w' : World} (hr : (execOp a.eval o).run P w = .ok (.value v) w') (h : Z (a.put o.dst v) w') : o.wp P a w Z Q := by
  unfold Oper.wp; rw [hr]; exact h
theorem op_box {t : TypeId} {x : Operand} {vs : List Value} (S : St n w0 K L a w) (hx : Ev n true K x (.agg vs.toArray)) (hd : Nat.blt d n = true)
    (next : ∀ g a w, St n w0 ((d, true, .pointer (some ⟨g, 0, none⟩)) :: K) (.blk g (.cells vs.toArray t) :: L) a w → Z a w) : Oper.wp P ⟨some d, .box t x, ty, pos, aft, gd⟩ a w Z Q := by
  refine run_wp (v := .pointer (some ⟨w.heap.size, 0, none⟩)) (w' := w.alloc (.cells vs.toArray t)) ?_ (next _ _ _ ⟨S.kn.put hd _, S.wd.alloc _⟩)
  simp [execOp, hx a rfl S.kn, Instr.box, newVar, newRow, Value.cells]
end movers
section ends
variable {P : Program} {n : Nat} {w0 : World} {K : KL} {L : List Chunk} {a : Act} {w : World} {fn : Func} {R : Ending → World → Prop} {t : Nat} {v : Value}
theorem st_ret (S : St n w0 K L a w) (hr : (results fn a.tmps).run P w = .ok v w) (h : R (.returned v) w) : bodyPost P fn R .ret a w := ⟨S.kn.defers, v, hr, h⟩
def res1 (tmps : Array Value) (r : ResultVar) : Sem Value := match r with
  | .tmp t => pure (tmps.getD t undef)
  | .cell a t => do loadVar t (← asAddr (tmps.getD a undef))
theorem results_eq (fn : Func) (tmps : Array Value) : results fn tmps = (do let vs ← fn.results.mapM (res1 tmps); pure (if h : vs.size = 1 then vs[0] else .tuple vs)) := rfl
def Rv (P : Program) (n : Nat) (w0 : World) (K : KL) (L : List Chunk) (r : ResultVar) (v : Value) : Prop :=
  ∀ a w, Kn n K a → Wd w0 L w → (res1 a.tmps r).run P w = .ok v w
theorem Rv.tmp (h : look K t = some (true, v)) : Rv P n w0 K L (.tmp t) v := fun a w hk _ => by
  simp [res1, hk.slot t true v h]
theorem Rv.cell {ty m : Nat} {g k : Nat} {cs : List Value} {e : TypeId} {fr : Nat × Nat} (h1 : Many P ty m) (h : look K t = some (true, .pointer (some ⟨g, 0, none⟩))) (hk : L[k]? = some (.blk g (.cells cs.toArray e fr))) (hm : cs.length = m) :
    Rv P n w0 K L (.cell t ty) (.agg cs.toArray) := fun a w hkn hw => by
  have hg := (hw.get hk).2
  have h2 := run_load_many (P := P) (ad := ⟨g, 0, none⟩) h1 hm (w := w) (fun j u hj => by
    rw [Addr.add_mid, cell_of_row w g (0 + j) _ e fr hg]; simpa using hj)
  simp [res1, hkn.slot t true _ h, asAddr, h2]
theorem results1 {fn : Func} {r : ResultVar} (S : St n w0 K L a w) (h : fn.results = #[r]) (hv : Rv P n w0 K L r v) : (results fn a.tmps).run P w = .ok v w := by
  have h1 := hv a w S.kn S.wd
  simp [results_eq, h, h1]
end ends
end Go.Ft
namespace Go.Ft
open Go.RowKit
theorem then_normal {K : Act → World → Prop} {Q : Exit → Act → World → Prop} {a : Act} {w : World} (h : K a w) : Exit.then K Q .normal a w := h
section exits
variable {K : Act → World → Prop} {Q : Exit → Act → World → Prop} {a : Act} {w : World} {i j : Nat}
theorem then_ret (h : Q .ret a w) : Exit.then K Q .ret a w := h
theorem then_exit (h : Q (.exit i) a w) : Exit.then K Q (.exit i) a w := h
theorem in_ret (h : Q .ret a w) : Exit.inBlock i Q .ret a w := h
theorem in_normal (h : Q .normal a w) : Exit.inBlock i Q .normal a w := h
theorem in_here (h : Q .normal a w) : Exit.inBlock i Q (.exit i) a w := by simp [Exit.inBlock, h]
end exits
def Sl {α : Type} (enc : α → List Value) (size : Nat) (w : World) (B : Nat) (v : Value) (l : List α) : Prop :=
  ∃ A cap, v = .slice A l.length cap ∧ l.length ≤ cap ∧ cap ≤ 9223372036854775807 ∧
    (0 < l.length → ∃ g o, A = some ⟨g, o, none⟩ ∧ g < B ∧ ∀ k x, l[k]? = some x → ∀ j u, (enc x)[j]? = some u → w.cell? ⟨g, o + k * size + j, none⟩ = some u)
section sl
variable {α : Type} {enc : α → List Value} {size : Nat} {w w' w0 : World} {B B' : Nat} {v : Value} {l : List α} {L : List Chunk}
theorem Sl.keep (h : Sl enc size w B v l) (hk : Below B w w') : Sl enc size w' B v l := by
  obtain ⟨A, cap, rfl, h1, h2, h3⟩ := h
  refine ⟨A, cap, rfl, h1, h2, fun hl => ?_⟩
  obtain ⟨g, o, hA, hg, hc⟩ := h3 hl
  exact ⟨g, o, hA, hg, fun k x hx j u hu => (hk.cell (p := ⟨g, o + k * size + j, none⟩) hg).trans (hc k x hx j u hu)⟩
theorem Sl.mono (h : Sl enc size w B v l) (hB : B ≤ B') : Sl enc size w B' v l := by
  obtain ⟨A, cap, rfl, h1, h2, h3⟩ := h
  refine ⟨A, cap, rfl, h1, h2, fun hl => ?_⟩
  obtain ⟨g, o, hA, hg, hc⟩ := h3 hl
  exact ⟨g, o, hA, by omega, hc⟩
end sl
end Go.Ft
set_option linter.unusedVariables false
set_option linter.unusedSimpArgs false
namespace Go.Ft
open Go.RowKit
def InfoT (P : Program) (e : TypeId) (z : Value) (size bytes : Nat) : Prop := (P.info? e).map (fun i => (i.zero, i.size, i.bytes)) = some (some z, size, bytes)
theorem InfoT.parts {P : Program} {e : TypeId} {z : Value} {size bytes : Nat} (h : InfoT P e z size bytes) : ∃ i, P.info? e = some i ∧ i.zero = some z ∧ i.size = size ∧ i.bytes = bytes := by
  unfold InfoT at h
  cases hi : P.info? e with
  | none => rw [hi] at h; simp at h
  | some i => rw [hi] at h; simp at h; exact ⟨i, rfl, h⟩
structure Src (P : Program) (w : World) (size : Nat) (x : Value) (m : Nat) (news : List Value) : Prop where
  len : ∀ W, (Builtin.lenOf x).run P W = .ok m W
  here : (Builtin.firstCells size m x).run P w = .ok news.toArray w
  drew : (Builtin.firstCells size m x).run P w.drew = .ok news.toArray w.drew
  length : news.length = m * size
  one : ∀ u ∈ news, u.oneCell' = true
section src
variable {P : Program} {w : World} {size m : Nat} {news : List Value}
theorem Src.at_ {g o c : Nat} (hl : news.length = m * size) (h1 : ∀ u ∈ news, u.oneCell' = true) (h : ∀ j u, news[j]? = some u → w.cell? ⟨g, o + j, none⟩ = some u) : Src P w size (.slice (some ⟨g, o, none⟩) m c) m news :=
  ⟨fun W => by simp [Builtin.lenOf],
   run_firstCells_some (P := P) w size m ⟨g, o, none⟩ m c news hl (fun j u hj => by rw [Addr.add_mid]; exact h j u hj),
   run_firstCells_some (P := P) w.drew size m ⟨g, o, none⟩ m c news hl (fun j u hj => by rw [Addr.add_mid]; exact h j u hj), hl, h1⟩
theorem Src.none_ {A : Option Addr} {c : Nat} : Src P w size (.slice A 0 c) 0 [] := by
  cases A with
  | none => exact ⟨fun W => by simp [Builtin.lenOf], by simp [Builtin.firstCells], by simp [Builtin.firstCells], by simp, by simp⟩
  | some a => exact ⟨fun W => by simp [Builtin.lenOf], by simp [Builtin.firstCells, loadCells, loadCellsFrom], by simp [Builtin.firstCells, loadCells, loadCellsFrom], by simp, by simp⟩
theorem Src.blk {L : List Chunk} {w0 : World} (hw : Wd w0 L w) {k g c : Nat} {e : TypeId} {fr : Nat × Nat} (hk : L[k]? = some (.blk g (.cells news.toArray e fr))) (hl : news.length = m * size) (h1 : ∀ u ∈ news, u.oneCell' = true) : Src P w size (.slice (some ⟨g, 0, none⟩) m c) m news :=
  Src.at_ hl h1 (fun j u hj => by rw [cell_of_row w g (0 + j) _ e fr (hw.get hk).2]; simpa using hj)
theorem Src.row {L : List Chunk} {w0 : World} (hw : Wd w0 L w) {k e cap c : Nat} {A : Option Addr} (hk : L[k]? = some (.row e size A m cap news)) (h1 : ∀ u ∈ news, u.oneCell' = true) : Src P w size (.slice A m c) m news := by
  have h := hw.get hk
  rcases h.2 with ⟨rfl, _⟩ | ⟨g, cur, rfl, _⟩
  · have : news = [] := List.eq_nil_of_length_eq_zero (by simpa using h.1)
    subst this
    exact Src.none_
  · exact Src.at_ h.1 h1 (fun j u hj => by rw [Nat.zero_add]; exact Owns.cell h hj)
theorem Src.sl {α : Type} {enc : α → List Value} {B : Nat} {A : Option Addr} {l : List α} {cap c : Nat} (h : Sl enc size w B (.slice A l.length cap) l) (hsz : 0 < size) (he : ∀ x, (enc x).length = size) (h1 : ∀ x, ∀ u ∈ enc x, u.oneCell' = true) :
    Src P w size (.slice A l.length c) l.length (l.flatMap enc) := by
  have hlen : ∀ l : List α, (l.flatMap enc).length = l.length * size := by
    intro l
    induction l with
    | nil => simp
    | cons x r ih => simp [he, ih, Nat.add_mul, Nat.add_comm]
  have hget : ∀ (l : List α) (j : Nat) (u : Value), (l.flatMap enc)[j]? = some u → ∃ x, l[j / size]? = some x ∧ (enc x)[j % size]? = some u := by
    intro l
    induction l with
    | nil => intro j u hj; simp at hj
    | cons x r ih =>
      intro j u hj
      rw [List.flatMap_cons, List.getElem?_append] at hj
      split at hj
      · rename_i hlt
        rw [he] at hlt
        exact ⟨x, by simp [Nat.div_eq_of_lt hlt], by rw [Nat.mod_eq_of_lt hlt]; exact hj⟩
      · rename_i hge
        rw [he] at hge hj
        obtain ⟨y, h2, h3⟩ := ih _ _ hj
        have hge' : size ≤ j := by omega
        refine ⟨y, ?_, ?_⟩
        · rw [show j / size = (j - size) / size + 1 from Nat.div_eq_sub_div hsz hge']
          simpa using h2
        · rw [Nat.mod_eq_sub_mod hge']; exact h3
  obtain ⟨A', cap', hv, h2, h3, h4⟩ := h
  simp only [Value.slice.injEq] at hv
  obtain ⟨rfl, _, rfl⟩ := hv
  rcases Nat.eq_zero_or_pos l.length with h0 | hp
  · have : l = [] := List.eq_nil_of_length_eq_zero h0
    subst this
    exact Src.none_
  · obtain ⟨g, o, rfl, hg, hc⟩ := h4 hp
    refine Src.at_ (hlen l) (fun u hu => ?_) (fun j u hj => ?_)
    · obtain ⟨x, _, hx⟩ := List.mem_flatMap.1 hu
      exact h1 x u hx
    · obtain ⟨x, h5, h6⟩ := hget l j u hj
      have := hc _ x h5 _ u h6
      rw [show o + j = o + j / size * size + j % size by rw [Nat.add_assoc, Nat.mul_comm, Nat.div_add_mod]]
      exact this
end src
section app
variable {P : Program} {w : World}
end app
end Go.Ft
set_option linter.unusedVariables false
set_option linter.unusedSimpArgs false
namespace Go.Ft
open Go.RowKit
abbrev rowOf {α : Type} (e size : Nat) (enc : α → List Value) (A : Option Addr) (cap : Nat) (l : List α) : Chunk := .row e size A l.length cap (l.flatMap enc)
theorem Sl.of_own {α : Type} {enc : α → List Value} {size e cap k : Nat} {w w0 : World} {L : List Chunk} {A : Option Addr} {l : List α} (W : Wd w0 L w) (hk : L[k]? = some (rowOf e size enc A cap l)) (he : ∀ x, (enc x).length = size) : Sl enc size w w.heap.size (.slice A l.length cap) l := by
  have h := W.get hk
  rcases h.2 with ⟨h0, rfl⟩ | ⟨g, cur, rfl, hp, hB, hg, hn, hm, hc, ht⟩
  · exact ⟨A, 0, rfl, by omega, by omega, fun hl => by omega⟩
  · refine ⟨_, cap, rfl, hn, hm, fun _ => ⟨g, 0, rfl, (Array.getElem?_eq_some_iff.1 hg).1, fun i x hx j u hu => ?_⟩⟩
    rw [Nat.zero_add]
    refine Owns.cell h ?_
    have key : ∀ (l : List α) (i : Nat), l[i]? = some x → (l.flatMap enc)[i * size + j]? = some u := by
      intro l
      induction l with
      | nil => intro i hi; simp at hi
      | cons y r ih =>
        intro i hi
        rw [List.flatMap_cons]
        match i, hi with
        | 0, hi =>
          simp only [List.getElem?_cons_zero, Option.some.injEq] at hi
          subst hi
          have hlt : j < (enc y).length := (List.getElem?_eq_some_iff.1 hu).1
          rw [Nat.zero_mul, Nat.zero_add, List.getElem?_append_left hlt]; exact hu
        | i + 1, hi =>
          rw [List.getElem?_append_right (by rw [he, Nat.add_mul]; omega), he, show (i + 1) * size + j - size = i * size + j by rw [Nat.add_mul]; omega]
          exact ih i (by simpa using hi)
    exact key l i hx
section ldw
variable {P : Program} {n : Nat} {w0 : World} {K : KL} {L : List Chunk} {b : Bool} {dst : Option Tmp} {ty : TypeId} {pos : String} {aft : Array Edge} {gd : Option (Nat × Bool)}
end ldw
section movers
variable {P : Program} {n : Nat} {w0 : World} {K : KL} {L : List Chunk} {ty : TypeId} {pos : String} {aft : Array Edge} {gd : Option (Nat × Bool)} {a : Act} {w : World} {Z : Act → World → Prop} {Q : Exit → Act → World → Prop} {d : Nat}
theorem op_bslice {t e sz len : Nat} {z : Value} {ps : List (Nat × Operand)} {vs us : List Value} (zs : List Value) (S : St n w0 K L a w) (ht : P.underlying t = some (.slice e)) (hsz : ∀ w, (sizeOf e).run P w = .ok sz w) (hz : ∀ w, (zeroValue e).run P w = .ok z w)
    (hzs : (Array.range (len * sz)).map (fun i => (if len * sz = 0 then #[] else z.cells)[i % (if len * sz = 0 then (#[] : Array Value) else z.cells).size]!) = zs.toArray) (hmax : Nat.ble (len * sz) 16777216 = true)
    (hx : EvL n true K (ps.map (·.2)) vs) (hr : fillL (fun i => some (i * sz, sz)) zs ((ps.map (·.1)).zip vs) = some us) (hd : Nat.blt d n = true)
    (next : ∀ g a w, St n w0 ((d, true, .slice (some ⟨g, 0, none⟩) len len) :: K) (.blk g (.cells us.toArray e) :: L) a w → Z a w) :
    Oper.wp P ⟨some d, .buildSlice t len ps.toArray, ty, pos, aft, gd⟩ a w Z Q := by
  refine run_wp (v := .slice (some ⟨w.heap.size, 0, none⟩) len len) (w' := w.alloc (.cells us.toArray e)) ?_ (next _ _ _ ⟨S.kn.put hd _, S.wd.alloc _⟩)
  have h := hx a rfl S.kn
  have e : (ps.toArray.map fun (i, x) => (i, a.eval x)) = ((ps.map (·.1)).zip vs).toArray := by
    rw [← h]
    simp only [List.map_toArray, List.map_map, List.zip_map', Function.comp_def]
  have hf := fill_of hr
  have hm : ¬ (2 ^ 24 < len * sz) := by have := Nat.le_of_ble_eq_true hmax; omega
  simp only [execOp, e, Instr.buildSlice, Sem.run_bind, run_underlying ht, Result.andThen_ok, hsz]
  by_cases h0 : len * sz = 0
  · simp only [h0, if_true, Array.range_zero', List.map_toArray, List.map_nil] at hzs
    have hz0 : zs = [] := by simpa using hzs.symm
    subst hz0
    simp [hm, h0, hf, newRow, Array.range_zero']
  · simp only [h0, if_false] at hzs
    simp [hm, h0, hz, hzs, hf, newRow]
end movers
section ops
variable {P : Program} {n : Nat} {w0 : World} {K : KL} {L : List Chunk} {b : Bool} {dst : Option Tmp} {ty : TypeId} {pos : String} {aft : Array Edge} {gd : Option (Nat × Bool)}
end ops
section eq
variable {P : Program}
def FEq (P : Program) (k : Nat) (xs ys : List Value) (fs : List Field) (r : Bool) : Prop := ∀ d w, (Op.eqFields (d + k) xs.toArray ys.toArray fs).run P w = .ok r w
section fields
variable {xs ys : List Value} {nm : String} {tt o : Nat} {em : Bool} {tg pp : String} {bo : Nat} {fs : List Field} {r : Bool} {k : Nat}
theorem FEq.nil : FEq P k xs ys [] true := fun d w => by simp [Op.eqFields]
theorem FEq.int {ik ik' : IntKind} {p q : Int} (hn : (nm != "_") = true) (ht : P.underlying tt = some (.int ik')) (ha : ∀ w, (isAgg tt).run P w = .ok false w) (hx : nth xs o = some (.int ik p)) (hy : nth ys o = some (.int ik q)) (h : FEq P (k + 1) xs ys fs r) :
    FEq P (k + 1) xs ys (⟨nm, tt, o, em, tg, pp, bo⟩ :: fs) (decide (p = q) && r) := fun d w => by
  have hn' : nm ≠ "_" := by simpa using hn
  rw [nth_eq] at hx hy
  have hpq : (p == q) = decide (p = q) := rfl
  have hh := run_equalIn_int (P := P) w (d + k) tt ik ik' p q ht
  rw [Nat.add_assoc] at hh
  simp only [Op.eqFields, ne_eq, hn', not_false_eq_true, if_true, Sem.run_bind, part, ha, Result.andThen_ok]
  simp [hx, hy, hh, hpq]
  by_cases e : p = q <;> simp [e, h d w]
theorem FEq.bool {p q : Bool} (hn : (nm != "_") = true) (ht : P.underlying tt = some .bool) (ha : ∀ w, (isAgg tt).run P w = .ok false w) (hx : nth xs o = some (.bool p)) (hy : nth ys o = some (.bool q)) (h : FEq P (k + 1) xs ys fs r) :
    FEq P (k + 1) xs ys (⟨nm, tt, o, em, tg, pp, bo⟩ :: fs) (decide (p = q) && r) := fun d w => by
  have hn' : nm ≠ "_" := by simpa using hn
  rw [nth_eq] at hx hy
  have hpq : (p == q) = decide (p = q) := by cases p <;> cases q <;> rfl
  have hh := run_equalIn_bool' (P := P) w (d + k) tt p q ht
  rw [Nat.add_assoc] at hh
  simp only [Op.eqFields, ne_eq, hn', not_false_eq_true, if_true, Sem.run_bind, part, ha, Result.andThen_ok]
  simp [hx, hy, hh, hpq]
  by_cases e : p = q <;> simp [e, h d w]
theorem FEq.agg {fs' : List Field} {m : Nat} {us vs : List Value} {r' : Bool} (hn : (nm != "_") = true) (ht : P.underlying tt = some (.struct fs'.toArray)) (hp : P.stoodInHeld tt = false) (ha : ∀ w, (isAgg tt).run P w = .ok true w) (hz : ∀ w, (sizeOf tt).run P w = .ok m w) (hx : cellsAt xs o m = some us) (hy : cellsAt ys o m = some vs)
    (h' : FEq P k us vs fs' r') (h : FEq P (k + 1) xs ys fs r) : FEq P (k + 1) xs ys (⟨nm, tt, o, em, tg, pp, bo⟩ :: fs) (r' && r) := fun d w => by
  have hn' : nm ≠ "_" := by simpa using hn
  have e1 : xs.toArray.extract o (o + m) = us.toArray := by
    rw [(cellsAt_eq hx).2]; simp [List.extract_eq_take_drop, List.extract_toArray]
  have e2 : ys.toArray.extract o (o + m) = vs.toArray := by
    rw [(cellsAt_eq hy).2]; simp [List.extract_eq_take_drop, List.extract_toArray]
  have hh := run_equalIn_struct (P := P) w (d + k) tt us.toArray vs.toArray (by simp [Program.fieldsOf, ht]) hp
  rw [Nat.add_assoc] at hh
  have hf := h' d w
  simp only [Op.eqFields, ne_eq, hn', not_false_eq_true, if_true, Sem.run_bind, part, ha, hz, Result.andThen_ok, Sem.run_pure, e1, e2, hh, Program.fieldsOf, ht, hf]
  cases r' <;> simp [h d w]
end fields
theorem EqT.mk {t k d : Nat} {fs : List Field} {xs ys : List Value} {r r' : Bool} (hu : P.underlying t = some (.struct fs.toArray)) (hs : P.stoodInHeld t = false) (hg : P.eqGuardType P.depth t = false) (hk : d + k = 9999) (h : FEq P k xs ys fs r) (hr : r = r') : EqT P t xs ys r' := fun w => by
  subst hr
  refine ⟨by simp [eqGuard, hg], ?_⟩
  rw [run_equalIn_struct w 9999 t _ _ (by simp [Program.fieldsOf, hu]) hs]
  simp only [Program.fieldsOf, hu]
  rw [← hk]
  exact h d w
end eq
end Go.Ft
set_option linter.unusedVariables false
set_option linter.unusedSimpArgs false
namespace Go.Ft
open Go.RowKit
section ops
variable {P : Program} {n : Nat} {w0 : World} {K : KL} {L : List Chunk} {b : Bool} {dst : Option Tmp} {ty : TypeId} {pos : String} {aft : Array Edge} {gd : Option (Nat × Bool)}
theorem ys_T {o : Oper} {p : Prop} [Decidable p] (h : p) (hy : Yr P o n K w0 L b (.bool (decide p))) : Yr P o n K w0 L b (.bool true) := Yr.of_imp (fun _ => by rw [decide_eq_true h]) hy
theorem ys_F {o : Oper} {p : Prop} [Decidable p] (h : ¬ p) (hy : Yr P o n K w0 L b (.bool (decide p))) : Yr P o n K w0 L b (.bool false) := Yr.of_imp (fun _ => by rw [decide_eq_false h]) hy
end ops
section known
variable {P : Program} {Q : Exit → Act → World → Prop} {n : Nat} {w0 : World} {K : KL} {L Lr : List Chunk} {a : Act} {w : World} {ops : Array Oper} {rest : List Oper} {op : Op} {ty : TypeId} {pos : String} {aft : Array Edge} {v : Value} {d t j i fuel : Nat} {p q : Bool} {listed : Array Bool} {md : Region.Mode} {Z : Act → Prop}
end known
end Go.Ft
set_option linter.unusedVariables false
set_option linter.unusedSimpArgs false
namespace Go.Ft
open Go.RowKit
abbrev bs (l : List UInt8) : ByteArray := ⟨l.toArray⟩
section ops
variable {P : Program} {n : Nat} {w0 : World} {K : KL} {L : List Chunk} {b : Bool} {dst : Option Tmp} {ty : TypeId} {pos : String} {aft : Array Edge} {gd : Option (Nat × Bool)}
end ops
section
variable {P : Program} {n : Nat} {w0 : World} {K : KL} {L : List Chunk} {ty : TypeId} {pos : String} {aft : Array Edge} {gd : Option (Nat × Bool)} {a : Act} {w : World} {Z : Act → World → Prop} {Q : Exit → Act → World → Prop} {d : Nat}
end
theorem Sl.first {P : Program} {w : World} {α : Type} {enc : α → List Value} {size B : Nat} {A : Option Addr} {l : List α} {cap : Nat} (h : Sl enc size w B (.slice A l.length cap) l) (m : Nat) (hm : m ≤ l.length) (hsz : 0 < size) (he : ∀ x, (enc x).length = size) :
    (Builtin.firstCells size m (.slice A l.length cap)).run P w = .ok ((l.take m).flatMap enc).toArray w := by
  have hflen : ∀ l : List α, (l.flatMap enc).length = l.length * size := by
    intro l
    induction l with
    | nil => simp
    | cons x r ih => simp [he, ih, Nat.add_mul, Nat.add_comm]
  obtain ⟨A', cap', hv, h2, h3, h4⟩ := h
  simp only [Value.slice.injEq, true_and] at hv
  obtain ⟨rfl, rfl⟩ := hv
  rcases Nat.eq_zero_or_pos l.length with h0 | hp
  · have : l = [] := List.eq_nil_of_length_eq_zero h0
    subst this
    have : m = 0 := by simpa using hm
    subst this
    cases A <;> simp [Builtin.firstCells, loadCells, loadCellsFrom]
  · obtain ⟨g, o, rfl, hg, hc⟩ := h4 hp
    have hs := Src.sl (P := P) (w := w) (enc := enc) (size := size) (B := B) (c := cap) (l := l.take m) (A := some ⟨g, o, none⟩) (cap := cap) ⟨_, _, rfl, by simp; omega, h3, fun _ => ⟨g, o, rfl, hg, fun k x hx => hc k x (by
      rw [List.getElem?_take] at hx
      split at hx
      · exact hx
      · cases hx)⟩⟩ hsz he
    have hlen : (l.take m).length = m := by simp; omega
    have e2 : (some (⟨g, o, none⟩ : Addr)) = some ⟨g, o, none⟩ := rfl
    refine run_firstCells_some (P := P) w size m ⟨g, o, none⟩ l.length cap _ (by rw [hflen, hlen]) (fun j u hj => ?_)
    rw [Addr.add_mid]
    have hget : ∀ (l : List α) (j : Nat) (u : Value), (l.flatMap enc)[j]? = some u → ∃ x, l[j / size]? = some x ∧ (enc x)[j % size]? = some u := by
      intro l
      induction l with
      | nil => intro j u hj; simp at hj
      | cons x r ih =>
        intro j u hj
        rw [List.flatMap_cons, List.getElem?_append] at hj
        split at hj
        · rename_i hlt
          rw [he] at hlt
          exact ⟨x, by simp [Nat.div_eq_of_lt hlt], by rw [Nat.mod_eq_of_lt hlt]; exact hj⟩
        · rename_i hge
          rw [he] at hge hj
          obtain ⟨y, h2, h3⟩ := ih _ _ hj
          have hge' : size ≤ j := by omega
          refine ⟨y, ?_, ?_⟩
          · rw [show j / size = (j - size) / size + 1 from Nat.div_eq_sub_div hsz hge']
            simpa using h2
          · rw [Nat.mod_eq_sub_mod hge']; exact h3
    obtain ⟨x, h5, h6⟩ := hget _ j u hj
    rw [List.getElem?_take] at h5
    split at h5
    · have := hc _ x h5 _ u h6
      rw [show o + j = o + j / size * size + j % size by rw [Nat.add_assoc, Nat.mul_comm, Nat.div_add_mod]]
      exact this
    · cases h5
section
variable {P : Program} {n : Nat} {w0 : World} {K : KL} {L : List Chunk} {ty : TypeId} {pos : String} {aft : Array Edge} {gd : Option (Nat × Bool)} {a : Act} {w : World} {Z : Act → World → Prop} {Q : Exit → Act → World → Prop} {d : Nat}
end
section
variable {P : Program} {n : Nat} {w0 : World} {K : KL} {L : List Chunk} {ty : TypeId} {pos : String} {aft : Array Edge} {gd : Option (Nat × Bool)} {a : Act} {w : World} {Z : Act → World → Prop} {Q : Exit → Act → World → Prop} {d : Nat}
end
section
variable {P : Program} {Q : Exit → Act → World → Prop} {J : Act → World → Prop} {l i : Nat} {a : Act} {w : World}
theorem st_rounds {c : Code} (n : Nat) (h : Code.rounds P c Q n a w) : (Code.loop c).wp P Q a w := wp_loop_rounds n h
theorem st_round {c : Code} {n : Nat} (h : c.wp P (Exit.then (fun a w => Code.rounds P c Q n a w) Q) a w) : Code.rounds P c Q (n + 1) a w := h
end
section ops
variable {P : Program} {n : Nat} {w0 : World} {K : KL} {L : List Chunk} {b : Bool} {dst : Option Tmp} {ty : TypeId} {pos : String} {aft : Array Edge} {gd : Option (Nat × Bool)}
end ops
end Go.Ft
set_option linter.unusedVariables false
set_option linter.unusedSimpArgs false
namespace Go.Ft
open Go.RowKit
theorem flat_len {α : Type} {enc : α → List Value} {size : Nat} (he : ∀ x, (enc x).length = size) (l : List α) : (l.flatMap enc).length = l.length * size := by
  induction l with
  | nil => simp
  | cons x r ih => simp [he, ih, Nat.add_mul, Nat.add_comm]
theorem flat_get {α : Type} {enc : α → List Value} {size : Nat} (he : ∀ x, (enc x).length = size) (hs : 0 < size) : ∀ (l : List α) (j : Nat) (x : α), l[j / size]? = some x → (l.flatMap enc)[j]? = (enc x)[j % size]?
  | [], j, x, h => by simp at h
  | y :: r, j, x, h => by
    rw [List.flatMap_cons, List.getElem?_append, he]
    split
    · rename_i hlt
      rw [Nat.div_eq_of_lt hlt] at h
      simp at h
      subst h
      rw [Nat.mod_eq_of_lt hlt]
    · rename_i hge
      have hge' : size ≤ j := by omega
      rw [show j / size = (j - size) / size + 1 from Nat.div_eq_sub_div hs hge'] at h
      rw [Nat.mod_eq_sub_mod hge']
      exact flat_get he hs r (j - size) x (by simpa using h)
section
variable {w0 w w' : World} {L : List Chunk}
end
end Go.Ft
set_option linter.unusedVariables false
set_option linter.unusedSimpArgs false
namespace Go.Ft
open Go.RowKit
section ops
variable {P : Program} {n : Nat} {w0 : World} {K : KL} {L : List Chunk} {b : Bool} {dst : Option Tmp} {ty : TypeId} {pos : String} {aft : Array Edge} {gd : Option (Nat × Bool)}
end ops
section
variable {n : Nat} {w0 : World} {K : KL} {L : List Chunk} {a : Act} {w : World} {c : Chunk}
end
theorem Wd.cell {w0 w : World} {L : List Chunk} (W : Wd w0 L w) {k g i : Nat} {cs : List Value} {e : TypeId} {fr : Nat × Nat} {v : Value} (hk : L[k]? = some (.blk g (.cells cs.toArray e fr))) (hc : nth cs i = some v) : w.cell? ⟨g, i, none⟩ = some v := by
  rw [cell_of_row w g i _ e fr (W.get hk).2]
  rw [nth_eq] at hc
  simpa using hc
section split
variable {P : Program} {Q : Exit → Act → World → Prop} {n : Nat} {w0 : World} {K : KL} {L Lr : List Chunk} {a : Act} {w : World} {ops : Array Oper} {fuel : Nat} {listed : Array Bool} {md : Region.Mode}
end split
def zrep (len : Nat) (z : Value) : List Value := (List.replicate len ()).flatMap fun _ => z.cells.toList
theorem zrep_eq {z : Value} {sz : Nat} (len : Nat) (hz : z.cells.size = sz) : (Array.range (len * sz)).map (fun i => (if len * sz = 0 then #[] else z.cells)[i % (if len * sz = 0 then (#[] : Array Value) else z.cells).size]!) = (zrep len z).toArray := by
  have hl : (zrep len z).length = len * sz := by
    unfold zrep
    rw [flat_len (size := sz) (fun _ => by simpa using hz)]; simp
  apply Array.ext
  · simp [hl]
  · intro i h1 h2
    have hi : i < len * sz := by simpa using h1
    have hs : 0 < sz := by rcases Nat.eq_zero_or_pos sz with h | h; rw [h] at hi; simp at hi; exact h
    have hx : (List.replicate len ())[i / sz]? = some () := by
      rw [List.getElem?_replicate, if_pos ((Nat.div_lt_iff_lt_mul hs).2 hi)]
    have h3 := flat_get (enc := fun (_ : Unit) => z.cells.toList) (size := sz) (fun _ => by simpa using hz) hs (List.replicate len ()) i () hx
    have h4 : i % sz < z.cells.size := by rw [hz]; exact Nat.mod_lt _ hs
    rw [Array.getElem_map, Array.getElem_range, if_neg (by omega), hz, getElem!_pos z.cells _ h4]
    have h5 : (zrep len z)[i]? = some z.cells[i % sz] := by
      unfold zrep
      rw [h3, Array.getElem?_toList, Array.getElem?_eq_getElem h4]
    rw [List.getElem_toArray]
    exact (Option.some.inj ((List.getElem?_eq_getElem (by rw [hl]; exact hi)).symm.trans h5)).symm
section
variable {P : Program} {n : Nat} {w0 : World} {K : KL} {L : List Chunk} {ty : TypeId} {pos : String} {aft : Array Edge} {gd : Option (Nat × Bool)} {a : Act} {w : World} {Z : Act → World → Prop} {Q : Exit → Act → World → Prop} {d : Nat}
theorem op_bsliceZ {t e sz len : Nat} {z : Value} {ps : List (Nat × Operand)} {vs us : List Value} (S : St n w0 K L a w) (ht : P.underlying t = some (.slice e)) (hsz : ∀ w, (sizeOf e).run P w = .ok sz w) (hz : ∀ w, (zeroValue e).run P w = .ok z w)
    (hzc : z.cells.size = sz) (hmax : Nat.ble (len * sz) 16777216 = true) (hx : EvL n true K (ps.map (·.2)) vs) (hr : fillL (fun i => some (i * sz, sz)) (zrep len z) ((ps.map (·.1)).zip vs) = some us) (hd : Nat.blt d n = true)
    (next : ∀ g a w, St n w0 ((d, true, .slice (some ⟨g, 0, none⟩) len len) :: K) (.blk g (.cells us.toArray e) :: L) a w → Z a w) :
    Oper.wp P ⟨some d, .buildSlice t len ps.toArray, ty, pos, aft, gd⟩ a w Z Q := op_bslice (zrep len z) S ht hsz hz (zrep_eq len hzc) hmax hx hr hd next
end
end Go.Ft
set_option linter.unusedVariables false
set_option linter.unusedSimpArgs false
namespace Go.Ft
open Go.Proofs Go.RowKit
section
variable {P : Program} {n : Nat} {w0 : World} {K : KL} {L : List Chunk} {ty : TypeId} {pos : String} {aft : Array Edge} {gd : Option (Nat × Bool)} {a : Act} {w : World} {Z : Act → World → Prop} {Q : Exit → Act → World → Prop} {d : Nat} {dst : Option Tmp} {b : Bool}
variable {K' : Act → World → Prop} {i : Nat} {ps : List PanicEntry}
end
section
variable {P : Program} {f : FuncId} {fn : Func} {c : Code} {R : Ending → World → Prop} {w0 w : World} {L : List Chunk} {v0 v1 v2 v3 v4 v5 v6 v7 v8 : Value}
end
theorem Sl.sub {w : World} {α : Type} {enc : α → List Value} {size B : Nat} {A : Option Addr} {l : List α} {cap : Nat} (h : Sl enc size w B (.slice A l.length cap) l) (lo hi : Nat) (hlo : lo ≤ hi) (hhi : hi ≤ l.length) :
    Sl enc size w B (.slice (if cap = lo then A else A.map (·.add (lo * size))) (hi - lo) (cap - lo)) ((l.drop lo).take (hi - lo)) := by
  obtain ⟨A', cap', hv, h2, h3, h4⟩ := h
  simp only [Value.slice.injEq, true_and] at hv
  obtain ⟨rfl, rfl⟩ := hv
  have hl : ((l.drop lo).take (hi - lo)).length = hi - lo := by simp; omega
  refine ⟨if cap = lo then A else A.map (·.add (lo * size)), cap - lo, by rw [hl], by rw [hl]; omega, by omega, fun hp => ?_⟩
  rw [hl] at hp
  obtain ⟨g, o, rfl, hg, hc⟩ := h4 (by omega)
  rw [if_neg (by omega)]
  refine ⟨g, o + lo * size, by simp [Addr.add_mid], hg, fun k x hx j u hu => ?_⟩
  rw [List.getElem?_take] at hx
  split at hx
  · rw [List.getElem?_drop] at hx
    have := hc _ x hx j u hu
    rw [Nat.add_mul] at this
    rw [show o + lo * size + k * size + j = o + (lo * size + k * size) + j by omega]
    exact this
  · cases hx
theorem Src.subS {P : Program} {w : World} {α : Type} {enc : α → List Value} {size B : Nat} {A : Option Addr} {l : List α} {cap lo hi c : Nat} (h : Sl enc size w B (.slice A l.length cap) l) (hsz : 0 < size) (he : ∀ x, (enc x).length = size) (h1 : ∀ x, ∀ u ∈ enc x, u.oneCell' = true) (hlo : lo ≤ hi) (hhi : hi ≤ l.length) :
    Src P w size (.slice (if cap = lo then A else A.map (·.add (lo * size))) (hi - lo) c) ((l.drop lo).take (hi - lo)).length (((l.drop lo).take (hi - lo)).flatMap enc) := by
  have hl : ((l.drop lo).take (hi - lo)).length = hi - lo := by simp; omega
  have h' : Sl enc size w B (.slice (if cap = lo then A else A.map (·.add (lo * size))) ((l.drop lo).take (hi - lo)).length (cap - lo)) ((l.drop lo).take (hi - lo)) := by rw [hl]; exact h.sub lo hi hlo hhi
  have := Src.sl (P := P) (c := c) h' hsz he h1
  rw [hl] at this
  rw [hl]
  exact this
theorem Src.sub {P : Program} {α : Type} {enc : α → List Value} {size e cap k lo hi c : Nat} {w w0 : World} {L : List Chunk} {A : Option Addr} {l : List α} (W : Wd w0 L w) (hk : L[k]? = some (rowOf e size enc A cap l)) (hsz : 0 < size) (he : ∀ x, (enc x).length = size) (h1 : ∀ x, ∀ u ∈ enc x, u.oneCell' = true) (hlo : lo ≤ hi) (hhi : hi ≤ l.length) :
    Src P w size (.slice (if cap = lo then A else A.map (·.add (lo * size))) (hi - lo) c) ((l.drop lo).take (hi - lo)).length (((l.drop lo).take (hi - lo)).flatMap enc) :=
  Src.subS (Sl.of_own W hk he) hsz he h1 hlo hhi
end Go.Ft
