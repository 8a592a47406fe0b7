/- Contracts and laws that the statement Pln leans on, part 5. -/
import Derived.Test.YtcglchdbddlnjaaPlnK4
import Derived.Laws.OwnMore
import Derived.Laws.MakeOwn
set_option linter.unusedVariables false
set_option linter.unusedSimpArgs false
set_option maxRecDepth 100000
set_option maxHeartbeats 4000000
namespace Go.Fw
theorem turnedTo_next (a b : Rng) (n : Int) (k : Nat) : turnedTo a b n (k + 1) = turnedTo a b n k ++ if decide (n ∈ ownersR a k) && !decide (n ∈ ownersR b k) then [(k : Int)] else [] := by
  unfold turnedTo
  rw [List.range_succ, List.filter_append, List.map_append]
  congr 1
  cases h : decide (n ∈ ownersR a k) && !decide (n ∈ ownersR b k) <;> simp only [List.filter_cons, h, List.filter_nil] <;> rfl
theorem turnedTo_len (a b : Rng) (n : Int) (k : Nat) : (turnedTo a b n k).length ≤ k := by
  unfold turnedTo
  rw [List.length_map]
  have := List.length_filter_le (fun p : Nat => decide (n ∈ ownersR a p) && !decide (n ∈ ownersR b p)) (List.range k)
  simpa using this
end Go.Fw
namespace Go.Proofs.Ytcglchdbddlnjaa
open Go.Fw Go.Proofs Go.RowKit
theorem c80 (w0 : World) (p c s : Int) (v : Value) (l : List Mbr) (h : Sl Mbr.enc 4 w0 w0.heap.size v l) (hn : l.length ≤ 4194304) (p' c' s' : Int) (v' : Value) (l' : List Mbr) (h' : Sl Mbr.enc 4 w0 w0.heap.size v' l') (hn' : l'.length ≤ 4194304) (n : Int) :
    Rets Try.prog 80 #[.agg #[.int .i64 p, .int .i64 c, .int .i64 s, v], .agg #[.int .i64 p', .int .i64 c', .int .i64 s', v'], .int .i64 n] w0 fun u L => ∃ A cp, u = .tuple #[.slice A (turnedR ⟨p, c, s, l⟩ ⟨p', c', s', l'⟩ n).1.length cp, .int .i64 (turnedR ⟨p, c, s, l⟩ ⟨p', c', s', l'⟩ n).2] ∧ L = [rowOf 3 1 encI A cp (turnedR ⟨p, c, s, l⟩ ⟨p', c', s', l'⟩ n).1] := by
  by_cases hb : n < 0 ∨ 8 ≤ n
  · have rw_b : (decide (n < 0) || decide (8 ≤ n)) = true := by rw [Bool.or_eq_true, decide_eq_true_eq, decide_eq_true_eq]; exact hb
    have e : turnedR ⟨p, c, s, l⟩ ⟨p', c', s', l'⟩ n = ([], 1) := if_pos hb
    unfold Go.Fw.Rets
    refine enter3 Try.func80 rfl Try.ntmps80 rfl fun a S => ?_
    refine wp_seq_k fun _ hK1 => ?_
    refine wp_region_lit ?_
    (refine st_m (op_box S (Ev.t rfl) rfl ?_); clear S a; intro g1 a w S)
    (refine st_m (op_box S (Ev.t rfl) rfl ?_); clear S a w; intro g2 a w S)
    (refine st_y S (Yr.ys (ys_assign Ev.c)) rfl ?_; clear S a w; intro a w S)
    (refine st_y S (Yr.ys (ys_assign Ev.c)) rfl ?_; clear S a w; intro a w S)
    refine st_nil ?_
    (refine (then_normal (hK1 _ _ ?_)); clear hK1)
    refine wp_seq_k fun _ hK1 => ?_
    refine wp_seq_k fun _ hK2 => ?_
    refine wp_region_lit ?_
    (refine st_y S (Yr.ys (ys_move (Ev.t rfl))) rfl ?_; clear S a w; intro a w S)
    (refine st_y S (Yr.ys (ys_lss (Ev.t rfl) Ev.c)) rfl ?_; clear S a w; intro a w S)
    (refine st_y S (Yr.ys (ys_move (Ev.t rfl))) rfl ?_; clear S a w; intro a w S)
    (refine st_yf S rfl rfl (Yr.ys (ys_move (Ev.t rfl))) rfl ?_; clear S a w; intro a w S)
    (refine st_yf S rfl rfl (Yr.ys (ys_geq (Ev.g rfl) Ev.c)) rfl ?_; clear S a w; intro a w S)
    (refine st_y S (Yr.ys (ys_or (Ev.t rfl) Ev.c (Ev.g rfl))) rfl ?_; clear S a w; intro a w S)
    rw [rw_b] at S
    refine st_nil ?_
    (refine (then_normal (hK2 _ _ ?_)); clear hK2)
    refine st_then S (Ev.t rfl) ?_
    refine wp_seq_k fun _ hK2 => ?_
    refine wp_region_lit ?_
    (refine st_y S (Yr.ys (ys_assign Ev.c)) rfl ?_; clear S a w; intro a w S)
    (refine st_y S (Yr.ys (ys_assign Ev.c)) rfl ?_; clear S a w; intro a w S)
    refine st_nil ?_
    (refine (then_normal (hK2 _ _ ?_)); clear hK2)
    refine wp_ret ?_
    refine (then_ret ?_)
    refine st_ret S (results2 S Try.results80 (Rv.tmp rfl) (Rv.tmp rfl)) ?_
    exact ⟨_, [rowOf 3 1 encI none 0 []], rfl, (S.nil_ 3 1 encI none).wd.picks (by repeat (first | exact Picks.nil | (refine Picks.rest ?_; (repeat (first | exact List.Sublist.refl _ | refine List.Sublist.cons_cons _ ?_ | refine List.Sublist.cons _ ?_)); done) | refine Picks.take 0 rfl ?_ | refine Picks.take 1 rfl ?_ | refine Picks.take 2 rfl ?_ | refine Picks.take 3 rfl ?_ | refine Picks.take 4 rfl ?_ | refine Picks.take 5 rfl ?_ | refine Picks.take 6 rfl ?_ | refine Picks.take 7 rfl ?_ | refine Picks.take 8 rfl ?_ | refine Picks.take 9 rfl ?_ | refine Picks.take 10 rfl ?_ | refine Picks.take 11 rfl ?_)), by rw [e]; exact ⟨none, 0, rfl, rfl⟩⟩
  have rw_b : (decide (n < 0) || decide (8 ≤ n)) = false := by rw [Bool.or_eq_false_iff, decide_eq_false_iff_not, decide_eq_false_iff_not]; omega
  by_cases hok : mergeOk ⟨p, c, s, l⟩ ⟨p', c', s', l'⟩
  rotate_left
  · have rw_0 : decide (mergeOk ⟨p, c, s, l⟩ ⟨p', c', s', l'⟩) = false := decide_eq_false hok
    have e : turnedR ⟨p, c, s, l⟩ ⟨p', c', s', l'⟩ n = ([], 60) := by unfold turnedR; rw [if_neg hb, if_neg hok]
    unfold Go.Fw.Rets
    refine enter3 Try.func80 rfl Try.ntmps80 rfl fun a S => ?_
    refine wp_seq_k fun _ hK1 => ?_
    refine wp_region_lit ?_
    (refine st_m (op_box S (Ev.t rfl) rfl ?_); clear S a; intro g1 a w S)
    (refine st_m (op_box S (Ev.t rfl) rfl ?_); clear S a w; intro g2 a w S)
    (refine st_y S (Yr.ys (ys_assign Ev.c)) rfl ?_; clear S a w; intro a w S)
    (refine st_y S (Yr.ys (ys_assign Ev.c)) rfl ?_; clear S a w; intro a w S)
    refine st_nil ?_
    (refine (then_normal (hK1 _ _ ?_)); clear hK1)
    refine wp_seq_k fun _ hK1 => ?_
    refine wp_seq_k fun _ hK2 => ?_
    refine wp_region_lit ?_
    (refine st_y S (Yr.ys (ys_move (Ev.t rfl))) rfl ?_; clear S a w; intro a w S)
    (refine st_y S (Yr.ys (ys_F (by omega) (ys_lss (Ev.t rfl) Ev.c))) rfl ?_; clear S a w; intro a w S)
    (refine st_y S (Yr.ys (ys_move (Ev.t rfl))) rfl ?_; clear S a w; intro a w S)
    (refine st_yt S rfl rfl (Yr.ys (ys_move (Ev.t rfl))) rfl ?_; clear S a w; intro a w S)
    (refine st_yt S rfl rfl (Yr.ys (ys_F (by omega) (ys_geq (Ev.t rfl) Ev.c))) rfl ?_; clear S a w; intro a w S)
    (refine st_y S (Yr.ys (ys_pickF (Ev.t rfl) (Ev.t rfl))) rfl ?_; clear S a w; intro a w S)
    refine st_nil ?_
    (refine (then_normal (hK2 _ _ ?_)); clear hK2)
    refine st_else S (Ev.t rfl) ?_
    refine wp_skip ?_
    (refine (then_normal (hK1 _ _ ?_)); clear hK1)
    refine wp_seq_k fun _ hK1 => ?_
    refine wp_seq_k fun _ hK2 => ?_
    refine wp_region_lit ?_
    (refine st_y S (Yr.ys (ys_ldA ⟨Try.isAgg24, Try.sizeOf24⟩ (Ev.t rfl) (k := 1) rfl rfl)) rfl ?_; clear S a w; intro a w S)
    (refine st_y S (Yr.ys (ys_ldA ⟨Try.isAgg24, Try.sizeOf24⟩ (Ev.t rfl) (k := 0) rfl rfl)) rfl ?_; clear S a w; intro a w S)
    (refine st_y S (ys_call Try.call68 (EvL.cons (Ev.t rfl) (EvL.cons (Ev.t rfl) EvL.nil)) (fun hp w W => c68 _ _ _ _ _ _ (by exact .old W (by assumption)) (by assumption) _ _ _ _ _ (by exact .old W (by assumption)) (by assumption))) rfl ?_; clear S a w; intro a w S)
    rw [rw_0] at S
    (refine st_y S (Yr.ys (ys_not (Ev.t rfl))) rfl ?_; clear S a w; intro a w S)
    refine st_nil ?_
    (refine (then_normal (hK2 _ _ ?_)); clear hK2)
    refine st_then S (Ev.t rfl) ?_
    refine wp_seq_k fun _ hK2 => ?_
    refine wp_region_lit ?_
    (refine st_y S (Yr.ys (ys_assign Ev.c)) rfl ?_; clear S a w; intro a w S)
    (refine st_y S (Yr.ys (ys_assign Ev.c)) rfl ?_; clear S a w; intro a w S)
    refine st_nil ?_
    (refine (then_normal (hK2 _ _ ?_)); clear hK2)
    refine wp_ret ?_
    refine (then_ret ?_)
    refine st_ret S (results2 S Try.results80 (Rv.tmp rfl) (Rv.tmp rfl)) ?_
    exact ⟨_, [rowOf 3 1 encI none 0 []], rfl, (S.nil_ 3 1 encI none).wd.picks (by repeat (first | exact Picks.nil | (refine Picks.rest ?_; (repeat (first | exact List.Sublist.refl _ | refine List.Sublist.cons_cons _ ?_ | refine List.Sublist.cons _ ?_)); done) | refine Picks.take 0 rfl ?_ | refine Picks.take 1 rfl ?_ | refine Picks.take 2 rfl ?_ | refine Picks.take 3 rfl ?_ | refine Picks.take 4 rfl ?_ | refine Picks.take 5 rfl ?_ | refine Picks.take 6 rfl ?_ | refine Picks.take 7 rfl ?_ | refine Picks.take 8 rfl ?_ | refine Picks.take 9 rfl ?_ | refine Picks.take 10 rfl ?_ | refine Picks.take 11 rfl ?_)), by rw [e]; exact ⟨none, 0, rfl, rfl⟩⟩
  have rw_0 : decide (mergeOk ⟨p, c, s, l⟩ ⟨p', c', s', l'⟩) = true := decide_eq_true hok
  have e : turnedR ⟨p, c, s, l⟩ ⟨p', c', s', l'⟩ n = (turnedTo ⟨p, c, s, l⟩ ⟨p', c', s', l'⟩ n p.toNat, 0) := by unfold turnedR; rw [if_neg hb, if_pos hok]
  have hp := parts_le hok.1.1.1
  dsimp only at hp
  obtain ⟨pn, rfl⟩ : ∃ m : Nat, p = m := ⟨p.toNat, by omega⟩
  rw [Int.toNat_natCast] at e
  unfold Go.Fw.Rets
  refine enter3 Try.func80 rfl Try.ntmps80 rfl fun a S => ?_
  refine wp_seq_k fun _ hK1 => ?_
  refine wp_region_lit ?_
  (refine st_m (op_box S (Ev.t rfl) rfl ?_); clear S a; intro g1 a w S)
  (refine st_m (op_box S (Ev.t rfl) rfl ?_); clear S a w; intro g2 a w S)
  (refine st_y S (Yr.ys (ys_assign Ev.c)) rfl ?_; clear S a w; intro a w S)
  (refine st_y S (Yr.ys (ys_assign Ev.c)) rfl ?_; clear S a w; intro a w S)
  refine st_nil ?_
  (refine (then_normal (hK1 _ _ ?_)); clear hK1)
  refine wp_seq_k fun _ hK1 => ?_
  refine wp_seq_k fun _ hK2 => ?_
  refine wp_region_lit ?_
  (refine st_y S (Yr.ys (ys_move (Ev.t rfl))) rfl ?_; clear S a w; intro a w S)
  (refine st_y S (Yr.ys (ys_F (by omega) (ys_lss (Ev.t rfl) Ev.c))) rfl ?_; clear S a w; intro a w S)
  (refine st_y S (Yr.ys (ys_move (Ev.t rfl))) rfl ?_; clear S a w; intro a w S)
  (refine st_yt S rfl rfl (Yr.ys (ys_move (Ev.t rfl))) rfl ?_; clear S a w; intro a w S)
  (refine st_yt S rfl rfl (Yr.ys (ys_F (by omega) (ys_geq (Ev.t rfl) Ev.c))) rfl ?_; clear S a w; intro a w S)
  (refine st_y S (Yr.ys (ys_pickF (Ev.t rfl) (Ev.t rfl))) rfl ?_; clear S a w; intro a w S)
  refine st_nil ?_
  (refine (then_normal (hK2 _ _ ?_)); clear hK2)
  refine st_else S (Ev.t rfl) ?_
  refine wp_skip ?_
  (refine (then_normal (hK1 _ _ ?_)); clear hK1)
  refine wp_seq_k fun _ hK1 => ?_
  refine wp_seq_k fun _ hK2 => ?_
  refine wp_region_lit ?_
  (refine st_y S (Yr.ys (ys_ldA ⟨Try.isAgg24, Try.sizeOf24⟩ (Ev.t rfl) (k := 1) rfl rfl)) rfl ?_; clear S a w; intro a w S)
  (refine st_y S (Yr.ys (ys_ldA ⟨Try.isAgg24, Try.sizeOf24⟩ (Ev.t rfl) (k := 0) rfl rfl)) rfl ?_; clear S a w; intro a w S)
  (refine st_y S (ys_call Try.call68 (EvL.cons (Ev.t rfl) (EvL.cons (Ev.t rfl) EvL.nil)) (fun hp w W => c68 _ _ _ _ _ _ (by exact .old W (by assumption)) (by assumption) _ _ _ _ _ (by exact .old W (by assumption)) (by assumption))) rfl ?_; clear S a w; intro a w S)
  rw [rw_0] at S
  (refine st_y S (Yr.ys (ys_not (Ev.t rfl))) rfl ?_; clear S a w; intro a w S)
  refine st_nil ?_
  (refine (then_normal (hK2 _ _ ?_)); clear hK2)
  refine st_else S (Ev.t rfl) ?_
  refine wp_skip ?_
  (refine (then_normal (hK1 _ _ ?_)); clear hK1)
  refine wp_seq_k fun _ hK1 => ?_
  refine wp_region_lit ?_
  (refine st_y S (Yr.ys (ys_assign Ev.c)) rfl ?_; clear S a w; intro a w S)
  refine st_nil ?_
  (refine (then_normal (hK1 _ _ ?_)); clear hK1)
  refine wp_seq_k fun _ hK1 => ?_
  refine wp_seq_k fun _ hK2 => ?_
  refine wp_region_lit ?_
  (refine st_y S (Yr.ys (ys_fieldN (FieldT.mk Try.underlying24 rfl Try.sizeOf3 rfl) (Ev.t rfl) (i' := 0) rfl)) rfl ?_; clear S a w; intro a w S)
  (refine st_y S (Yr.ys (ys_ld ⟨Try.isAgg3, Try.sizeOf3⟩ (Ev.t rfl) (k := 1) rfl rfl)) rfl ?_; clear S a w; intro a w S)
  (refine st_y S (Yr.ys (ys_move Ev.c)) rfl ?_; clear S a w; intro a w S)
  refine st_nil ?_
  (refine (then_normal (hK2 _ _ ?_)); clear hK2)
  refine wp_block ?_
  replace S := S.nil_ 3 1 encI none
  refine st_loopM S [8, 22] (X := Nat × Option Addr × Nat) (fun y => [(8, true, .slice y.2.1 (turnedTo ⟨pn, c, s, l⟩ ⟨p', c', s', l'⟩ n y.1).length y.2.2), (22, true, .int .i64 (y.1 : Int))])
    (fun y => [rowOf 3 1 encI y.2.1 y.2.2 (turnedTo ⟨pn, c, s, l⟩ ⟨p', c', s', l'⟩ n y.1), .blk g2 (.cells #[.int .i64 p', .int .i64 c', .int .i64 s', v'] 24), .blk g1 (.cells #[.int .i64 pn, .int .i64 c, .int .i64 s, v] 24)])
    (fun y => y.1 ≤ pn) (fun y => pn - y.1) (0, none, 0) (Nat.zero_le _) (by repeat (first | exact Fits.nil | refine Fits.skip rfl ?_ | refine Fits.cons rfl ?_)) (by repeat (first | exact Picks.nil | (refine Picks.rest ?_; (repeat (first | exact List.Sublist.refl _ | refine List.Sublist.cons_cons _ ?_ | refine List.Sublist.cons _ ?_)); done) | refine Picks.take 0 rfl ?_ | refine Picks.take 1 rfl ?_ | refine Picks.take 2 rfl ?_ | refine Picks.take 3 rfl ?_ | refine Picks.take 4 rfl ?_ | refine Picks.take 5 rfl ?_ | refine Picks.take 6 rfl ?_ | refine Picks.take 7 rfl ?_ | refine Picks.take 8 rfl ?_ | refine Picks.take 9 rfl ?_ | refine Picks.take 10 rfl ?_ | refine Picks.take 11 rfl ?_)) ?_
  clear S
  rintro ⟨k, B, cb⟩ a w hk S
  dsimp only at hk S
  by_cases hlt : k < pn
  rotate_left
  · obtain rfl : k = pn := by omega
    refine wp_seq_k fun _ hK2 => ?_
    refine wp_region_lit ?_
    (refine st_y S (Yr.ys (ys_F (by omega) (ys_lss (Ev.t rfl) (Ev.t rfl)))) rfl ?_; clear S a w; intro a w S)
    refine st_nil ?_
    (refine (then_normal (hK2 _ _ ?_)); clear hK2)
    refine wp_seq_k fun _ hK2 => ?_
    refine st_else S (Ev.t rfl) ?_
    refine wp_exit ?_
    (refine (then_exit (then_exit (in_here (then_normal (hK1 _ _ ?_))))); clear hK1)
    refine wp_seq_k fun _ hK1 => ?_
    refine wp_region_lit ?_
    (refine st_y S (Yr.ys (ys_move (Ev.t rfl))) rfl ?_; clear S a w; intro a w S)
    (refine st_y S (Yr.ys (ys_assign (Ev.t rfl))) rfl ?_; clear S a w; intro a w S)
    (refine st_y S (Yr.ys (ys_assign Ev.c)) rfl ?_; clear S a w; intro a w S)
    refine st_nil ?_
    (refine (then_normal (hK1 _ _ ?_)); clear hK1)
    refine wp_ret ?_
    refine st_ret S (results2 S Try.results80 (Rv.tmp rfl) (Rv.tmp rfl)) ?_
    exact ⟨_, [rowOf 3 1 encI B cb _], rfl, S.wd.picks (by repeat (first | exact Picks.nil | (refine Picks.rest ?_; (repeat (first | exact List.Sublist.refl _ | refine List.Sublist.cons_cons _ ?_ | refine List.Sublist.cons _ ?_)); done) | refine Picks.take 0 rfl ?_ | refine Picks.take 1 rfl ?_ | refine Picks.take 2 rfl ?_ | refine Picks.take 3 rfl ?_ | refine Picks.take 4 rfl ?_ | refine Picks.take 5 rfl ?_ | refine Picks.take 6 rfl ?_ | refine Picks.take 7 rfl ?_ | refine Picks.take 8 rfl ?_ | refine Picks.take 9 rfl ?_ | refine Picks.take 10 rfl ?_ | refine Picks.take 11 rfl ?_)), by rw [e]; exact ⟨_, _, rfl, rfl⟩⟩
  have hml := turnedTo_len ⟨pn, c, s, l⟩ ⟨p', c', s', l'⟩ n k
  have hmn := turnedTo_next ⟨pn, c, s, l⟩ ⟨p', c', s', l'⟩ n k
  generalize turnedTo ⟨pn, c, s, l⟩ ⟨p', c', s', l'⟩ n k = acc at *
  refine wp_seq_k fun _ hK2 => ?_
  refine wp_region_lit ?_
  (refine st_y S (Yr.ys (ys_T (by omega) (ys_lss (Ev.t rfl) (Ev.t rfl)))) rfl ?_; clear S a w; intro a w S)
  refine st_nil ?_
  (refine (then_normal (hK2 _ _ ?_)); clear hK2)
  refine wp_seq_k fun _ hK2 => ?_
  refine st_then S (Ev.t rfl) ?_
  refine wp_skip ?_
  (refine (then_normal (hK2 _ _ ?_)); clear hK2)
  refine wp_seq_k fun _ hK2 => ?_
  refine wp_block ?_
  refine wp_seq_k fun _ hK3 => ?_
  refine wp_region_lit ?_
  (refine st_y S (Yr.ys (ys_move (Ev.t rfl))) rfl ?_; clear S a w; intro a w S)
  (refine st_y S (Yr.ys (ys_assign (Ev.t rfl))) rfl ?_; clear S a w; intro a w S)
  refine st_nil ?_
  (refine (then_normal (hK3 _ _ ?_)); clear hK3)
  refine wp_seq_k fun _ hK3 => ?_
  refine wp_region_lit ?_
  (refine st_y S (Yr.ys (ys_ldA ⟨Try.isAgg24, Try.sizeOf24⟩ (Ev.t rfl) (k := 2) rfl rfl)) rfl ?_; clear S a w; intro a w S)
  (refine st_y S (Yr.ys (ys_move (Ev.t rfl))) rfl ?_; clear S a w; intro a w S)
  (refine st_y S (Yr.ys (ys_move (Ev.t rfl))) rfl ?_; clear S a w; intro a w S)
  (refine st_y S (ys_call Try.call49 (EvL.cons (Ev.t rfl) (EvL.cons (Ev.t rfl) (EvL.cons (Ev.t rfl) EvL.nil))) (fun hp w W => c49 _ _ _ _ _ _ _ _ (by exact .old W (by assumption)) (by assumption))) rfl ?_; clear S a w; intro a w S)
  (refine st_y S (Yr.ys (ys_move (Ev.t rfl))) rfl ?_; clear S a w; intro a w S)
  (refine st_yg S rfl rfl (Yr.ys (ys_ldA ⟨Try.isAgg24, Try.sizeOf24⟩ (Ev.t rfl) (k := 1) rfl rfl)) rfl ?_; clear S a w; intro a w S)
  (refine st_yg S rfl rfl (Yr.ys (ys_move (Ev.t rfl))) rfl ?_; clear S a w; intro a w S)
  (refine st_yg S rfl rfl (Yr.ys (ys_move (Ev.t rfl))) rfl ?_; clear S a w; intro a w S)
  (refine st_yg S rfl rfl (ys_call Try.call49 (EvL.cons (Ev.g rfl) (EvL.cons (Ev.g rfl) (EvL.cons (Ev.g rfl) EvL.nil))) (fun hp w W => c49 _ _ _ _ _ _ _ _ (by exact .old W (by assumption)) (by assumption))) rfl ?_; clear S a w; intro a w S)
  (refine st_yg S rfl rfl (Yr.ys (ys_not (Ev.g rfl))) rfl ?_; clear S a w; intro a w S)
  (refine st_y S (Yr.ys (ys_and (Ev.t rfl) (Ev.g rfl) Ev.c)) rfl ?_; clear S a w; intro a w S)
  refine st_nil ?_
  (refine (then_normal (hK3 _ _ ?_)); clear hK3)
  refine st_cond S (Ev.t rfl) (fun h1 => ?_) (fun h1 => ?_)
  refine wp_region_lit ?_
  (refine st_y S (Yr.ys (ys_move (Ev.t rfl))) rfl ?_; clear S a w; intro a w S)
  (refine st_y S (Yr.ys (ys_move (Ev.t rfl))) rfl ?_; clear S a w; intro a w S)
  (refine st_m (op_bslice1 S Try.underlying40 inf3 rfl rfl rfl (Ev.t rfl) rfl rfl rfl ?_); clear S a w; intro g3 a w S)
  (refine st_m (op_push S Try.underlying40 inf3 rfl (k := 1) (j := 0) rfl (Ev.t rfl) (Ev.t rfl) rfl rfl rfl rfl (by first | omega | (simp only [List.length_append, List.length_cons, List.length_nil]; omega)) rfl rfl rfl ?_); clear S a w; intro A1 cap1 a w S)
  (refine st_y S (Yr.ys (ys_assign (Ev.t rfl))) rfl ?_; clear S a w; intro a w S)
  refine st_nil ?_
  (refine (in_normal (then_normal (hK2 _ _ ?_))); clear hK2)
  refine wp_region_lit ?_
  (refine st_y S (Yr.ys (ys_addI (Ev.t rfl) Ev.c (fun _ => by unfold I64; omega))) rfl ?_; clear S a w; intro a w S)
  (refine st_y S (Yr.ys (ys_move (Ev.t rfl))) rfl ?_; clear S a w; intro a w S)
  refine st_nil ?_
  refine (then_normal ?_)
  rotate_left
  refine wp_skip ?_
  (refine (in_normal (then_normal (hK2 _ _ ?_))); clear hK2)
  refine wp_region_lit ?_
  (refine st_y S (Yr.ys (ys_addI (Ev.t rfl) Ev.c (fun _ => by unfold I64; omega))) rfl ?_; clear S a w; intro a w S)
  (refine st_y S (Yr.ys (ys_move (Ev.t rfl))) rfl ?_; clear S a w; intro a w S)
  refine st_nil ?_
  refine (then_normal ?_)
  rotate_left
  · rw [if_pos h1] at hmn
    exact ⟨(k + 1, A1, cap1), by dsimp only; omega, by dsimp only; omega, by dsimp only; rw [hmn]; exact S.picks (by repeat (first | exact Fits.nil | refine Fits.skip rfl ?_ | refine Fits.cons rfl ?_)) (by repeat (first | exact Picks.nil | (refine Picks.rest ?_; (repeat (first | exact List.Sublist.refl _ | refine List.Sublist.cons_cons _ ?_ | refine List.Sublist.cons _ ?_)); done) | refine Picks.take 0 rfl ?_ | refine Picks.take 1 rfl ?_ | refine Picks.take 2 rfl ?_ | refine Picks.take 3 rfl ?_ | refine Picks.take 4 rfl ?_ | refine Picks.take 5 rfl ?_ | refine Picks.take 6 rfl ?_ | refine Picks.take 7 rfl ?_ | refine Picks.take 8 rfl ?_ | refine Picks.take 9 rfl ?_ | refine Picks.take 10 rfl ?_ | refine Picks.take 11 rfl ?_))⟩
  · rw [if_neg (by rw [h1]; decide), List.append_nil] at hmn
    exact ⟨(k + 1, B, cb), by dsimp only; omega, by dsimp only; omega, by dsimp only; rw [hmn]; exact S.picks (by repeat (first | exact Fits.nil | refine Fits.skip rfl ?_ | refine Fits.cons rfl ?_)) (by repeat (first | exact Picks.nil | (refine Picks.rest ?_; (repeat (first | exact List.Sublist.refl _ | refine List.Sublist.cons_cons _ ?_ | refine List.Sublist.cons _ ?_)); done) | refine Picks.take 0 rfl ?_ | refine Picks.take 1 rfl ?_ | refine Picks.take 2 rfl ?_ | refine Picks.take 3 rfl ?_ | refine Picks.take 4 rfl ?_ | refine Picks.take 5 rfl ?_ | refine Picks.take 6 rfl ?_ | refine Picks.take 7 rfl ?_ | refine Picks.take 8 rfl ?_ | refine Picks.take 9 rfl ?_ | refine Picks.take 10 rfl ?_ | refine Picks.take 11 rfl ?_))⟩
theorem c81 (w0 : World) (p c s : Int) (v : Value) (l : List Mbr) (h : Sl Mbr.enc 4 w0 w0.heap.size v l) (hn : l.length ≤ 4194304) (p' c' s' : Int) (v' : Value) (l' : List Mbr) (h' : Sl Mbr.enc 4 w0 w0.heap.size v' l') (hn' : l'.length ≤ 4194304) (n : Int) :
    Rets Try.prog 81 #[.agg #[.int .i64 p, .int .i64 c, .int .i64 s, v], .agg #[.int .i64 p', .int .i64 c', .int .i64 s', v'], .int .i64 n] w0 fun u L => ∃ A cp, u = .tuple #[.slice A (turnedR ⟨p, c, s, l⟩ ⟨p', c', s', l'⟩ n).1.length cp, .int .i64 (turnedR ⟨p, c, s, l⟩ ⟨p', c', s', l'⟩ n).2] ∧ L = [rowOf 3 1 encI A cp (turnedR ⟨p, c, s, l⟩ ⟨p', c', s', l'⟩ n).1] := by
  by_cases hb : n < 0 ∨ 8 ≤ n
  · have rw_b : (decide (n < 0) || decide (8 ≤ n)) = true := by rw [Bool.or_eq_true, decide_eq_true_eq, decide_eq_true_eq]; exact hb
    have e : turnedR ⟨p, c, s, l⟩ ⟨p', c', s', l'⟩ n = ([], 1) := if_pos hb
    unfold Go.Fw.Rets
    refine enter3 Try.func81 rfl Try.ntmps81 rfl fun a S => ?_
    refine wp_seq_k fun _ hK1 => ?_
    refine wp_region_lit ?_
    (refine st_m (op_box S (Ev.t rfl) rfl ?_); clear S a; intro g1 a w S)
    (refine st_m (op_box S (Ev.t rfl) rfl ?_); clear S a w; intro g2 a w S)
    (refine st_y S (Yr.ys (ys_assign Ev.c)) rfl ?_; clear S a w; intro a w S)
    (refine st_y S (Yr.ys (ys_assign Ev.c)) rfl ?_; clear S a w; intro a w S)
    refine st_nil ?_
    (refine (then_normal (hK1 _ _ ?_)); clear hK1)
    refine wp_seq_k fun _ hK1 => ?_
    refine wp_seq_k fun _ hK2 => ?_
    refine wp_region_lit ?_
    (refine st_y S (Yr.ys (ys_move (Ev.t rfl))) rfl ?_; clear S a w; intro a w S)
    (refine st_y S (Yr.ys (ys_lss (Ev.t rfl) Ev.c)) rfl ?_; clear S a w; intro a w S)
    (refine st_y S (Yr.ys (ys_move (Ev.t rfl))) rfl ?_; clear S a w; intro a w S)
    (refine st_yf S rfl rfl (Yr.ys (ys_move (Ev.t rfl))) rfl ?_; clear S a w; intro a w S)
    (refine st_yf S rfl rfl (Yr.ys (ys_geq (Ev.g rfl) Ev.c)) rfl ?_; clear S a w; intro a w S)
    (refine st_y S (Yr.ys (ys_or (Ev.t rfl) Ev.c (Ev.g rfl))) rfl ?_; clear S a w; intro a w S)
    rw [rw_b] at S
    refine st_nil ?_
    (refine (then_normal (hK2 _ _ ?_)); clear hK2)
    refine st_then S (Ev.t rfl) ?_
    refine wp_seq_k fun _ hK2 => ?_
    refine wp_region_lit ?_
    (refine st_y S (Yr.ys (ys_assign Ev.c)) rfl ?_; clear S a w; intro a w S)
    (refine st_y S (Yr.ys (ys_assign Ev.c)) rfl ?_; clear S a w; intro a w S)
    refine st_nil ?_
    (refine (then_normal (hK2 _ _ ?_)); clear hK2)
    refine wp_ret ?_
    refine (then_ret ?_)
    refine st_ret S (results2 S Try.results81 (Rv.tmp rfl) (Rv.tmp rfl)) ?_
    exact ⟨_, [rowOf 3 1 encI none 0 []], rfl, (S.nil_ 3 1 encI none).wd.picks (by repeat (first | exact Picks.nil | (refine Picks.rest ?_; (repeat (first | exact List.Sublist.refl _ | refine List.Sublist.cons_cons _ ?_ | refine List.Sublist.cons _ ?_)); done) | refine Picks.take 0 rfl ?_ | refine Picks.take 1 rfl ?_ | refine Picks.take 2 rfl ?_ | refine Picks.take 3 rfl ?_ | refine Picks.take 4 rfl ?_ | refine Picks.take 5 rfl ?_ | refine Picks.take 6 rfl ?_ | refine Picks.take 7 rfl ?_ | refine Picks.take 8 rfl ?_ | refine Picks.take 9 rfl ?_ | refine Picks.take 10 rfl ?_ | refine Picks.take 11 rfl ?_)), by rw [e]; exact ⟨none, 0, rfl, rfl⟩⟩
  have rw_b : (decide (n < 0) || decide (8 ≤ n)) = false := by rw [Bool.or_eq_false_iff, decide_eq_false_iff_not, decide_eq_false_iff_not]; omega
  by_cases hok : mergeOk ⟨p, c, s, l⟩ ⟨p', c', s', l'⟩
  rotate_left
  · have rw_0 : decide (mergeOk ⟨p, c, s, l⟩ ⟨p', c', s', l'⟩) = false := decide_eq_false hok
    have e : turnedR ⟨p, c, s, l⟩ ⟨p', c', s', l'⟩ n = ([], 60) := by unfold turnedR; rw [if_neg hb, if_neg hok]
    unfold Go.Fw.Rets
    refine enter3 Try.func81 rfl Try.ntmps81 rfl fun a S => ?_
    refine wp_seq_k fun _ hK1 => ?_
    refine wp_region_lit ?_
    (refine st_m (op_box S (Ev.t rfl) rfl ?_); clear S a; intro g1 a w S)
    (refine st_m (op_box S (Ev.t rfl) rfl ?_); clear S a w; intro g2 a w S)
    (refine st_y S (Yr.ys (ys_assign Ev.c)) rfl ?_; clear S a w; intro a w S)
    (refine st_y S (Yr.ys (ys_assign Ev.c)) rfl ?_; clear S a w; intro a w S)
    refine st_nil ?_
    (refine (then_normal (hK1 _ _ ?_)); clear hK1)
    refine wp_seq_k fun _ hK1 => ?_
    refine wp_seq_k fun _ hK2 => ?_
    refine wp_region_lit ?_
    (refine st_y S (Yr.ys (ys_move (Ev.t rfl))) rfl ?_; clear S a w; intro a w S)
    (refine st_y S (Yr.ys (ys_F (by omega) (ys_lss (Ev.t rfl) Ev.c))) rfl ?_; clear S a w; intro a w S)
    (refine st_y S (Yr.ys (ys_move (Ev.t rfl))) rfl ?_; clear S a w; intro a w S)
    (refine st_yt S rfl rfl (Yr.ys (ys_move (Ev.t rfl))) rfl ?_; clear S a w; intro a w S)
    (refine st_yt S rfl rfl (Yr.ys (ys_F (by omega) (ys_geq (Ev.t rfl) Ev.c))) rfl ?_; clear S a w; intro a w S)
    (refine st_y S (Yr.ys (ys_pickF (Ev.t rfl) (Ev.t rfl))) rfl ?_; clear S a w; intro a w S)
    refine st_nil ?_
    (refine (then_normal (hK2 _ _ ?_)); clear hK2)
    refine st_else S (Ev.t rfl) ?_
    refine wp_skip ?_
    (refine (then_normal (hK1 _ _ ?_)); clear hK1)
    refine wp_seq_k fun _ hK1 => ?_
    refine wp_seq_k fun _ hK2 => ?_
    refine wp_region_lit ?_
    (refine st_y S (Yr.ys (ys_ldA ⟨Try.isAgg24, Try.sizeOf24⟩ (Ev.t rfl) (k := 1) rfl rfl)) rfl ?_; clear S a w; intro a w S)
    (refine st_y S (Yr.ys (ys_ldA ⟨Try.isAgg24, Try.sizeOf24⟩ (Ev.t rfl) (k := 0) rfl rfl)) rfl ?_; clear S a w; intro a w S)
    (refine st_y S (ys_call Try.call75 (EvL.cons (Ev.t rfl) (EvL.cons (Ev.t rfl) EvL.nil)) (fun hp w W => c75 _ _ _ _ _ _ (by exact .old W (by assumption)) (by assumption) _ _ _ _ _ (by exact .old W (by assumption)) (by assumption))) rfl ?_; clear S a w; intro a w S)
    rw [rw_0] at S
    (refine st_y S (Yr.ys (ys_not (Ev.t rfl))) rfl ?_; clear S a w; intro a w S)
    refine st_nil ?_
    (refine (then_normal (hK2 _ _ ?_)); clear hK2)
    refine st_then S (Ev.t rfl) ?_
    refine wp_seq_k fun _ hK2 => ?_
    refine wp_region_lit ?_
    (refine st_y S (Yr.ys (ys_assign Ev.c)) rfl ?_; clear S a w; intro a w S)
    (refine st_y S (Yr.ys (ys_assign Ev.c)) rfl ?_; clear S a w; intro a w S)
    refine st_nil ?_
    (refine (then_normal (hK2 _ _ ?_)); clear hK2)
    refine wp_ret ?_
    refine (then_ret ?_)
    refine st_ret S (results2 S Try.results81 (Rv.tmp rfl) (Rv.tmp rfl)) ?_
    exact ⟨_, [rowOf 3 1 encI none 0 []], rfl, (S.nil_ 3 1 encI none).wd.picks (by repeat (first | exact Picks.nil | (refine Picks.rest ?_; (repeat (first | exact List.Sublist.refl _ | refine List.Sublist.cons_cons _ ?_ | refine List.Sublist.cons _ ?_)); done) | refine Picks.take 0 rfl ?_ | refine Picks.take 1 rfl ?_ | refine Picks.take 2 rfl ?_ | refine Picks.take 3 rfl ?_ | refine Picks.take 4 rfl ?_ | refine Picks.take 5 rfl ?_ | refine Picks.take 6 rfl ?_ | refine Picks.take 7 rfl ?_ | refine Picks.take 8 rfl ?_ | refine Picks.take 9 rfl ?_ | refine Picks.take 10 rfl ?_ | refine Picks.take 11 rfl ?_)), by rw [e]; exact ⟨none, 0, rfl, rfl⟩⟩
  have rw_0 : decide (mergeOk ⟨p, c, s, l⟩ ⟨p', c', s', l'⟩) = true := decide_eq_true hok
  have e : turnedR ⟨p, c, s, l⟩ ⟨p', c', s', l'⟩ n = (turnedTo ⟨p, c, s, l⟩ ⟨p', c', s', l'⟩ n p.toNat, 0) := by unfold turnedR; rw [if_neg hb, if_pos hok]
  have hp := parts_le hok.1.1.1
  dsimp only at hp
  obtain ⟨pn, rfl⟩ : ∃ m : Nat, p = m := ⟨p.toNat, by omega⟩
  rw [Int.toNat_natCast] at e
  unfold Go.Fw.Rets
  refine enter3 Try.func81 rfl Try.ntmps81 rfl fun a S => ?_
  refine wp_seq_k fun _ hK1 => ?_
  refine wp_region_lit ?_
  (refine st_m (op_box S (Ev.t rfl) rfl ?_); clear S a; intro g1 a w S)
  (refine st_m (op_box S (Ev.t rfl) rfl ?_); clear S a w; intro g2 a w S)
  (refine st_y S (Yr.ys (ys_assign Ev.c)) rfl ?_; clear S a w; intro a w S)
  (refine st_y S (Yr.ys (ys_assign Ev.c)) rfl ?_; clear S a w; intro a w S)
  refine st_nil ?_
  (refine (then_normal (hK1 _ _ ?_)); clear hK1)
  refine wp_seq_k fun _ hK1 => ?_
  refine wp_seq_k fun _ hK2 => ?_
  refine wp_region_lit ?_
  (refine st_y S (Yr.ys (ys_move (Ev.t rfl))) rfl ?_; clear S a w; intro a w S)
  (refine st_y S (Yr.ys (ys_F (by omega) (ys_lss (Ev.t rfl) Ev.c))) rfl ?_; clear S a w; intro a w S)
  (refine st_y S (Yr.ys (ys_move (Ev.t rfl))) rfl ?_; clear S a w; intro a w S)
  (refine st_yt S rfl rfl (Yr.ys (ys_move (Ev.t rfl))) rfl ?_; clear S a w; intro a w S)
  (refine st_yt S rfl rfl (Yr.ys (ys_F (by omega) (ys_geq (Ev.t rfl) Ev.c))) rfl ?_; clear S a w; intro a w S)
  (refine st_y S (Yr.ys (ys_pickF (Ev.t rfl) (Ev.t rfl))) rfl ?_; clear S a w; intro a w S)
  refine st_nil ?_
  (refine (then_normal (hK2 _ _ ?_)); clear hK2)
  refine st_else S (Ev.t rfl) ?_
  refine wp_skip ?_
  (refine (then_normal (hK1 _ _ ?_)); clear hK1)
  refine wp_seq_k fun _ hK1 => ?_
  refine wp_seq_k fun _ hK2 => ?_
  refine wp_region_lit ?_
  (refine st_y S (Yr.ys (ys_ldA ⟨Try.isAgg24, Try.sizeOf24⟩ (Ev.t rfl) (k := 1) rfl rfl)) rfl ?_; clear S a w; intro a w S)
  (refine st_y S (Yr.ys (ys_ldA ⟨Try.isAgg24, Try.sizeOf24⟩ (Ev.t rfl) (k := 0) rfl rfl)) rfl ?_; clear S a w; intro a w S)
  (refine st_y S (ys_call Try.call75 (EvL.cons (Ev.t rfl) (EvL.cons (Ev.t rfl) EvL.nil)) (fun hp w W => c75 _ _ _ _ _ _ (by exact .old W (by assumption)) (by assumption) _ _ _ _ _ (by exact .old W (by assumption)) (by assumption))) rfl ?_; clear S a w; intro a w S)
  rw [rw_0] at S
  (refine st_y S (Yr.ys (ys_not (Ev.t rfl))) rfl ?_; clear S a w; intro a w S)
  refine st_nil ?_
  (refine (then_normal (hK2 _ _ ?_)); clear hK2)
  refine st_else S (Ev.t rfl) ?_
  refine wp_skip ?_
  (refine (then_normal (hK1 _ _ ?_)); clear hK1)
  refine wp_seq_k fun _ hK1 => ?_
  refine wp_region_lit ?_
  (refine st_y S (Yr.ys (ys_assign Ev.c)) rfl ?_; clear S a w; intro a w S)
  refine st_nil ?_
  (refine (then_normal (hK1 _ _ ?_)); clear hK1)
  refine wp_seq_k fun _ hK1 => ?_
  refine wp_seq_k fun _ hK2 => ?_
  refine wp_region_lit ?_
  (refine st_y S (Yr.ys (ys_assign Ev.c)) rfl ?_; clear S a w; intro a w S)
  refine st_nil ?_
  (refine (then_normal (hK2 _ _ ?_)); clear hK2)
  refine wp_block ?_
  replace S := S.nil_ 3 1 encI none
  refine st_loopM S [8, 9] (X := Nat × Option Addr × Nat) (fun y => [(8, true, .slice y.2.1 (turnedTo ⟨pn, c, s, l⟩ ⟨p', c', s', l'⟩ n y.1).length y.2.2), (9, true, .int .i64 (y.1 : Int))])
    (fun y => [rowOf 3 1 encI y.2.1 y.2.2 (turnedTo ⟨pn, c, s, l⟩ ⟨p', c', s', l'⟩ n y.1), .blk g2 (.cells #[.int .i64 p', .int .i64 c', .int .i64 s', v'] 24), .blk g1 (.cells #[.int .i64 pn, .int .i64 c, .int .i64 s, v] 24)])
    (fun y => y.1 ≤ pn) (fun y => pn - y.1) (0, none, 0) (Nat.zero_le _) (by repeat (first | exact Fits.nil | refine Fits.skip rfl ?_ | refine Fits.cons rfl ?_)) (by repeat (first | exact Picks.nil | (refine Picks.rest ?_; (repeat (first | exact List.Sublist.refl _ | refine List.Sublist.cons_cons _ ?_ | refine List.Sublist.cons _ ?_)); done) | refine Picks.take 0 rfl ?_ | refine Picks.take 1 rfl ?_ | refine Picks.take 2 rfl ?_ | refine Picks.take 3 rfl ?_ | refine Picks.take 4 rfl ?_ | refine Picks.take 5 rfl ?_ | refine Picks.take 6 rfl ?_ | refine Picks.take 7 rfl ?_ | refine Picks.take 8 rfl ?_ | refine Picks.take 9 rfl ?_ | refine Picks.take 10 rfl ?_ | refine Picks.take 11 rfl ?_)) ?_
  clear S
  rintro ⟨k, B, cb⟩ a w hk S
  dsimp only at hk S
  by_cases hlt : k < pn
  rotate_left
  · obtain rfl : k = pn := by omega
    refine wp_seq_k fun _ hK2 => ?_
    refine wp_seq_k fun _ hK3 => ?_
    refine wp_region_lit ?_
    (refine st_y S (Yr.ys (ys_move (Ev.t rfl))) rfl ?_; clear S a w; intro a w S)
    (refine st_y S (Yr.ys (ys_fieldN (FieldT.mk Try.underlying24 rfl Try.sizeOf3 rfl) (Ev.t rfl) (i' := 0) rfl)) rfl ?_; clear S a w; intro a w S)
    (refine st_y S (Yr.ys (ys_ld ⟨Try.isAgg3, Try.sizeOf3⟩ (Ev.t rfl) (k := 2) rfl rfl)) rfl ?_; clear S a w; intro a w S)
    (refine st_y S (Yr.ys (ys_F (by omega) (ys_lss (Ev.t rfl) (Ev.t rfl)))) rfl ?_; clear S a w; intro a w S)
    refine st_nil ?_
    (refine (then_normal (hK3 _ _ ?_)); clear hK3)
    refine st_else S (Ev.t rfl) ?_
    refine wp_exit ?_
    (refine (then_exit (then_exit (in_here (then_normal (hK1 _ _ ?_))))); clear hK1)
    refine wp_seq_k fun _ hK1 => ?_
    refine wp_region_lit ?_
    (refine st_y S (Yr.ys (ys_move (Ev.t rfl))) rfl ?_; clear S a w; intro a w S)
    (refine st_y S (Yr.ys (ys_assign (Ev.t rfl))) rfl ?_; clear S a w; intro a w S)
    (refine st_y S (Yr.ys (ys_assign Ev.c)) rfl ?_; clear S a w; intro a w S)
    refine st_nil ?_
    (refine (then_normal (hK1 _ _ ?_)); clear hK1)
    refine wp_ret ?_
    refine st_ret S (results2 S Try.results81 (Rv.tmp rfl) (Rv.tmp rfl)) ?_
    exact ⟨_, [rowOf 3 1 encI B cb _], rfl, S.wd.picks (by repeat (first | exact Picks.nil | (refine Picks.rest ?_; (repeat (first | exact List.Sublist.refl _ | refine List.Sublist.cons_cons _ ?_ | refine List.Sublist.cons _ ?_)); done) | refine Picks.take 0 rfl ?_ | refine Picks.take 1 rfl ?_ | refine Picks.take 2 rfl ?_ | refine Picks.take 3 rfl ?_ | refine Picks.take 4 rfl ?_ | refine Picks.take 5 rfl ?_ | refine Picks.take 6 rfl ?_ | refine Picks.take 7 rfl ?_ | refine Picks.take 8 rfl ?_ | refine Picks.take 9 rfl ?_ | refine Picks.take 10 rfl ?_ | refine Picks.take 11 rfl ?_)), by rw [e]; exact ⟨_, _, rfl, rfl⟩⟩
  have hml := turnedTo_len ⟨pn, c, s, l⟩ ⟨p', c', s', l'⟩ n k
  have hmn := turnedTo_next ⟨pn, c, s, l⟩ ⟨p', c', s', l'⟩ n k
  generalize turnedTo ⟨pn, c, s, l⟩ ⟨p', c', s', l'⟩ n k = acc at *
  refine wp_seq_k fun _ hK2 => ?_
  refine wp_seq_k fun _ hK3 => ?_
  refine wp_region_lit ?_
  (refine st_y S (Yr.ys (ys_move (Ev.t rfl))) rfl ?_; clear S a w; intro a w S)
  (refine st_y S (Yr.ys (ys_fieldN (FieldT.mk Try.underlying24 rfl Try.sizeOf3 rfl) (Ev.t rfl) (i' := 0) rfl)) rfl ?_; clear S a w; intro a w S)
  (refine st_y S (Yr.ys (ys_ld ⟨Try.isAgg3, Try.sizeOf3⟩ (Ev.t rfl) (k := 2) rfl rfl)) rfl ?_; clear S a w; intro a w S)
  (refine st_y S (Yr.ys (ys_T (by omega) (ys_lss (Ev.t rfl) (Ev.t rfl)))) rfl ?_; clear S a w; intro a w S)
  refine st_nil ?_
  (refine (then_normal (hK3 _ _ ?_)); clear hK3)
  refine st_then S (Ev.t rfl) ?_
  refine wp_skip ?_
  (refine (then_normal (hK2 _ _ ?_)); clear hK2)
  refine wp_seq_k fun _ hK2 => ?_
  refine wp_block ?_
  refine wp_seq_k fun _ hK3 => ?_
  refine wp_region_lit ?_
  (refine st_y S (Yr.ys (ys_ldA ⟨Try.isAgg24, Try.sizeOf24⟩ (Ev.t rfl) (k := 2) rfl rfl)) rfl ?_; clear S a w; intro a w S)
  (refine st_y S (Yr.ys (ys_move (Ev.t rfl))) rfl ?_; clear S a w; intro a w S)
  (refine st_y S (Yr.ys (ys_move (Ev.t rfl))) rfl ?_; clear S a w; intro a w S)
  (refine st_y S (ys_call Try.call50 (EvL.cons (Ev.t rfl) (EvL.cons (Ev.t rfl) (EvL.cons (Ev.t rfl) EvL.nil))) (fun hp w W => c50 _ _ _ _ _ _ _ _ (by exact .old W (by assumption)) (by assumption))) rfl ?_; clear S a w; intro a w S)
  (refine st_y S (Yr.ys (ys_move (Ev.t rfl))) rfl ?_; clear S a w; intro a w S)
  (refine st_yg S rfl rfl (Yr.ys (ys_ldA ⟨Try.isAgg24, Try.sizeOf24⟩ (Ev.t rfl) (k := 1) rfl rfl)) rfl ?_; clear S a w; intro a w S)
  (refine st_yg S rfl rfl (Yr.ys (ys_move (Ev.t rfl))) rfl ?_; clear S a w; intro a w S)
  (refine st_yg S rfl rfl (Yr.ys (ys_move (Ev.t rfl))) rfl ?_; clear S a w; intro a w S)
  (refine st_yg S rfl rfl (ys_call Try.call50 (EvL.cons (Ev.g rfl) (EvL.cons (Ev.g rfl) (EvL.cons (Ev.g rfl) EvL.nil))) (fun hp w W => c50 _ _ _ _ _ _ _ _ (by exact .old W (by assumption)) (by assumption))) rfl ?_; clear S a w; intro a w S)
  (refine st_yg S rfl rfl (Yr.ys (ys_not (Ev.g rfl))) rfl ?_; clear S a w; intro a w S)
  (refine st_y S (Yr.ys (ys_and (Ev.t rfl) (Ev.g rfl) Ev.c)) rfl ?_; clear S a w; intro a w S)
  refine st_nil ?_
  (refine (then_normal (hK3 _ _ ?_)); clear hK3)
  refine st_cond S (Ev.t rfl) (fun h1 => ?_) (fun h1 => ?_)
  refine wp_region_lit ?_
  (refine st_y S (Yr.ys (ys_move (Ev.t rfl))) rfl ?_; clear S a w; intro a w S)
  (refine st_y S (Yr.ys (ys_move (Ev.t rfl))) rfl ?_; clear S a w; intro a w S)
  (refine st_m (op_bslice1 S Try.underlying40 inf3 rfl rfl rfl (Ev.t rfl) rfl rfl rfl ?_); clear S a w; intro g3 a w S)
  (refine st_m (op_push S Try.underlying40 inf3 rfl (k := 1) (j := 0) rfl (Ev.t rfl) (Ev.t rfl) rfl rfl rfl rfl (by first | omega | (simp only [List.length_append, List.length_cons, List.length_nil]; omega)) rfl rfl rfl ?_); clear S a w; intro A1 cap1 a w S)
  (refine st_y S (Yr.ys (ys_assign (Ev.t rfl))) rfl ?_; clear S a w; intro a w S)
  refine st_nil ?_
  (refine (in_normal (then_normal (hK2 _ _ ?_))); clear hK2)
  refine wp_region_lit ?_
  (refine st_y S (Yr.ys (ys_move (Ev.t rfl))) rfl ?_; clear S a w; intro a w S)
  (refine st_y S (Yr.ys (ys_addI (Ev.t rfl) Ev.c (fun _ => by unfold I64; omega))) rfl ?_; clear S a w; intro a w S)
  (refine st_y S (Yr.ys (ys_assign (Ev.t rfl))) rfl ?_; clear S a w; intro a w S)
  refine st_nil ?_
  refine (then_normal ?_)
  rotate_left
  refine wp_skip ?_
  (refine (in_normal (then_normal (hK2 _ _ ?_))); clear hK2)
  refine wp_region_lit ?_
  (refine st_y S (Yr.ys (ys_move (Ev.t rfl))) rfl ?_; clear S a w; intro a w S)
  (refine st_y S (Yr.ys (ys_addI (Ev.t rfl) Ev.c (fun _ => by unfold I64; omega))) rfl ?_; clear S a w; intro a w S)
  (refine st_y S (Yr.ys (ys_assign (Ev.t rfl))) rfl ?_; clear S a w; intro a w S)
  refine st_nil ?_
  refine (then_normal ?_)
  rotate_left
  · rw [if_pos h1] at hmn
    exact ⟨(k + 1, A1, cap1), by dsimp only; omega, by dsimp only; omega, by dsimp only; rw [hmn]; exact S.picks (by repeat (first | exact Fits.nil | refine Fits.skip rfl ?_ | refine Fits.cons rfl ?_)) (by repeat (first | exact Picks.nil | (refine Picks.rest ?_; (repeat (first | exact List.Sublist.refl _ | refine List.Sublist.cons_cons _ ?_ | refine List.Sublist.cons _ ?_)); done) | refine Picks.take 0 rfl ?_ | refine Picks.take 1 rfl ?_ | refine Picks.take 2 rfl ?_ | refine Picks.take 3 rfl ?_ | refine Picks.take 4 rfl ?_ | refine Picks.take 5 rfl ?_ | refine Picks.take 6 rfl ?_ | refine Picks.take 7 rfl ?_ | refine Picks.take 8 rfl ?_ | refine Picks.take 9 rfl ?_ | refine Picks.take 10 rfl ?_ | refine Picks.take 11 rfl ?_))⟩
  · rw [if_neg (by rw [h1]; decide), List.append_nil] at hmn
    exact ⟨(k + 1, B, cb), by dsimp only; omega, by dsimp only; omega, by dsimp only; rw [hmn]; exact S.picks (by repeat (first | exact Fits.nil | refine Fits.skip rfl ?_ | refine Fits.cons rfl ?_)) (by repeat (first | exact Picks.nil | (refine Picks.rest ?_; (repeat (first | exact List.Sublist.refl _ | refine List.Sublist.cons_cons _ ?_ | refine List.Sublist.cons _ ?_)); done) | refine Picks.take 0 rfl ?_ | refine Picks.take 1 rfl ?_ | refine Picks.take 2 rfl ?_ | refine Picks.take 3 rfl ?_ | refine Picks.take 4 rfl ?_ | refine Picks.take 5 rfl ?_ | refine Picks.take 6 rfl ?_ | refine Picks.take 7 rfl ?_ | refine Picks.take 8 rfl ?_ | refine Picks.take 9 rfl ?_ | refine Picks.take 10 rfl ?_ | refine Picks.take 11 rfl ?_))⟩
theorem c35 (w0 : World) (p c s : Int) (v : Value) (l : List Mbr) (h : Sl Mbr.enc 4 w0 w0.heap.size v l) (hn : l.length ≤ 4194304) (p' c' s' : Int) (v' : Value) (l' : List Mbr) (h' : Sl Mbr.enc 4 w0 w0.heap.size v' l') (hn' : l'.length ≤ 4194304) (n : Int) :
    Rets Try.prog 35 #[.agg #[.int .i64 p, .int .i64 c, .int .i64 s, v], .agg #[.int .i64 p', .int .i64 c', .int .i64 s', v'], .int .i64 n] w0 fun u L => ∃ A cp, u = .tuple #[.slice A (turnedR ⟨p', c', s', l'⟩ ⟨p, c, s, l⟩ n).1.length cp, .int .i64 (turnedR ⟨p', c', s', l'⟩ ⟨p, c, s, l⟩ n).2] ∧ L = [rowOf 3 1 encI A cp (turnedR ⟨p', c', s', l'⟩ ⟨p, c, s, l⟩ n).1] := by
  unfold Go.Fw.Rets
  refine enter3 Try.func35 rfl Try.ntmps35 rfl fun a S => ?_
  refine wp_seq_k fun _ hK1 => ?_
  refine wp_region_lit ?_
  (refine st_m (op_box S (Ev.t rfl) rfl ?_); clear S a; intro g1 a w S)
  (refine st_m (op_box S (Ev.t rfl) rfl ?_); clear S a w; intro g2 a w S)
  (refine st_y S (Yr.ys (ys_assign Ev.c)) rfl ?_; clear S a w; intro a w S)
  (refine st_y S (Yr.ys (ys_assign Ev.c)) rfl ?_; clear S a w; intro a w S)
  refine st_nil ?_
  (refine (then_normal (hK1 _ _ ?_)); clear hK1)
  refine wp_seq_k fun _ hK1 => ?_
  refine wp_region_lit ?_
  (refine st_y S (Yr.ys (ys_ldA ⟨Try.isAgg24, Try.sizeOf24⟩ (Ev.t rfl) (k := 0) rfl rfl)) rfl ?_; clear S a w; intro a w S)
  (refine st_y S (Yr.ys (ys_ldA ⟨Try.isAgg24, Try.sizeOf24⟩ (Ev.t rfl) (k := 1) rfl rfl)) rfl ?_; clear S a w; intro a w S)
  (refine st_y S (Yr.ys (ys_move (Ev.t rfl))) rfl ?_; clear S a w; intro a w S)
  (refine st_m (op_calls S Try.call80 (EvL.cons (Ev.t rfl) (EvL.cons (Ev.t rfl) (EvL.cons (Ev.t rfl) EvL.nil))) (c80 _ _ _ _ _ _ (by exact .old S.wd (by assumption)) (by assumption) _ _ _ _ _ (by exact .old S.wd (by assumption)) (by assumption) _) rfl ?_); clear S a w; rintro _ _ ⟨A1, cp1, rfl, rfl⟩ a w S)
  (refine st_y S (Yr.ys (ys_ext (Ev.t rfl) rfl)) rfl ?_; clear S a w; intro a w S)
  (refine st_y S (Yr.ys (ys_ext (Ev.t rfl) rfl)) rfl ?_; clear S a w; intro a w S)
  (refine st_y S (Yr.ys (ys_assign (Ev.t rfl))) rfl ?_; clear S a w; intro a w S)
  (refine st_y S (Yr.ys (ys_assign (Ev.t rfl))) rfl ?_; clear S a w; intro a w S)
  refine st_nil ?_
  (refine (then_normal (hK1 _ _ ?_)); clear hK1)
  refine wp_ret ?_
  refine st_ret S (results2 S Try.results35 (Rv.tmp rfl) (Rv.tmp rfl)) ?_
  exact ⟨_, [rowOf 3 1 encI A1 cp1 _], rfl, S.wd.picks (by repeat (first | exact Picks.nil | (refine Picks.rest ?_; (repeat (first | exact List.Sublist.refl _ | refine List.Sublist.cons_cons _ ?_ | refine List.Sublist.cons _ ?_)); done) | refine Picks.take 0 rfl ?_ | refine Picks.take 1 rfl ?_ | refine Picks.take 2 rfl ?_ | refine Picks.take 3 rfl ?_ | refine Picks.take 4 rfl ?_ | refine Picks.take 5 rfl ?_ | refine Picks.take 6 rfl ?_ | refine Picks.take 7 rfl ?_ | refine Picks.take 8 rfl ?_ | refine Picks.take 9 rfl ?_ | refine Picks.take 10 rfl ?_ | refine Picks.take 11 rfl ?_)), _, _, rfl, rfl⟩
theorem c36 (w0 : World) (p c s : Int) (v : Value) (l : List Mbr) (h : Sl Mbr.enc 4 w0 w0.heap.size v l) (hn : l.length ≤ 4194304) (p' c' s' : Int) (v' : Value) (l' : List Mbr) (h' : Sl Mbr.enc 4 w0 w0.heap.size v' l') (hn' : l'.length ≤ 4194304) (n : Int) :
    Rets Try.prog 36 #[.agg #[.int .i64 p, .int .i64 c, .int .i64 s, v], .agg #[.int .i64 p', .int .i64 c', .int .i64 s', v'], .int .i64 n] w0 fun u L => ∃ A cp, u = .tuple #[.slice A (turnedR ⟨p, c, s, l⟩ ⟨p', c', s', l'⟩ n).1.length cp, .int .i64 (turnedR ⟨p, c, s, l⟩ ⟨p', c', s', l'⟩ n).2] ∧ L = [rowOf 3 1 encI A cp (turnedR ⟨p, c, s, l⟩ ⟨p', c', s', l'⟩ n).1] := by
  unfold Go.Fw.Rets
  refine enter3 Try.func36 rfl Try.ntmps36 rfl fun a S => ?_
  refine wp_seq_k fun _ hK1 => ?_
  refine wp_region_lit ?_
  (refine st_m (op_box S (Ev.t rfl) rfl ?_); clear S a; intro g1 a w S)
  (refine st_m (op_box S (Ev.t rfl) rfl ?_); clear S a w; intro g2 a w S)
  (refine st_y S (Yr.ys (ys_assign Ev.c)) rfl ?_; clear S a w; intro a w S)
  (refine st_y S (Yr.ys (ys_assign Ev.c)) rfl ?_; clear S a w; intro a w S)
  refine st_nil ?_
  (refine (then_normal (hK1 _ _ ?_)); clear hK1)
  refine wp_seq_k fun _ hK1 => ?_
  refine wp_region_lit ?_
  (refine st_y S (Yr.ys (ys_ldA ⟨Try.isAgg24, Try.sizeOf24⟩ (Ev.t rfl) (k := 1) rfl rfl)) rfl ?_; clear S a w; intro a w S)
  (refine st_y S (Yr.ys (ys_ldA ⟨Try.isAgg24, Try.sizeOf24⟩ (Ev.t rfl) (k := 0) rfl rfl)) rfl ?_; clear S a w; intro a w S)
  (refine st_y S (Yr.ys (ys_move (Ev.t rfl))) rfl ?_; clear S a w; intro a w S)
  (refine st_m (op_calls S Try.call80 (EvL.cons (Ev.t rfl) (EvL.cons (Ev.t rfl) (EvL.cons (Ev.t rfl) EvL.nil))) (c80 _ _ _ _ _ _ (by exact .old S.wd (by assumption)) (by assumption) _ _ _ _ _ (by exact .old S.wd (by assumption)) (by assumption) _) rfl ?_); clear S a w; rintro _ _ ⟨A1, cp1, rfl, rfl⟩ a w S)
  (refine st_y S (Yr.ys (ys_ext (Ev.t rfl) rfl)) rfl ?_; clear S a w; intro a w S)
  (refine st_y S (Yr.ys (ys_ext (Ev.t rfl) rfl)) rfl ?_; clear S a w; intro a w S)
  (refine st_y S (Yr.ys (ys_assign (Ev.t rfl))) rfl ?_; clear S a w; intro a w S)
  (refine st_y S (Yr.ys (ys_assign (Ev.t rfl))) rfl ?_; clear S a w; intro a w S)
  refine st_nil ?_
  (refine (then_normal (hK1 _ _ ?_)); clear hK1)
  refine wp_ret ?_
  refine st_ret S (results2 S Try.results36 (Rv.tmp rfl) (Rv.tmp rfl)) ?_
  exact ⟨_, [rowOf 3 1 encI A1 cp1 _], rfl, S.wd.picks (by repeat (first | exact Picks.nil | (refine Picks.rest ?_; (repeat (first | exact List.Sublist.refl _ | refine List.Sublist.cons_cons _ ?_ | refine List.Sublist.cons _ ?_)); done) | refine Picks.take 0 rfl ?_ | refine Picks.take 1 rfl ?_ | refine Picks.take 2 rfl ?_ | refine Picks.take 3 rfl ?_ | refine Picks.take 4 rfl ?_ | refine Picks.take 5 rfl ?_ | refine Picks.take 6 rfl ?_ | refine Picks.take 7 rfl ?_ | refine Picks.take 8 rfl ?_ | refine Picks.take 9 rfl ?_ | refine Picks.take 10 rfl ?_ | refine Picks.take 11 rfl ?_)), _, _, rfl, rfl⟩
theorem c37 (w0 : World) (p c s : Int) (v : Value) (l : List Mbr) (h : Sl Mbr.enc 4 w0 w0.heap.size v l) (hn : l.length ≤ 4194304) (p' c' s' : Int) (v' : Value) (l' : List Mbr) (h' : Sl Mbr.enc 4 w0 w0.heap.size v' l') (hn' : l'.length ≤ 4194304) (n : Int) :
    Rets Try.prog 37 #[.agg #[.int .i64 p, .int .i64 c, .int .i64 s, v], .agg #[.int .i64 p', .int .i64 c', .int .i64 s', v'], .int .i64 n] w0 fun u L => ∃ A cp, u = .tuple #[.slice A (turnedR ⟨p', c', s', l'⟩ ⟨p, c, s, l⟩ n).1.length cp, .int .i64 (turnedR ⟨p', c', s', l'⟩ ⟨p, c, s, l⟩ n).2] ∧ L = [rowOf 3 1 encI A cp (turnedR ⟨p', c', s', l'⟩ ⟨p, c, s, l⟩ n).1] := by
  unfold Go.Fw.Rets
  refine enter3 Try.func37 rfl Try.ntmps37 rfl fun a S => ?_
  refine wp_seq_k fun _ hK1 => ?_
  refine wp_region_lit ?_
  (refine st_m (op_box S (Ev.t rfl) rfl ?_); clear S a; intro g1 a w S)
  (refine st_m (op_box S (Ev.t rfl) rfl ?_); clear S a w; intro g2 a w S)
  (refine st_y S (Yr.ys (ys_assign Ev.c)) rfl ?_; clear S a w; intro a w S)
  (refine st_y S (Yr.ys (ys_assign Ev.c)) rfl ?_; clear S a w; intro a w S)
  refine st_nil ?_
  (refine (then_normal (hK1 _ _ ?_)); clear hK1)
  refine wp_seq_k fun _ hK1 => ?_
  refine wp_region_lit ?_
  (refine st_y S (Yr.ys (ys_ldA ⟨Try.isAgg24, Try.sizeOf24⟩ (Ev.t rfl) (k := 0) rfl rfl)) rfl ?_; clear S a w; intro a w S)
  (refine st_y S (Yr.ys (ys_ldA ⟨Try.isAgg24, Try.sizeOf24⟩ (Ev.t rfl) (k := 1) rfl rfl)) rfl ?_; clear S a w; intro a w S)
  (refine st_y S (Yr.ys (ys_move (Ev.t rfl))) rfl ?_; clear S a w; intro a w S)
  (refine st_m (op_calls S Try.call81 (EvL.cons (Ev.t rfl) (EvL.cons (Ev.t rfl) (EvL.cons (Ev.t rfl) EvL.nil))) (c81 _ _ _ _ _ _ (by exact .old S.wd (by assumption)) (by assumption) _ _ _ _ _ (by exact .old S.wd (by assumption)) (by assumption) _) rfl ?_); clear S a w; rintro _ _ ⟨A1, cp1, rfl, rfl⟩ a w S)
  (refine st_y S (Yr.ys (ys_ext (Ev.t rfl) rfl)) rfl ?_; clear S a w; intro a w S)
  (refine st_y S (Yr.ys (ys_ext (Ev.t rfl) rfl)) rfl ?_; clear S a w; intro a w S)
  (refine st_y S (Yr.ys (ys_assign (Ev.t rfl))) rfl ?_; clear S a w; intro a w S)
  (refine st_y S (Yr.ys (ys_assign (Ev.t rfl))) rfl ?_; clear S a w; intro a w S)
  refine st_nil ?_
  (refine (then_normal (hK1 _ _ ?_)); clear hK1)
  refine wp_ret ?_
  refine st_ret S (results2 S Try.results37 (Rv.tmp rfl) (Rv.tmp rfl)) ?_
  exact ⟨_, [rowOf 3 1 encI A1 cp1 _], rfl, S.wd.picks (by repeat (first | exact Picks.nil | (refine Picks.rest ?_; (repeat (first | exact List.Sublist.refl _ | refine List.Sublist.cons_cons _ ?_ | refine List.Sublist.cons _ ?_)); done) | refine Picks.take 0 rfl ?_ | refine Picks.take 1 rfl ?_ | refine Picks.take 2 rfl ?_ | refine Picks.take 3 rfl ?_ | refine Picks.take 4 rfl ?_ | refine Picks.take 5 rfl ?_ | refine Picks.take 6 rfl ?_ | refine Picks.take 7 rfl ?_ | refine Picks.take 8 rfl ?_ | refine Picks.take 9 rfl ?_ | refine Picks.take 10 rfl ?_ | refine Picks.take 11 rfl ?_)), _, _, rfl, rfl⟩
theorem c38 (w0 : World) (p c s : Int) (v : Value) (l : List Mbr) (h : Sl Mbr.enc 4 w0 w0.heap.size v l) (hn : l.length ≤ 4194304) (p' c' s' : Int) (v' : Value) (l' : List Mbr) (h' : Sl Mbr.enc 4 w0 w0.heap.size v' l') (hn' : l'.length ≤ 4194304) (n : Int) :
    Rets Try.prog 38 #[.agg #[.int .i64 p, .int .i64 c, .int .i64 s, v], .agg #[.int .i64 p', .int .i64 c', .int .i64 s', v'], .int .i64 n] w0 fun u L => ∃ A cp, u = .tuple #[.slice A (turnedR ⟨p, c, s, l⟩ ⟨p', c', s', l'⟩ n).1.length cp, .int .i64 (turnedR ⟨p, c, s, l⟩ ⟨p', c', s', l'⟩ n).2] ∧ L = [rowOf 3 1 encI A cp (turnedR ⟨p, c, s, l⟩ ⟨p', c', s', l'⟩ n).1] := by
  unfold Go.Fw.Rets
  refine enter3 Try.func38 rfl Try.ntmps38 rfl fun a S => ?_
  refine wp_seq_k fun _ hK1 => ?_
  refine wp_region_lit ?_
  (refine st_m (op_box S (Ev.t rfl) rfl ?_); clear S a; intro g1 a w S)
  (refine st_m (op_box S (Ev.t rfl) rfl ?_); clear S a w; intro g2 a w S)
  (refine st_y S (Yr.ys (ys_assign Ev.c)) rfl ?_; clear S a w; intro a w S)
  (refine st_y S (Yr.ys (ys_assign Ev.c)) rfl ?_; clear S a w; intro a w S)
  refine st_nil ?_
  (refine (then_normal (hK1 _ _ ?_)); clear hK1)
  refine wp_seq_k fun _ hK1 => ?_
  refine wp_region_lit ?_
  (refine st_y S (Yr.ys (ys_ldA ⟨Try.isAgg24, Try.sizeOf24⟩ (Ev.t rfl) (k := 1) rfl rfl)) rfl ?_; clear S a w; intro a w S)
  (refine st_y S (Yr.ys (ys_ldA ⟨Try.isAgg24, Try.sizeOf24⟩ (Ev.t rfl) (k := 0) rfl rfl)) rfl ?_; clear S a w; intro a w S)
  (refine st_y S (Yr.ys (ys_move (Ev.t rfl))) rfl ?_; clear S a w; intro a w S)
  (refine st_m (op_calls S Try.call81 (EvL.cons (Ev.t rfl) (EvL.cons (Ev.t rfl) (EvL.cons (Ev.t rfl) EvL.nil))) (c81 _ _ _ _ _ _ (by exact .old S.wd (by assumption)) (by assumption) _ _ _ _ _ (by exact .old S.wd (by assumption)) (by assumption) _) rfl ?_); clear S a w; rintro _ _ ⟨A1, cp1, rfl, rfl⟩ a w S)
  (refine st_y S (Yr.ys (ys_ext (Ev.t rfl) rfl)) rfl ?_; clear S a w; intro a w S)
  (refine st_y S (Yr.ys (ys_ext (Ev.t rfl) rfl)) rfl ?_; clear S a w; intro a w S)
  (refine st_y S (Yr.ys (ys_assign (Ev.t rfl))) rfl ?_; clear S a w; intro a w S)
  (refine st_y S (Yr.ys (ys_assign (Ev.t rfl))) rfl ?_; clear S a w; intro a w S)
  refine st_nil ?_
  (refine (then_normal (hK1 _ _ ?_)); clear hK1)
  refine wp_ret ?_
  refine st_ret S (results2 S Try.results38 (Rv.tmp rfl) (Rv.tmp rfl)) ?_
  exact ⟨_, [rowOf 3 1 encI A1 cp1 _], rfl, S.wd.picks (by repeat (first | exact Picks.nil | (refine Picks.rest ?_; (repeat (first | exact List.Sublist.refl _ | refine List.Sublist.cons_cons _ ?_ | refine List.Sublist.cons _ ?_)); done) | refine Picks.take 0 rfl ?_ | refine Picks.take 1 rfl ?_ | refine Picks.take 2 rfl ?_ | refine Picks.take 3 rfl ?_ | refine Picks.take 4 rfl ?_ | refine Picks.take 5 rfl ?_ | refine Picks.take 6 rfl ?_ | refine Picks.take 7 rfl ?_ | refine Picks.take 8 rfl ?_ | refine Picks.take 9 rfl ?_ | refine Picks.take 10 rfl ?_ | refine Picks.take 11 rfl ?_)), _, _, rfl, rfl⟩
theorem c39 (w0 : World) (p c s : Int) (v : Value) (l : List Mbr) (h : Sl Mbr.enc 4 w0 w0.heap.size v l) (hn : l.length ≤ 4194304) (p' c' s' : Int) (v' : Value) (l' : List Mbr) (h' : Sl Mbr.enc 4 w0 w0.heap.size v' l') (hn' : l'.length ≤ 4194304) (n : Int) :
    Rets Try.prog 39 #[.agg #[.int .i64 p, .int .i64 c, .int .i64 s, v], .agg #[.int .i64 p', .int .i64 c', .int .i64 s', v'], .int .i64 n] w0 fun u L => ∃ A cp, u = .tuple #[.slice A (sourcesR ⟨p, c, s, l⟩ ⟨p', c', s', l'⟩ n).1.length cp, .int .i64 (sourcesR ⟨p, c, s, l⟩ ⟨p', c', s', l'⟩ n).2] ∧ L = [rowOf 3 1 encI A cp (sourcesR ⟨p, c, s, l⟩ ⟨p', c', s', l'⟩ n).1] := by
  by_cases hok : mergeOk ⟨p, c, s, l⟩ ⟨p', c', s', l'⟩
  rotate_left
  · have rw_0 : decide (mergeOk ⟨p, c, s, l⟩ ⟨p', c', s', l'⟩) = false := decide_eq_false hok
    have e : sourcesR ⟨p, c, s, l⟩ ⟨p', c', s', l'⟩ n = ([], 60) := if_pos hok
    unfold Go.Fw.Rets
    refine enter3 Try.func39 rfl Try.ntmps39 rfl fun a S => ?_
    refine wp_seq_k fun _ hK1 => ?_
    refine wp_region_lit ?_
    (refine st_m (op_box S (Ev.t rfl) rfl ?_); clear S a; intro g1 a w S)
    (refine st_m (op_box S (Ev.t rfl) rfl ?_); clear S a w; intro g2 a w S)
    (refine st_y S (Yr.ys (ys_assign Ev.c)) rfl ?_; clear S a w; intro a w S)
    (refine st_y S (Yr.ys (ys_assign Ev.c)) rfl ?_; clear S a w; intro a w S)
    refine st_nil ?_
    (refine (then_normal (hK1 _ _ ?_)); clear hK1)
    refine wp_seq_k fun _ hK1 => ?_
    refine wp_seq_k fun _ hK2 => ?_
    refine wp_region_lit ?_
    (refine st_y S (Yr.ys (ys_ldA ⟨Try.isAgg24, Try.sizeOf24⟩ (Ev.t rfl) (k := 1) rfl rfl)) rfl ?_; clear S a w; intro a w S)
    (refine st_y S (Yr.ys (ys_ldA ⟨Try.isAgg24, Try.sizeOf24⟩ (Ev.t rfl) (k := 0) rfl rfl)) rfl ?_; clear S a w; intro a w S)
    (refine st_y S (ys_call Try.call68 (EvL.cons (Ev.t rfl) (EvL.cons (Ev.t rfl) EvL.nil)) (fun hp w W => c68 _ _ _ _ _ _ (by exact .old W (by assumption)) (by assumption) _ _ _ _ _ (by exact .old W (by assumption)) (by assumption))) rfl ?_; clear S a w; intro a w S)
    rw [rw_0] at S
    (refine st_y S (Yr.ys (ys_not (Ev.t rfl))) rfl ?_; clear S a w; intro a w S)
    refine st_nil ?_
    (refine (then_normal (hK2 _ _ ?_)); clear hK2)
    refine st_then S (Ev.t rfl) ?_
    refine wp_seq_k fun _ hK2 => ?_
    refine wp_region_lit ?_
    (refine st_y S (Yr.ys (ys_assign Ev.c)) rfl ?_; clear S a w; intro a w S)
    (refine st_y S (Yr.ys (ys_assign Ev.c)) rfl ?_; clear S a w; intro a w S)
    refine st_nil ?_
    (refine (then_normal (hK2 _ _ ?_)); clear hK2)
    refine wp_ret ?_
    refine (then_ret ?_)
    refine st_ret S (results2 S Try.results39 (Rv.tmp rfl) (Rv.tmp rfl)) ?_
    exact ⟨_, [rowOf 3 1 encI none 0 []], rfl, (S.nil_ 3 1 encI none).wd.picks (by repeat (first | exact Picks.nil | (refine Picks.rest ?_; (repeat (first | exact List.Sublist.refl _ | refine List.Sublist.cons_cons _ ?_ | refine List.Sublist.cons _ ?_)); done) | refine Picks.take 0 rfl ?_ | refine Picks.take 1 rfl ?_ | refine Picks.take 2 rfl ?_ | refine Picks.take 3 rfl ?_ | refine Picks.take 4 rfl ?_ | refine Picks.take 5 rfl ?_ | refine Picks.take 6 rfl ?_ | refine Picks.take 7 rfl ?_ | refine Picks.take 8 rfl ?_ | refine Picks.take 9 rfl ?_ | refine Picks.take 10 rfl ?_ | refine Picks.take 11 rfl ?_)), by rw [e]; exact ⟨none, 0, rfl, rfl⟩⟩
  have rw_0 : decide (mergeOk ⟨p, c, s, l⟩ ⟨p', c', s', l'⟩) = true := decide_eq_true hok
  by_cases hb : n < 0 ∨ p ≤ n
  · have rw_b : (decide (n < 0) || decide (p ≤ n)) = true := by rw [Bool.or_eq_true, decide_eq_true_eq, decide_eq_true_eq]; exact hb
    have e : sourcesR ⟨p, c, s, l⟩ ⟨p', c', s', l'⟩ n = ([], 1) := by unfold sourcesR; rw [if_neg (not_not_intro hok), if_pos hb]
    unfold Go.Fw.Rets
    refine enter3 Try.func39 rfl Try.ntmps39 rfl fun a S => ?_
    refine wp_seq_k fun _ hK1 => ?_
    refine wp_region_lit ?_
    (refine st_m (op_box S (Ev.t rfl) rfl ?_); clear S a; intro g1 a w S)
    (refine st_m (op_box S (Ev.t rfl) rfl ?_); clear S a w; intro g2 a w S)
    (refine st_y S (Yr.ys (ys_assign Ev.c)) rfl ?_; clear S a w; intro a w S)
    (refine st_y S (Yr.ys (ys_assign Ev.c)) rfl ?_; clear S a w; intro a w S)
    refine st_nil ?_
    (refine (then_normal (hK1 _ _ ?_)); clear hK1)
    refine wp_seq_k fun _ hK1 => ?_
    refine wp_seq_k fun _ hK2 => ?_
    refine wp_region_lit ?_
    (refine st_y S (Yr.ys (ys_ldA ⟨Try.isAgg24, Try.sizeOf24⟩ (Ev.t rfl) (k := 1) rfl rfl)) rfl ?_; clear S a w; intro a w S)
    (refine st_y S (Yr.ys (ys_ldA ⟨Try.isAgg24, Try.sizeOf24⟩ (Ev.t rfl) (k := 0) rfl rfl)) rfl ?_; clear S a w; intro a w S)
    (refine st_y S (ys_call Try.call68 (EvL.cons (Ev.t rfl) (EvL.cons (Ev.t rfl) EvL.nil)) (fun hp w W => c68 _ _ _ _ _ _ (by exact .old W (by assumption)) (by assumption) _ _ _ _ _ (by exact .old W (by assumption)) (by assumption))) rfl ?_; clear S a w; intro a w S)
    rw [rw_0] at S
    (refine st_y S (Yr.ys (ys_not (Ev.t rfl))) rfl ?_; clear S a w; intro a w S)
    refine st_nil ?_
    (refine (then_normal (hK2 _ _ ?_)); clear hK2)
    refine st_else S (Ev.t rfl) ?_
    refine wp_skip ?_
    (refine (then_normal (hK1 _ _ ?_)); clear hK1)
    refine wp_seq_k fun _ hK1 => ?_
    refine wp_seq_k fun _ hK2 => ?_
    refine wp_region_lit ?_
    (refine st_y S (Yr.ys (ys_move (Ev.t rfl))) rfl ?_; clear S a w; intro a w S)
    (refine st_y S (Yr.ys (ys_lss (Ev.t rfl) Ev.c)) rfl ?_; clear S a w; intro a w S)
    (refine st_y S (Yr.ys (ys_move (Ev.t rfl))) rfl ?_; clear S a w; intro a w S)
    (refine st_yf S rfl rfl (Yr.ys (ys_move (Ev.t rfl))) rfl ?_; clear S a w; intro a w S)
    (refine st_yf S rfl rfl (Yr.ys (ys_fieldN (FieldT.mk Try.underlying24 rfl Try.sizeOf3 rfl) (Ev.t rfl) (i' := 0) rfl)) rfl ?_; clear S a w; intro a w S)
    (refine st_yf S rfl rfl (Yr.ys (ys_ld ⟨Try.isAgg3, Try.sizeOf3⟩ (Ev.g rfl) (k := 1) rfl rfl)) rfl ?_; clear S a w; intro a w S)
    (refine st_yf S rfl rfl (Yr.ys (ys_geq (Ev.g rfl) (Ev.g rfl))) rfl ?_; clear S a w; intro a w S)
    (refine st_y S (Yr.ys (ys_or (Ev.t rfl) Ev.c (Ev.g rfl))) rfl ?_; clear S a w; intro a w S)
    rw [rw_b] at S
    refine st_nil ?_
    (refine (then_normal (hK2 _ _ ?_)); clear hK2)
    refine st_then S (Ev.t rfl) ?_
    refine wp_seq_k fun _ hK2 => ?_
    refine wp_region_lit ?_
    (refine st_y S (Yr.ys (ys_assign Ev.c)) rfl ?_; clear S a w; intro a w S)
    (refine st_y S (Yr.ys (ys_assign Ev.c)) rfl ?_; clear S a w; intro a w S)
    refine st_nil ?_
    (refine (then_normal (hK2 _ _ ?_)); clear hK2)
    refine wp_ret ?_
    refine (then_ret ?_)
    refine st_ret S (results2 S Try.results39 (Rv.tmp rfl) (Rv.tmp rfl)) ?_
    exact ⟨_, [rowOf 3 1 encI none 0 []], rfl, (S.nil_ 3 1 encI none).wd.picks (by repeat (first | exact Picks.nil | (refine Picks.rest ?_; (repeat (first | exact List.Sublist.refl _ | refine List.Sublist.cons_cons _ ?_ | refine List.Sublist.cons _ ?_)); done) | refine Picks.take 0 rfl ?_ | refine Picks.take 1 rfl ?_ | refine Picks.take 2 rfl ?_ | refine Picks.take 3 rfl ?_ | refine Picks.take 4 rfl ?_ | refine Picks.take 5 rfl ?_ | refine Picks.take 6 rfl ?_ | refine Picks.take 7 rfl ?_ | refine Picks.take 8 rfl ?_ | refine Picks.take 9 rfl ?_ | refine Picks.take 10 rfl ?_ | refine Picks.take 11 rfl ?_)), by rw [e]; exact ⟨none, 0, rfl, rfl⟩⟩
  have rw_b : (decide (n < 0) || decide (p ≤ n)) = false := by rw [Bool.or_eq_false_iff, decide_eq_false_iff_not, decide_eq_false_iff_not]; omega
  have e : sourcesR ⟨p, c, s, l⟩ ⟨p', c', s', l'⟩ n = (withoutL (ownersR ⟨p, c, s, l⟩ n) (withoutL (ownersR ⟨p, c, s, l⟩ n) (ownersR ⟨p', c', s', l'⟩ n)) ++ withoutL (ownersR ⟨p, c, s, l⟩ n) (ownersR ⟨p', c', s', l'⟩ n), 0) := by unfold sourcesR; rw [if_neg (not_not_intro hok), if_neg hb]
  have ho := owners_len ⟨p, c, s, l⟩ n
  have h1 := withoutL_le (ownersR ⟨p, c, s, l⟩ n) (ownersR ⟨p', c', s', l'⟩ n)
  have h2 := withoutL_le (ownersR ⟨p, c, s, l⟩ n) (withoutL (ownersR ⟨p, c, s, l⟩ n) (ownersR ⟨p', c', s', l'⟩ n))
  unfold Go.Fw.Rets
  refine enter3 Try.func39 rfl Try.ntmps39 rfl fun a S => ?_
  refine wp_seq_k fun _ hK1 => ?_
  refine wp_region_lit ?_
  (refine st_m (op_box S (Ev.t rfl) rfl ?_); clear S a; intro g1 a w S)
  (refine st_m (op_box S (Ev.t rfl) rfl ?_); clear S a w; intro g2 a w S)
  (refine st_y S (Yr.ys (ys_assign Ev.c)) rfl ?_; clear S a w; intro a w S)
  (refine st_y S (Yr.ys (ys_assign Ev.c)) rfl ?_; clear S a w; intro a w S)
  refine st_nil ?_
  (refine (then_normal (hK1 _ _ ?_)); clear hK1)
  refine wp_seq_k fun _ hK1 => ?_
  refine wp_seq_k fun _ hK2 => ?_
  refine wp_region_lit ?_
  (refine st_y S (Yr.ys (ys_ldA ⟨Try.isAgg24, Try.sizeOf24⟩ (Ev.t rfl) (k := 1) rfl rfl)) rfl ?_; clear S a w; intro a w S)
  (refine st_y S (Yr.ys (ys_ldA ⟨Try.isAgg24, Try.sizeOf24⟩ (Ev.t rfl) (k := 0) rfl rfl)) rfl ?_; clear S a w; intro a w S)
  (refine st_y S (ys_call Try.call68 (EvL.cons (Ev.t rfl) (EvL.cons (Ev.t rfl) EvL.nil)) (fun hp w W => c68 _ _ _ _ _ _ (by exact .old W (by assumption)) (by assumption) _ _ _ _ _ (by exact .old W (by assumption)) (by assumption))) rfl ?_; clear S a w; intro a w S)
  rw [rw_0] at S
  (refine st_y S (Yr.ys (ys_not (Ev.t rfl))) rfl ?_; clear S a w; intro a w S)
  refine st_nil ?_
  (refine (then_normal (hK2 _ _ ?_)); clear hK2)
  refine st_else S (Ev.t rfl) ?_
  refine wp_skip ?_
  (refine (then_normal (hK1 _ _ ?_)); clear hK1)
  refine wp_seq_k fun _ hK1 => ?_
  refine wp_seq_k fun _ hK2 => ?_
  refine wp_region_lit ?_
  (refine st_y S (Yr.ys (ys_move (Ev.t rfl))) rfl ?_; clear S a w; intro a w S)
  (refine st_y S (Yr.ys (ys_F (by omega) (ys_lss (Ev.t rfl) Ev.c))) rfl ?_; clear S a w; intro a w S)
  (refine st_y S (Yr.ys (ys_move (Ev.t rfl))) rfl ?_; clear S a w; intro a w S)
  (refine st_yt S rfl rfl (Yr.ys (ys_move (Ev.t rfl))) rfl ?_; clear S a w; intro a w S)
  (refine st_yt S rfl rfl (Yr.ys (ys_fieldN (FieldT.mk Try.underlying24 rfl Try.sizeOf3 rfl) (Ev.t rfl) (i' := 0) rfl)) rfl ?_; clear S a w; intro a w S)
  (refine st_yt S rfl rfl (Yr.ys (ys_ld ⟨Try.isAgg3, Try.sizeOf3⟩ (Ev.t rfl) (k := 1) rfl rfl)) rfl ?_; clear S a w; intro a w S)
  (refine st_yt S rfl rfl (Yr.ys (ys_F (by omega) (ys_geq (Ev.t rfl) (Ev.t rfl)))) rfl ?_; clear S a w; intro a w S)
  (refine st_y S (Yr.ys (ys_pickF (Ev.t rfl) (Ev.t rfl))) rfl ?_; clear S a w; intro a w S)
  refine st_nil ?_
  (refine (then_normal (hK2 _ _ ?_)); clear hK2)
  refine st_else S (Ev.t rfl) ?_
  refine wp_skip ?_
  (refine (then_normal (hK1 _ _ ?_)); clear hK1)
  refine wp_seq_k fun _ hK1 => ?_
  (refine h_begin0 S (by kernel_rfl) ?_; clear S a w; intro a w S)
  (refine h_y (i := 0) S (by repeat (first | exact List.Sublist.refl _ | exact List.nil_sublist _ | refine .cons_cons _ ?_ | refine .cons _ ?_)) rfl (by kernel_rfl) (by kernel_rfl) (by kernel_rfl) (fun _ _ _ _ h => h) (ys_ldA ⟨Try.isAgg24, Try.sizeOf24⟩ (Ev.t rfl) (k := 1) rfl rfl) rfl ?_; clear S a w; intro a w S)
  (refine h_y (i := 1) S (by repeat (first | exact List.Sublist.refl _ | exact List.nil_sublist _ | refine .cons_cons _ ?_ | refine .cons _ ?_)) rfl (by kernel_rfl) (by kernel_rfl) (by kernel_rfl) (fun _ _ _ _ h => h) (ys_move (Ev.t rfl)) rfl ?_; clear S a w; intro a w S)
  (refine h_y (i := 3) S (by repeat (first | exact List.Sublist.refl _ | exact List.nil_sublist _ | refine .cons_cons _ ?_ | refine .cons _ ?_)) rfl (by kernel_rfl) (by kernel_rfl) (by kernel_rfl) (fun _ _ _ _ h => h) (ys_ldA ⟨Try.isAgg24, Try.sizeOf24⟩ (Ev.t rfl) (k := 0) rfl rfl) rfl ?_; clear S a w; intro a w S)
  (refine h_y (i := 4) S (by repeat (first | exact List.Sublist.refl _ | exact List.nil_sublist _ | refine .cons_cons _ ?_ | refine .cons _ ?_)) rfl (by kernel_rfl) (by kernel_rfl) (by kernel_rfl) (fun _ _ _ _ h => h) (ys_move (Ev.t rfl)) rfl ?_; clear S a w; intro a w S)
  (refine h_m (i := 2) rfl (by kernel_rfl) (op_calls S Try.call48 (EvL.cons (Ev.t rfl) (EvL.cons (Ev.t rfl) EvL.nil)) (c48 _ _ _ _ _ _ _ (by exact .old S.wd (by assumption)) (by assumption)) rfl ?_); clear S a w; rintro _ _ ⟨A1, cp1, rfl, rfl⟩ a w S; refine h_on S _ (by repeat (first | exact List.Sublist.refl _ | exact List.nil_sublist _ | refine .cons_cons _ ?_ | refine .cons _ ?_)) (List.Sublist.refl _) ?_)
  (refine h_m (i := 5) rfl (by kernel_rfl) (op_calls S Try.call48 (EvL.cons (Ev.t rfl) (EvL.cons (Ev.t rfl) EvL.nil)) (c48 _ _ _ _ _ _ _ (by exact .old S.wd (by assumption)) (by assumption)) rfl ?_); clear S a w; rintro _ _ ⟨A2, cp2, rfl, rfl⟩ a w S; refine h_on S _ (by repeat (first | exact List.Sublist.refl _ | exact List.nil_sublist _ | refine .cons_cons _ ?_ | refine .cons _ ?_)) (List.Sublist.refl _) ?_)
  (refine h_y (i := 6) S (by repeat (first | exact List.Sublist.refl _ | exact List.nil_sublist _ | refine .cons_cons _ ?_ | refine .cons _ ?_)) rfl (by kernel_rfl) (by kernel_rfl) (by kernel_rfl) (fun _ _ _ _ h => h) (ys_assign (Ev.t rfl)) rfl ?_; clear S a w; intro a w S)
  (refine h_y (i := 7) S (by repeat (first | exact List.Sublist.refl _ | exact List.nil_sublist _ | refine .cons_cons _ ?_ | refine .cons _ ?_)) rfl (by kernel_rfl) (by kernel_rfl) (by kernel_rfl) (fun _ _ _ _ h => h) (ys_assign (Ev.t rfl)) rfl ?_; clear S a w; intro a w S)
  refine h_done (by kernel_rfl) ?_
  (refine (then_normal (hK1 _ _ ?_)); clear hK1)
  refine wp_seq_k fun _ hK1 => ?_
  refine wp_region_lit ?_
  (refine st_y S (Yr.ys (ys_move (Ev.t rfl))) rfl ?_; clear S a w; intro a w S)
  (refine st_y S (Yr.ys (ys_move (Ev.t rfl))) rfl ?_; clear S a w; intro a w S)
  (refine st_m (op_calls S Try.call69 (EvL.cons (Ev.t rfl) (EvL.cons (Ev.t rfl) EvL.nil)) (c69 _ _ _ _ _ (by exact Sl.of_own S.wd (k := 1) rfl (fun _ => rfl)) (by omega) (by exact Sl.of_own S.wd (k := 0) rfl (fun _ => rfl))) rfl ?_); clear S a w; rintro _ _ ⟨A3, cp3, rfl, rfl⟩ a w S)
  (refine st_y S (Yr.ys (ys_assign (Ev.t rfl))) rfl ?_; clear S a w; intro a w S)
  refine st_nil ?_
  (refine (then_normal (hK1 _ _ ?_)); clear hK1)
  refine wp_seq_k fun _ hK1 => ?_
  refine wp_region_lit ?_
  (refine st_y S (Yr.ys (ys_move (Ev.t rfl))) rfl ?_; clear S a w; intro a w S)
  (refine st_y S (Yr.ys (ys_move (Ev.t rfl))) rfl ?_; clear S a w; intro a w S)
  (refine st_m (op_calls S Try.call69 (EvL.cons (Ev.t rfl) (EvL.cons (Ev.t rfl) EvL.nil)) (c69 _ _ _ _ _ (by exact Sl.of_own S.wd (k := 2) rfl (fun _ => rfl)) (by omega) (by exact Sl.of_own S.wd (k := 0) rfl (fun _ => rfl))) rfl ?_); clear S a w; rintro _ _ ⟨A4, cp4, rfl, rfl⟩ a w S)
  (refine st_y S (Yr.ys (ys_move (Ev.t rfl))) rfl ?_; clear S a w; intro a w S)
  (refine st_m (op_extend _ S Try.underlying40 Try.underlying40 (.inr ⟨_, rfl⟩) inf3 rfl (k := 0) rfl (Ev.t rfl) (Ev.t rfl) (Src.row S.wd (k := 1) rfl (Go.Fw.flat_one Go.Proofs.Ytcglchdbddlnjaa.encI_one _)) (by first | omega | (simp only [List.length_append, List.length_cons, List.length_nil]; omega) | (simp; omega)) rfl rfl rfl ?_); clear S a w; intro A5 cap1 a w S)
  (refine st_y S (Yr.ys (ys_assign (Ev.t rfl))) rfl ?_; clear S a w; intro a w S)
  (refine st_y S (Yr.ys (ys_assign Ev.c)) rfl ?_; clear S a w; intro a w S)
  refine st_nil ?_
  (refine (then_normal (hK1 _ _ ?_)); clear hK1)
  refine wp_ret ?_
  refine st_ret S (results2 S Try.results39 (Rv.tmp rfl) (Rv.tmp rfl)) ?_
  exact ⟨_, [rowOf 3 1 encI _ _ _], rfl, S.wd.picks (by repeat (first | exact Picks.nil | (refine Picks.rest ?_; (repeat (first | exact List.Sublist.refl _ | refine List.Sublist.cons_cons _ ?_ | refine List.Sublist.cons _ ?_)); done) | refine Picks.take 0 rfl ?_ | refine Picks.take 1 rfl ?_ | refine Picks.take 2 rfl ?_ | refine Picks.take 3 rfl ?_ | refine Picks.take 4 rfl ?_ | refine Picks.take 5 rfl ?_ | refine Picks.take 6 rfl ?_ | refine Picks.take 7 rfl ?_ | refine Picks.take 8 rfl ?_ | refine Picks.take 9 rfl ?_ | refine Picks.take 10 rfl ?_ | refine Picks.take 11 rfl ?_)), by rw [e]; exact ⟨_, _, rfl, rfl⟩⟩
theorem c40 (w0 : World) (p c s : Int) (v : Value) (l : List Mbr) (h : Sl Mbr.enc 4 w0 w0.heap.size v l) (hn : l.length ≤ 4194304) (p' c' s' : Int) (v' : Value) (l' : List Mbr) (h' : Sl Mbr.enc 4 w0 w0.heap.size v' l') (hn' : l'.length ≤ 4194304) (n : Int) :
    Rets Try.prog 40 #[.agg #[.int .i64 p, .int .i64 c, .int .i64 s, v], .agg #[.int .i64 p', .int .i64 c', .int .i64 s', v'], .int .i64 n] w0 fun u L => ∃ A cp, u = .tuple #[.slice A (sourcesR ⟨p, c, s, l⟩ ⟨p', c', s', l'⟩ n).1.length cp, .int .i64 (sourcesR ⟨p, c, s, l⟩ ⟨p', c', s', l'⟩ n).2] ∧ L = [rowOf 3 1 encI A cp (sourcesR ⟨p, c, s, l⟩ ⟨p', c', s', l'⟩ n).1] := by
  by_cases hok : mergeOk ⟨p, c, s, l⟩ ⟨p', c', s', l'⟩
  rotate_left
  · have rw_0 : decide (mergeOk ⟨p, c, s, l⟩ ⟨p', c', s', l'⟩) = false := decide_eq_false hok
    have e : sourcesR ⟨p, c, s, l⟩ ⟨p', c', s', l'⟩ n = ([], 60) := if_pos hok
    unfold Go.Fw.Rets
    refine enter3 Try.func40 rfl Try.ntmps40 rfl fun a S => ?_
    refine wp_seq_k fun _ hK1 => ?_
    refine wp_region_lit ?_
    (refine st_m (op_box S (Ev.t rfl) rfl ?_); clear S a; intro g1 a w S)
    (refine st_m (op_box S (Ev.t rfl) rfl ?_); clear S a w; intro g2 a w S)
    (refine st_y S (Yr.ys (ys_assign Ev.c)) rfl ?_; clear S a w; intro a w S)
    (refine st_y S (Yr.ys (ys_assign Ev.c)) rfl ?_; clear S a w; intro a w S)
    refine st_nil ?_
    (refine (then_normal (hK1 _ _ ?_)); clear hK1)
    refine wp_seq_k fun _ hK1 => ?_
    refine wp_seq_k fun _ hK2 => ?_
    refine wp_region_lit ?_
    (refine st_y S (Yr.ys (ys_ldA ⟨Try.isAgg24, Try.sizeOf24⟩ (Ev.t rfl) (k := 1) rfl rfl)) rfl ?_; clear S a w; intro a w S)
    (refine st_y S (Yr.ys (ys_ldA ⟨Try.isAgg24, Try.sizeOf24⟩ (Ev.t rfl) (k := 0) rfl rfl)) rfl ?_; clear S a w; intro a w S)
    (refine st_y S (ys_call Try.call75 (EvL.cons (Ev.t rfl) (EvL.cons (Ev.t rfl) EvL.nil)) (fun hp w W => c75 _ _ _ _ _ _ (by exact .old W (by assumption)) (by assumption) _ _ _ _ _ (by exact .old W (by assumption)) (by assumption))) rfl ?_; clear S a w; intro a w S)
    rw [rw_0] at S
    (refine st_y S (Yr.ys (ys_not (Ev.t rfl))) rfl ?_; clear S a w; intro a w S)
    refine st_nil ?_
    (refine (then_normal (hK2 _ _ ?_)); clear hK2)
    refine st_then S (Ev.t rfl) ?_
    refine wp_seq_k fun _ hK2 => ?_
    refine wp_region_lit ?_
    (refine st_y S (Yr.ys (ys_assign Ev.c)) rfl ?_; clear S a w; intro a w S)
    (refine st_y S (Yr.ys (ys_assign Ev.c)) rfl ?_; clear S a w; intro a w S)
    refine st_nil ?_
    (refine (then_normal (hK2 _ _ ?_)); clear hK2)
    refine wp_ret ?_
    refine (then_ret ?_)
    refine st_ret S (results2 S Try.results40 (Rv.tmp rfl) (Rv.tmp rfl)) ?_
    exact ⟨_, [rowOf 3 1 encI none 0 []], rfl, (S.nil_ 3 1 encI none).wd.picks (by repeat (first | exact Picks.nil | (refine Picks.rest ?_; (repeat (first | exact List.Sublist.refl _ | refine List.Sublist.cons_cons _ ?_ | refine List.Sublist.cons _ ?_)); done) | refine Picks.take 0 rfl ?_ | refine Picks.take 1 rfl ?_ | refine Picks.take 2 rfl ?_ | refine Picks.take 3 rfl ?_ | refine Picks.take 4 rfl ?_ | refine Picks.take 5 rfl ?_ | refine Picks.take 6 rfl ?_ | refine Picks.take 7 rfl ?_ | refine Picks.take 8 rfl ?_ | refine Picks.take 9 rfl ?_ | refine Picks.take 10 rfl ?_ | refine Picks.take 11 rfl ?_)), by rw [e]; exact ⟨none, 0, rfl, rfl⟩⟩
  have rw_0 : decide (mergeOk ⟨p, c, s, l⟩ ⟨p', c', s', l'⟩) = true := decide_eq_true hok
  by_cases hb : n < 0 ∨ p ≤ n
  · have rw_b : (decide (n < 0) || decide (p ≤ n)) = true := by rw [Bool.or_eq_true, decide_eq_true_eq, decide_eq_true_eq]; exact hb
    have e : sourcesR ⟨p, c, s, l⟩ ⟨p', c', s', l'⟩ n = ([], 1) := by unfold sourcesR; rw [if_neg (not_not_intro hok), if_pos hb]
    unfold Go.Fw.Rets
    refine enter3 Try.func40 rfl Try.ntmps40 rfl fun a S => ?_
    refine wp_seq_k fun _ hK1 => ?_
    refine wp_region_lit ?_
    (refine st_m (op_box S (Ev.t rfl) rfl ?_); clear S a; intro g1 a w S)
    (refine st_m (op_box S (Ev.t rfl) rfl ?_); clear S a w; intro g2 a w S)
    (refine st_y S (Yr.ys (ys_assign Ev.c)) rfl ?_; clear S a w; intro a w S)
    (refine st_y S (Yr.ys (ys_assign Ev.c)) rfl ?_; clear S a w; intro a w S)
    refine st_nil ?_
    (refine (then_normal (hK1 _ _ ?_)); clear hK1)
    refine wp_seq_k fun _ hK1 => ?_
    refine wp_seq_k fun _ hK2 => ?_
    refine wp_region_lit ?_
    (refine st_y S (Yr.ys (ys_ldA ⟨Try.isAgg24, Try.sizeOf24⟩ (Ev.t rfl) (k := 1) rfl rfl)) rfl ?_; clear S a w; intro a w S)
    (refine st_y S (Yr.ys (ys_ldA ⟨Try.isAgg24, Try.sizeOf24⟩ (Ev.t rfl) (k := 0) rfl rfl)) rfl ?_; clear S a w; intro a w S)
    (refine st_y S (ys_call Try.call75 (EvL.cons (Ev.t rfl) (EvL.cons (Ev.t rfl) EvL.nil)) (fun hp w W => c75 _ _ _ _ _ _ (by exact .old W (by assumption)) (by assumption) _ _ _ _ _ (by exact .old W (by assumption)) (by assumption))) rfl ?_; clear S a w; intro a w S)
    rw [rw_0] at S
    (refine st_y S (Yr.ys (ys_not (Ev.t rfl))) rfl ?_; clear S a w; intro a w S)
    refine st_nil ?_
    (refine (then_normal (hK2 _ _ ?_)); clear hK2)
    refine st_else S (Ev.t rfl) ?_
    refine wp_skip ?_
    (refine (then_normal (hK1 _ _ ?_)); clear hK1)
    refine wp_seq_k fun _ hK1 => ?_
    refine wp_seq_k fun _ hK2 => ?_
    refine wp_region_lit ?_
    (refine st_y S (Yr.ys (ys_move (Ev.t rfl))) rfl ?_; clear S a w; intro a w S)
    (refine st_y S (Yr.ys (ys_lss (Ev.t rfl) Ev.c)) rfl ?_; clear S a w; intro a w S)
    (refine st_y S (Yr.ys (ys_move (Ev.t rfl))) rfl ?_; clear S a w; intro a w S)
    (refine st_yf S rfl rfl (Yr.ys (ys_move (Ev.t rfl))) rfl ?_; clear S a w; intro a w S)
    (refine st_yf S rfl rfl (Yr.ys (ys_fieldN (FieldT.mk Try.underlying24 rfl Try.sizeOf3 rfl) (Ev.t rfl) (i' := 0) rfl)) rfl ?_; clear S a w; intro a w S)
    (refine st_yf S rfl rfl (Yr.ys (ys_ld ⟨Try.isAgg3, Try.sizeOf3⟩ (Ev.g rfl) (k := 1) rfl rfl)) rfl ?_; clear S a w; intro a w S)
    (refine st_yf S rfl rfl (Yr.ys (ys_geq (Ev.g rfl) (Ev.g rfl))) rfl ?_; clear S a w; intro a w S)
    (refine st_y S (Yr.ys (ys_or (Ev.t rfl) Ev.c (Ev.g rfl))) rfl ?_; clear S a w; intro a w S)
    rw [rw_b] at S
    refine st_nil ?_
    (refine (then_normal (hK2 _ _ ?_)); clear hK2)
    refine st_then S (Ev.t rfl) ?_
    refine wp_seq_k fun _ hK2 => ?_
    refine wp_region_lit ?_
    (refine st_y S (Yr.ys (ys_assign Ev.c)) rfl ?_; clear S a w; intro a w S)
    (refine st_y S (Yr.ys (ys_assign Ev.c)) rfl ?_; clear S a w; intro a w S)
    refine st_nil ?_
    (refine (then_normal (hK2 _ _ ?_)); clear hK2)
    refine wp_ret ?_
    refine (then_ret ?_)
    refine st_ret S (results2 S Try.results40 (Rv.tmp rfl) (Rv.tmp rfl)) ?_
    exact ⟨_, [rowOf 3 1 encI none 0 []], rfl, (S.nil_ 3 1 encI none).wd.picks (by repeat (first | exact Picks.nil | (refine Picks.rest ?_; (repeat (first | exact List.Sublist.refl _ | refine List.Sublist.cons_cons _ ?_ | refine List.Sublist.cons _ ?_)); done) | refine Picks.take 0 rfl ?_ | refine Picks.take 1 rfl ?_ | refine Picks.take 2 rfl ?_ | refine Picks.take 3 rfl ?_ | refine Picks.take 4 rfl ?_ | refine Picks.take 5 rfl ?_ | refine Picks.take 6 rfl ?_ | refine Picks.take 7 rfl ?_ | refine Picks.take 8 rfl ?_ | refine Picks.take 9 rfl ?_ | refine Picks.take 10 rfl ?_ | refine Picks.take 11 rfl ?_)), by rw [e]; exact ⟨none, 0, rfl, rfl⟩⟩
  have rw_b : (decide (n < 0) || decide (p ≤ n)) = false := by rw [Bool.or_eq_false_iff, decide_eq_false_iff_not, decide_eq_false_iff_not]; omega
  have e : sourcesR ⟨p, c, s, l⟩ ⟨p', c', s', l'⟩ n = (withoutL (ownersR ⟨p, c, s, l⟩ n) (withoutL (ownersR ⟨p, c, s, l⟩ n) (ownersR ⟨p', c', s', l'⟩ n)) ++ withoutL (ownersR ⟨p, c, s, l⟩ n) (ownersR ⟨p', c', s', l'⟩ n), 0) := by unfold sourcesR; rw [if_neg (not_not_intro hok), if_neg hb]
  have ho := owners_len ⟨p, c, s, l⟩ n
  have h1 := withoutL_le (ownersR ⟨p, c, s, l⟩ n) (ownersR ⟨p', c', s', l'⟩ n)
  have h2 := withoutL_le (ownersR ⟨p, c, s, l⟩ n) (withoutL (ownersR ⟨p, c, s, l⟩ n) (ownersR ⟨p', c', s', l'⟩ n))
  unfold Go.Fw.Rets
  refine enter3 Try.func40 rfl Try.ntmps40 rfl fun a S => ?_
  refine wp_seq_k fun _ hK1 => ?_
  refine wp_region_lit ?_
  (refine st_m (op_box S (Ev.t rfl) rfl ?_); clear S a; intro g1 a w S)
  (refine st_m (op_box S (Ev.t rfl) rfl ?_); clear S a w; intro g2 a w S)
  (refine st_y S (Yr.ys (ys_assign Ev.c)) rfl ?_; clear S a w; intro a w S)
  (refine st_y S (Yr.ys (ys_assign Ev.c)) rfl ?_; clear S a w; intro a w S)
  refine st_nil ?_
  (refine (then_normal (hK1 _ _ ?_)); clear hK1)
  refine wp_seq_k fun _ hK1 => ?_
  refine wp_seq_k fun _ hK2 => ?_
  refine wp_region_lit ?_
  (refine st_y S (Yr.ys (ys_ldA ⟨Try.isAgg24, Try.sizeOf24⟩ (Ev.t rfl) (k := 1) rfl rfl)) rfl ?_; clear S a w; intro a w S)
  (refine st_y S (Yr.ys (ys_ldA ⟨Try.isAgg24, Try.sizeOf24⟩ (Ev.t rfl) (k := 0) rfl rfl)) rfl ?_; clear S a w; intro a w S)
  (refine st_y S (ys_call Try.call75 (EvL.cons (Ev.t rfl) (EvL.cons (Ev.t rfl) EvL.nil)) (fun hp w W => c75 _ _ _ _ _ _ (by exact .old W (by assumption)) (by assumption) _ _ _ _ _ (by exact .old W (by assumption)) (by assumption))) rfl ?_; clear S a w; intro a w S)
  rw [rw_0] at S
  (refine st_y S (Yr.ys (ys_not (Ev.t rfl))) rfl ?_; clear S a w; intro a w S)
  refine st_nil ?_
  (refine (then_normal (hK2 _ _ ?_)); clear hK2)
  refine st_else S (Ev.t rfl) ?_
  refine wp_skip ?_
  (refine (then_normal (hK1 _ _ ?_)); clear hK1)
  refine wp_seq_k fun _ hK1 => ?_
  refine wp_seq_k fun _ hK2 => ?_
  refine wp_region_lit ?_
  (refine st_y S (Yr.ys (ys_move (Ev.t rfl))) rfl ?_; clear S a w; intro a w S)
  (refine st_y S (Yr.ys (ys_F (by omega) (ys_lss (Ev.t rfl) Ev.c))) rfl ?_; clear S a w; intro a w S)
  (refine st_y S (Yr.ys (ys_move (Ev.t rfl))) rfl ?_; clear S a w; intro a w S)
  (refine st_yt S rfl rfl (Yr.ys (ys_move (Ev.t rfl))) rfl ?_; clear S a w; intro a w S)
  (refine st_yt S rfl rfl (Yr.ys (ys_fieldN (FieldT.mk Try.underlying24 rfl Try.sizeOf3 rfl) (Ev.t rfl) (i' := 0) rfl)) rfl ?_; clear S a w; intro a w S)
  (refine st_yt S rfl rfl (Yr.ys (ys_ld ⟨Try.isAgg3, Try.sizeOf3⟩ (Ev.t rfl) (k := 1) rfl rfl)) rfl ?_; clear S a w; intro a w S)
  (refine st_yt S rfl rfl (Yr.ys (ys_F (by omega) (ys_geq (Ev.t rfl) (Ev.t rfl)))) rfl ?_; clear S a w; intro a w S)
  (refine st_y S (Yr.ys (ys_pickF (Ev.t rfl) (Ev.t rfl))) rfl ?_; clear S a w; intro a w S)
  refine st_nil ?_
  (refine (then_normal (hK2 _ _ ?_)); clear hK2)
  refine st_else S (Ev.t rfl) ?_
  refine wp_skip ?_
  (refine (then_normal (hK1 _ _ ?_)); clear hK1)
  refine wp_seq_k fun _ hK1 => ?_
  refine wp_region_lit ?_
  (refine st_y S (Yr.ys (ys_ldA ⟨Try.isAgg24, Try.sizeOf24⟩ (Ev.t rfl) (k := 1) rfl rfl)) rfl ?_; clear S a w; intro a w S)
  (refine st_y S (Yr.ys (ys_move (Ev.t rfl))) rfl ?_; clear S a w; intro a w S)
  (refine st_m (op_calls S Try.call27 (EvL.cons (Ev.t rfl) (EvL.cons (Ev.t rfl) EvL.nil)) (c27 _ _ _ _ _ _ _ (by exact .old S.wd (by assumption)) (by assumption)) rfl ?_); clear S a w; rintro _ _ ⟨A1, cp1, rfl, rfl⟩ a w S)
  (refine st_y S (Yr.ys (ys_assign (Ev.t rfl))) rfl ?_; clear S a w; intro a w S)
  refine st_nil ?_
  (refine (then_normal (hK1 _ _ ?_)); clear hK1)
  refine wp_seq_k fun _ hK1 => ?_
  refine wp_region_lit ?_
  (refine st_y S (Yr.ys (ys_move (Ev.t rfl))) rfl ?_; clear S a w; intro a w S)
  (refine st_y S (Yr.ys (ys_ldA ⟨Try.isAgg24, Try.sizeOf24⟩ (Ev.t rfl) (k := 1) rfl rfl)) rfl ?_; clear S a w; intro a w S)
  (refine st_y S (Yr.ys (ys_move (Ev.t rfl))) rfl ?_; clear S a w; intro a w S)
  (refine st_m (op_calls S Try.call27 (EvL.cons (Ev.t rfl) (EvL.cons (Ev.t rfl) EvL.nil)) (c27 _ _ _ _ _ _ _ (by exact .old S.wd (by assumption)) (by assumption)) rfl ?_); clear S a w; rintro _ _ ⟨A2, cp2, rfl, rfl⟩ a w S)
  (refine st_m (op_calls S Try.call76 (EvL.cons (Ev.t rfl) (EvL.cons (Ev.t rfl) EvL.nil)) (c76 _ _ _ _ _ (by exact Sl.of_own S.wd (k := 1) rfl (fun _ => rfl)) (by omega) (by exact Sl.of_own S.wd (k := 0) rfl (fun _ => rfl))) rfl ?_); clear S a w; rintro _ _ ⟨A3, cp3, rfl, rfl⟩ a w S)
  (refine st_y S (Yr.ys (ys_assign (Ev.t rfl))) rfl ?_; clear S a w; intro a w S)
  refine st_nil ?_
  (refine (then_normal (hK1 _ _ ?_)); clear hK1)
  refine wp_seq_k fun _ hK1 => ?_
  refine wp_region_lit ?_
  (refine st_y S (Yr.ys (ys_move (Ev.t rfl))) rfl ?_; clear S a w; intro a w S)
  (refine st_y S (Yr.ys (ys_move (Ev.t rfl))) rfl ?_; clear S a w; intro a w S)
  (refine st_m (op_calls S Try.call76 (EvL.cons (Ev.t rfl) (EvL.cons (Ev.t rfl) EvL.nil)) (c76 _ _ _ _ _ (by exact Sl.of_own S.wd (k := 2) rfl (fun _ => rfl)) (by omega) (by exact Sl.of_own S.wd (k := 0) rfl (fun _ => rfl))) rfl ?_); clear S a w; rintro _ _ ⟨A4, cp4, rfl, rfl⟩ a w S)
  (refine st_y S (Yr.ys (ys_move (Ev.t rfl))) rfl ?_; clear S a w; intro a w S)
  (refine st_m (op_extend _ S Try.underlying40 Try.underlying40 (.inr ⟨_, rfl⟩) inf3 rfl (k := 0) rfl (Ev.t rfl) (Ev.t rfl) (Src.row S.wd (k := 1) rfl (Go.Fw.flat_one Go.Proofs.Ytcglchdbddlnjaa.encI_one _)) (by first | omega | (simp only [List.length_append, List.length_cons, List.length_nil]; omega) | (simp; omega)) rfl rfl rfl ?_); clear S a w; intro A5 cap1 a w S)
  (refine st_y S (Yr.ys (ys_assign (Ev.t rfl))) rfl ?_; clear S a w; intro a w S)
  (refine st_y S (Yr.ys (ys_assign Ev.c)) rfl ?_; clear S a w; intro a w S)
  refine st_nil ?_
  (refine (then_normal (hK1 _ _ ?_)); clear hK1)
  refine wp_ret ?_
  refine st_ret S (results2 S Try.results40 (Rv.tmp rfl) (Rv.tmp rfl)) ?_
  exact ⟨_, [rowOf 3 1 encI _ _ _], rfl, S.wd.picks (by repeat (first | exact Picks.nil | (refine Picks.rest ?_; (repeat (first | exact List.Sublist.refl _ | refine List.Sublist.cons_cons _ ?_ | refine List.Sublist.cons _ ?_)); done) | refine Picks.take 0 rfl ?_ | refine Picks.take 1 rfl ?_ | refine Picks.take 2 rfl ?_ | refine Picks.take 3 rfl ?_ | refine Picks.take 4 rfl ?_ | refine Picks.take 5 rfl ?_ | refine Picks.take 6 rfl ?_ | refine Picks.take 7 rfl ?_ | refine Picks.take 8 rfl ?_ | refine Picks.take 9 rfl ?_ | refine Picks.take 10 rfl ?_ | refine Picks.take 11 rfl ?_)), by rw [e]; exact ⟨_, _, rfl, rfl⟩⟩
end Go.Proofs.Ytcglchdbddlnjaa
set_option linter.unusedVariables false
set_option linter.unusedSimpArgs false
namespace Go.Fw
open Go.RowKit
section
variable {P : Program} {n : Nat} {w0 : World} {K : KL} {L : List Chunk} {ty : TypeId} {pos : String} {aft : Array Edge} {gd : Option (Nat × Bool)} {a : Act} {w : World} {Z : Act → World → Prop} {Q : Exit → Act → World → Prop} {d : Nat}
theorem op_mkS {α : Type} (enc : α → List Value) (z0 : α) {t e size bytes m : Nat} {zv : Value} {x y : Operand} {kl kc : IntKind} (S : St n w0 K L a w) (ht : P.underlying t = some (.slice e)) (hi : InfoT P e zv size bytes) (he : ∀ x, (enc x).length = size) (hs : Nat.blt 0 size = true) (hz : zv.cells.toList = enc z0)
    (hx : Ev n true K x (.int kl (m : Int))) (hy : Ev n true K y (.int kc (m : Int))) (hm : 0 < m) (hb : bytes * m ≤ 200000000000000) (hd : Nat.blt d n = true) (hm2 : m ≤ 200000000000000)
    (next : ∀ g a w, St n w0 ((d, true, .slice (some ⟨g, 0, none⟩) m m) :: K) (rowOf e size enc (some ⟨g, 0, none⟩) m (List.replicate m z0) :: L) a w → Z a w) : Oper.wp P ⟨some d, .makeSlice t x y, ty, pos, aft, gd⟩ a w Z Q := by
  have hs := Nat.le_of_ble_eq_true hs
  obtain ⟨i, hi1, hi2, hi3, hi4⟩ := hi.parts
  have hr := run_make (P := P) w t e i zv ht hi1 hi2 kl kc m m (by omega) (Int.le_refl _) (by
    have : ((i.bytes * m : Nat) : Int) ≤ 281474976710656 := by rw [hi4]; omega
    rwa [Int.natCast_mul] at this) (by omega)
  simp only [Int.toNat_natCast] at hr
  rw [hi3] at hr
  refine run_wp ?_ (next w.heap.size _ _ ⟨S.kn.put hd _, S.wd.more (((Bel.refl _ w)).alloc (Nat.le_refl _) (.cells (madeCells zv.cells (m * size)) e)) ?_⟩)
  · simp only [execOp, hx a rfl S.kn, hy a rfl S.kn, Sem.run_bind, hr, Result.andThen_ok]
    rfl
  · have hzs : zv.cells.size = size := by
      have := congrArg List.length hz
      rw [Array.length_toList, he] at this
      exact this
    have hms : (madeCells zv.cells (m * size)).size = m * size := size_madeCells _ _
    show Owns _ _ _ _ _ _ _ _
    rw [List.length_replicate]
    refine ⟨by rw [flat_len he, List.length_replicate], .inr ⟨w.heap.size, _, rfl, by omega, Nat.le_refl _, heap_alloc_new w _, Nat.le_refl _, by simp only [maxLen]; omega, hms, ?_⟩⟩
    rw [List.take_of_length_le (by rw [Array.length_toList, hms]; exact Nat.le_refl _)]
    apply List.ext_getElem?
    intro j
    by_cases hj : j < m * size
    · have hd : j / size < m := (Nat.div_lt_iff_lt_mul hs).2 hj
      rw [flat_get he hs _ j z0 (by rw [List.getElem?_replicate, if_pos hd])]
      have hjm : j % size < size := Nat.mod_lt _ hs
      rw [← hz]
      simp only [madeCells, Array.getElem?_toList, Array.getElem?_map]
      rw [Array.getElem?_range, if_pos hj, hzs]
      have : j % size < zv.cells.size := by omega
      rw [Array.getElem?_eq_getElem this]
      simp only [Option.map_some, Array.getElem?_eq_getElem this]
      exact congrArg some (getElem!_pos zv.cells (j % size) this)
    · rw [List.getElem?_eq_none (by rw [Array.length_toList, hms]; omega), List.getElem?_eq_none (by rw [flat_len he, List.length_replicate]; omega)]
end
end Go.Fw
set_option linter.unusedVariables false
set_option linter.unusedSimpArgs false
set_option maxRecDepth 100000
set_option maxHeartbeats 4000000
namespace Go.Fw
theorem bumpL_len (l : List Int) (ns : List Int) : (bumpL l ns).length = l.length := by
  unfold bumpL
  induction ns generalizing l with
  | nil => rfl
  | cons n r ih => rw [List.foldl_cons, ih, List.length_set]
theorem bumpL_snoc (l ns : List Int) (n : Int) : bumpL l (ns ++ [n]) = (bumpL l ns).set n.toNat ((bumpL l ns).getD n.toNat 0 + 1) := by unfold bumpL; rw [List.foldl_append]; rfl
theorem loadTo_next (r : Rng) (k : Nat) : loadTo r (k + 1) = bumpL (loadTo r k) (ownersR r k) := by unfold loadTo; rw [List.range_succ, List.foldl_append]; rfl
theorem loadTo_len (r : Rng) (k : Nat) : (loadTo r k).length = 8 := by
  induction k with
  | zero => rfl
  | succ k ih => rw [loadTo_next, bumpL_len, ih]
theorem bump_bound {m : Int} {ns : List Int} : ∀ {l : List Int}, (∀ x ∈ l, 0 ≤ x ∧ x ≤ m) → ∀ x ∈ bumpL l ns, 0 ≤ x ∧ x ≤ m + ns.length := by
  induction ns using snocInd with
  | h0 => intro l h x hx; have := h x hx; simp; exact this
  | h1 ns n ih =>
    intro l h x hx
    rw [bumpL_snoc] at hx
    have h2 := ih h
    rcases List.mem_or_eq_of_mem_set hx with hx | rfl
    · have := h2 x hx; simp; omega
    · have : 0 ≤ (bumpL l ns).getD n.toNat 0 ∧ ((bumpL l ns).getD n.toNat 0 ≤ m + ns.length ∨ (bumpL l ns).getD n.toNat 0 = 0) := by
        rw [List.getD_eq_getElem?_getD]
        cases hg : (bumpL l ns)[n.toNat]? with
        | none => simp
        | some y => have := h2 y (List.mem_of_getElem? hg); simp; omega
      rw [List.length_append]
      simp only [List.length_cons, List.length_nil]
      have hm : 0 ≤ m ∨ l = [] := by
        cases l with
        | nil => exact .inr rfl
        | cons y r => have := h y (by simp); exact .inl (by omega)
      rcases hm with hm | hm
      · omega
      · subst hm
        have := bumpL_len [] ns
        rw [List.eq_nil_of_length_eq_zero this] at hx
        simp at hx
theorem loadTo_bound (r : Rng) (k : Nat) : ∀ x ∈ loadTo r k, 0 ≤ x ∧ x ≤ 8 * (k : Int) := by
  induction k with
  | zero => intro x hx; simp [loadTo] at hx; omega
  | succ k ih =>
    intro x hx
    rw [loadTo_next] at hx
    have := bump_bound ih x hx
    have h8 := owners_len r k
    omega
end Go.Fw
namespace Go.Proofs.Ytcglchdbddlnjaa
open Go.Fw Go.Proofs Go.RowKit
theorem c33 (w0 : World) (p c s : Int) (v : Value) (l : List Mbr) (h : Sl Mbr.enc 4 w0 w0.heap.size v l) (hn : l.length ≤ 4194304) :
    Rets Try.prog 33 #[.agg #[.int .i64 p, .int .i64 c, .int .i64 s, v]] w0 fun u L => ∃ A cp, u = .tuple #[.slice A (loadR ⟨p, c, s, l⟩).1.length cp, .int .i64 (loadR ⟨p, c, s, l⟩).2] ∧ L = [rowOf 3 1 encI A cp (loadR ⟨p, c, s, l⟩).1] := by
  by_cases hc : shapeP p c s ∧ goodL l
  rotate_left
  · have rw_0 : (if shapeP p c s ∧ goodL l then (0 : Int) else 60) = 60 := if_neg hc
    have e : loadR ⟨p, c, s, l⟩ = ([], 60) := if_neg hc
    unfold Go.Fw.Rets
    refine enter1 Try.func33 rfl Try.ntmps33 rfl fun a S => ?_
    refine wp_seq_k fun _ hK1 => ?_
    refine wp_region_lit ?_
    (refine st_m (op_box S (Ev.t rfl) rfl ?_); clear S a; intro g1 a w S)
    (refine st_y S (Yr.ys (ys_assign Ev.c)) rfl ?_; clear S a w; intro a w S)
    (refine st_y S (Yr.ys (ys_assign Ev.c)) rfl ?_; clear S a w; intro a w S)
    refine st_nil ?_
    (refine (then_normal (hK1 _ _ ?_)); clear hK1)
    refine wp_seq_k fun _ hK1 => ?_
    refine wp_seq_k fun _ hK2 => ?_
    refine wp_region_lit ?_
    (refine st_y S (Yr.ys (ys_ldA ⟨Try.isAgg24, Try.sizeOf24⟩ (Ev.t rfl) (k := 0) rfl rfl)) rfl ?_; clear S a w; intro a w S)
    (refine st_y S (ys_call Try.call55 (EvL.cons (Ev.t rfl) EvL.nil) (fun hp w W => c55 _ _ _ _ _ _ (by exact .old W (by assumption)) (by assumption))) rfl ?_; clear S a w; intro a w S)
    rw [rw_0] at S
    (refine st_y S (Yr.ys (ys_assign (Ev.t rfl))) rfl ?_; clear S a w; intro a w S)
    refine st_nil ?_
    (refine (then_normal (hK2 _ _ ?_)); clear hK2)
    refine wp_seq_k fun _ hK2 => ?_
    refine wp_region_lit ?_
    (refine st_y S (Yr.ys (ys_move (Ev.t rfl))) rfl ?_; clear S a w; intro a w S)
    (refine st_y S (Yr.ys (ys_T (by omega) (ys_neq (Ev.t rfl) Ev.c))) rfl ?_; clear S a w; intro a w S)
    refine st_nil ?_
    (refine (then_normal (hK2 _ _ ?_)); clear hK2)
    refine st_then S (Ev.t rfl) ?_
    refine wp_seq_k fun _ hK2 => ?_
    refine wp_region_lit ?_
    (refine st_y S (Yr.ys (ys_move (Ev.t rfl))) rfl ?_; clear S a w; intro a w S)
    (refine st_y S (Yr.ys (ys_assign Ev.c)) rfl ?_; clear S a w; intro a w S)
    (refine st_y S (Yr.ys (ys_assign (Ev.t rfl))) rfl ?_; clear S a w; intro a w S)
    refine st_nil ?_
    (refine (then_normal (hK2 _ _ ?_)); clear hK2)
    refine wp_ret ?_
    refine (then_ret ?_)
    refine st_ret S (results2 S Try.results33 (Rv.tmp rfl) (Rv.tmp rfl)) ?_
    exact ⟨_, [rowOf 3 1 encI none 0 []], rfl, (S.nil_ 3 1 encI none).wd.picks (by repeat (first | exact Picks.nil | (refine Picks.rest ?_; (repeat (first | exact List.Sublist.refl _ | refine List.Sublist.cons_cons _ ?_ | refine List.Sublist.cons _ ?_)); done) | refine Picks.take 0 rfl ?_ | refine Picks.take 1 rfl ?_ | refine Picks.take 2 rfl ?_ | refine Picks.take 3 rfl ?_ | refine Picks.take 4 rfl ?_ | refine Picks.take 5 rfl ?_ | refine Picks.take 6 rfl ?_ | refine Picks.take 7 rfl ?_ | refine Picks.take 8 rfl ?_ | refine Picks.take 9 rfl ?_ | refine Picks.take 10 rfl ?_ | refine Picks.take 11 rfl ?_)), by rw [e]; exact ⟨none, 0, rfl, rfl⟩⟩
  have rw_0 : (if shapeP p c s ∧ goodL l then (0 : Int) else 60) = 0 := if_pos hc
  have e : loadR ⟨p, c, s, l⟩ = (loadTo ⟨p, c, s, l⟩ p.toNat, 0) := if_pos hc
  have hp := parts_le hc.1.1
  obtain ⟨pn, rfl⟩ : ∃ m : Nat, p = m := ⟨p.toNat, by omega⟩
  rw [Int.toNat_natCast] at e
  unfold Go.Fw.Rets
  refine enter1 Try.func33 rfl Try.ntmps33 rfl fun a S => ?_
  refine wp_seq_k fun _ hK1 => ?_
  refine wp_region_lit ?_
  (refine st_m (op_box S (Ev.t rfl) rfl ?_); clear S a; intro g1 a w S)
  (refine st_y S (Yr.ys (ys_assign Ev.c)) rfl ?_; clear S a w; intro a w S)
  (refine st_y S (Yr.ys (ys_assign Ev.c)) rfl ?_; clear S a w; intro a w S)
  refine st_nil ?_
  (refine (then_normal (hK1 _ _ ?_)); clear hK1)
  refine wp_seq_k fun _ hK1 => ?_
  refine wp_seq_k fun _ hK2 => ?_
  refine wp_region_lit ?_
  (refine st_y S (Yr.ys (ys_ldA ⟨Try.isAgg24, Try.sizeOf24⟩ (Ev.t rfl) (k := 0) rfl rfl)) rfl ?_; clear S a w; intro a w S)
  (refine st_y S (ys_call Try.call55 (EvL.cons (Ev.t rfl) EvL.nil) (fun hp w W => c55 _ _ _ _ _ _ (by exact .old W (by assumption)) (by assumption))) rfl ?_; clear S a w; intro a w S)
  rw [rw_0] at S
  (refine st_y S (Yr.ys (ys_assign (Ev.t rfl))) rfl ?_; clear S a w; intro a w S)
  refine st_nil ?_
  (refine (then_normal (hK2 _ _ ?_)); clear hK2)
  refine wp_seq_k fun _ hK2 => ?_
  refine wp_region_lit ?_
  (refine st_y S (Yr.ys (ys_move (Ev.t rfl))) rfl ?_; clear S a w; intro a w S)
  (refine st_y S (Yr.ys (ys_F (by omega) (ys_neq (Ev.t rfl) Ev.c))) rfl ?_; clear S a w; intro a w S)
  refine st_nil ?_
  (refine (then_normal (hK2 _ _ ?_)); clear hK2)
  refine st_else S (Ev.t rfl) ?_
  refine wp_skip ?_
  (refine (then_normal (hK1 _ _ ?_)); clear hK1)
  refine wp_seq_k fun _ hK1 => ?_
  refine wp_region_lit ?_
  refine st_m (op_mkS encI 0 S Try.underlying40 inf3 encI_len rfl rfl (m := 8) Ev.c Ev.c (by decide) (by decide) rfl (by decide) ?_)
  clear S
  intro ga a w S
  (refine st_y S (Yr.ys (ys_assign (Ev.t rfl))) rfl ?_; clear S a w; intro a w S)
  refine st_nil ?_
  (refine (then_normal (hK1 _ _ ?_)); clear hK1)
  refine wp_seq_k fun _ hK1 => ?_
  refine wp_seq_k fun _ hK2 => ?_
  refine wp_region_lit ?_
  (refine st_y S (Yr.ys (ys_fieldN (FieldT.mk Try.underlying24 rfl Try.sizeOf3 rfl) (Ev.t rfl) (i' := 0) rfl)) rfl ?_; clear S a w; intro a w S)
  (refine st_y S (Yr.ys (ys_ld ⟨Try.isAgg3, Try.sizeOf3⟩ (Ev.t rfl) (k := 1) rfl rfl)) rfl ?_; clear S a w; intro a w S)
  (refine st_y S (Yr.ys (ys_move Ev.c)) rfl ?_; clear S a w; intro a w S)
  refine st_nil ?_
  (refine (then_normal (hK2 _ _ ?_)); clear hK2)
  refine wp_block ?_
  refine st_loopM S [17] (X := Nat) (fun k => [(17, true, .int .i64 (k : Int))])
    (fun k => [rowOf 3 1 encI (some ⟨ga, 0, none⟩) 8 (loadTo ⟨pn, c, s, l⟩ k), .blk g1 (.cells #[.int .i64 pn, .int .i64 c, .int .i64 s, v] 24)])
    (fun k => k ≤ pn) (fun k => pn - k) 0 (Nat.zero_le _) (by repeat (first | exact Fits.nil | refine Fits.skip rfl ?_ | refine Fits.cons rfl ?_)) (by repeat (first | exact Picks.nil | (refine Picks.rest ?_; (repeat (first | exact List.Sublist.refl _ | refine List.Sublist.cons_cons _ ?_ | refine List.Sublist.cons _ ?_)); done) | refine Picks.take 0 rfl ?_ | refine Picks.take 1 rfl ?_ | refine Picks.take 2 rfl ?_ | refine Picks.take 3 rfl ?_ | refine Picks.take 4 rfl ?_ | refine Picks.take 5 rfl ?_ | refine Picks.take 6 rfl ?_ | refine Picks.take 7 rfl ?_ | refine Picks.take 8 rfl ?_ | refine Picks.take 9 rfl ?_ | refine Picks.take 10 rfl ?_ | refine Picks.take 11 rfl ?_)) ?_
  clear S
  intro k a w hk S
  by_cases hlt : k < pn
  rotate_left
  · obtain rfl : k = pn := by omega
    have hlen := loadTo_len ⟨k, c, s, l⟩ k
    refine wp_seq_k fun _ hK2 => ?_
    refine wp_region_lit ?_
    (refine st_y S (Yr.ys (ys_F (by omega) (ys_lss (Ev.t rfl) (Ev.t rfl)))) rfl ?_; clear S a w; intro a w S)
    refine st_nil ?_
    (refine (then_normal (hK2 _ _ ?_)); clear hK2)
    refine wp_seq_k fun _ hK2 => ?_
    refine st_else S (Ev.t rfl) ?_
    refine wp_exit ?_
    (refine (then_exit (then_exit (in_here (then_normal (hK1 _ _ ?_))))); clear hK1)
    refine wp_seq_k fun _ hK1 => ?_
    refine wp_region_lit ?_
    (refine st_y S (Yr.ys (ys_move (Ev.t rfl))) rfl ?_; clear S a w; intro a w S)
    (refine st_y S (Yr.ys (ys_assign (Ev.t rfl))) rfl ?_; clear S a w; intro a w S)
    (refine st_y S (Yr.ys (ys_assign Ev.c)) rfl ?_; clear S a w; intro a w S)
    refine st_nil ?_
    (refine (then_normal (hK1 _ _ ?_)); clear hK1)
    refine wp_ret ?_
    refine st_ret S (results2 S Try.results33 (Rv.tmp rfl) (Rv.tmp rfl)) ?_
    exact ⟨_, [rowOf 3 1 encI (some ⟨ga, 0, none⟩) 8 _], rfl, S.wd.picks (by repeat (first | exact Picks.nil | (refine Picks.rest ?_; (repeat (first | exact List.Sublist.refl _ | refine List.Sublist.cons_cons _ ?_ | refine List.Sublist.cons _ ?_)); done) | refine Picks.take 0 rfl ?_ | refine Picks.take 1 rfl ?_ | refine Picks.take 2 rfl ?_ | refine Picks.take 3 rfl ?_ | refine Picks.take 4 rfl ?_ | refine Picks.take 5 rfl ?_ | refine Picks.take 6 rfl ?_ | refine Picks.take 7 rfl ?_ | refine Picks.take 8 rfl ?_ | refine Picks.take 9 rfl ?_ | refine Picks.take 10 rfl ?_ | refine Picks.take 11 rfl ?_)), by rw [e]; exact ⟨some ⟨ga, 0, none⟩, 8, by rw [hlen], rfl⟩⟩
  have hnx := loadTo_next ⟨pn, c, s, l⟩ k
  have hlen := loadTo_len ⟨pn, c, s, l⟩ k
  have hbd := loadTo_bound ⟨pn, c, s, l⟩ k
  have ho := owners_len ⟨pn, c, s, l⟩ k
  have hin : ∀ x ∈ ownersR ⟨pn, c, s, l⟩ k, 0 ≤ x ∧ x < 8 := fun x hx => mem_inR (mem_owners hx)
  generalize loadTo ⟨pn, c, s, l⟩ k = ld at *
  refine wp_seq_k fun _ hK2 => ?_
  refine wp_region_lit ?_
  (refine st_y S (Yr.ys (ys_T (by omega) (ys_lss (Ev.t rfl) (Ev.t rfl)))) rfl ?_; clear S a w; intro a w S)
  refine st_nil ?_
  (refine (then_normal (hK2 _ _ ?_)); clear hK2)
  refine wp_seq_k fun _ hK2 => ?_
  refine st_then S (Ev.t rfl) ?_
  refine wp_skip ?_
  (refine (then_normal (hK2 _ _ ?_)); clear hK2)
  refine wp_seq_k fun _ hK2 => ?_
  refine wp_block ?_
  refine wp_seq_k fun _ hK3 => ?_
  refine wp_region_lit ?_
  (refine st_y S (Yr.ys (ys_move (Ev.t rfl))) rfl ?_; clear S a w; intro a w S)
  (refine st_y S (Yr.ys (ys_assign (Ev.t rfl))) rfl ?_; clear S a w; intro a w S)
  refine st_nil ?_
  (refine (then_normal (hK3 _ _ ?_)); clear hK3)
  refine wp_seq_k fun _ hK3 => ?_
  refine wp_region_lit ?_
  (refine st_y S (Yr.ys (ys_ldA ⟨Try.isAgg24, Try.sizeOf24⟩ (Ev.t rfl) (k := 1) rfl rfl)) rfl ?_; clear S a w; intro a w S)
  (refine st_y S (Yr.ys (ys_move (Ev.t rfl))) rfl ?_; clear S a w; intro a w S)
  (refine st_m (op_calls S Try.call48 (EvL.cons (Ev.t rfl) (EvL.cons (Ev.t rfl) EvL.nil)) (c48 _ _ _ _ _ _ _ (by exact .old S.wd (by assumption)) (by assumption)) rfl ?_); clear S a w; rintro _ _ ⟨A1, cp1, rfl, rfl⟩ a w S)
  (refine st_y S (Yr.ys (ys_lenS Try.underlying40 (Ev.t rfl))) rfl ?_; clear S a w; intro a w S)
  (refine st_y S (Yr.ys (ys_move Ev.c)) rfl ?_; clear S a w; intro a w S)
  refine st_nil ?_
  (refine (then_normal (hK3 _ _ ?_)); clear hK3)
  refine wp_block ?_
  generalize ownersR ⟨pn, c, s, l⟩ k = os at *
  refine st_loopM S [24] (X := Nat) (fun i => [(24, true, .int .i64 (i : Int))])
    (fun i => [rowOf 3 1 encI (some ⟨ga, 0, none⟩) 8 (bumpL ld (os.take i)), rowOf 3 1 encI A1 cp1 os, .blk g1 (.cells #[.int .i64 pn, .int .i64 c, .int .i64 s, v] 24)])
    (fun i => i ≤ os.length) (fun i => os.length - i) 0 (Nat.zero_le _) (by repeat (first | exact Fits.nil | refine Fits.skip rfl ?_ | refine Fits.cons rfl ?_)) (by repeat (first | exact Picks.nil | (refine Picks.rest ?_; (repeat (first | exact List.Sublist.refl _ | refine List.Sublist.cons_cons _ ?_ | refine List.Sublist.cons _ ?_)); done) | refine Picks.take 0 rfl ?_ | refine Picks.take 1 rfl ?_ | refine Picks.take 2 rfl ?_ | refine Picks.take 3 rfl ?_ | refine Picks.take 4 rfl ?_ | refine Picks.take 5 rfl ?_ | refine Picks.take 6 rfl ?_ | refine Picks.take 7 rfl ?_ | refine Picks.take 8 rfl ?_ | refine Picks.take 9 rfl ?_ | refine Picks.take 10 rfl ?_ | refine Picks.take 11 rfl ?_)) ?_
  clear S
  intro i a w hi S
  by_cases hil : i < os.length
  rotate_left
  · obtain rfl : i = os.length := by omega
    rw [List.take_length, ← hnx] at S
    refine wp_seq_k fun _ hK3 => ?_
    refine wp_region_lit ?_
    (refine st_y S (Yr.ys (ys_F (by omega) (ys_lss (Ev.t rfl) (Ev.t rfl)))) rfl ?_; clear S a w; intro a w S)
    refine st_nil ?_
    (refine (then_normal (hK3 _ _ ?_)); clear hK3)
    refine wp_seq_k fun _ hK3 => ?_
    refine st_else S (Ev.t rfl) ?_
    refine wp_exit ?_
    (refine (then_exit (then_exit (in_here (in_normal (then_normal (hK2 _ _ ?_)))))); clear hK2)
    refine wp_region_lit ?_
    (refine st_y S (Yr.ys (ys_addI (Ev.t rfl) Ev.c (fun _ => by unfold I64; omega))) rfl ?_; clear S a w; intro a w S)
    (refine st_y S (Yr.ys (ys_move (Ev.t rfl))) rfl ?_; clear S a w; intro a w S)
    refine st_nil ?_
    refine (then_normal ?_)
    exact ⟨k + 1, by omega, by omega, S.picks (by repeat (first | exact Fits.nil | refine Fits.skip rfl ?_ | refine Fits.cons rfl ?_)) (by repeat (first | exact Picks.nil | (refine Picks.rest ?_; (repeat (first | exact List.Sublist.refl _ | refine List.Sublist.cons_cons _ ?_ | refine List.Sublist.cons _ ?_)); done) | refine Picks.take 0 rfl ?_ | refine Picks.take 1 rfl ?_ | refine Picks.take 2 rfl ?_ | refine Picks.take 3 rfl ?_ | refine Picks.take 4 rfl ?_ | refine Picks.take 5 rfl ?_ | refine Picks.take 6 rfl ?_ | refine Picks.take 7 rfl ?_ | refine Picks.take 8 rfl ?_ | refine Picks.take 9 rfl ?_ | refine Picks.take 10 rfl ?_ | refine Picks.take 11 rfl ?_))⟩
  have hroom := S.wd.room (k := 1) rfl
  obtain ⟨gb, rfl⟩ := S.wd.row_at (k := 1) rfl (by omega)
  obtain ⟨x, hx⟩ : ∃ x, os[i]? = some x := ⟨_, List.getElem?_eq_getElem hil⟩
  obtain ⟨xn, rfl⟩ : ∃ m : Nat, x = m := ⟨x.toNat, by have := hin x (List.mem_of_getElem? hx); omega⟩
  have hx8 := hin xn (List.mem_of_getElem? hx)
  have hbs : bumpL ld (os.take (i + 1)) = (bumpL ld (os.take i)).set xn ((bumpL ld (os.take i)).getD xn 0 + 1) := by rw [List.take_add_one, hx, Option.toList_some, bumpL_snoc, Int.toNat_natCast]
  have hbl := bumpL_len ld (os.take i)
  have hbb := bump_bound (ns := os.take i) hbd
  generalize bumpL ld (os.take i) = bl at *
  obtain ⟨y, hy⟩ : ∃ y, bl[xn]? = some y := ⟨_, List.getElem?_eq_getElem (by omega)⟩
  have hgd : bl.getD xn 0 = y := by rw [List.getD_eq_getElem?_getD, hy]; rfl
  have hyb := hbb y (List.mem_of_getElem? hy)
  have htl : (os.take i).length ≤ 8 := by rw [List.length_take]; omega
  refine wp_seq_k fun _ hK3 => ?_
  refine wp_region_lit ?_
  (refine st_y S (Yr.ys (ys_T (by omega) (ys_lss (Ev.t rfl) (Ev.t rfl)))) rfl ?_; clear S a w; intro a w S)
  refine st_nil ?_
  (refine (then_normal (hK3 _ _ ?_)); clear hK3)
  refine wp_seq_k fun _ hK3 => ?_
  refine st_then S (Ev.t rfl) ?_
  refine wp_skip ?_
  (refine (then_normal (hK3 _ _ ?_)); clear hK3)
  refine wp_seq_k fun _ hK3 => ?_
  refine wp_block ?_
  refine wp_seq_k fun _ hK4 => ?_
  refine wp_region_lit ?_
  (refine st_y S (Yr.ys (ys_ixS Try.underlying40 Try.sizeOf3 (Ev.t rfl) (Ev.t rfl) (fun _ => by omega))) rfl ?_; clear S a w; intro a w S)
  (refine st_y S (Yr.ys (ys_ldW0 ⟨Try.isAgg3, Try.sizeOf3⟩ (Ev.t rfl) (k := 1) rfl hx (fun _ => rfl) rfl)) rfl ?_; clear S a w; intro a w S)
  (refine st_y S (Yr.ys (ys_assign (Ev.t rfl))) rfl ?_; clear S a w; intro a w S)
  refine st_nil ?_
  (refine (then_normal (hK4 _ _ ?_)); clear hK4)
  refine wp_region_lit ?_
  (refine st_y S (Yr.ys (ys_move (Ev.t rfl))) rfl ?_; clear S a w; intro a w S)
  (refine st_y S (Yr.ys (ys_move (Ev.t rfl))) rfl ?_; clear S a w; intro a w S)
  (refine st_y S (Yr.ys (ys_ixS Try.underlying40 Try.sizeOf3 (Ev.t rfl) (Ev.t rfl) (fun _ => by omega))) rfl ?_; clear S a w; intro a w S)
  (refine st_y S (Yr.ys (ys_ldW0 ⟨Try.isAgg3, Try.sizeOf3⟩ (Ev.t rfl) (k := 0) rfl hy (fun _ => rfl) rfl)) rfl ?_; clear S a w; intro a w S)
  (refine st_y S (Yr.ys (ys_addI (Ev.t rfl) Ev.c (fun _ => by unfold I64; omega))) rfl ?_; clear S a w; intro a w S)
  (refine st_y S (Yr.ys (ys_ixS Try.underlying40 Try.sizeOf3 (Ev.t rfl) (Ev.t rfl) (fun _ => by omega))) rfl ?_; clear S a w; intro a w S)
  refine st_m (op_stFld (enc := encI) (size := 1) (i := xn) (j := 0) (y + 1) S encI_len Try.sizeOf3 (Ev.t rfl) (Ev.t rfl) rfl (k := 0) rfl hy (by omega) rfl rfl ?_)
  clear S
  intro a w S
  refine st_nil ?_
  (refine (in_normal (then_normal (hK3 _ _ ?_))); clear hK3)
  refine wp_region_lit ?_
  (refine st_y S (Yr.ys (ys_addI (Ev.t rfl) Ev.c (fun _ => by unfold I64; omega))) rfl ?_; clear S a w; intro a w S)
  (refine st_y S (Yr.ys (ys_move (Ev.t rfl))) rfl ?_; clear S a w; intro a w S)
  refine st_nil ?_
  refine (then_normal ?_)
  exact ⟨i + 1, by omega, by omega, by rw [hbs, hgd]; exact S.picks (by repeat (first | exact Fits.nil | refine Fits.skip rfl ?_ | refine Fits.cons rfl ?_)) (by repeat (first | exact Picks.nil | (refine Picks.rest ?_; (repeat (first | exact List.Sublist.refl _ | refine List.Sublist.cons_cons _ ?_ | refine List.Sublist.cons _ ?_)); done) | refine Picks.take 0 rfl ?_ | refine Picks.take 1 rfl ?_ | refine Picks.take 2 rfl ?_ | refine Picks.take 3 rfl ?_ | refine Picks.take 4 rfl ?_ | refine Picks.take 5 rfl ?_ | refine Picks.take 6 rfl ?_ | refine Picks.take 7 rfl ?_ | refine Picks.take 8 rfl ?_ | refine Picks.take 9 rfl ?_ | refine Picks.take 10 rfl ?_ | refine Picks.take 11 rfl ?_))⟩
theorem c41 (w0 : World) (p c s : Int) (v : Value) (l : List Mbr) (h : Sl Mbr.enc 4 w0 w0.heap.size v l) (hn : l.length ≤ 4194304) :
    Rets Try.prog 41 #[.agg #[.int .i64 p, .int .i64 c, .int .i64 s, v]] w0 fun u L => ∃ A cp, u = .tuple #[.slice A (loadR ⟨p, c, s, l⟩).1.length cp, .int .i64 (loadR ⟨p, c, s, l⟩).2] ∧ L = [rowOf 3 1 encI A cp (loadR ⟨p, c, s, l⟩).1] := by
  by_cases hc : shapeP p c s ∧ goodL l
  rotate_left
  · have rw_0 : (if shapeP p c s ∧ goodL l then (0 : Int) else 60) = 60 := if_neg hc
    have e : loadR ⟨p, c, s, l⟩ = ([], 60) := if_neg hc
    unfold Go.Fw.Rets
    refine enter1 Try.func41 rfl Try.ntmps41 rfl fun a S => ?_
    refine wp_seq_k fun _ hK1 => ?_
    refine wp_region_lit ?_
    (refine st_m (op_box S (Ev.t rfl) rfl ?_); clear S a; intro g1 a w S)
    (refine st_y S (Yr.ys (ys_assign Ev.c)) rfl ?_; clear S a w; intro a w S)
    (refine st_y S (Yr.ys (ys_assign Ev.c)) rfl ?_; clear S a w; intro a w S)
    refine st_nil ?_
    (refine (then_normal (hK1 _ _ ?_)); clear hK1)
    refine wp_seq_k fun _ hK1 => ?_
    refine wp_seq_k fun _ hK2 => ?_
    refine wp_region_lit ?_
    (refine st_y S (Yr.ys (ys_ldA ⟨Try.isAgg24, Try.sizeOf24⟩ (Ev.t rfl) (k := 0) rfl rfl)) rfl ?_; clear S a w; intro a w S)
    (refine st_y S (ys_call Try.call20 (EvL.cons (Ev.t rfl) EvL.nil) (fun hp w W => c20 _ _ _ _ _ _ (by exact .old W (by assumption)) (by assumption))) rfl ?_; clear S a w; intro a w S)
    rw [rw_0] at S
    (refine st_y S (Yr.ys (ys_T (by omega) (ys_neq (Ev.t rfl) Ev.c))) rfl ?_; clear S a w; intro a w S)
    refine st_nil ?_
    (refine (then_normal (hK2 _ _ ?_)); clear hK2)
    refine st_then S (Ev.t rfl) ?_
    refine wp_seq_k fun _ hK2 => ?_
    refine wp_region_lit ?_
    (refine st_y S (Yr.ys (ys_assign Ev.c)) rfl ?_; clear S a w; intro a w S)
    (refine st_y S (Yr.ys (ys_assign Ev.c)) rfl ?_; clear S a w; intro a w S)
    refine st_nil ?_
    (refine (then_normal (hK2 _ _ ?_)); clear hK2)
    refine wp_ret ?_
    refine (then_ret ?_)
    refine st_ret S (results2 S Try.results41 (Rv.tmp rfl) (Rv.tmp rfl)) ?_
    exact ⟨_, [rowOf 3 1 encI none 0 []], rfl, (S.nil_ 3 1 encI none).wd.picks (by repeat (first | exact Picks.nil | (refine Picks.rest ?_; (repeat (first | exact List.Sublist.refl _ | refine List.Sublist.cons_cons _ ?_ | refine List.Sublist.cons _ ?_)); done) | refine Picks.take 0 rfl ?_ | refine Picks.take 1 rfl ?_ | refine Picks.take 2 rfl ?_ | refine Picks.take 3 rfl ?_ | refine Picks.take 4 rfl ?_ | refine Picks.take 5 rfl ?_ | refine Picks.take 6 rfl ?_ | refine Picks.take 7 rfl ?_ | refine Picks.take 8 rfl ?_ | refine Picks.take 9 rfl ?_ | refine Picks.take 10 rfl ?_ | refine Picks.take 11 rfl ?_)), by rw [e]; exact ⟨none, 0, rfl, rfl⟩⟩
  have rw_0 : (if shapeP p c s ∧ goodL l then (0 : Int) else 60) = 0 := if_pos hc
  have e : loadR ⟨p, c, s, l⟩ = (loadTo ⟨p, c, s, l⟩ p.toNat, 0) := if_pos hc
  have hp := parts_le hc.1.1
  obtain ⟨pn, rfl⟩ : ∃ m : Nat, p = m := ⟨p.toNat, by omega⟩
  rw [Int.toNat_natCast] at e
  unfold Go.Fw.Rets
  refine enter1 Try.func41 rfl Try.ntmps41 rfl fun a S => ?_
  refine wp_seq_k fun _ hK1 => ?_
  refine wp_region_lit ?_
  (refine st_m (op_box S (Ev.t rfl) rfl ?_); clear S a; intro g1 a w S)
  (refine st_y S (Yr.ys (ys_assign Ev.c)) rfl ?_; clear S a w; intro a w S)
  (refine st_y S (Yr.ys (ys_assign Ev.c)) rfl ?_; clear S a w; intro a w S)
  refine st_nil ?_
  (refine (then_normal (hK1 _ _ ?_)); clear hK1)
  refine wp_seq_k fun _ hK1 => ?_
  refine wp_seq_k fun _ hK2 => ?_
  refine wp_region_lit ?_
  (refine st_y S (Yr.ys (ys_ldA ⟨Try.isAgg24, Try.sizeOf24⟩ (Ev.t rfl) (k := 0) rfl rfl)) rfl ?_; clear S a w; intro a w S)
  (refine st_y S (ys_call Try.call20 (EvL.cons (Ev.t rfl) EvL.nil) (fun hp w W => c20 _ _ _ _ _ _ (by exact .old W (by assumption)) (by assumption))) rfl ?_; clear S a w; intro a w S)
  rw [rw_0] at S
  (refine st_y S (Yr.ys (ys_F (by omega) (ys_neq (Ev.t rfl) Ev.c))) rfl ?_; clear S a w; intro a w S)
  refine st_nil ?_
  (refine (then_normal (hK2 _ _ ?_)); clear hK2)
  refine st_else S (Ev.t rfl) ?_
  refine wp_skip ?_
  (refine (then_normal (hK1 _ _ ?_)); clear hK1)
  refine wp_seq_k fun _ hK1 => ?_
  refine wp_region_lit ?_
  refine st_m (op_mkS encI 0 S Try.underlying40 inf3 encI_len rfl rfl (m := 8) Ev.c Ev.c (by decide) (by decide) rfl (by decide) ?_)
  clear S
  intro ga a w S
  (refine st_y S (Yr.ys (ys_assign (Ev.t rfl))) rfl ?_; clear S a w; intro a w S)
  refine st_nil ?_
  (refine (then_normal (hK1 _ _ ?_)); clear hK1)
  refine wp_seq_k fun _ hK1 => ?_
  refine wp_seq_k fun _ hK2 => ?_
  refine wp_region_lit ?_
  (refine st_y S (Yr.ys (ys_assign Ev.c)) rfl ?_; clear S a w; intro a w S)
  refine st_nil ?_
  (refine (then_normal (hK2 _ _ ?_)); clear hK2)
  refine wp_block ?_
  refine st_loopM S [5] (X := Nat) (fun k => [(5, true, .int .i64 (k : Int))])
    (fun k => [rowOf 3 1 encI (some ⟨ga, 0, none⟩) 8 (loadTo ⟨pn, c, s, l⟩ k), .blk g1 (.cells #[.int .i64 pn, .int .i64 c, .int .i64 s, v] 24)])
    (fun k => k ≤ pn) (fun k => pn - k) 0 (Nat.zero_le _) (by repeat (first | exact Fits.nil | refine Fits.skip rfl ?_ | refine Fits.cons rfl ?_)) (by repeat (first | exact Picks.nil | (refine Picks.rest ?_; (repeat (first | exact List.Sublist.refl _ | refine List.Sublist.cons_cons _ ?_ | refine List.Sublist.cons _ ?_)); done) | refine Picks.take 0 rfl ?_ | refine Picks.take 1 rfl ?_ | refine Picks.take 2 rfl ?_ | refine Picks.take 3 rfl ?_ | refine Picks.take 4 rfl ?_ | refine Picks.take 5 rfl ?_ | refine Picks.take 6 rfl ?_ | refine Picks.take 7 rfl ?_ | refine Picks.take 8 rfl ?_ | refine Picks.take 9 rfl ?_ | refine Picks.take 10 rfl ?_ | refine Picks.take 11 rfl ?_)) ?_
  clear S
  intro k a w hk S
  by_cases hlt : k < pn
  rotate_left
  · obtain rfl : k = pn := by omega
    have hlen := loadTo_len ⟨k, c, s, l⟩ k
    refine wp_seq_k fun _ hK2 => ?_
    refine wp_seq_k fun _ hK3 => ?_
    refine wp_region_lit ?_
    (refine st_y S (Yr.ys (ys_move (Ev.t rfl))) rfl ?_; clear S a w; intro a w S)
    (refine st_y S (Yr.ys (ys_fieldN (FieldT.mk Try.underlying24 rfl Try.sizeOf3 rfl) (Ev.t rfl) (i' := 0) rfl)) rfl ?_; clear S a w; intro a w S)
    (refine st_y S (Yr.ys (ys_ld ⟨Try.isAgg3, Try.sizeOf3⟩ (Ev.t rfl) (k := 1) rfl rfl)) rfl ?_; clear S a w; intro a w S)
    (refine st_y S (Yr.ys (ys_F (by omega) (ys_lss (Ev.t rfl) (Ev.t rfl)))) rfl ?_; clear S a w; intro a w S)
    refine st_nil ?_
    (refine (then_normal (hK3 _ _ ?_)); clear hK3)
    refine st_else S (Ev.t rfl) ?_
    refine wp_exit ?_
    (refine (then_exit (then_exit (in_here (then_normal (hK1 _ _ ?_))))); clear hK1)
    refine wp_seq_k fun _ hK1 => ?_
    refine wp_region_lit ?_
    (refine st_y S (Yr.ys (ys_move (Ev.t rfl))) rfl ?_; clear S a w; intro a w S)
    (refine st_y S (Yr.ys (ys_assign (Ev.t rfl))) rfl ?_; clear S a w; intro a w S)
    (refine st_y S (Yr.ys (ys_assign Ev.c)) rfl ?_; clear S a w; intro a w S)
    refine st_nil ?_
    (refine (then_normal (hK1 _ _ ?_)); clear hK1)
    refine wp_ret ?_
    refine st_ret S (results2 S Try.results41 (Rv.tmp rfl) (Rv.tmp rfl)) ?_
    exact ⟨_, [rowOf 3 1 encI (some ⟨ga, 0, none⟩) 8 _], rfl, S.wd.picks (by repeat (first | exact Picks.nil | (refine Picks.rest ?_; (repeat (first | exact List.Sublist.refl _ | refine List.Sublist.cons_cons _ ?_ | refine List.Sublist.cons _ ?_)); done) | refine Picks.take 0 rfl ?_ | refine Picks.take 1 rfl ?_ | refine Picks.take 2 rfl ?_ | refine Picks.take 3 rfl ?_ | refine Picks.take 4 rfl ?_ | refine Picks.take 5 rfl ?_ | refine Picks.take 6 rfl ?_ | refine Picks.take 7 rfl ?_ | refine Picks.take 8 rfl ?_ | refine Picks.take 9 rfl ?_ | refine Picks.take 10 rfl ?_ | refine Picks.take 11 rfl ?_)), by rw [e]; exact ⟨some ⟨ga, 0, none⟩, 8, by rw [hlen], rfl⟩⟩
  have hnx := loadTo_next ⟨pn, c, s, l⟩ k
  have hlen := loadTo_len ⟨pn, c, s, l⟩ k
  have hbd := loadTo_bound ⟨pn, c, s, l⟩ k
  have ho := owners_len ⟨pn, c, s, l⟩ k
  have hin : ∀ x ∈ ownersR ⟨pn, c, s, l⟩ k, 0 ≤ x ∧ x < 8 := fun x hx => mem_inR (mem_owners hx)
  generalize loadTo ⟨pn, c, s, l⟩ k = ld at *
  refine wp_seq_k fun _ hK2 => ?_
  refine wp_seq_k fun _ hK3 => ?_
  refine wp_region_lit ?_
  (refine st_y S (Yr.ys (ys_move (Ev.t rfl))) rfl ?_; clear S a w; intro a w S)
  (refine st_y S (Yr.ys (ys_fieldN (FieldT.mk Try.underlying24 rfl Try.sizeOf3 rfl) (Ev.t rfl) (i' := 0) rfl)) rfl ?_; clear S a w; intro a w S)
  (refine st_y S (Yr.ys (ys_ld ⟨Try.isAgg3, Try.sizeOf3⟩ (Ev.t rfl) (k := 1) rfl rfl)) rfl ?_; clear S a w; intro a w S)
  (refine st_y S (Yr.ys (ys_T (by omega) (ys_lss (Ev.t rfl) (Ev.t rfl)))) rfl ?_; clear S a w; intro a w S)
  refine st_nil ?_
  (refine (then_normal (hK3 _ _ ?_)); clear hK3)
  refine st_then S (Ev.t rfl) ?_
  refine wp_skip ?_
  (refine (then_normal (hK2 _ _ ?_)); clear hK2)
  refine wp_seq_k fun _ hK2 => ?_
  refine wp_block ?_
  refine wp_seq_k fun _ hK3 => ?_
  refine wp_region_lit ?_
  (refine st_y S (Yr.ys (ys_ldA ⟨Try.isAgg24, Try.sizeOf24⟩ (Ev.t rfl) (k := 1) rfl rfl)) rfl ?_; clear S a w; intro a w S)
  (refine st_y S (Yr.ys (ys_move (Ev.t rfl))) rfl ?_; clear S a w; intro a w S)
  (refine st_m (op_calls S Try.call27 (EvL.cons (Ev.t rfl) (EvL.cons (Ev.t rfl) EvL.nil)) (c27 _ _ _ _ _ _ _ (by exact .old S.wd (by assumption)) (by assumption)) rfl ?_); clear S a w; rintro _ _ ⟨A1, cp1, rfl, rfl⟩ a w S)
  (refine st_y S (Yr.ys (ys_assign (Ev.t rfl))) rfl ?_; clear S a w; intro a w S)
  refine st_nil ?_
  (refine (then_normal (hK3 _ _ ?_)); clear hK3)
  refine wp_seq_k fun _ hK3 => ?_
  refine wp_region_lit ?_
  (refine st_y S (Yr.ys (ys_assign Ev.c)) rfl ?_; clear S a w; intro a w S)
  refine st_nil ?_
  (refine (then_normal (hK3 _ _ ?_)); clear hK3)
  refine wp_block ?_
  generalize ownersR ⟨pn, c, s, l⟩ k = os at *
  refine st_loopM S [7] (X := Nat) (fun i => [(7, true, .int .i64 (i : Int))])
    (fun i => [rowOf 3 1 encI (some ⟨ga, 0, none⟩) 8 (bumpL ld (os.take i)), rowOf 3 1 encI A1 cp1 os, .blk g1 (.cells #[.int .i64 pn, .int .i64 c, .int .i64 s, v] 24)])
    (fun i => i ≤ os.length) (fun i => os.length - i) 0 (Nat.zero_le _) (by repeat (first | exact Fits.nil | refine Fits.skip rfl ?_ | refine Fits.cons rfl ?_)) (by repeat (first | exact Picks.nil | (refine Picks.rest ?_; (repeat (first | exact List.Sublist.refl _ | refine List.Sublist.cons_cons _ ?_ | refine List.Sublist.cons _ ?_)); done) | refine Picks.take 0 rfl ?_ | refine Picks.take 1 rfl ?_ | refine Picks.take 2 rfl ?_ | refine Picks.take 3 rfl ?_ | refine Picks.take 4 rfl ?_ | refine Picks.take 5 rfl ?_ | refine Picks.take 6 rfl ?_ | refine Picks.take 7 rfl ?_ | refine Picks.take 8 rfl ?_ | refine Picks.take 9 rfl ?_ | refine Picks.take 10 rfl ?_ | refine Picks.take 11 rfl ?_)) ?_
  clear S
  intro i a w hi S
  by_cases hil : i < os.length
  rotate_left
  · obtain rfl : i = os.length := by omega
    rw [List.take_length, ← hnx] at S
    refine wp_seq_k fun _ hK3 => ?_
    refine wp_seq_k fun _ hK4 => ?_
    refine wp_region_lit ?_
    (refine st_y S (Yr.ys (ys_move (Ev.t rfl))) rfl ?_; clear S a w; intro a w S)
    (refine st_y S (Yr.ys (ys_move (Ev.t rfl))) rfl ?_; clear S a w; intro a w S)
    (refine st_y S (Yr.ys (ys_lenS Try.underlying40 (Ev.t rfl))) rfl ?_; clear S a w; intro a w S)
    (refine st_y S (Yr.ys (ys_F (by omega) (ys_lss (Ev.t rfl) (Ev.t rfl)))) rfl ?_; clear S a w; intro a w S)
    refine st_nil ?_
    (refine (then_normal (hK4 _ _ ?_)); clear hK4)
    refine st_else S (Ev.t rfl) ?_
    refine wp_exit ?_
    (refine (then_exit (then_exit (in_here (in_normal (then_normal (hK2 _ _ ?_)))))); clear hK2)
    refine wp_region_lit ?_
    (refine st_y S (Yr.ys (ys_move (Ev.t rfl))) rfl ?_; clear S a w; intro a w S)
    (refine st_y S (Yr.ys (ys_addI (Ev.t rfl) Ev.c (fun _ => by unfold I64; omega))) rfl ?_; clear S a w; intro a w S)
    (refine st_y S (Yr.ys (ys_assign (Ev.t rfl))) rfl ?_; clear S a w; intro a w S)
    refine st_nil ?_
    refine (then_normal ?_)
    exact ⟨k + 1, by omega, by omega, S.picks (by repeat (first | exact Fits.nil | refine Fits.skip rfl ?_ | refine Fits.cons rfl ?_)) (by repeat (first | exact Picks.nil | (refine Picks.rest ?_; (repeat (first | exact List.Sublist.refl _ | refine List.Sublist.cons_cons _ ?_ | refine List.Sublist.cons _ ?_)); done) | refine Picks.take 0 rfl ?_ | refine Picks.take 1 rfl ?_ | refine Picks.take 2 rfl ?_ | refine Picks.take 3 rfl ?_ | refine Picks.take 4 rfl ?_ | refine Picks.take 5 rfl ?_ | refine Picks.take 6 rfl ?_ | refine Picks.take 7 rfl ?_ | refine Picks.take 8 rfl ?_ | refine Picks.take 9 rfl ?_ | refine Picks.take 10 rfl ?_ | refine Picks.take 11 rfl ?_))⟩
  have hroom := S.wd.room (k := 1) rfl
  obtain ⟨gb, rfl⟩ := S.wd.row_at (k := 1) rfl (by omega)
  obtain ⟨x, hx⟩ : ∃ x, os[i]? = some x := ⟨_, List.getElem?_eq_getElem hil⟩
  obtain ⟨xn, rfl⟩ : ∃ m : Nat, x = m := ⟨x.toNat, by have := hin x (List.mem_of_getElem? hx); omega⟩
  have hx8 := hin xn (List.mem_of_getElem? hx)
  have hbs : bumpL ld (os.take (i + 1)) = (bumpL ld (os.take i)).set xn ((bumpL ld (os.take i)).getD xn 0 + 1) := by rw [List.take_add_one, hx, Option.toList_some, bumpL_snoc, Int.toNat_natCast]
  have hbl := bumpL_len ld (os.take i)
  have hbb := bump_bound (ns := os.take i) hbd
  generalize bumpL ld (os.take i) = bl at *
  obtain ⟨y, hy⟩ : ∃ y, bl[xn]? = some y := ⟨_, List.getElem?_eq_getElem (by omega)⟩
  have hgd : bl.getD xn 0 = y := by rw [List.getD_eq_getElem?_getD, hy]; rfl
  have hyb := hbb y (List.mem_of_getElem? hy)
  have htl : (os.take i).length ≤ 8 := by rw [List.length_take]; omega
  refine wp_seq_k fun _ hK3 => ?_
  refine wp_seq_k fun _ hK4 => ?_
  refine wp_region_lit ?_
  (refine st_y S (Yr.ys (ys_move (Ev.t rfl))) rfl ?_; clear S a w; intro a w S)
  (refine st_y S (Yr.ys (ys_move (Ev.t rfl))) rfl ?_; clear S a w; intro a w S)
  (refine st_y S (Yr.ys (ys_lenS Try.underlying40 (Ev.t rfl))) rfl ?_; clear S a w; intro a w S)
  (refine st_y S (Yr.ys (ys_T (by omega) (ys_lss (Ev.t rfl) (Ev.t rfl)))) rfl ?_; clear S a w; intro a w S)
  refine st_nil ?_
  (refine (then_normal (hK4 _ _ ?_)); clear hK4)
  refine st_then S (Ev.t rfl) ?_
  refine wp_skip ?_
  (refine (then_normal (hK3 _ _ ?_)); clear hK3)
  refine wp_seq_k fun _ hK3 => ?_
  refine wp_block ?_
  refine h_beginE S (by kernel_rfl) 0 ?_
  clear S a w
  intro a w S
  (refine h_y (i := 0) S (by repeat (first | exact List.Sublist.refl _ | exact List.nil_sublist _ | refine .cons_cons _ ?_ | refine .cons _ ?_)) rfl (by kernel_rfl) (by kernel_rfl) (by kernel_rfl) (fun _ _ _ _ h => h) (ys_move (Ev.t rfl)) rfl ?_; clear S a w; intro a w S)
  (refine h_y (i := 1) S (by repeat (first | exact List.Sublist.refl _ | exact List.nil_sublist _ | refine .cons_cons _ ?_ | refine .cons _ ?_)) rfl (by kernel_rfl) (by kernel_rfl) (by kernel_rfl) (fun _ _ _ _ h => h) (ys_move (Ev.t rfl)) rfl ?_; clear S a w; intro a w S)
  (refine h_y (i := 2) S (by repeat (first | exact List.Sublist.refl _ | exact List.nil_sublist _ | refine .cons_cons _ ?_ | refine .cons _ ?_)) rfl (by kernel_rfl) (by kernel_rfl) (by kernel_rfl) (fun _ _ _ _ h => h) (ys_move (Ev.t rfl)) rfl ?_; clear S a w; intro a w S)
  (refine h_y (i := 3) S (by repeat (first | exact List.Sublist.refl _ | exact List.nil_sublist _ | refine .cons_cons _ ?_ | refine .cons _ ?_)) rfl (by kernel_rfl) (by kernel_rfl) (by kernel_rfl) (fun _ _ _ _ h => h) (ys_ixS Try.underlying40 Try.sizeOf3 (Ev.t rfl) (Ev.t rfl) (fun _ => by omega)) rfl ?_; clear S a w; intro a w S)
  (refine h_y (i := 4) S (by repeat (first | exact List.Sublist.refl _ | exact List.nil_sublist _ | refine .cons_cons _ ?_ | refine .cons _ ?_)) rfl (by kernel_rfl) (by kernel_rfl) (by kernel_rfl) (fun _ _ _ _ h => h) (ys_ldW0 ⟨Try.isAgg3, Try.sizeOf3⟩ (Ev.t rfl) (k := 0) rfl hx (fun _ => rfl) rfl) rfl ?_; clear S a w; intro a w S)
  (refine h_y (i := 5) S (by repeat (first | exact List.Sublist.refl _ | exact List.nil_sublist _ | refine .cons_cons _ ?_ | refine .cons _ ?_)) rfl (by kernel_rfl) (by kernel_rfl) (by kernel_rfl) (fun _ _ _ _ h => h) (ys_move (Ev.t rfl)) rfl ?_; clear S a w; intro a w S)
  (refine h_y (i := 6) S (by repeat (first | exact List.Sublist.refl _ | exact List.nil_sublist _ | refine .cons_cons _ ?_ | refine .cons _ ?_)) rfl (by kernel_rfl) (by kernel_rfl) (by kernel_rfl) (fun _ _ _ _ h => h) (ys_move (Ev.t rfl)) rfl ?_; clear S a w; intro a w S)
  (refine h_y (i := 7) S (by repeat (first | exact List.Sublist.refl _ | exact List.nil_sublist _ | refine .cons_cons _ ?_ | refine .cons _ ?_)) rfl (by kernel_rfl) (by kernel_rfl) (by kernel_rfl) (fun _ _ _ _ h => h) (ys_move (Ev.t rfl)) rfl ?_; clear S a w; intro a w S)
  (refine h_y (i := 8) S (by repeat (first | exact List.Sublist.refl _ | exact List.nil_sublist _ | refine .cons_cons _ ?_ | refine .cons _ ?_)) rfl (by kernel_rfl) (by kernel_rfl) (by kernel_rfl) (fun _ _ _ _ h => h) (ys_ixS Try.underlying40 Try.sizeOf3 (Ev.t rfl) (Ev.t rfl) (fun _ => by omega)) rfl ?_; clear S a w; intro a w S)
  (refine h_y (i := 9) S (by repeat (first | exact List.Sublist.refl _ | exact List.nil_sublist _ | refine .cons_cons _ ?_ | refine .cons _ ?_)) rfl (by kernel_rfl) (by kernel_rfl) (by kernel_rfl) (fun _ _ _ _ h => h) (ys_ldW0 ⟨Try.isAgg3, Try.sizeOf3⟩ (Ev.t rfl) (k := 0) rfl hx (fun _ => rfl) rfl) rfl ?_; clear S a w; intro a w S)
  (refine h_y (i := 10) S (by repeat (first | exact List.Sublist.refl _ | exact List.nil_sublist _ | refine .cons_cons _ ?_ | refine .cons _ ?_)) rfl (by kernel_rfl) (by kernel_rfl) (by kernel_rfl) (fun _ _ _ _ h => h) (ys_ixS Try.underlying40 Try.sizeOf3 (Ev.t rfl) (Ev.t rfl) (fun _ => by omega)) rfl ?_; clear S a w; intro a w S)
  refine h_m (i := 11) rfl (by kernel_rfl) (op_y S (Yr.ys (ys_ldW0 ⟨Try.isAgg3, Try.sizeOf3⟩ (Ev.t rfl) (k := 0) rfl hy (fun _ => rfl) rfl)) rfl ?_)
  clear S a w
  intro a w S
  refine h_on S _ (List.Sublist.refl _) (by repeat (first | exact List.Sublist.refl _ | exact List.nil_sublist _ | refine .cons_cons _ ?_ | refine .cons _ ?_)) ?_
  (refine h_y (i := 12) S (by repeat (first | exact List.Sublist.refl _ | exact List.nil_sublist _ | refine .cons_cons _ ?_ | refine .cons _ ?_)) rfl (by kernel_rfl) (by kernel_rfl) (by kernel_rfl) (fun _ _ _ _ h => h) (ys_addI (Ev.t rfl) Ev.c (fun _ => by unfold I64; omega)) rfl ?_; clear S a w; intro a w S)
  (refine h_y (i := 13) S (by repeat (first | exact List.Sublist.refl _ | exact List.nil_sublist _ | refine .cons_cons _ ?_ | refine .cons _ ?_)) rfl (by kernel_rfl) (by kernel_rfl) (by kernel_rfl) (fun _ _ _ _ h => h) (ys_ixS Try.underlying40 Try.sizeOf3 (Ev.t rfl) (Ev.t rfl) (fun _ => by omega)) rfl ?_; clear S a w; intro a w S)
  refine h_m0 (i := 14) rfl (by kernel_rfl) (op_stFld (enc := encI) (size := 1) (i := xn) (j := 0) (y + 1) S encI_len Try.sizeOf3 (Ev.t rfl) (Ev.t rfl) rfl (k := 0) rfl hy (by omega) rfl rfl ?_)
  clear S
  intro a w S
  refine h_on S _ (List.Sublist.refl _) (by repeat (first | exact List.Sublist.refl _ | exact List.nil_sublist _ | refine .cons_cons _ ?_ | refine .cons _ ?_)) ?_
  refine h_done (by kernel_rfl) ?_
  (refine (in_normal (then_normal (hK3 _ _ ?_))); clear hK3)
  refine wp_region_lit ?_
  (refine st_y S (Yr.ys (ys_move (Ev.t rfl))) rfl ?_; clear S a w; intro a w S)
  (refine st_y S (Yr.ys (ys_addI (Ev.t rfl) Ev.c (fun _ => by unfold I64; omega))) rfl ?_; clear S a w; intro a w S)
  (refine st_y S (Yr.ys (ys_assign (Ev.t rfl))) rfl ?_; clear S a w; intro a w S)
  refine st_nil ?_
  refine (then_normal ?_)
  exact ⟨i + 1, by omega, by omega, by rw [hbs, hgd]; exact S.picks (by repeat (first | exact Fits.nil | refine Fits.skip rfl ?_ | refine Fits.cons rfl ?_)) (by repeat (first | exact Picks.nil | (refine Picks.rest ?_; (repeat (first | exact List.Sublist.refl _ | refine List.Sublist.cons_cons _ ?_ | refine List.Sublist.cons _ ?_)); done) | refine Picks.take 0 rfl ?_ | refine Picks.take 1 rfl ?_ | refine Picks.take 2 rfl ?_ | refine Picks.take 3 rfl ?_ | refine Picks.take 4 rfl ?_ | refine Picks.take 5 rfl ?_ | refine Picks.take 6 rfl ?_ | refine Picks.take 7 rfl ?_ | refine Picks.take 8 rfl ?_ | refine Picks.take 9 rfl ?_ | refine Picks.take 10 rfl ?_ | refine Picks.take 11 rfl ?_))⟩
end Go.Proofs.Ytcglchdbddlnjaa
set_option linter.unusedVariables false
set_option linter.unusedSimpArgs false
set_option maxRecDepth 100000
set_option maxHeartbeats 4000000
namespace Go.Fw
theorem Dot.enc_len (x : Dot) : (Dot.enc x).length = 3 := rfl
theorem Dot.enc_one (x : Dot) : ∀ u ∈ Dot.enc x, u.oneCell' = true := fun u hu => by simp [Dot.enc] at hu; rcases hu with rfl | rfl | rfl <;> rfl
abbrev aw0 : Rng := ⟨2, 1, 1, [⟨0, 1, 1, 1⟩]⟩
abbrev aw1 : Rng := ⟨2, 1, 1, [⟨0, 1, 2, 2⟩, ⟨1, 1, 1, 1⟩]⟩
theorem owners_one {r : Rng} {q n : Int} (hc : r.can) (hs : startOk q r.parts) (h1 : r.copies = 1) (hi : inR r = [n]) : ownersR r q = [n] := by
  unfold ownersR
  rw [if_pos ⟨hc, hs⟩, h1]
  unfold walkR walkL
  rw [hi, List.mergeSort_singleton]
  rfl
theorem moves_aw : movesR aw0 aw1 = ([⟨0, 0, 1⟩, ⟨1, 0, 1⟩], 0) := by
  have h0 : ∀ q : Int, startOk q 2 → ownersR aw0 q = [0] := fun q hq => owners_one (by decide) hq rfl (by decide)
  have h1 : ∀ q : Int, startOk q 2 → ownersR aw1 q = [1] := fun q hq => owners_one (by decide) hq rfl (by decide)
  have e : movesTo aw0 aw1 2 = [⟨0, 0, 1⟩, ⟨1, 0, 1⟩] := by
    rw [movesTo_next, movesTo_next, h0 _ (by decide), h0 _ (by decide), h1 _ (by decide), h1 _ (by decide)]
    decide
  unfold movesR
  rw [if_pos (by decide)]
  exact Prod.ext e rfl
end Go.Fw
namespace Go.Proofs.Ytcglchdbddlnjaa
open Go.Fw Go.Proofs Go.RowKit
theorem sl_mbrs {w0 w : World} {L : List Chunk} {k g n : Nat} {t : TypeId} {fr : Nat × Nat} (l : List Mbr) (W : Wd w0 L w) (hk : L[k]? = some (.blk g (.cells (l.flatMap Mbr.enc).toArray t fr))) (hn : l.length = n) (hm : n ≤ 4194304) : Sl Mbr.enc 4 w w.heap.size (.slice (some ⟨g, 0, none⟩) n n) l := by
  have h := W.get hk
  subst hn
  refine ⟨_, _, rfl, Nat.le_refl _, by omega, fun _ => ⟨g, 0, rfl, (Array.getElem?_eq_some_iff.1 h.2).1, fun i x hi j u hu => ?_⟩⟩
  have hj := (List.getElem?_eq_some_iff.1 hu).1
  rw [Mbr.enc_len] at hj
  rw [cell_of_row w g _ _ t fr h.2, Nat.zero_add, List.getElem?_toArray, flat_get Mbr.enc_len (by decide) l (i * 4 + j) x (by rw [show (i * 4 + j) / 4 = i by omega]; exact hi), show (i * 4 + j) % 4 = j by omega]
  exact hu
theorem sl_m1 {w0 w : World} {L : List Chunk} {k g : Nat} {t : TypeId} {fr : Nat × Nat} {x0 x1 x2 x3 : Int} (W : Wd w0 L w) (hk : L[k]? = some (.blk g (.cells #[.int .i64 x0, .int .i64 x1, .int .i64 x2, .int .i64 x3] t fr))) : Sl Mbr.enc 4 w w.heap.size (.slice (some ⟨g, 0, none⟩) 1 1) [⟨x0, x1, x2, x3⟩] := sl_mbrs [⟨x0, x1, x2, x3⟩] W hk rfl (by decide)
theorem sl_m2 {w0 w : World} {L : List Chunk} {k g : Nat} {t : TypeId} {fr : Nat × Nat} {x0 x1 x2 x3 y0 y1 y2 y3 : Int} (W : Wd w0 L w) (hk : L[k]? = some (.blk g (.cells #[.int .i64 x0, .int .i64 x1, .int .i64 x2, .int .i64 x3, .int .i64 y0, .int .i64 y1, .int .i64 y2, .int .i64 y3] t fr))) : Sl Mbr.enc 4 w w.heap.size (.slice (some ⟨g, 0, none⟩) 2 2) [⟨x0, x1, x2, x3⟩, ⟨y0, y1, y2, y3⟩] := sl_mbrs [⟨x0, x1, x2, x3⟩, ⟨y0, y1, y2, y3⟩] W hk rfl (by decide)
theorem c19 (w0 : World) (p c s : Int) (v : Value) (l : List Mbr) (h : Sl Mbr.enc 4 w0 w0.heap.size v l) (hn : l.length ≤ 4194304) :
    Rets Try.prog 19 #[.agg #[.int .i64 p, .int .i64 c, .int .i64 s, v]] w0 fun u L => ∃ A cp, u = .agg #[.int .i64 p, .int .i64 c, .int .i64 s, .slice A l.length cp] ∧ L = [rowOf 60 4 Mbr.enc A cp l] := by
  unfold Go.Fw.Rets
  refine enter1 Try.func19 rfl Try.ntmps19 rfl fun a S => ?_
  refine wp_seq_k fun _ hK1 => ?_
  refine wp_region_lit ?_
  (refine st_m (op_box S (Ev.t rfl) rfl ?_); clear S a; intro g1 a w S)
  (refine st_m (op_alloc S Try.zeroValue24 (cs := _) rfl rfl ?_); clear S a w; intro g2 a w S)
  refine st_nil ?_
  (refine (then_normal (hK1 _ _ ?_)); clear hK1)
  refine wp_seq_k fun _ hK1 => ?_
  refine wp_region_lit ?_
  (refine st_y S (Yr.ys (ys_fieldN (FieldT.mk Try.underlying24 rfl Try.sizeOf22 rfl) (Ev.t rfl) (i' := 3) rfl)) rfl ?_; clear S a w; intro a w S)
  (refine st_y S (Yr.ys (ys_ld ⟨Try.isAgg22, Try.sizeOf22⟩ (Ev.t rfl) (k := 1) rfl rfl)) rfl ?_; clear S a w; intro a w S)
  (refine st_m (op_calls S Try.call70 (EvL.cons (Ev.t rfl) EvL.nil) (c70 _ _ _ (by exact .old S.wd (by assumption)) (by assumption)) rfl ?_); clear S a w; rintro _ _ ⟨A1, c1, rfl, rfl⟩ a w S)
  (refine st_y S (Yr.ys (ys_fieldN (FieldT.mk Try.underlying24 rfl Try.sizeOf22 rfl) (Ev.t rfl) (i' := 3) rfl)) rfl ?_; clear S a w; intro a w S)
  (refine st_m (op_st S Try.sizeOf22 (Ev.t rfl) (Ev.t rfl) (k := 2) rfl rfl (by simp) ?_); clear S a w; intro a w S)
  refine st_nil ?_
  (refine (then_normal (hK1 _ _ ?_)); clear hK1)
  refine wp_seq_k fun _ hK1 => ?_
  refine wp_region_lit ?_
  (refine st_y S (Yr.ys (ys_ldA ⟨Try.isAgg24, Try.sizeOf24⟩ (Ev.t rfl) (k := 2) rfl rfl)) rfl ?_; clear S a w; intro a w S)
  (refine st_m (op_stW S Try.sizeOf24 (Ev.t rfl) (Ev.t rfl) (k := 1) rfl rfl rfl (by simp [Value.oneCell']) ?_); clear S a w; intro a w S)
  refine st_nil ?_
  (refine (then_normal (hK1 _ _ ?_)); clear hK1)
  refine wp_ret ?_
  refine st_ret S (results1 S Try.results19 (Rv.cell (k := 1) ⟨Try.isAgg24, Try.sizeOf24⟩ rfl rfl rfl)) ?_
  exact ⟨_, _, rfl, S.wd.picks (by repeat (first | exact Picks.nil | (refine Picks.rest ?_; (repeat (first | exact List.Sublist.refl _ | refine List.Sublist.cons_cons _ ?_ | refine List.Sublist.cons _ ?_)); done) | refine Picks.take 0 rfl ?_ | refine Picks.take 1 rfl ?_ | refine Picks.take 2 rfl ?_ | refine Picks.take 3 rfl ?_ | refine Picks.take 4 rfl ?_ | refine Picks.take 5 rfl ?_ | refine Picks.take 6 rfl ?_ | refine Picks.take 7 rfl ?_ | refine Picks.take 8 rfl ?_ | refine Picks.take 9 rfl ?_ | refine Picks.take 10 rfl ?_ | refine Picks.take 11 rfl ?_)), _, _, rfl, rfl⟩
theorem c21 (w0 : World) : Calls Try.prog 21 #[] w0 fun e w' => e = .returned (.bool true) ∧ Bel w0.heap.size w0 w' := by
  have rw_1 := moves_aw
  refine enter0 Try.func21 rfl Try.ntmps21 rfl fun a S => ?_
  refine wp_seq_k fun _ hK1 => ?_
  refine wp_region_lit ?_
  (refine st_y S (Yr.ys (ys_assign Ev.c)) rfl ?_; clear S a; intro a w S)
  refine st_nil ?_
  (refine (then_normal (hK1 _ _ ?_)); clear hK1)
  refine wp_seq_k fun _ hK1 => ?_
  refine wp_region_lit ?_
  (refine st_y S (Yr.ys (ys_bld (ps := [(0, _), (1, _), (2, _), (3, _)]) (us := [_, _, _, _]) bld60 (EvL.cons Ev.c (EvL.cons Ev.c (EvL.cons Ev.c (EvL.cons Ev.c EvL.nil)))) rfl)) rfl ?_; clear S a w; intro a w S)
  (refine st_m (op_bslice1 S Try.underlying22 inf60 rfl rfl rfl (Ev.t rfl) rfl rfl rfl ?_); clear S a w; intro g1 a w S)
  (refine st_y S (Yr.ys (ys_bld (ps := [(0, _), (1, _), (2, _), (3, Go.Operand.tmp 6)]) (us := [_, _, _, _]) bld24 (EvL.cons Ev.c (EvL.cons Ev.c (EvL.cons Ev.c (EvL.cons (Ev.t rfl) EvL.nil)))) rfl)) rfl ?_; clear S a w; intro a w S)
  (refine st_m (op_alloc S Try.zeroValue24 (cs := _) rfl rfl ?_); clear S a w; intro g2 a w S)
  (refine st_m (op_stW S Try.sizeOf24 (Ev.t rfl) (Ev.t rfl) (k := 0) rfl rfl rfl (by simp [Value.oneCell']) ?_); clear S a w; intro a w S)
  refine st_nil ?_
  (refine (then_normal (hK1 _ _ ?_)); clear hK1)
  refine wp_seq_k fun _ hK1 => ?_
  refine wp_region_lit ?_
  (refine st_y S (Yr.ys (ys_bld (ps := [(0, _), (1, _), (2, _), (3, _)]) (us := [_, _, _, _]) bld60 (EvL.cons Ev.c (EvL.cons Ev.c (EvL.cons Ev.c (EvL.cons Ev.c EvL.nil)))) rfl)) rfl ?_; clear S a w; intro a w S)
  (refine st_y S (Yr.ys (ys_bld (ps := [(0, _), (1, _), (2, _), (3, _)]) (us := [_, _, _, _]) bld60 (EvL.cons Ev.c (EvL.cons Ev.c (EvL.cons Ev.c (EvL.cons Ev.c EvL.nil)))) rfl)) rfl ?_; clear S a w; intro a w S)
  (refine st_m (op_bsliceZ (ps := [(0, Go.Operand.tmp 8), (1, Go.Operand.tmp 9)]) (us := [_, _, _, _, _, _, _, _]) S Try.underlying22 Try.sizeOf60 Try.zeroValue60 rfl rfl (EvL.cons (Ev.t rfl) (EvL.cons (Ev.t rfl) EvL.nil)) rfl rfl ?_); clear S a w; intro g3 a w S)
  (refine st_y S (Yr.ys (ys_bld (ps := [(0, _), (1, _), (2, _), (3, Go.Operand.tmp 10)]) (us := [_, _, _, _]) bld24 (EvL.cons Ev.c (EvL.cons Ev.c (EvL.cons Ev.c (EvL.cons (Ev.t rfl) EvL.nil)))) rfl)) rfl ?_; clear S a w; intro a w S)
  (refine st_m (op_alloc S Try.zeroValue24 (cs := _) rfl rfl ?_); clear S a w; intro g4 a w S)
  (refine st_m (op_stW S Try.sizeOf24 (Ev.t rfl) (Ev.t rfl) (k := 0) rfl rfl rfl (by simp [Value.oneCell']) ?_); clear S a w; intro a w S)
  refine st_nil ?_
  (refine (then_normal (hK1 _ _ ?_)); clear hK1)
  refine wp_seq_k fun _ hK1 => ?_
  refine wp_region_lit ?_
  (refine st_y S (Yr.ys (ys_ldA ⟨Try.isAgg24, Try.sizeOf24⟩ (Ev.t rfl) (k := 2) rfl rfl)) rfl ?_; clear S a w; intro a w S)
  (refine st_y S (Yr.ys (ys_ldA ⟨Try.isAgg24, Try.sizeOf24⟩ (Ev.t rfl) (k := 0) rfl rfl)) rfl ?_; clear S a w; intro a w S)
  (refine st_m (op_calls S Try.call18 (EvL.cons (Ev.t rfl) (EvL.cons (Ev.t rfl) EvL.nil)) (c18 _ _ _ _ _ _ (by exact sl_m1 S.wd (k := 3) rfl) (by (simp; done)) _ _ _ _ _ (by exact sl_m2 S.wd (k := 1) rfl) (by (simp; done))) rfl ?_); clear S a w; rintro _ _ ⟨A1, cp1, rfl, rfl⟩ a w S)
  rw [rw_1] at S
  (refine st_y S (Yr.ys (ys_move (Ev.t rfl))) rfl ?_; clear S a w; intro a w S)
  (refine st_y S (Yr.ys (ys_ext (Ev.t rfl) rfl)) rfl ?_; clear S a w; intro a w S)
  (refine st_y S (Yr.ys (ys_ext (Ev.t rfl) rfl)) rfl ?_; clear S a w; intro a w S)
  (refine st_y S (Yr.ys (ys_assign (Ev.t rfl))) rfl ?_; clear S a w; intro a w S)
  (refine st_y S (Yr.ys (ys_assign (Ev.t rfl))) rfl ?_; clear S a w; intro a w S)
  refine st_nil ?_
  (refine (then_normal (hK1 _ _ ?_)); clear hK1)
  refine wp_seq_k fun _ hK1 => ?_
  refine wp_region_lit ?_
  (refine st_y S (Yr.ys (ys_move (Ev.t rfl))) rfl ?_; clear S a w; intro a w S)
  (refine st_y S (Yr.ys (ys_T (by omega) (ys_eql (Ev.t rfl) Ev.c))) rfl ?_; clear S a w; intro a w S)
  (refine st_y S (Yr.ys (ys_move (Ev.t rfl))) rfl ?_; clear S a w; intro a w S)
  (refine st_yt S rfl rfl (Yr.ys (ys_move (Ev.t rfl))) rfl ?_; clear S a w; intro a w S)
  (refine st_yt S rfl rfl (Yr.ys (ys_lenS Try.underlying25 (Ev.t rfl))) rfl ?_; clear S a w; intro a w S)
  (refine st_yt S rfl rfl (Yr.ys (ys_eql (Ev.t rfl) Ev.c)) rfl ?_; clear S a w; intro a w S)
  (refine st_y S (Yr.ys (ys_pickT (Ev.t rfl) (Ev.t rfl))) rfl ?_; clear S a w; intro a w S)
  (refine st_y S (Yr.ys (ys_move (Ev.t rfl))) rfl ?_; clear S a w; intro a w S)
  (refine st_yt S rfl rfl (Yr.ys (ys_move (Ev.t rfl))) rfl ?_; clear S a w; intro a w S)
  dsimp only at S
  have hroom := (S.wd.picks (L' := [rowOf 36 3 Dot.enc A1 cp1 [⟨0, 0, 1⟩, ⟨1, 0, 1⟩]]) (by repeat (first | exact Picks.nil | (refine Picks.rest ?_; (repeat (first | exact List.Sublist.refl _ | refine List.Sublist.cons_cons _ ?_ | refine List.Sublist.cons _ ?_)); done) | refine Picks.take 0 rfl ?_ | refine Picks.take 1 rfl ?_ | refine Picks.take 2 rfl ?_ | refine Picks.take 3 rfl ?_ | refine Picks.take 4 rfl ?_ | refine Picks.take 5 rfl ?_ | refine Picks.take 6 rfl ?_ | refine Picks.take 7 rfl ?_ | refine Picks.take 8 rfl ?_ | refine Picks.take 9 rfl ?_ | refine Picks.take 10 rfl ?_ | refine Picks.take 11 rfl ?_))).room (k := 0) rfl
  have h2 : ([⟨0, 0, 1⟩, ⟨1, 0, 1⟩] : List Dot).length = 2 := rfl
  obtain ⟨ga, rfl⟩ := (S.wd.picks (L' := [rowOf 36 3 Dot.enc A1 cp1 [⟨0, 0, 1⟩, ⟨1, 0, 1⟩]]) (by repeat (first | exact Picks.nil | (refine Picks.rest ?_; (repeat (first | exact List.Sublist.refl _ | refine List.Sublist.cons_cons _ ?_ | refine List.Sublist.cons _ ?_)); done) | refine Picks.take 0 rfl ?_ | refine Picks.take 1 rfl ?_ | refine Picks.take 2 rfl ?_ | refine Picks.take 3 rfl ?_ | refine Picks.take 4 rfl ?_ | refine Picks.take 5 rfl ?_ | refine Picks.take 6 rfl ?_ | refine Picks.take 7 rfl ?_ | refine Picks.take 8 rfl ?_ | refine Picks.take 9 rfl ?_ | refine Picks.take 10 rfl ?_ | refine Picks.take 11 rfl ?_))).row_at (k := 0) rfl (by omega)
  have hx : ([⟨0, 0, 1⟩, ⟨1, 0, 1⟩] : List Dot)[1]? = some ⟨1, 0, 1⟩ := rfl
  (refine st_yt S rfl rfl (Yr.ys (ys_ixS (j := 1) Try.underlying25 Try.sizeOf36 (Ev.t rfl) Ev.c (fun _ => by omega))) rfl ?_; clear S a w; intro a w S)
  (refine st_yt S rfl rfl (Yr.ys (ys_ldWA ⟨Try.isAgg36, Try.sizeOf36⟩ (Ev.t rfl) (k := 0) rfl hx (fun _ => rfl))) rfl ?_; clear S a w; intro a w S)
  (refine st_yt S rfl rfl (Yr.ys (ys_bld (ps := [(0, _), (1, _), (2, _)]) (us := [_, _, _]) bld36 (EvL.cons Ev.c (EvL.cons Ev.c (EvL.cons Ev.c EvL.nil))) rfl)) rfl ?_; clear S a w; intro a w S)
  (refine st_yt S rfl rfl (Yr.ys (ys_eqA (Ev.t rfl) (Ev.t rfl) eq36)) rfl ?_; clear S a w; intro a w S)
  (refine st_y S (Yr.ys (ys_pickT (Ev.t rfl) (Ev.t rfl))) rfl ?_; clear S a w; intro a w S)
  (refine st_y S (Yr.ys (ys_assign (Ev.t rfl))) rfl ?_; clear S a w; intro a w S)
  refine st_nil ?_
  (refine (then_normal (hK1 _ _ ?_)); clear hK1)
  refine wp_ret ?_
  refine st_ret S (results1 S Try.results21 (Rv.tmp rfl)) ?_
  exact ⟨rfl, S.wd.below⟩
theorem dot_iff {x y : Dot} : x = y ↔ x.node = y.node ∧ x.life = y.life ∧ x.count = y.count := ⟨fun e => by subst e; exact ⟨rfl, rfl, rfl⟩, fun ⟨e1, e2, e3⟩ => by cases x; cases y; simp_all⟩
theorem c25 (w0 : World) (v v' : Value) (l l' : List Dot) (h : Sl Dot.enc 3 w0 w0.heap.size v l) (h' : Sl Dot.enc 3 w0 w0.heap.size v' l') :
    Calls Try.prog 25 #[v, v'] w0 fun e w' => e = .returned (.bool (decide (l = l'))) ∧ Bel w0.heap.size w0 w' := by
  obtain ⟨A, cap, rfl, hl, hcap, hA⟩ := h
  obtain ⟨A', cap', rfl, hl', hcap', hA'⟩ := h'
  refine enter2 Try.func25 rfl Try.ntmps25 rfl fun a S => ?_
  refine wp_seq_k fun _ hK1 => ?_
  refine wp_region_lit ?_
  (refine st_y S (Yr.ys (ys_assign Ev.c)) rfl ?_; clear S a; intro a w S)
  refine st_nil ?_
  (refine (then_normal (hK1 _ _ ?_)); clear hK1)
  refine wp_seq_k fun _ hK1 => ?_
  refine wp_seq_k fun _ hK2 => ?_
  refine wp_region_lit ?_
  (refine st_y S (Yr.ys (ys_move (Ev.t rfl))) rfl ?_; clear S a w; intro a w S)
  (refine st_y S (Yr.ys (ys_lenS Try.underlying25 (Ev.t rfl))) rfl ?_; clear S a w; intro a w S)
  (refine st_y S (Yr.ys (ys_move (Ev.t rfl))) rfl ?_; clear S a w; intro a w S)
  (refine st_y S (Yr.ys (ys_lenS Try.underlying25 (Ev.t rfl))) rfl ?_; clear S a w; intro a w S)
  (refine st_y S (Yr.ys (ys_neq (Ev.t rfl) (Ev.t rfl))) rfl ?_; clear S a w; intro a w S)
  refine st_nil ?_
  (refine (then_normal (hK2 _ _ ?_)); clear hK2)
  refine st_if S (Ev.t rfl) (fun h1 => ?_) (fun h1 => ?_)
  refine wp_seq_k fun _ hK2 => ?_
  refine wp_region_lit ?_
  (refine st_y S (Yr.ys (ys_assign Ev.c)) rfl ?_; clear S a w; intro a w S)
  refine st_nil ?_
  (refine (then_normal (hK2 _ _ ?_)); clear hK2)
  refine wp_ret ?_
  refine (then_ret ?_)
  refine st_ret S (results1 S Try.results25 (Rv.tmp rfl)) ?_
  rotate_left
  refine wp_skip ?_
  (refine (then_normal (hK1 _ _ ?_)); clear hK1)
  refine wp_seq_k fun _ hK1 => ?_
  refine wp_seq_k fun _ hK2 => ?_
  refine wp_region_lit ?_
  (refine st_y S (Yr.ys (ys_move (Ev.t rfl))) rfl ?_; clear S a w; intro a w S)
  (refine st_y S (Yr.ys (ys_lenS Try.underlying25 (Ev.t rfl))) rfl ?_; clear S a w; intro a w S)
  (refine st_y S (Yr.ys (ys_move Ev.c)) rfl ?_; clear S a w; intro a w S)
  refine st_nil ?_
  (refine (then_normal (hK2 _ _ ?_)); clear hK2)
  refine wp_block ?_
  rotate_left
  · refine ⟨?_, S.wd.below⟩
    rw [decide_eq_false (fun e => h1 (by rw [e]))]
  · refine st_loopK S (X := Nat) (fun k => [(13, true, .int .i64 (k : Int))]) (fun _ L => L) (fun k => k ≤ l.length ∧ l.take k = l'.take k) (fun k => l.length - k) 0 ⟨Nat.zero_le _, rfl⟩ (by repeat (first | exact Fits.nil | refine Fits.skip rfl ?_ | refine Fits.cons rfl ?_)) (by repeat (first | exact List.Sublist.refl _ | exact List.nil_sublist _ | refine .cons_cons _ ?_ | refine .cons _ ?_)) ?_
    clear S
    intro k a w ⟨hk, hno⟩ S
    by_cases hlt : k < l.length
    · obtain ⟨g, o, m, rfl, hmm, hd, hc⟩ := row_at hA hlt
      obtain ⟨g', o', m', rfl, hmm', hd', hc'⟩ := row_at hA' (show k < l'.length by omega)
      clear hA hA'
      refine wp_seq_k fun _ hK2 => ?_
      refine wp_region_lit ?_
      (refine st_y S (Yr.ys (ys_T (by omega) (ys_lss (Ev.t rfl) (Ev.t rfl)))) rfl ?_; clear S a w; intro a w S)
      refine st_nil ?_
      (refine (then_normal (hK2 _ _ ?_)); clear hK2)
      refine wp_seq_k fun _ hK2 => ?_
      refine st_then S (Ev.t rfl) ?_
      refine wp_skip ?_
      (refine (then_normal (hK2 _ _ ?_)); clear hK2)
      refine wp_seq_k fun _ hK2 => ?_
      refine wp_block ?_
      refine wp_seq_k fun _ hK3 => ?_
      refine wp_region_lit ?_
      (refine st_y S (Yr.ys (ys_move (Ev.t rfl))) rfl ?_; clear S a w; intro a w S)
      (refine st_y S (Yr.ys (ys_assign (Ev.t rfl))) rfl ?_; clear S a w; intro a w S)
      refine st_nil ?_
      (refine (then_normal (hK3 _ _ ?_)); clear hK3)
      refine wp_seq_k fun _ hK3 => ?_
      (refine st_quiet S (by kernel_rfl) (by kernel_rfl) ?_; clear S w; intro a S)
      (refine q_y S (Yr.ys (ys_move (Ev.t rfl))) rfl ?_; clear S a; intro a S)
      (refine q_y S (Yr.ys (ys_move (Ev.t rfl))) rfl ?_; clear S a; intro a S)
      (refine q_y S (Yr.ys (ys_ixS Try.underlying25 Try.sizeOf36 (Ev.t rfl) (Ev.t rfl) (fun _ => by omega))) rfl ?_; clear S a; intro a S)
      (refine q_y S (Yr.ys (ys_ldOA ⟨Try.isAgg36, Try.sizeOf36⟩ (Ev.t rfl) (vs := [_, _, _]) rfl (fun _ => hc))) rfl ?_; clear S a; intro a S)
      (refine q_y S (Yr.ys (ys_move (Ev.t rfl))) rfl ?_; clear S a; intro a S)
      (refine q_y S (Yr.ys (ys_move (Ev.t rfl))) rfl ?_; clear S a; intro a S)
      (refine q_y S (Yr.ys (ys_ixS Try.underlying25 Try.sizeOf36 (Ev.t rfl) (Ev.t rfl) (fun _ => by omega))) rfl ?_; clear S a; intro a S)
      (refine q_y S (Yr.ys (ys_ldOA ⟨Try.isAgg36, Try.sizeOf36⟩ (Ev.t rfl) (vs := [_, _, _]) rfl (fun _ => hc'))) rfl ?_; clear S a; intro a S)
      (refine q_y S (Yr.ys (ys_neA (Ev.t rfl) (Ev.t rfl) eq36)) rfl ?_; clear S a; intro a S)
      (refine q_nil ?_; intro w W; replace S := St.mk S W; clear W)
      (refine (then_normal (hK3 _ _ ?_)); clear hK3)
      refine st_cond S (Ev.t rfl) (fun h2 => ?_) (fun h2 => ?_)
      refine wp_seq_k fun _ hK3 => ?_
      refine wp_region_lit ?_
      (refine st_y S (Yr.ys (ys_assign Ev.c)) rfl ?_; clear S a w; intro a w S)
      refine st_nil ?_
      (refine (then_normal (hK3 _ _ ?_)); clear hK3)
      refine wp_ret ?_
      refine (in_ret (then_ret (then_ret (in_ret (then_ret ?_)))))
      refine st_ret S (results1 S Try.results25 (Rv.tmp rfl)) ?_
      rotate_left
      refine wp_skip ?_
      (refine (in_normal (then_normal (hK2 _ _ ?_))); clear hK2)
      refine wp_region_lit ?_
      (refine st_y S (Yr.ys (ys_addI (Ev.t rfl) Ev.c (fun _ => by unfold I64; omega))) rfl ?_; clear S a w; intro a w S)
      (refine st_y S (Yr.ys (ys_move (Ev.t rfl))) rfl ?_; clear S a w; intro a w S)
      refine st_nil ?_
      refine (then_normal ?_)
      rotate_left
      · refine ⟨?_, S.wd.below⟩
        have hne : ¬ m = m' := fun e => by
          have h3 := h2
          rw [dot_iff] at e
          simp at h3
          simp_all
        rw [at_ne hmm hmm' hne]
      · have heq : m = m' := by
          have h3 := h2
          rw [dot_iff]
          simpa using h3
        exact ⟨k + 1, ⟨by omega, at_step hno hmm hmm' heq⟩, by omega, S.weak (by repeat (first | exact Fits.nil | refine Fits.skip rfl ?_ | refine Fits.cons rfl ?_)) (by repeat (first | exact List.Sublist.refl _ | exact List.nil_sublist _ | refine .cons_cons _ ?_ | refine .cons _ ?_))⟩
    · refine wp_seq_k fun _ hK2 => ?_
      refine wp_region_lit ?_
      (refine st_y S (Yr.ys (ys_F (by omega) (ys_lss (Ev.t rfl) (Ev.t rfl)))) rfl ?_; clear S a w; intro a w S)
      refine st_nil ?_
      (refine (then_normal (hK2 _ _ ?_)); clear hK2)
      refine wp_seq_k fun _ hK2 => ?_
      refine st_else S (Ev.t rfl) ?_
      refine wp_exit ?_
      (refine (then_exit (then_exit (in_here (then_normal (hK1 _ _ ?_))))); clear hK1)
      refine wp_seq_k fun _ hK1 => ?_
      refine wp_region_lit ?_
      (refine st_y S (Yr.ys (ys_assign Ev.c)) rfl ?_; clear S a w; intro a w S)
      refine st_nil ?_
      (refine (then_normal (hK1 _ _ ?_)); clear hK1)
      refine wp_ret ?_
      refine st_ret S (results1 S Try.results25 (Rv.tmp rfl)) ?_
      refine ⟨?_, S.wd.below⟩
      rw [decide_eq_true]
      rw [List.take_of_length_le (by omega), List.take_of_length_le (by omega)] at hno
      exact hno
theorem movesR_same (r : Rng) : movesR r r = ([], if shapeP r.parts r.copies r.spots ∧ goodL r.mem then 0 else 60) := by
  have hz : ∀ k, movesTo r r k = [] := by
    intro k
    induction k with
    | zero => rfl
    | succ k ih =>
      rw [movesTo_next, ih]
      unfold movesAt
      split
      · rfl
      · rw [show withoutL (ownersR r k) (ownersR r k) = [] from List.filter_eq_nil_iff.2 fun x hx => by simp [hx]]; rfl
  unfold movesR
  by_cases h : shapeP r.parts r.copies r.spots ∧ goodL r.mem
  · rw [if_pos ⟨h, h, rfl, rfl, rfl⟩, if_pos h, hz]
  · rw [if_neg fun h2 => h h2.1, if_neg h]
theorem c5 (w0 : World) (p c s : Int) (v : Value) (l : List Mbr) (h : Sl Mbr.enc 4 w0 w0.heap.size v l) (hn : l.length ≤ 1048576) (p' c' s' : Int) (v' : Value) (l' : List Mbr) (h' : Sl Mbr.enc 4 w0 w0.heap.size v' l') (hn' : l'.length ≤ 1048576) :
    Calls Try.prog 5 #[.agg #[.int .i64 p, .int .i64 c, .int .i64 s, v], .agg #[.int .i64 p', .int .i64 c', .int .i64 s', v']] w0 fun e w' => e = .returned (.bool true) ∧ Bel w0.heap.size w0 w' := by
  have rw_1 : ∀ i : Int, decide (i ≠ i) = false := fun i => decide_eq_false (by simp)
  have rw_2 : ∀ r : Rng, decide (r = r) = true := fun i => decide_eq_true rfl
  have rw_3 : ∀ l : List Dot, decide (l = l) = true := fun i => decide_eq_true rfl
  have rw_4 : ∀ l : List Int, decide (l = l) = true := fun i => decide_eq_true rfl
  have rw_5 : ∀ i : Int, decide (i = i) = true := fun i => decide_eq_true rfl
  refine enter2 Try.func5 rfl Try.ntmps5 rfl fun a S => ?_
  refine wp_seq_k fun _ hK1 => ?_
  refine wp_region_lit ?_
  (refine st_m (op_box S (Ev.t rfl) rfl ?_); clear S a; intro g1 a w S)
  (refine st_m (op_box S (Ev.t rfl) rfl ?_); clear S a w; intro g2 a w S)
  (refine st_y S (Yr.ys (ys_assign Ev.c)) rfl ?_; clear S a w; intro a w S)
  refine st_nil ?_
  (refine (then_normal (hK1 _ _ ?_)); clear hK1)
  refine wp_seq_k fun _ hK1 => ?_
  refine Code.wp_mono (Q := fun e a w => match e with
    | .normal => ∃ ga gb A1 c1 A2 c2, St 48 w0 [(6, true, .pointer (some ⟨gb, 0, none⟩)), (5, true, .pointer (some ⟨ga, 0, none⟩)), (4, true, .bool false), (3, true, .pointer (some ⟨g2, 0, none⟩)), (2, true, .pointer (some ⟨g1, 0, none⟩))]
        [.blk ga (.cells #[.int .i64 p, .int .i64 c, .int .i64 s, .slice A1 l.length c1] 24), .blk gb (.cells #[.int .i64 p', .int .i64 c', .int .i64 s', .slice A2 l'.length c2] 24), rowOf 60 4 Mbr.enc A1 c1 l, rowOf 60 4 Mbr.enc A2 c2 l',
         .blk g2 (.cells #[.int .i64 p', .int .i64 c', .int .i64 s', v'] 24), .blk g1 (.cells #[.int .i64 p, .int .i64 c, .int .i64 s, v] 24)] a w
    | _ => False) (fun e a w q => ?_) ?_
  rotate_left
  · (refine h_begin0 S (by kernel_rfl) ?_; clear S a w; intro a w S)
    (refine h_y (i := 0) S (by repeat (first | exact List.Sublist.refl _ | exact List.nil_sublist _ | refine .cons_cons _ ?_ | refine .cons _ ?_)) rfl (by kernel_rfl) (by kernel_rfl) (by kernel_rfl) (fun _ _ _ _ h => h) (ys_ldA ⟨Try.isAgg24, Try.sizeOf24⟩ (Ev.t rfl) (k := 1) rfl rfl) rfl ?_; clear S a w; intro a w S)
    (refine h_y (i := 2) S (by repeat (first | exact List.Sublist.refl _ | exact List.nil_sublist _ | refine .cons_cons _ ?_ | refine .cons _ ?_)) rfl (by kernel_rfl) (by kernel_rfl) (by kernel_rfl) (fun _ _ _ _ h => h) (ys_ldA ⟨Try.isAgg24, Try.sizeOf24⟩ (Ev.t rfl) (k := 0) rfl rfl) rfl ?_; clear S a w; intro a w S)
    refine h_split3 (i := 1) (j := 4) (k := 5) (by kernel_rfl) rfl rfl rfl ?_ ?_ ?_
    (refine op_calls S Try.call19 (EvL.cons (Ev.t rfl) EvL.nil) (c19 _ _ _ _ _ _ (by exact .old S.wd (by assumption)) (by omega)) rfl ?_; clear S a w; rintro _ _ ⟨A1, cp1, rfl, rfl⟩ a w S; refine h_on S _ (List.Sublist.refl _) (by repeat (first | exact List.Sublist.refl _ | exact List.nil_sublist _ | refine .cons_cons _ ?_ | refine .cons _ ?_)) ?_)
    refine h_split3 (i := 3) (j := 4) (k := 5) (by kernel_rfl) rfl rfl rfl ?_ ?_ ?_
    (refine op_calls S Try.call19 (EvL.cons (Ev.t rfl) EvL.nil) (c19 _ _ _ _ _ _ (by exact .old S.wd (by assumption)) (by omega)) rfl ?_; clear S a w; rintro _ _ ⟨A2, cp2, rfl, rfl⟩ a w S; refine h_on S _ (List.Sublist.refl _) (by repeat (first | exact List.Sublist.refl _ | exact List.nil_sublist _ | refine .cons_cons _ ?_ | refine .cons _ ?_)) ?_)
    refine h_split (i := 4) (j := 5) (by kernel_rfl) rfl rfl ?_ ?_
    (refine op_alloc S Try.zeroValue24 (cs := _) rfl rfl ?_; clear S a w; intro g3 a w S; refine h_on S _ (List.Sublist.refl _) (by repeat (first | exact List.Sublist.refl _ | exact List.nil_sublist _ | refine .cons_cons _ ?_ | refine .cons _ ?_)) ?_)
    (refine h_m (i := 5) rfl (by kernel_rfl) (op_alloc S Try.zeroValue24 (cs := _) rfl rfl ?_); clear S a w; intro g4 a w S; refine h_on S _ (List.Sublist.refl _) (by repeat (first | exact List.Sublist.refl _ | exact List.nil_sublist _ | refine .cons_cons _ ?_ | refine .cons _ ?_)) ?_)
    (refine h_m0 (i := 6) rfl (by kernel_rfl) (op_stW S Try.sizeOf24 (Ev.t rfl) (Ev.t rfl) (k := 1) rfl rfl rfl (by simp [Value.oneCell']) ?_); clear S a w; intro a w S; refine h_on S _ (List.Sublist.refl _) (by repeat (first | exact List.Sublist.refl _ | exact List.nil_sublist _ | refine .cons_cons _ ?_ | refine .cons _ ?_)) ?_)
    (refine h_m0 (i := 7) rfl (by kernel_rfl) (op_stW S Try.sizeOf24 (Ev.t rfl) (Ev.t rfl) (k := 0) rfl rfl rfl (by simp [Value.oneCell']) ?_); clear S a w; intro a w S; refine h_on S _ (List.Sublist.refl _) (by repeat (first | exact List.Sublist.refl _ | exact List.nil_sublist _ | refine .cons_cons _ ?_ | refine .cons _ ?_)) ?_)
    refine h_done (by kernel_rfl) ?_
    rotate_left
    (refine op_alloc S Try.zeroValue24 (cs := _) rfl rfl ?_; clear S a w; intro g3 a w S; refine h_on S _ (List.Sublist.refl _) (by repeat (first | exact List.Sublist.refl _ | exact List.nil_sublist _ | refine .cons_cons _ ?_ | refine .cons _ ?_)) ?_)
    (refine h_m (i := 4) rfl (by kernel_rfl) (op_alloc S Try.zeroValue24 (cs := _) rfl rfl ?_); clear S a w; intro g4 a w S; refine h_on S _ (List.Sublist.refl _) (by repeat (first | exact List.Sublist.refl _ | exact List.nil_sublist _ | refine .cons_cons _ ?_ | refine .cons _ ?_)) ?_)
    (refine h_m0 (i := 6) rfl (by kernel_rfl) (op_stW S Try.sizeOf24 (Ev.t rfl) (Ev.t rfl) (k := 0) rfl rfl rfl (by simp [Value.oneCell']) ?_); clear S a w; intro a w S; refine h_on S _ (List.Sublist.refl _) (by repeat (first | exact List.Sublist.refl _ | exact List.nil_sublist _ | refine .cons_cons _ ?_ | refine .cons _ ?_)) ?_)
    (refine h_m0 (i := 7) rfl (by kernel_rfl) (op_stW S Try.sizeOf24 (Ev.t rfl) (Ev.t rfl) (k := 1) rfl rfl rfl (by simp [Value.oneCell']) ?_); clear S a w; intro a w S; refine h_on S _ (List.Sublist.refl _) (by repeat (first | exact List.Sublist.refl _ | exact List.nil_sublist _ | refine .cons_cons _ ?_ | refine .cons _ ?_)) ?_)
    refine h_done (by kernel_rfl) ?_
    rotate_left
    (refine op_alloc S Try.zeroValue24 (cs := _) rfl rfl ?_; clear S a w; intro g3 a w S; refine h_on S _ (List.Sublist.refl _) (by repeat (first | exact List.Sublist.refl _ | exact List.nil_sublist _ | refine .cons_cons _ ?_ | refine .cons _ ?_)) ?_)
    refine h_split (i := 3) (j := 5) (by kernel_rfl) rfl rfl ?_ ?_
    (refine op_calls S Try.call19 (EvL.cons (Ev.t rfl) EvL.nil) (c19 _ _ _ _ _ _ (by exact .old S.wd (by assumption)) (by omega)) rfl ?_; clear S a w; rintro _ _ ⟨A2, cp2, rfl, rfl⟩ a w S; refine h_on S _ (List.Sublist.refl _) (by repeat (first | exact List.Sublist.refl _ | exact List.nil_sublist _ | refine .cons_cons _ ?_ | refine .cons _ ?_)) ?_)
    (refine h_m (i := 5) rfl (by kernel_rfl) (op_alloc S Try.zeroValue24 (cs := _) rfl rfl ?_); clear S a w; intro g4 a w S; refine h_on S _ (List.Sublist.refl _) (by repeat (first | exact List.Sublist.refl _ | exact List.nil_sublist _ | refine .cons_cons _ ?_ | refine .cons _ ?_)) ?_)
    (refine h_m0 (i := 6) rfl (by kernel_rfl) (op_stW S Try.sizeOf24 (Ev.t rfl) (Ev.t rfl) (k := 2) rfl rfl rfl (by simp [Value.oneCell']) ?_); clear S a w; intro a w S; refine h_on S _ (List.Sublist.refl _) (by repeat (first | exact List.Sublist.refl _ | exact List.nil_sublist _ | refine .cons_cons _ ?_ | refine .cons _ ?_)) ?_)
    (refine h_m0 (i := 7) rfl (by kernel_rfl) (op_stW S Try.sizeOf24 (Ev.t rfl) (Ev.t rfl) (k := 0) rfl rfl rfl (by simp [Value.oneCell']) ?_); clear S a w; intro a w S; refine h_on S _ (List.Sublist.refl _) (by repeat (first | exact List.Sublist.refl _ | exact List.nil_sublist _ | refine .cons_cons _ ?_ | refine .cons _ ?_)) ?_)
    refine h_done (by kernel_rfl) ?_
    rotate_left
    (refine op_alloc S Try.zeroValue24 (cs := _) rfl rfl ?_; clear S a w; intro g4 a w S; refine h_on S _ (List.Sublist.refl _) (by repeat (first | exact List.Sublist.refl _ | exact List.nil_sublist _ | refine .cons_cons _ ?_ | refine .cons _ ?_)) ?_)
    (refine h_m (i := 3) rfl (by kernel_rfl) (op_calls S Try.call19 (EvL.cons (Ev.t rfl) EvL.nil) (c19 _ _ _ _ _ _ (by exact .old S.wd (by assumption)) (by omega)) rfl ?_); clear S a w; rintro _ _ ⟨A2, cp2, rfl, rfl⟩ a w S; refine h_on S _ (List.Sublist.refl _) (by repeat (first | exact List.Sublist.refl _ | exact List.nil_sublist _ | refine .cons_cons _ ?_ | refine .cons _ ?_)) ?_)
    (refine h_m0 (i := 6) rfl (by kernel_rfl) (op_stW S Try.sizeOf24 (Ev.t rfl) (Ev.t rfl) (k := 2) rfl rfl rfl (by simp [Value.oneCell']) ?_); clear S a w; intro a w S; refine h_on S _ (List.Sublist.refl _) (by repeat (first | exact List.Sublist.refl _ | exact List.nil_sublist _ | refine .cons_cons _ ?_ | refine .cons _ ?_)) ?_)
    (refine h_m0 (i := 7) rfl (by kernel_rfl) (op_stW S Try.sizeOf24 (Ev.t rfl) (Ev.t rfl) (k := 1) rfl rfl rfl (by simp [Value.oneCell']) ?_); clear S a w; intro a w S; refine h_on S _ (List.Sublist.refl _) (by repeat (first | exact List.Sublist.refl _ | exact List.nil_sublist _ | refine .cons_cons _ ?_ | refine .cons _ ?_)) ?_)
    refine h_done (by kernel_rfl) ?_
    rotate_left
    (refine op_alloc S Try.zeroValue24 (cs := _) rfl rfl ?_; clear S a w; intro g3 a w S; refine h_on S _ (List.Sublist.refl _) (by repeat (first | exact List.Sublist.refl _ | exact List.nil_sublist _ | refine .cons_cons _ ?_ | refine .cons _ ?_)) ?_)
    refine h_split (i := 3) (j := 4) (by kernel_rfl) rfl rfl ?_ ?_
    (refine op_calls S Try.call19 (EvL.cons (Ev.t rfl) EvL.nil) (c19 _ _ _ _ _ _ (by exact .old S.wd (by assumption)) (by omega)) rfl ?_; clear S a w; rintro _ _ ⟨A2, cp2, rfl, rfl⟩ a w S; refine h_on S _ (List.Sublist.refl _) (by repeat (first | exact List.Sublist.refl _ | exact List.nil_sublist _ | refine .cons_cons _ ?_ | refine .cons _ ?_)) ?_)
    (refine h_m (i := 4) rfl (by kernel_rfl) (op_alloc S Try.zeroValue24 (cs := _) rfl rfl ?_); clear S a w; intro g4 a w S; refine h_on S _ (List.Sublist.refl _) (by repeat (first | exact List.Sublist.refl _ | exact List.nil_sublist _ | refine .cons_cons _ ?_ | refine .cons _ ?_)) ?_)
    (refine h_m0 (i := 6) rfl (by kernel_rfl) (op_stW S Try.sizeOf24 (Ev.t rfl) (Ev.t rfl) (k := 0) rfl rfl rfl (by simp [Value.oneCell']) ?_); clear S a w; intro a w S; refine h_on S _ (List.Sublist.refl _) (by repeat (first | exact List.Sublist.refl _ | exact List.nil_sublist _ | refine .cons_cons _ ?_ | refine .cons _ ?_)) ?_)
    (refine h_m0 (i := 7) rfl (by kernel_rfl) (op_stW S Try.sizeOf24 (Ev.t rfl) (Ev.t rfl) (k := 2) rfl rfl rfl (by simp [Value.oneCell']) ?_); clear S a w; intro a w S; refine h_on S _ (List.Sublist.refl _) (by repeat (first | exact List.Sublist.refl _ | exact List.nil_sublist _ | refine .cons_cons _ ?_ | refine .cons _ ?_)) ?_)
    refine h_done (by kernel_rfl) ?_
    rotate_left
    (refine op_alloc S Try.zeroValue24 (cs := _) rfl rfl ?_; clear S a w; intro g4 a w S; refine h_on S _ (List.Sublist.refl _) (by repeat (first | exact List.Sublist.refl _ | exact List.nil_sublist _ | refine .cons_cons _ ?_ | refine .cons _ ?_)) ?_)
    (refine h_m (i := 3) rfl (by kernel_rfl) (op_calls S Try.call19 (EvL.cons (Ev.t rfl) EvL.nil) (c19 _ _ _ _ _ _ (by exact .old S.wd (by assumption)) (by omega)) rfl ?_); clear S a w; rintro _ _ ⟨A2, cp2, rfl, rfl⟩ a w S; refine h_on S _ (List.Sublist.refl _) (by repeat (first | exact List.Sublist.refl _ | exact List.nil_sublist _ | refine .cons_cons _ ?_ | refine .cons _ ?_)) ?_)
    (refine h_m0 (i := 6) rfl (by kernel_rfl) (op_stW S Try.sizeOf24 (Ev.t rfl) (Ev.t rfl) (k := 1) rfl rfl rfl (by simp [Value.oneCell']) ?_); clear S a w; intro a w S; refine h_on S _ (List.Sublist.refl _) (by repeat (first | exact List.Sublist.refl _ | exact List.nil_sublist _ | refine .cons_cons _ ?_ | refine .cons _ ?_)) ?_)
    (refine h_m0 (i := 7) rfl (by kernel_rfl) (op_stW S Try.sizeOf24 (Ev.t rfl) (Ev.t rfl) (k := 2) rfl rfl rfl (by simp [Value.oneCell']) ?_); clear S a w; intro a w S; refine h_on S _ (List.Sublist.refl _) (by repeat (first | exact List.Sublist.refl _ | exact List.nil_sublist _ | refine .cons_cons _ ?_ | refine .cons _ ?_)) ?_)
    refine h_done (by kernel_rfl) ?_
    rotate_left
    (refine op_alloc S Try.zeroValue24 (cs := _) rfl rfl ?_; clear S a w; intro g3 a w S; refine h_on S _ (List.Sublist.refl _) (by repeat (first | exact List.Sublist.refl _ | exact List.nil_sublist _ | refine .cons_cons _ ?_ | refine .cons _ ?_)) ?_)
    refine h_split (i := 1) (j := 5) (by kernel_rfl) rfl rfl ?_ ?_
    (refine op_calls S Try.call19 (EvL.cons (Ev.t rfl) EvL.nil) (c19 _ _ _ _ _ _ (by exact .old S.wd (by assumption)) (by omega)) rfl ?_; clear S a w; rintro _ _ ⟨A1, cp1, rfl, rfl⟩ a w S; refine h_on S _ (List.Sublist.refl _) (by repeat (first | exact List.Sublist.refl _ | exact List.nil_sublist _ | refine .cons_cons _ ?_ | refine .cons _ ?_)) ?_)
    refine h_split (i := 3) (j := 5) (by kernel_rfl) rfl rfl ?_ ?_
    (refine op_calls S Try.call19 (EvL.cons (Ev.t rfl) EvL.nil) (c19 _ _ _ _ _ _ (by exact .old S.wd (by assumption)) (by omega)) rfl ?_; clear S a w; rintro _ _ ⟨A2, cp2, rfl, rfl⟩ a w S; refine h_on S _ (List.Sublist.refl _) (by repeat (first | exact List.Sublist.refl _ | exact List.nil_sublist _ | refine .cons_cons _ ?_ | refine .cons _ ?_)) ?_)
    (refine h_m (i := 5) rfl (by kernel_rfl) (op_alloc S Try.zeroValue24 (cs := _) rfl rfl ?_); clear S a w; intro g4 a w S; refine h_on S _ (List.Sublist.refl _) (by repeat (first | exact List.Sublist.refl _ | exact List.nil_sublist _ | refine .cons_cons _ ?_ | refine .cons _ ?_)) ?_)
    (refine h_m0 (i := 6) rfl (by kernel_rfl) (op_stW S Try.sizeOf24 (Ev.t rfl) (Ev.t rfl) (k := 3) rfl rfl rfl (by simp [Value.oneCell']) ?_); clear S a w; intro a w S; refine h_on S _ (List.Sublist.refl _) (by repeat (first | exact List.Sublist.refl _ | exact List.nil_sublist _ | refine .cons_cons _ ?_ | refine .cons _ ?_)) ?_)
    (refine h_m0 (i := 7) rfl (by kernel_rfl) (op_stW S Try.sizeOf24 (Ev.t rfl) (Ev.t rfl) (k := 0) rfl rfl rfl (by simp [Value.oneCell']) ?_); clear S a w; intro a w S; refine h_on S _ (List.Sublist.refl _) (by repeat (first | exact List.Sublist.refl _ | exact List.nil_sublist _ | refine .cons_cons _ ?_ | refine .cons _ ?_)) ?_)
    refine h_done (by kernel_rfl) ?_
    rotate_left
    (refine op_alloc S Try.zeroValue24 (cs := _) rfl rfl ?_; clear S a w; intro g4 a w S; refine h_on S _ (List.Sublist.refl _) (by repeat (first | exact List.Sublist.refl _ | exact List.nil_sublist _ | refine .cons_cons _ ?_ | refine .cons _ ?_)) ?_)
    (refine h_m (i := 3) rfl (by kernel_rfl) (op_calls S Try.call19 (EvL.cons (Ev.t rfl) EvL.nil) (c19 _ _ _ _ _ _ (by exact .old S.wd (by assumption)) (by omega)) rfl ?_); clear S a w; rintro _ _ ⟨A2, cp2, rfl, rfl⟩ a w S; refine h_on S _ (List.Sublist.refl _) (by repeat (first | exact List.Sublist.refl _ | exact List.nil_sublist _ | refine .cons_cons _ ?_ | refine .cons _ ?_)) ?_)
    (refine h_m0 (i := 6) rfl (by kernel_rfl) (op_stW S Try.sizeOf24 (Ev.t rfl) (Ev.t rfl) (k := 3) rfl rfl rfl (by simp [Value.oneCell']) ?_); clear S a w; intro a w S; refine h_on S _ (List.Sublist.refl _) (by repeat (first | exact List.Sublist.refl _ | exact List.nil_sublist _ | refine .cons_cons _ ?_ | refine .cons _ ?_)) ?_)
    (refine h_m0 (i := 7) rfl (by kernel_rfl) (op_stW S Try.sizeOf24 (Ev.t rfl) (Ev.t rfl) (k := 1) rfl rfl rfl (by simp [Value.oneCell']) ?_); clear S a w; intro a w S; refine h_on S _ (List.Sublist.refl _) (by repeat (first | exact List.Sublist.refl _ | exact List.nil_sublist _ | refine .cons_cons _ ?_ | refine .cons _ ?_)) ?_)
    refine h_done (by kernel_rfl) ?_
    rotate_left
    (refine op_alloc S Try.zeroValue24 (cs := _) rfl rfl ?_; clear S a w; intro g4 a w S; refine h_on S _ (List.Sublist.refl _) (by repeat (first | exact List.Sublist.refl _ | exact List.nil_sublist _ | refine .cons_cons _ ?_ | refine .cons _ ?_)) ?_)
    (refine h_m (i := 1) rfl (by kernel_rfl) (op_calls S Try.call19 (EvL.cons (Ev.t rfl) EvL.nil) (c19 _ _ _ _ _ _ (by exact .old S.wd (by assumption)) (by omega)) rfl ?_); clear S a w; rintro _ _ ⟨A1, cp1, rfl, rfl⟩ a w S; refine h_on S _ (List.Sublist.refl _) (by repeat (first | exact List.Sublist.refl _ | exact List.nil_sublist _ | refine .cons_cons _ ?_ | refine .cons _ ?_)) ?_)
    (refine h_m (i := 3) rfl (by kernel_rfl) (op_calls S Try.call19 (EvL.cons (Ev.t rfl) EvL.nil) (c19 _ _ _ _ _ _ (by exact .old S.wd (by assumption)) (by omega)) rfl ?_); clear S a w; rintro _ _ ⟨A2, cp2, rfl, rfl⟩ a w S; refine h_on S _ (List.Sublist.refl _) (by repeat (first | exact List.Sublist.refl _ | exact List.nil_sublist _ | refine .cons_cons _ ?_ | refine .cons _ ?_)) ?_)
    (refine h_m0 (i := 6) rfl (by kernel_rfl) (op_stW S Try.sizeOf24 (Ev.t rfl) (Ev.t rfl) (k := 3) rfl rfl rfl (by simp [Value.oneCell']) ?_); clear S a w; intro a w S; refine h_on S _ (List.Sublist.refl _) (by repeat (first | exact List.Sublist.refl _ | exact List.nil_sublist _ | refine .cons_cons _ ?_ | refine .cons _ ?_)) ?_)
    (refine h_m0 (i := 7) rfl (by kernel_rfl) (op_stW S Try.sizeOf24 (Ev.t rfl) (Ev.t rfl) (k := 2) rfl rfl rfl (by simp [Value.oneCell']) ?_); clear S a w; intro a w S; refine h_on S _ (List.Sublist.refl _) (by repeat (first | exact List.Sublist.refl _ | exact List.nil_sublist _ | refine .cons_cons _ ?_ | refine .cons _ ?_)) ?_)
    refine h_done (by kernel_rfl) ?_
    rotate_left
    (refine op_alloc S Try.zeroValue24 (cs := _) rfl rfl ?_; clear S a w; intro g3 a w S; refine h_on S _ (List.Sublist.refl _) (by repeat (first | exact List.Sublist.refl _ | exact List.nil_sublist _ | refine .cons_cons _ ?_ | refine .cons _ ?_)) ?_)
    refine h_split (i := 1) (j := 4) (by kernel_rfl) rfl rfl ?_ ?_
    (refine op_calls S Try.call19 (EvL.cons (Ev.t rfl) EvL.nil) (c19 _ _ _ _ _ _ (by exact .old S.wd (by assumption)) (by omega)) rfl ?_; clear S a w; rintro _ _ ⟨A1, cp1, rfl, rfl⟩ a w S; refine h_on S _ (List.Sublist.refl _) (by repeat (first | exact List.Sublist.refl _ | exact List.nil_sublist _ | refine .cons_cons _ ?_ | refine .cons _ ?_)) ?_)
    refine h_split (i := 3) (j := 4) (by kernel_rfl) rfl rfl ?_ ?_
    (refine op_calls S Try.call19 (EvL.cons (Ev.t rfl) EvL.nil) (c19 _ _ _ _ _ _ (by exact .old S.wd (by assumption)) (by omega)) rfl ?_; clear S a w; rintro _ _ ⟨A2, cp2, rfl, rfl⟩ a w S; refine h_on S _ (List.Sublist.refl _) (by repeat (first | exact List.Sublist.refl _ | exact List.nil_sublist _ | refine .cons_cons _ ?_ | refine .cons _ ?_)) ?_)
    (refine h_m (i := 4) rfl (by kernel_rfl) (op_alloc S Try.zeroValue24 (cs := _) rfl rfl ?_); clear S a w; intro g4 a w S; refine h_on S _ (List.Sublist.refl _) (by repeat (first | exact List.Sublist.refl _ | exact List.nil_sublist _ | refine .cons_cons _ ?_ | refine .cons _ ?_)) ?_)
    (refine h_m0 (i := 6) rfl (by kernel_rfl) (op_stW S Try.sizeOf24 (Ev.t rfl) (Ev.t rfl) (k := 0) rfl rfl rfl (by simp [Value.oneCell']) ?_); clear S a w; intro a w S; refine h_on S _ (List.Sublist.refl _) (by repeat (first | exact List.Sublist.refl _ | exact List.nil_sublist _ | refine .cons_cons _ ?_ | refine .cons _ ?_)) ?_)
    (refine h_m0 (i := 7) rfl (by kernel_rfl) (op_stW S Try.sizeOf24 (Ev.t rfl) (Ev.t rfl) (k := 3) rfl rfl rfl (by simp [Value.oneCell']) ?_); clear S a w; intro a w S; refine h_on S _ (List.Sublist.refl _) (by repeat (first | exact List.Sublist.refl _ | exact List.nil_sublist _ | refine .cons_cons _ ?_ | refine .cons _ ?_)) ?_)
    refine h_done (by kernel_rfl) ?_
    rotate_left
    (refine op_alloc S Try.zeroValue24 (cs := _) rfl rfl ?_; clear S a w; intro g4 a w S; refine h_on S _ (List.Sublist.refl _) (by repeat (first | exact List.Sublist.refl _ | exact List.nil_sublist _ | refine .cons_cons _ ?_ | refine .cons _ ?_)) ?_)
    (refine h_m (i := 3) rfl (by kernel_rfl) (op_calls S Try.call19 (EvL.cons (Ev.t rfl) EvL.nil) (c19 _ _ _ _ _ _ (by exact .old S.wd (by assumption)) (by omega)) rfl ?_); clear S a w; rintro _ _ ⟨A2, cp2, rfl, rfl⟩ a w S; refine h_on S _ (List.Sublist.refl _) (by repeat (first | exact List.Sublist.refl _ | exact List.nil_sublist _ | refine .cons_cons _ ?_ | refine .cons _ ?_)) ?_)
    (refine h_m0 (i := 6) rfl (by kernel_rfl) (op_stW S Try.sizeOf24 (Ev.t rfl) (Ev.t rfl) (k := 1) rfl rfl rfl (by simp [Value.oneCell']) ?_); clear S a w; intro a w S; refine h_on S _ (List.Sublist.refl _) (by repeat (first | exact List.Sublist.refl _ | exact List.nil_sublist _ | refine .cons_cons _ ?_ | refine .cons _ ?_)) ?_)
    (refine h_m0 (i := 7) rfl (by kernel_rfl) (op_stW S Try.sizeOf24 (Ev.t rfl) (Ev.t rfl) (k := 3) rfl rfl rfl (by simp [Value.oneCell']) ?_); clear S a w; intro a w S; refine h_on S _ (List.Sublist.refl _) (by repeat (first | exact List.Sublist.refl _ | exact List.nil_sublist _ | refine .cons_cons _ ?_ | refine .cons _ ?_)) ?_)
    refine h_done (by kernel_rfl) ?_
    rotate_left
    (refine op_alloc S Try.zeroValue24 (cs := _) rfl rfl ?_; clear S a w; intro g4 a w S; refine h_on S _ (List.Sublist.refl _) (by repeat (first | exact List.Sublist.refl _ | exact List.nil_sublist _ | refine .cons_cons _ ?_ | refine .cons _ ?_)) ?_)
    (refine h_m (i := 1) rfl (by kernel_rfl) (op_calls S Try.call19 (EvL.cons (Ev.t rfl) EvL.nil) (c19 _ _ _ _ _ _ (by exact .old S.wd (by assumption)) (by omega)) rfl ?_); clear S a w; rintro _ _ ⟨A1, cp1, rfl, rfl⟩ a w S; refine h_on S _ (List.Sublist.refl _) (by repeat (first | exact List.Sublist.refl _ | exact List.nil_sublist _ | refine .cons_cons _ ?_ | refine .cons _ ?_)) ?_)
    (refine h_m (i := 3) rfl (by kernel_rfl) (op_calls S Try.call19 (EvL.cons (Ev.t rfl) EvL.nil) (c19 _ _ _ _ _ _ (by exact .old S.wd (by assumption)) (by omega)) rfl ?_); clear S a w; rintro _ _ ⟨A2, cp2, rfl, rfl⟩ a w S; refine h_on S _ (List.Sublist.refl _) (by repeat (first | exact List.Sublist.refl _ | exact List.nil_sublist _ | refine .cons_cons _ ?_ | refine .cons _ ?_)) ?_)
    (refine h_m0 (i := 6) rfl (by kernel_rfl) (op_stW S Try.sizeOf24 (Ev.t rfl) (Ev.t rfl) (k := 2) rfl rfl rfl (by simp [Value.oneCell']) ?_); clear S a w; intro a w S; refine h_on S _ (List.Sublist.refl _) (by repeat (first | exact List.Sublist.refl _ | exact List.nil_sublist _ | refine .cons_cons _ ?_ | refine .cons _ ?_)) ?_)
    (refine h_m0 (i := 7) rfl (by kernel_rfl) (op_stW S Try.sizeOf24 (Ev.t rfl) (Ev.t rfl) (k := 3) rfl rfl rfl (by simp [Value.oneCell']) ?_); clear S a w; intro a w S; refine h_on S _ (List.Sublist.refl _) (by repeat (first | exact List.Sublist.refl _ | exact List.nil_sublist _ | refine .cons_cons _ ?_ | refine .cons _ ?_)) ?_)
    refine h_done (by kernel_rfl) ?_
    rotate_left
    all_goals exact ⟨_, _, _, _, _, _, S.picks (by repeat (first | exact Fits.nil | refine Fits.skip rfl ?_ | refine Fits.cons rfl ?_)) (by repeat (first | exact Picks.nil | (refine Picks.rest ?_; (repeat (first | exact List.Sublist.refl _ | refine List.Sublist.cons_cons _ ?_ | refine List.Sublist.cons _ ?_)); done) | refine Picks.take 0 rfl ?_ | refine Picks.take 1 rfl ?_ | refine Picks.take 2 rfl ?_ | refine Picks.take 3 rfl ?_ | refine Picks.take 4 rfl ?_ | refine Picks.take 5 rfl ?_ | refine Picks.take 6 rfl ?_ | refine Picks.take 7 rfl ?_ | refine Picks.take 8 rfl ?_ | refine Picks.take 9 rfl ?_ | refine Picks.take 10 rfl ?_ | refine Picks.take 11 rfl ?_))⟩
  clear S
  rcases e with _ | _ | _ | _ | _ | _ | _
  any_goals exact q.elim
  obtain ⟨ga, gb, A1, c1, A2, c2, S⟩ := q
  refine then_normal (hK1 _ _ ?_)
  clear hK1
  refine wp_seq_k fun _ hK1 => ?_
  refine wp_region_lit ?_
  (refine st_y S (Yr.ys (ys_ldA ⟨Try.isAgg24, Try.sizeOf24⟩ (Ev.t rfl) (k := 0) rfl rfl)) rfl ?_; clear S a w; intro a w S)
  (refine st_y S (Yr.ys (ys_ldA ⟨Try.isAgg24, Try.sizeOf24⟩ (Ev.t rfl) (k := 1) rfl rfl)) rfl ?_; clear S a w; intro a w S)
  (refine st_m (op_calls S Try.call18 (EvL.cons (Ev.t rfl) (EvL.cons (Ev.t rfl) EvL.nil)) (c18 _ _ _ _ _ _ (by exact Sl.of_own S.wd (k := 2) rfl (fun _ => rfl)) (by omega) _ _ _ _ _ (by exact Sl.of_own S.wd (k := 3) rfl (fun _ => rfl)) (by omega)) rfl ?_); clear S a w; rintro _ _ ⟨A3, cp1, rfl, rfl⟩ a w S)
  (refine st_y S (Yr.ys (ys_move (Ev.t rfl))) rfl ?_; clear S a w; intro a w S)
  (refine st_y S (Yr.ys (ys_ext (Ev.t rfl) rfl)) rfl ?_; clear S a w; intro a w S)
  (refine st_y S (Yr.ys (ys_ext (Ev.t rfl) rfl)) rfl ?_; clear S a w; intro a w S)
  (refine st_y S (Yr.ys (ys_assign (Ev.t rfl))) rfl ?_; clear S a w; intro a w S)
  (refine st_y S (Yr.ys (ys_assign (Ev.t rfl))) rfl ?_; clear S a w; intro a w S)
  refine st_nil ?_
  (refine (then_normal (hK1 _ _ ?_)); clear hK1)
  refine wp_seq_k fun _ hK1 => ?_
  refine wp_region_lit ?_
  (refine st_y S (Yr.ys (ys_ldA ⟨Try.isAgg24, Try.sizeOf24⟩ (Ev.t rfl) (k := 6) rfl rfl)) rfl ?_; clear S a w; intro a w S)
  (refine st_y S (Yr.ys (ys_ldA ⟨Try.isAgg24, Try.sizeOf24⟩ (Ev.t rfl) (k := 5) rfl rfl)) rfl ?_; clear S a w; intro a w S)
  (refine st_m (op_calls S Try.call24 (EvL.cons (Ev.t rfl) (EvL.cons (Ev.t rfl) EvL.nil)) (c24 _ _ _ _ _ _ (by exact .old S.wd (by assumption)) (by omega) _ _ _ _ _ (by exact .old S.wd (by assumption)) (by omega)) rfl ?_); clear S a w; rintro _ _ ⟨A4, cp2, rfl, rfl⟩ a w S)
  (refine st_y S (Yr.ys (ys_move (Ev.t rfl))) rfl ?_; clear S a w; intro a w S)
  (refine st_y S (Yr.ys (ys_ext (Ev.t rfl) rfl)) rfl ?_; clear S a w; intro a w S)
  (refine st_y S (Yr.ys (ys_ext (Ev.t rfl) rfl)) rfl ?_; clear S a w; intro a w S)
  (refine st_y S (Yr.ys (ys_assign (Ev.t rfl))) rfl ?_; clear S a w; intro a w S)
  (refine st_y S (Yr.ys (ys_assign (Ev.t rfl))) rfl ?_; clear S a w; intro a w S)
  refine st_nil ?_
  (refine (then_normal (hK1 _ _ ?_)); clear hK1)
  refine wp_seq_k fun _ hK1 => ?_
  refine wp_region_lit ?_
  (refine st_y S (Yr.ys (ys_move (Ev.t rfl))) rfl ?_; clear S a w; intro a w S)
  (refine st_y S (Yr.ys (ys_move (Ev.t rfl))) rfl ?_; clear S a w; intro a w S)
  (refine st_y S (Yr.ys (ys_T (by omega) (ys_eql (Ev.t rfl) (Ev.t rfl)))) rfl ?_; clear S a w; intro a w S)
  (refine st_y S (Yr.ys (ys_move (Ev.t rfl))) rfl ?_; clear S a w; intro a w S)
  (refine st_yt S rfl rfl (Yr.ys (ys_move (Ev.t rfl))) rfl ?_; clear S a w; intro a w S)
  (refine st_yt S rfl rfl (Yr.ys (ys_move (Ev.t rfl))) rfl ?_; clear S a w; intro a w S)
  (refine st_yt S rfl rfl (ys_call Try.call25 (EvL.cons (Ev.t rfl) (EvL.cons (Ev.t rfl) EvL.nil)) (fun hp w W => c25 _ _ _ _ _ (by exact Sl.of_own W (k := 1) rfl (fun _ => rfl)) (by exact Sl.of_own W (k := 0) rfl (fun _ => rfl)))) rfl ?_; clear S a w; intro a w S)
  simp only [List.nil_append] at S
  (refine st_y S (Yr.ys (ys_pickT (Ev.t rfl) (Ev.t rfl))) rfl ?_; clear S a w; intro a w S)
  (refine st_y S (Yr.ys (ys_move (Ev.t rfl))) rfl ?_; clear S a w; intro a w S)
  (refine st_yt S rfl rfl (Yr.ys (ys_ldA ⟨Try.isAgg24, Try.sizeOf24⟩ (Ev.t rfl) (k := 2) rfl rfl)) rfl ?_; clear S a w; intro a w S)
  (refine st_yt S rfl rfl (Yr.ys (ys_ldA ⟨Try.isAgg24, Try.sizeOf24⟩ (Ev.t rfl) (k := 7) rfl rfl)) rfl ?_; clear S a w; intro a w S)
  (refine st_yt S rfl rfl (ys_call Try.call26 (EvL.cons (Ev.t rfl) (EvL.cons (Ev.t rfl) EvL.nil)) (fun hp w W => c26 _ _ _ _ _ _ (by exact Sl.of_own W (k := 4) rfl (fun _ => rfl)) _ _ _ _ _ (by exact .old W (by assumption)))) rfl ?_; clear S a w; intro a w S)
  simp only [List.nil_append] at S
  (refine st_y S (Yr.ys (ys_pickT (Ev.t rfl) (Ev.t rfl))) rfl ?_; clear S a w; intro a w S)
  (refine st_y S (Yr.ys (ys_move (Ev.t rfl))) rfl ?_; clear S a w; intro a w S)
  (refine st_yt S rfl rfl (Yr.ys (ys_ldA ⟨Try.isAgg24, Try.sizeOf24⟩ (Ev.t rfl) (k := 3) rfl rfl)) rfl ?_; clear S a w; intro a w S)
  (refine st_yt S rfl rfl (Yr.ys (ys_ldA ⟨Try.isAgg24, Try.sizeOf24⟩ (Ev.t rfl) (k := 6) rfl rfl)) rfl ?_; clear S a w; intro a w S)
  (refine st_yt S rfl rfl (ys_call Try.call26 (EvL.cons (Ev.t rfl) (EvL.cons (Ev.t rfl) EvL.nil)) (fun hp w W => c26 _ _ _ _ _ _ (by exact Sl.of_own W (k := 5) rfl (fun _ => rfl)) _ _ _ _ _ (by exact .old W (by assumption)))) rfl ?_; clear S a w; intro a w S)
  simp only [List.nil_append] at S
  (refine st_y S (Yr.ys (ys_pickT (Ev.t rfl) (Ev.t rfl))) rfl ?_; clear S a w; intro a w S)
  (refine st_y S (Yr.ys (ys_move (Ev.t rfl))) rfl ?_; clear S a w; intro a w S)
  (refine st_yt S rfl rfl (ys_call Try.call21 EvL.nil (fun hp w W => c21 _)) rfl ?_; clear S a w; intro a w S)
  (refine st_y S (Yr.ys (ys_pickT (Ev.t rfl) (Ev.t rfl))) rfl ?_; clear S a w; intro a w S)
  (refine st_y S (Yr.ys (ys_assign (Ev.t rfl))) rfl ?_; clear S a w; intro a w S)
  refine st_nil ?_
  (refine (then_normal (hK1 _ _ ?_)); clear hK1)
  refine wp_ret ?_
  refine st_ret S (results1 S Try.results5 (Rv.tmp rfl)) ?_
  exact ⟨rfl, S.wd.below⟩
theorem c9 (w0 : World) (p c s : Int) (v : Value) (l : List Mbr) (h : Sl Mbr.enc 4 w0 w0.heap.size v l) (hn : l.length ≤ 1048576) (p' c' s' : Int) (v' : Value) (l' : List Mbr) (h' : Sl Mbr.enc 4 w0 w0.heap.size v' l') (hn' : l'.length ≤ 1048576) (n q : Int) :
    Calls Try.prog 9 #[.agg #[.int .i64 p, .int .i64 c, .int .i64 s, v], .agg #[.int .i64 p', .int .i64 c', .int .i64 s', v'], .int .i64 n, .int .i64 q] w0 fun e w' => e = .returned (.bool true) ∧ Bel w0.heap.size w0 w' := by
  have rw_1 : ∀ i : Int, decide (i ≠ i) = false := fun i => decide_eq_false (by simp)
  have rw_2 : ∀ r : Rng, decide (r = r) = true := fun i => decide_eq_true rfl
  have rw_3 : ∀ l : List Dot, decide (l = l) = true := fun i => decide_eq_true rfl
  have rw_4 : ∀ l : List Int, decide (l = l) = true := fun i => decide_eq_true rfl
  have rw_5 : ∀ i : Int, decide (i = i) = true := fun i => decide_eq_true rfl
  refine enter4 Try.func9 rfl Try.ntmps9 rfl fun a S => ?_
  refine wp_seq_k fun _ hK1 => ?_
  refine wp_region_lit ?_
  (refine st_m (op_box S (Ev.t rfl) rfl ?_); clear S a; intro g1 a w S)
  (refine st_m (op_box S (Ev.t rfl) rfl ?_); clear S a w; intro g2 a w S)
  (refine st_y S (Yr.ys (ys_assign Ev.c)) rfl ?_; clear S a w; intro a w S)
  refine st_nil ?_
  (refine (then_normal (hK1 _ _ ?_)); clear hK1)
  refine wp_seq_k fun _ hK1 => ?_
  refine Code.wp_mono (Q := fun e a w => match e with
    | .normal => ∃ ga gb A1 c1 A2 c2, St 119 w0 [(10, true, .pointer (some ⟨gb, 0, none⟩)), (9, true, .pointer (some ⟨ga, 0, none⟩)), (8, true, .bool false), (5, true, .pointer (some ⟨g2, 0, none⟩)), (4, true, .pointer (some ⟨g1, 0, none⟩)), (2, true, .int .i64 n), (3, true, .int .i64 q)]
        [.blk ga (.cells #[.int .i64 p, .int .i64 c, .int .i64 s, .slice A1 l.length c1] 24), .blk gb (.cells #[.int .i64 p', .int .i64 c', .int .i64 s', .slice A2 l'.length c2] 24), rowOf 60 4 Mbr.enc A1 c1 l, rowOf 60 4 Mbr.enc A2 c2 l',
         .blk g2 (.cells #[.int .i64 p', .int .i64 c', .int .i64 s', v'] 24), .blk g1 (.cells #[.int .i64 p, .int .i64 c, .int .i64 s, v] 24)] a w
    | _ => False) (fun e a w q => ?_) ?_
  rotate_left
  · (refine h_begin0 S (by kernel_rfl) ?_; clear S a w; intro a w S)
    (refine h_y (i := 0) S (by repeat (first | exact List.Sublist.refl _ | exact List.nil_sublist _ | refine .cons_cons _ ?_ | refine .cons _ ?_)) rfl (by kernel_rfl) (by kernel_rfl) (by kernel_rfl) (fun _ _ _ _ h => h) (ys_ldA ⟨Try.isAgg24, Try.sizeOf24⟩ (Ev.t rfl) (k := 1) rfl rfl) rfl ?_; clear S a w; intro a w S)
    (refine h_y (i := 2) S (by repeat (first | exact List.Sublist.refl _ | exact List.nil_sublist _ | refine .cons_cons _ ?_ | refine .cons _ ?_)) rfl (by kernel_rfl) (by kernel_rfl) (by kernel_rfl) (fun _ _ _ _ h => h) (ys_ldA ⟨Try.isAgg24, Try.sizeOf24⟩ (Ev.t rfl) (k := 0) rfl rfl) rfl ?_; clear S a w; intro a w S)
    refine h_split3 (i := 1) (j := 4) (k := 5) (by kernel_rfl) rfl rfl rfl ?_ ?_ ?_
    (refine op_calls S Try.call19 (EvL.cons (Ev.t rfl) EvL.nil) (c19 _ _ _ _ _ _ (by exact .old S.wd (by assumption)) (by omega)) rfl ?_; clear S a w; rintro _ _ ⟨A1, cp1, rfl, rfl⟩ a w S; refine h_on S _ (List.Sublist.refl _) (by repeat (first | exact List.Sublist.refl _ | exact List.nil_sublist _ | refine .cons_cons _ ?_ | refine .cons _ ?_)) ?_)
    refine h_split3 (i := 3) (j := 4) (k := 5) (by kernel_rfl) rfl rfl rfl ?_ ?_ ?_
    (refine op_calls S Try.call19 (EvL.cons (Ev.t rfl) EvL.nil) (c19 _ _ _ _ _ _ (by exact .old S.wd (by assumption)) (by omega)) rfl ?_; clear S a w; rintro _ _ ⟨A2, cp2, rfl, rfl⟩ a w S; refine h_on S _ (List.Sublist.refl _) (by repeat (first | exact List.Sublist.refl _ | exact List.nil_sublist _ | refine .cons_cons _ ?_ | refine .cons _ ?_)) ?_)
    refine h_split (i := 4) (j := 5) (by kernel_rfl) rfl rfl ?_ ?_
    (refine op_alloc S Try.zeroValue24 (cs := _) rfl rfl ?_; clear S a w; intro g3 a w S; refine h_on S _ (List.Sublist.refl _) (by repeat (first | exact List.Sublist.refl _ | exact List.nil_sublist _ | refine .cons_cons _ ?_ | refine .cons _ ?_)) ?_)
    (refine h_m (i := 5) rfl (by kernel_rfl) (op_alloc S Try.zeroValue24 (cs := _) rfl rfl ?_); clear S a w; intro g4 a w S; refine h_on S _ (List.Sublist.refl _) (by repeat (first | exact List.Sublist.refl _ | exact List.nil_sublist _ | refine .cons_cons _ ?_ | refine .cons _ ?_)) ?_)
    (refine h_m0 (i := 6) rfl (by kernel_rfl) (op_stW S Try.sizeOf24 (Ev.t rfl) (Ev.t rfl) (k := 1) rfl rfl rfl (by simp [Value.oneCell']) ?_); clear S a w; intro a w S; refine h_on S _ (List.Sublist.refl _) (by repeat (first | exact List.Sublist.refl _ | exact List.nil_sublist _ | refine .cons_cons _ ?_ | refine .cons _ ?_)) ?_)
    (refine h_m0 (i := 7) rfl (by kernel_rfl) (op_stW S Try.sizeOf24 (Ev.t rfl) (Ev.t rfl) (k := 0) rfl rfl rfl (by simp [Value.oneCell']) ?_); clear S a w; intro a w S; refine h_on S _ (List.Sublist.refl _) (by repeat (first | exact List.Sublist.refl _ | exact List.nil_sublist _ | refine .cons_cons _ ?_ | refine .cons _ ?_)) ?_)
    refine h_done (by kernel_rfl) ?_
    rotate_left
    (refine op_alloc S Try.zeroValue24 (cs := _) rfl rfl ?_; clear S a w; intro g3 a w S; refine h_on S _ (List.Sublist.refl _) (by repeat (first | exact List.Sublist.refl _ | exact List.nil_sublist _ | refine .cons_cons _ ?_ | refine .cons _ ?_)) ?_)
    (refine h_m (i := 4) rfl (by kernel_rfl) (op_alloc S Try.zeroValue24 (cs := _) rfl rfl ?_); clear S a w; intro g4 a w S; refine h_on S _ (List.Sublist.refl _) (by repeat (first | exact List.Sublist.refl _ | exact List.nil_sublist _ | refine .cons_cons _ ?_ | refine .cons _ ?_)) ?_)
    (refine h_m0 (i := 6) rfl (by kernel_rfl) (op_stW S Try.sizeOf24 (Ev.t rfl) (Ev.t rfl) (k := 0) rfl rfl rfl (by simp [Value.oneCell']) ?_); clear S a w; intro a w S; refine h_on S _ (List.Sublist.refl _) (by repeat (first | exact List.Sublist.refl _ | exact List.nil_sublist _ | refine .cons_cons _ ?_ | refine .cons _ ?_)) ?_)
    (refine h_m0 (i := 7) rfl (by kernel_rfl) (op_stW S Try.sizeOf24 (Ev.t rfl) (Ev.t rfl) (k := 1) rfl rfl rfl (by simp [Value.oneCell']) ?_); clear S a w; intro a w S; refine h_on S _ (List.Sublist.refl _) (by repeat (first | exact List.Sublist.refl _ | exact List.nil_sublist _ | refine .cons_cons _ ?_ | refine .cons _ ?_)) ?_)
    refine h_done (by kernel_rfl) ?_
    rotate_left
    (refine op_alloc S Try.zeroValue24 (cs := _) rfl rfl ?_; clear S a w; intro g3 a w S; refine h_on S _ (List.Sublist.refl _) (by repeat (first | exact List.Sublist.refl _ | exact List.nil_sublist _ | refine .cons_cons _ ?_ | refine .cons _ ?_)) ?_)
    refine h_split (i := 3) (j := 5) (by kernel_rfl) rfl rfl ?_ ?_
    (refine op_calls S Try.call19 (EvL.cons (Ev.t rfl) EvL.nil) (c19 _ _ _ _ _ _ (by exact .old S.wd (by assumption)) (by omega)) rfl ?_; clear S a w; rintro _ _ ⟨A2, cp2, rfl, rfl⟩ a w S; refine h_on S _ (List.Sublist.refl _) (by repeat (first | exact List.Sublist.refl _ | exact List.nil_sublist _ | refine .cons_cons _ ?_ | refine .cons _ ?_)) ?_)
    (refine h_m (i := 5) rfl (by kernel_rfl) (op_alloc S Try.zeroValue24 (cs := _) rfl rfl ?_); clear S a w; intro g4 a w S; refine h_on S _ (List.Sublist.refl _) (by repeat (first | exact List.Sublist.refl _ | exact List.nil_sublist _ | refine .cons_cons _ ?_ | refine .cons _ ?_)) ?_)
    (refine h_m0 (i := 6) rfl (by kernel_rfl) (op_stW S Try.sizeOf24 (Ev.t rfl) (Ev.t rfl) (k := 2) rfl rfl rfl (by simp [Value.oneCell']) ?_); clear S a w; intro a w S; refine h_on S _ (List.Sublist.refl _) (by repeat (first | exact List.Sublist.refl _ | exact List.nil_sublist _ | refine .cons_cons _ ?_ | refine .cons _ ?_)) ?_)
    (refine h_m0 (i := 7) rfl (by kernel_rfl) (op_stW S Try.sizeOf24 (Ev.t rfl) (Ev.t rfl) (k := 0) rfl rfl rfl (by simp [Value.oneCell']) ?_); clear S a w; intro a w S; refine h_on S _ (List.Sublist.refl _) (by repeat (first | exact List.Sublist.refl _ | exact List.nil_sublist _ | refine .cons_cons _ ?_ | refine .cons _ ?_)) ?_)
    refine h_done (by kernel_rfl) ?_
    rotate_left
    (refine op_alloc S Try.zeroValue24 (cs := _) rfl rfl ?_; clear S a w; intro g4 a w S; refine h_on S _ (List.Sublist.refl _) (by repeat (first | exact List.Sublist.refl _ | exact List.nil_sublist _ | refine .cons_cons _ ?_ | refine .cons _ ?_)) ?_)
    (refine h_m (i := 3) rfl (by kernel_rfl) (op_calls S Try.call19 (EvL.cons (Ev.t rfl) EvL.nil) (c19 _ _ _ _ _ _ (by exact .old S.wd (by assumption)) (by omega)) rfl ?_); clear S a w; rintro _ _ ⟨A2, cp2, rfl, rfl⟩ a w S; refine h_on S _ (List.Sublist.refl _) (by repeat (first | exact List.Sublist.refl _ | exact List.nil_sublist _ | refine .cons_cons _ ?_ | refine .cons _ ?_)) ?_)
    (refine h_m0 (i := 6) rfl (by kernel_rfl) (op_stW S Try.sizeOf24 (Ev.t rfl) (Ev.t rfl) (k := 2) rfl rfl rfl (by simp [Value.oneCell']) ?_); clear S a w; intro a w S; refine h_on S _ (List.Sublist.refl _) (by repeat (first | exact List.Sublist.refl _ | exact List.nil_sublist _ | refine .cons_cons _ ?_ | refine .cons _ ?_)) ?_)
    (refine h_m0 (i := 7) rfl (by kernel_rfl) (op_stW S Try.sizeOf24 (Ev.t rfl) (Ev.t rfl) (k := 1) rfl rfl rfl (by simp [Value.oneCell']) ?_); clear S a w; intro a w S; refine h_on S _ (List.Sublist.refl _) (by repeat (first | exact List.Sublist.refl _ | exact List.nil_sublist _ | refine .cons_cons _ ?_ | refine .cons _ ?_)) ?_)
    refine h_done (by kernel_rfl) ?_
    rotate_left
    (refine op_alloc S Try.zeroValue24 (cs := _) rfl rfl ?_; clear S a w; intro g3 a w S; refine h_on S _ (List.Sublist.refl _) (by repeat (first | exact List.Sublist.refl _ | exact List.nil_sublist _ | refine .cons_cons _ ?_ | refine .cons _ ?_)) ?_)
    refine h_split (i := 3) (j := 4) (by kernel_rfl) rfl rfl ?_ ?_
    (refine op_calls S Try.call19 (EvL.cons (Ev.t rfl) EvL.nil) (c19 _ _ _ _ _ _ (by exact .old S.wd (by assumption)) (by omega)) rfl ?_; clear S a w; rintro _ _ ⟨A2, cp2, rfl, rfl⟩ a w S; refine h_on S _ (List.Sublist.refl _) (by repeat (first | exact List.Sublist.refl _ | exact List.nil_sublist _ | refine .cons_cons _ ?_ | refine .cons _ ?_)) ?_)
    (refine h_m (i := 4) rfl (by kernel_rfl) (op_alloc S Try.zeroValue24 (cs := _) rfl rfl ?_); clear S a w; intro g4 a w S; refine h_on S _ (List.Sublist.refl _) (by repeat (first | exact List.Sublist.refl _ | exact List.nil_sublist _ | refine .cons_cons _ ?_ | refine .cons _ ?_)) ?_)
    (refine h_m0 (i := 6) rfl (by kernel_rfl) (op_stW S Try.sizeOf24 (Ev.t rfl) (Ev.t rfl) (k := 0) rfl rfl rfl (by simp [Value.oneCell']) ?_); clear S a w; intro a w S; refine h_on S _ (List.Sublist.refl _) (by repeat (first | exact List.Sublist.refl _ | exact List.nil_sublist _ | refine .cons_cons _ ?_ | refine .cons _ ?_)) ?_)
    (refine h_m0 (i := 7) rfl (by kernel_rfl) (op_stW S Try.sizeOf24 (Ev.t rfl) (Ev.t rfl) (k := 2) rfl rfl rfl (by simp [Value.oneCell']) ?_); clear S a w; intro a w S; refine h_on S _ (List.Sublist.refl _) (by repeat (first | exact List.Sublist.refl _ | exact List.nil_sublist _ | refine .cons_cons _ ?_ | refine .cons _ ?_)) ?_)
    refine h_done (by kernel_rfl) ?_
    rotate_left
    (refine op_alloc S Try.zeroValue24 (cs := _) rfl rfl ?_; clear S a w; intro g4 a w S; refine h_on S _ (List.Sublist.refl _) (by repeat (first | exact List.Sublist.refl _ | exact List.nil_sublist _ | refine .cons_cons _ ?_ | refine .cons _ ?_)) ?_)
    (refine h_m (i := 3) rfl (by kernel_rfl) (op_calls S Try.call19 (EvL.cons (Ev.t rfl) EvL.nil) (c19 _ _ _ _ _ _ (by exact .old S.wd (by assumption)) (by omega)) rfl ?_); clear S a w; rintro _ _ ⟨A2, cp2, rfl, rfl⟩ a w S; refine h_on S _ (List.Sublist.refl _) (by repeat (first | exact List.Sublist.refl _ | exact List.nil_sublist _ | refine .cons_cons _ ?_ | refine .cons _ ?_)) ?_)
    (refine h_m0 (i := 6) rfl (by kernel_rfl) (op_stW S Try.sizeOf24 (Ev.t rfl) (Ev.t rfl) (k := 1) rfl rfl rfl (by simp [Value.oneCell']) ?_); clear S a w; intro a w S; refine h_on S _ (List.Sublist.refl _) (by repeat (first | exact List.Sublist.refl _ | exact List.nil_sublist _ | refine .cons_cons _ ?_ | refine .cons _ ?_)) ?_)
    (refine h_m0 (i := 7) rfl (by kernel_rfl) (op_stW S Try.sizeOf24 (Ev.t rfl) (Ev.t rfl) (k := 2) rfl rfl rfl (by simp [Value.oneCell']) ?_); clear S a w; intro a w S; refine h_on S _ (List.Sublist.refl _) (by repeat (first | exact List.Sublist.refl _ | exact List.nil_sublist _ | refine .cons_cons _ ?_ | refine .cons _ ?_)) ?_)
    refine h_done (by kernel_rfl) ?_
    rotate_left
    (refine op_alloc S Try.zeroValue24 (cs := _) rfl rfl ?_; clear S a w; intro g3 a w S; refine h_on S _ (List.Sublist.refl _) (by repeat (first | exact List.Sublist.refl _ | exact List.nil_sublist _ | refine .cons_cons _ ?_ | refine .cons _ ?_)) ?_)
    refine h_split (i := 1) (j := 5) (by kernel_rfl) rfl rfl ?_ ?_
    (refine op_calls S Try.call19 (EvL.cons (Ev.t rfl) EvL.nil) (c19 _ _ _ _ _ _ (by exact .old S.wd (by assumption)) (by omega)) rfl ?_; clear S a w; rintro _ _ ⟨A1, cp1, rfl, rfl⟩ a w S; refine h_on S _ (List.Sublist.refl _) (by repeat (first | exact List.Sublist.refl _ | exact List.nil_sublist _ | refine .cons_cons _ ?_ | refine .cons _ ?_)) ?_)
    refine h_split (i := 3) (j := 5) (by kernel_rfl) rfl rfl ?_ ?_
    (refine op_calls S Try.call19 (EvL.cons (Ev.t rfl) EvL.nil) (c19 _ _ _ _ _ _ (by exact .old S.wd (by assumption)) (by omega)) rfl ?_; clear S a w; rintro _ _ ⟨A2, cp2, rfl, rfl⟩ a w S; refine h_on S _ (List.Sublist.refl _) (by repeat (first | exact List.Sublist.refl _ | exact List.nil_sublist _ | refine .cons_cons _ ?_ | refine .cons _ ?_)) ?_)
    (refine h_m (i := 5) rfl (by kernel_rfl) (op_alloc S Try.zeroValue24 (cs := _) rfl rfl ?_); clear S a w; intro g4 a w S; refine h_on S _ (List.Sublist.refl _) (by repeat (first | exact List.Sublist.refl _ | exact List.nil_sublist _ | refine .cons_cons _ ?_ | refine .cons _ ?_)) ?_)
    (refine h_m0 (i := 6) rfl (by kernel_rfl) (op_stW S Try.sizeOf24 (Ev.t rfl) (Ev.t rfl) (k := 3) rfl rfl rfl (by simp [Value.oneCell']) ?_); clear S a w; intro a w S; refine h_on S _ (List.Sublist.refl _) (by repeat (first | exact List.Sublist.refl _ | exact List.nil_sublist _ | refine .cons_cons _ ?_ | refine .cons _ ?_)) ?_)
    (refine h_m0 (i := 7) rfl (by kernel_rfl) (op_stW S Try.sizeOf24 (Ev.t rfl) (Ev.t rfl) (k := 0) rfl rfl rfl (by simp [Value.oneCell']) ?_); clear S a w; intro a w S; refine h_on S _ (List.Sublist.refl _) (by repeat (first | exact List.Sublist.refl _ | exact List.nil_sublist _ | refine .cons_cons _ ?_ | refine .cons _ ?_)) ?_)
    refine h_done (by kernel_rfl) ?_
    rotate_left
    (refine op_alloc S Try.zeroValue24 (cs := _) rfl rfl ?_; clear S a w; intro g4 a w S; refine h_on S _ (List.Sublist.refl _) (by repeat (first | exact List.Sublist.refl _ | exact List.nil_sublist _ | refine .cons_cons _ ?_ | refine .cons _ ?_)) ?_)
    (refine h_m (i := 3) rfl (by kernel_rfl) (op_calls S Try.call19 (EvL.cons (Ev.t rfl) EvL.nil) (c19 _ _ _ _ _ _ (by exact .old S.wd (by assumption)) (by omega)) rfl ?_); clear S a w; rintro _ _ ⟨A2, cp2, rfl, rfl⟩ a w S; refine h_on S _ (List.Sublist.refl _) (by repeat (first | exact List.Sublist.refl _ | exact List.nil_sublist _ | refine .cons_cons _ ?_ | refine .cons _ ?_)) ?_)
    (refine h_m0 (i := 6) rfl (by kernel_rfl) (op_stW S Try.sizeOf24 (Ev.t rfl) (Ev.t rfl) (k := 3) rfl rfl rfl (by simp [Value.oneCell']) ?_); clear S a w; intro a w S; refine h_on S _ (List.Sublist.refl _) (by repeat (first | exact List.Sublist.refl _ | exact List.nil_sublist _ | refine .cons_cons _ ?_ | refine .cons _ ?_)) ?_)
    (refine h_m0 (i := 7) rfl (by kernel_rfl) (op_stW S Try.sizeOf24 (Ev.t rfl) (Ev.t rfl) (k := 1) rfl rfl rfl (by simp [Value.oneCell']) ?_); clear S a w; intro a w S; refine h_on S _ (List.Sublist.refl _) (by repeat (first | exact List.Sublist.refl _ | exact List.nil_sublist _ | refine .cons_cons _ ?_ | refine .cons _ ?_)) ?_)
    refine h_done (by kernel_rfl) ?_
    rotate_left
    (refine op_alloc S Try.zeroValue24 (cs := _) rfl rfl ?_; clear S a w; intro g4 a w S; refine h_on S _ (List.Sublist.refl _) (by repeat (first | exact List.Sublist.refl _ | exact List.nil_sublist _ | refine .cons_cons _ ?_ | refine .cons _ ?_)) ?_)
    (refine h_m (i := 1) rfl (by kernel_rfl) (op_calls S Try.call19 (EvL.cons (Ev.t rfl) EvL.nil) (c19 _ _ _ _ _ _ (by exact .old S.wd (by assumption)) (by omega)) rfl ?_); clear S a w; rintro _ _ ⟨A1, cp1, rfl, rfl⟩ a w S; refine h_on S _ (List.Sublist.refl _) (by repeat (first | exact List.Sublist.refl _ | exact List.nil_sublist _ | refine .cons_cons _ ?_ | refine .cons _ ?_)) ?_)
    (refine h_m (i := 3) rfl (by kernel_rfl) (op_calls S Try.call19 (EvL.cons (Ev.t rfl) EvL.nil) (c19 _ _ _ _ _ _ (by exact .old S.wd (by assumption)) (by omega)) rfl ?_); clear S a w; rintro _ _ ⟨A2, cp2, rfl, rfl⟩ a w S; refine h_on S _ (List.Sublist.refl _) (by repeat (first | exact List.Sublist.refl _ | exact List.nil_sublist _ | refine .cons_cons _ ?_ | refine .cons _ ?_)) ?_)
    (refine h_m0 (i := 6) rfl (by kernel_rfl) (op_stW S Try.sizeOf24 (Ev.t rfl) (Ev.t rfl) (k := 3) rfl rfl rfl (by simp [Value.oneCell']) ?_); clear S a w; intro a w S; refine h_on S _ (List.Sublist.refl _) (by repeat (first | exact List.Sublist.refl _ | exact List.nil_sublist _ | refine .cons_cons _ ?_ | refine .cons _ ?_)) ?_)
    (refine h_m0 (i := 7) rfl (by kernel_rfl) (op_stW S Try.sizeOf24 (Ev.t rfl) (Ev.t rfl) (k := 2) rfl rfl rfl (by simp [Value.oneCell']) ?_); clear S a w; intro a w S; refine h_on S _ (List.Sublist.refl _) (by repeat (first | exact List.Sublist.refl _ | exact List.nil_sublist _ | refine .cons_cons _ ?_ | refine .cons _ ?_)) ?_)
    refine h_done (by kernel_rfl) ?_
    rotate_left
    (refine op_alloc S Try.zeroValue24 (cs := _) rfl rfl ?_; clear S a w; intro g3 a w S; refine h_on S _ (List.Sublist.refl _) (by repeat (first | exact List.Sublist.refl _ | exact List.nil_sublist _ | refine .cons_cons _ ?_ | refine .cons _ ?_)) ?_)
    refine h_split (i := 1) (j := 4) (by kernel_rfl) rfl rfl ?_ ?_
    (refine op_calls S Try.call19 (EvL.cons (Ev.t rfl) EvL.nil) (c19 _ _ _ _ _ _ (by exact .old S.wd (by assumption)) (by omega)) rfl ?_; clear S a w; rintro _ _ ⟨A1, cp1, rfl, rfl⟩ a w S; refine h_on S _ (List.Sublist.refl _) (by repeat (first | exact List.Sublist.refl _ | exact List.nil_sublist _ | refine .cons_cons _ ?_ | refine .cons _ ?_)) ?_)
    refine h_split (i := 3) (j := 4) (by kernel_rfl) rfl rfl ?_ ?_
    (refine op_calls S Try.call19 (EvL.cons (Ev.t rfl) EvL.nil) (c19 _ _ _ _ _ _ (by exact .old S.wd (by assumption)) (by omega)) rfl ?_; clear S a w; rintro _ _ ⟨A2, cp2, rfl, rfl⟩ a w S; refine h_on S _ (List.Sublist.refl _) (by repeat (first | exact List.Sublist.refl _ | exact List.nil_sublist _ | refine .cons_cons _ ?_ | refine .cons _ ?_)) ?_)
    (refine h_m (i := 4) rfl (by kernel_rfl) (op_alloc S Try.zeroValue24 (cs := _) rfl rfl ?_); clear S a w; intro g4 a w S; refine h_on S _ (List.Sublist.refl _) (by repeat (first | exact List.Sublist.refl _ | exact List.nil_sublist _ | refine .cons_cons _ ?_ | refine .cons _ ?_)) ?_)
    (refine h_m0 (i := 6) rfl (by kernel_rfl) (op_stW S Try.sizeOf24 (Ev.t rfl) (Ev.t rfl) (k := 0) rfl rfl rfl (by simp [Value.oneCell']) ?_); clear S a w; intro a w S; refine h_on S _ (List.Sublist.refl _) (by repeat (first | exact List.Sublist.refl _ | exact List.nil_sublist _ | refine .cons_cons _ ?_ | refine .cons _ ?_)) ?_)
    (refine h_m0 (i := 7) rfl (by kernel_rfl) (op_stW S Try.sizeOf24 (Ev.t rfl) (Ev.t rfl) (k := 3) rfl rfl rfl (by simp [Value.oneCell']) ?_); clear S a w; intro a w S; refine h_on S _ (List.Sublist.refl _) (by repeat (first | exact List.Sublist.refl _ | exact List.nil_sublist _ | refine .cons_cons _ ?_ | refine .cons _ ?_)) ?_)
    refine h_done (by kernel_rfl) ?_
    rotate_left
    (refine op_alloc S Try.zeroValue24 (cs := _) rfl rfl ?_; clear S a w; intro g4 a w S; refine h_on S _ (List.Sublist.refl _) (by repeat (first | exact List.Sublist.refl _ | exact List.nil_sublist _ | refine .cons_cons _ ?_ | refine .cons _ ?_)) ?_)
    (refine h_m (i := 3) rfl (by kernel_rfl) (op_calls S Try.call19 (EvL.cons (Ev.t rfl) EvL.nil) (c19 _ _ _ _ _ _ (by exact .old S.wd (by assumption)) (by omega)) rfl ?_); clear S a w; rintro _ _ ⟨A2, cp2, rfl, rfl⟩ a w S; refine h_on S _ (List.Sublist.refl _) (by repeat (first | exact List.Sublist.refl _ | exact List.nil_sublist _ | refine .cons_cons _ ?_ | refine .cons _ ?_)) ?_)
    (refine h_m0 (i := 6) rfl (by kernel_rfl) (op_stW S Try.sizeOf24 (Ev.t rfl) (Ev.t rfl) (k := 1) rfl rfl rfl (by simp [Value.oneCell']) ?_); clear S a w; intro a w S; refine h_on S _ (List.Sublist.refl _) (by repeat (first | exact List.Sublist.refl _ | exact List.nil_sublist _ | refine .cons_cons _ ?_ | refine .cons _ ?_)) ?_)
    (refine h_m0 (i := 7) rfl (by kernel_rfl) (op_stW S Try.sizeOf24 (Ev.t rfl) (Ev.t rfl) (k := 3) rfl rfl rfl (by simp [Value.oneCell']) ?_); clear S a w; intro a w S; refine h_on S _ (List.Sublist.refl _) (by repeat (first | exact List.Sublist.refl _ | exact List.nil_sublist _ | refine .cons_cons _ ?_ | refine .cons _ ?_)) ?_)
    refine h_done (by kernel_rfl) ?_
    rotate_left
    (refine op_alloc S Try.zeroValue24 (cs := _) rfl rfl ?_; clear S a w; intro g4 a w S; refine h_on S _ (List.Sublist.refl _) (by repeat (first | exact List.Sublist.refl _ | exact List.nil_sublist _ | refine .cons_cons _ ?_ | refine .cons _ ?_)) ?_)
    (refine h_m (i := 1) rfl (by kernel_rfl) (op_calls S Try.call19 (EvL.cons (Ev.t rfl) EvL.nil) (c19 _ _ _ _ _ _ (by exact .old S.wd (by assumption)) (by omega)) rfl ?_); clear S a w; rintro _ _ ⟨A1, cp1, rfl, rfl⟩ a w S; refine h_on S _ (List.Sublist.refl _) (by repeat (first | exact List.Sublist.refl _ | exact List.nil_sublist _ | refine .cons_cons _ ?_ | refine .cons _ ?_)) ?_)
    (refine h_m (i := 3) rfl (by kernel_rfl) (op_calls S Try.call19 (EvL.cons (Ev.t rfl) EvL.nil) (c19 _ _ _ _ _ _ (by exact .old S.wd (by assumption)) (by omega)) rfl ?_); clear S a w; rintro _ _ ⟨A2, cp2, rfl, rfl⟩ a w S; refine h_on S _ (List.Sublist.refl _) (by repeat (first | exact List.Sublist.refl _ | exact List.nil_sublist _ | refine .cons_cons _ ?_ | refine .cons _ ?_)) ?_)
    (refine h_m0 (i := 6) rfl (by kernel_rfl) (op_stW S Try.sizeOf24 (Ev.t rfl) (Ev.t rfl) (k := 2) rfl rfl rfl (by simp [Value.oneCell']) ?_); clear S a w; intro a w S; refine h_on S _ (List.Sublist.refl _) (by repeat (first | exact List.Sublist.refl _ | exact List.nil_sublist _ | refine .cons_cons _ ?_ | refine .cons _ ?_)) ?_)
    (refine h_m0 (i := 7) rfl (by kernel_rfl) (op_stW S Try.sizeOf24 (Ev.t rfl) (Ev.t rfl) (k := 3) rfl rfl rfl (by simp [Value.oneCell']) ?_); clear S a w; intro a w S; refine h_on S _ (List.Sublist.refl _) (by repeat (first | exact List.Sublist.refl _ | exact List.nil_sublist _ | refine .cons_cons _ ?_ | refine .cons _ ?_)) ?_)
    refine h_done (by kernel_rfl) ?_
    rotate_left
    all_goals exact ⟨_, _, _, _, _, _, S.picks (by repeat (first | exact Fits.nil | refine Fits.skip rfl ?_ | refine Fits.cons rfl ?_)) (by repeat (first | exact Picks.nil | (refine Picks.rest ?_; (repeat (first | exact List.Sublist.refl _ | refine List.Sublist.cons_cons _ ?_ | refine List.Sublist.cons _ ?_)); done) | refine Picks.take 0 rfl ?_ | refine Picks.take 1 rfl ?_ | refine Picks.take 2 rfl ?_ | refine Picks.take 3 rfl ?_ | refine Picks.take 4 rfl ?_ | refine Picks.take 5 rfl ?_ | refine Picks.take 6 rfl ?_ | refine Picks.take 7 rfl ?_ | refine Picks.take 8 rfl ?_ | refine Picks.take 9 rfl ?_ | refine Picks.take 10 rfl ?_ | refine Picks.take 11 rfl ?_))⟩
  clear S
  rcases e with _ | _ | _ | _ | _ | _ | _
  any_goals exact q.elim
  obtain ⟨ga, gb, A1, c1, A2, c2, S⟩ := q
  refine then_normal (hK1 _ _ ?_)
  clear hK1
  refine wp_seq_k fun _ hK1 => ?_
  refine wp_region_lit ?_
  (refine st_y S (Yr.ys (ys_ldA ⟨Try.isAgg24, Try.sizeOf24⟩ (Ev.t rfl) (k := 0) rfl rfl)) rfl ?_; clear S a w; intro a w S)
  (refine st_y S (Yr.ys (ys_ldA ⟨Try.isAgg24, Try.sizeOf24⟩ (Ev.t rfl) (k := 1) rfl rfl)) rfl ?_; clear S a w; intro a w S)
  (refine st_y S (Yr.ys (ys_move (Ev.t rfl))) rfl ?_; clear S a w; intro a w S)
  (refine st_m (op_calls S Try.call35 (EvL.cons (Ev.t rfl) (EvL.cons (Ev.t rfl) (EvL.cons (Ev.t rfl) EvL.nil))) (c35 _ _ _ _ _ _ (by exact Sl.of_own S.wd (k := 2) rfl (fun _ => rfl)) (by omega) _ _ _ _ _ (by exact Sl.of_own S.wd (k := 3) rfl (fun _ => rfl)) (by omega) _) rfl ?_); clear S a w; rintro _ _ ⟨A3, cp1, rfl, rfl⟩ a w S)
  (refine st_y S (Yr.ys (ys_move (Ev.t rfl))) rfl ?_; clear S a w; intro a w S)
  (refine st_y S (Yr.ys (ys_ext (Ev.t rfl) rfl)) rfl ?_; clear S a w; intro a w S)
  (refine st_y S (Yr.ys (ys_ext (Ev.t rfl) rfl)) rfl ?_; clear S a w; intro a w S)
  (refine st_y S (Yr.ys (ys_assign (Ev.t rfl))) rfl ?_; clear S a w; intro a w S)
  (refine st_y S (Yr.ys (ys_assign (Ev.t rfl))) rfl ?_; clear S a w; intro a w S)
  refine st_nil ?_
  (refine (then_normal (hK1 _ _ ?_)); clear hK1)
  refine wp_seq_k fun _ hK1 => ?_
  refine wp_region_lit ?_
  (refine st_y S (Yr.ys (ys_ldA ⟨Try.isAgg24, Try.sizeOf24⟩ (Ev.t rfl) (k := 6) rfl rfl)) rfl ?_; clear S a w; intro a w S)
  (refine st_y S (Yr.ys (ys_ldA ⟨Try.isAgg24, Try.sizeOf24⟩ (Ev.t rfl) (k := 5) rfl rfl)) rfl ?_; clear S a w; intro a w S)
  (refine st_y S (Yr.ys (ys_move (Ev.t rfl))) rfl ?_; clear S a w; intro a w S)
  (refine st_m (op_calls S Try.call37 (EvL.cons (Ev.t rfl) (EvL.cons (Ev.t rfl) (EvL.cons (Ev.t rfl) EvL.nil))) (c37 _ _ _ _ _ _ (by exact .old S.wd (by assumption)) (by omega) _ _ _ _ _ (by exact .old S.wd (by assumption)) (by omega) _) rfl ?_); clear S a w; rintro _ _ ⟨A4, cp2, rfl, rfl⟩ a w S)
  (refine st_y S (Yr.ys (ys_move (Ev.t rfl))) rfl ?_; clear S a w; intro a w S)
  (refine st_y S (Yr.ys (ys_ext (Ev.t rfl) rfl)) rfl ?_; clear S a w; intro a w S)
  (refine st_y S (Yr.ys (ys_ext (Ev.t rfl) rfl)) rfl ?_; clear S a w; intro a w S)
  (refine st_y S (Yr.ys (ys_assign (Ev.t rfl))) rfl ?_; clear S a w; intro a w S)
  (refine st_y S (Yr.ys (ys_assign (Ev.t rfl))) rfl ?_; clear S a w; intro a w S)
  refine st_nil ?_
  (refine (then_normal (hK1 _ _ ?_)); clear hK1)
  refine wp_seq_k fun _ hK1 => ?_
  refine wp_seq_k fun _ hK2 => ?_
  refine wp_region_lit ?_
  (refine st_y S (Yr.ys (ys_move (Ev.t rfl))) rfl ?_; clear S a w; intro a w S)
  (refine st_y S (Yr.ys (ys_move (Ev.t rfl))) rfl ?_; clear S a w; intro a w S)
  (refine st_y S (Yr.ys (ys_F (by omega) (ys_neq (Ev.t rfl) (Ev.t rfl)))) rfl ?_; clear S a w; intro a w S)
  (refine st_y S (Yr.ys (ys_move (Ev.t rfl))) rfl ?_; clear S a w; intro a w S)
  (refine st_yt S rfl rfl (Yr.ys (ys_move (Ev.t rfl))) rfl ?_; clear S a w; intro a w S)
  (refine st_yt S rfl rfl (Yr.ys (ys_move (Ev.t rfl))) rfl ?_; clear S a w; intro a w S)
  (refine st_yt S rfl rfl (ys_call Try.call32 (EvL.cons (Ev.t rfl) (EvL.cons (Ev.t rfl) EvL.nil)) (fun hp w W => c32 _ _ _ _ _ (by exact Sl.of_own W (k := 1) rfl (fun _ => rfl)) (by exact Sl.of_own W (k := 0) rfl (fun _ => rfl)))) rfl ?_; clear S a w; intro a w S)
  simp only [List.nil_append] at S
  (refine st_yt S rfl rfl (Yr.ys (ys_not (Ev.t rfl))) rfl ?_; clear S a w; intro a w S)
  (refine st_y S (Yr.ys (ys_pickF (Ev.t rfl) (Ev.t rfl))) rfl ?_; clear S a w; intro a w S)
  refine st_nil ?_
  (refine (then_normal (hK2 _ _ ?_)); clear hK2)
  refine st_else S (Ev.t rfl) ?_
  refine wp_skip ?_
  (refine (then_normal (hK1 _ _ ?_)); clear hK1)
  refine wp_seq_k fun _ hK1 => ?_
  refine wp_region_lit ?_
  (refine st_y S (Yr.ys (ys_ldA ⟨Try.isAgg24, Try.sizeOf24⟩ (Ev.t rfl) (k := 2) rfl rfl)) rfl ?_; clear S a w; intro a w S)
  (refine st_y S (Yr.ys (ys_ldA ⟨Try.isAgg24, Try.sizeOf24⟩ (Ev.t rfl) (k := 3) rfl rfl)) rfl ?_; clear S a w; intro a w S)
  (refine st_y S (Yr.ys (ys_move (Ev.t rfl))) rfl ?_; clear S a w; intro a w S)
  (refine st_m (op_calls S Try.call36 (EvL.cons (Ev.t rfl) (EvL.cons (Ev.t rfl) (EvL.cons (Ev.t rfl) EvL.nil))) (c36 _ _ _ _ _ _ (by exact Sl.of_own S.wd (k := 4) rfl (fun _ => rfl)) (by omega) _ _ _ _ _ (by exact Sl.of_own S.wd (k := 5) rfl (fun _ => rfl)) (by omega) _) rfl ?_); clear S a w; rintro _ _ ⟨A5, cp3, rfl, rfl⟩ a w S)
  (refine st_y S (Yr.ys (ys_move (Ev.t rfl))) rfl ?_; clear S a w; intro a w S)
  (refine st_y S (Yr.ys (ys_ext (Ev.t rfl) rfl)) rfl ?_; clear S a w; intro a w S)
  (refine st_y S (Yr.ys (ys_ext (Ev.t rfl) rfl)) rfl ?_; clear S a w; intro a w S)
  (refine st_y S (Yr.ys (ys_assign (Ev.t rfl))) rfl ?_; clear S a w; intro a w S)
  (refine st_y S (Yr.ys (ys_assign (Ev.t rfl))) rfl ?_; clear S a w; intro a w S)
  refine st_nil ?_
  (refine (then_normal (hK1 _ _ ?_)); clear hK1)
  refine wp_seq_k fun _ hK1 => ?_
  refine wp_region_lit ?_
  (refine st_y S (Yr.ys (ys_ldA ⟨Try.isAgg24, Try.sizeOf24⟩ (Ev.t rfl) (k := 8) rfl rfl)) rfl ?_; clear S a w; intro a w S)
  (refine st_y S (Yr.ys (ys_ldA ⟨Try.isAgg24, Try.sizeOf24⟩ (Ev.t rfl) (k := 7) rfl rfl)) rfl ?_; clear S a w; intro a w S)
  (refine st_y S (Yr.ys (ys_move (Ev.t rfl))) rfl ?_; clear S a w; intro a w S)
  (refine st_m (op_calls S Try.call38 (EvL.cons (Ev.t rfl) (EvL.cons (Ev.t rfl) (EvL.cons (Ev.t rfl) EvL.nil))) (c38 _ _ _ _ _ _ (by exact .old S.wd (by assumption)) (by omega) _ _ _ _ _ (by exact .old S.wd (by assumption)) (by omega) _) rfl ?_); clear S a w; rintro _ _ ⟨A6, cp4, rfl, rfl⟩ a w S)
  (refine st_y S (Yr.ys (ys_move (Ev.t rfl))) rfl ?_; clear S a w; intro a w S)
  (refine st_y S (Yr.ys (ys_ext (Ev.t rfl) rfl)) rfl ?_; clear S a w; intro a w S)
  (refine st_y S (Yr.ys (ys_ext (Ev.t rfl) rfl)) rfl ?_; clear S a w; intro a w S)
  (refine st_y S (Yr.ys (ys_assign (Ev.t rfl))) rfl ?_; clear S a w; intro a w S)
  (refine st_y S (Yr.ys (ys_assign (Ev.t rfl))) rfl ?_; clear S a w; intro a w S)
  refine st_nil ?_
  (refine (then_normal (hK1 _ _ ?_)); clear hK1)
  refine wp_seq_k fun _ hK1 => ?_
  refine wp_seq_k fun _ hK2 => ?_
  refine wp_region_lit ?_
  (refine st_y S (Yr.ys (ys_move (Ev.t rfl))) rfl ?_; clear S a w; intro a w S)
  (refine st_y S (Yr.ys (ys_move (Ev.t rfl))) rfl ?_; clear S a w; intro a w S)
  (refine st_y S (Yr.ys (ys_F (by omega) (ys_neq (Ev.t rfl) (Ev.t rfl)))) rfl ?_; clear S a w; intro a w S)
  (refine st_y S (Yr.ys (ys_move (Ev.t rfl))) rfl ?_; clear S a w; intro a w S)
  (refine st_yt S rfl rfl (Yr.ys (ys_move (Ev.t rfl))) rfl ?_; clear S a w; intro a w S)
  (refine st_yt S rfl rfl (Yr.ys (ys_move (Ev.t rfl))) rfl ?_; clear S a w; intro a w S)
  (refine st_yt S rfl rfl (ys_call Try.call32 (EvL.cons (Ev.t rfl) (EvL.cons (Ev.t rfl) EvL.nil)) (fun hp w W => c32 _ _ _ _ _ (by exact Sl.of_own W (k := 1) rfl (fun _ => rfl)) (by exact Sl.of_own W (k := 0) rfl (fun _ => rfl)))) rfl ?_; clear S a w; intro a w S)
  simp only [List.nil_append] at S
  (refine st_yt S rfl rfl (Yr.ys (ys_not (Ev.t rfl))) rfl ?_; clear S a w; intro a w S)
  (refine st_y S (Yr.ys (ys_pickF (Ev.t rfl) (Ev.t rfl))) rfl ?_; clear S a w; intro a w S)
  refine st_nil ?_
  (refine (then_normal (hK2 _ _ ?_)); clear hK2)
  refine st_else S (Ev.t rfl) ?_
  refine wp_skip ?_
  (refine (then_normal (hK1 _ _ ?_)); clear hK1)
  refine wp_seq_k fun _ hK1 => ?_
  refine wp_region_lit ?_
  (refine st_y S (Yr.ys (ys_ldA ⟨Try.isAgg24, Try.sizeOf24⟩ (Ev.t rfl) (k := 4) rfl rfl)) rfl ?_; clear S a w; intro a w S)
  (refine st_y S (Yr.ys (ys_ldA ⟨Try.isAgg24, Try.sizeOf24⟩ (Ev.t rfl) (k := 5) rfl rfl)) rfl ?_; clear S a w; intro a w S)
  (refine st_y S (Yr.ys (ys_move (Ev.t rfl))) rfl ?_; clear S a w; intro a w S)
  (refine st_m (op_calls S Try.call39 (EvL.cons (Ev.t rfl) (EvL.cons (Ev.t rfl) (EvL.cons (Ev.t rfl) EvL.nil))) (c39 _ _ _ _ _ _ (by exact Sl.of_own S.wd (k := 6) rfl (fun _ => rfl)) (by omega) _ _ _ _ _ (by exact Sl.of_own S.wd (k := 7) rfl (fun _ => rfl)) (by omega) _) rfl ?_); clear S a w; rintro _ _ ⟨A7, cp5, rfl, rfl⟩ a w S)
  (refine st_y S (Yr.ys (ys_move (Ev.t rfl))) rfl ?_; clear S a w; intro a w S)
  (refine st_y S (Yr.ys (ys_ext (Ev.t rfl) rfl)) rfl ?_; clear S a w; intro a w S)
  (refine st_y S (Yr.ys (ys_ext (Ev.t rfl) rfl)) rfl ?_; clear S a w; intro a w S)
  (refine st_y S (Yr.ys (ys_assign (Ev.t rfl))) rfl ?_; clear S a w; intro a w S)
  (refine st_y S (Yr.ys (ys_assign (Ev.t rfl))) rfl ?_; clear S a w; intro a w S)
  refine st_nil ?_
  (refine (then_normal (hK1 _ _ ?_)); clear hK1)
  refine wp_seq_k fun _ hK1 => ?_
  refine wp_region_lit ?_
  (refine st_y S (Yr.ys (ys_ldA ⟨Try.isAgg24, Try.sizeOf24⟩ (Ev.t rfl) (k := 10) rfl rfl)) rfl ?_; clear S a w; intro a w S)
  (refine st_y S (Yr.ys (ys_ldA ⟨Try.isAgg24, Try.sizeOf24⟩ (Ev.t rfl) (k := 9) rfl rfl)) rfl ?_; clear S a w; intro a w S)
  (refine st_y S (Yr.ys (ys_move (Ev.t rfl))) rfl ?_; clear S a w; intro a w S)
  (refine st_m (op_calls S Try.call40 (EvL.cons (Ev.t rfl) (EvL.cons (Ev.t rfl) (EvL.cons (Ev.t rfl) EvL.nil))) (c40 _ _ _ _ _ _ (by exact .old S.wd (by assumption)) (by omega) _ _ _ _ _ (by exact .old S.wd (by assumption)) (by omega) _) rfl ?_); clear S a w; rintro _ _ ⟨A8, cp6, rfl, rfl⟩ a w S)
  (refine st_y S (Yr.ys (ys_move (Ev.t rfl))) rfl ?_; clear S a w; intro a w S)
  (refine st_y S (Yr.ys (ys_ext (Ev.t rfl) rfl)) rfl ?_; clear S a w; intro a w S)
  (refine st_y S (Yr.ys (ys_ext (Ev.t rfl) rfl)) rfl ?_; clear S a w; intro a w S)
  (refine st_y S (Yr.ys (ys_assign (Ev.t rfl))) rfl ?_; clear S a w; intro a w S)
  (refine st_y S (Yr.ys (ys_assign (Ev.t rfl))) rfl ?_; clear S a w; intro a w S)
  refine st_nil ?_
  (refine (then_normal (hK1 _ _ ?_)); clear hK1)
  refine wp_seq_k fun _ hK1 => ?_
  refine wp_seq_k fun _ hK2 => ?_
  refine wp_region_lit ?_
  (refine st_y S (Yr.ys (ys_move (Ev.t rfl))) rfl ?_; clear S a w; intro a w S)
  (refine st_y S (Yr.ys (ys_move (Ev.t rfl))) rfl ?_; clear S a w; intro a w S)
  (refine st_y S (Yr.ys (ys_F (by omega) (ys_neq (Ev.t rfl) (Ev.t rfl)))) rfl ?_; clear S a w; intro a w S)
  (refine st_y S (Yr.ys (ys_move (Ev.t rfl))) rfl ?_; clear S a w; intro a w S)
  (refine st_yt S rfl rfl (Yr.ys (ys_move (Ev.t rfl))) rfl ?_; clear S a w; intro a w S)
  (refine st_yt S rfl rfl (Yr.ys (ys_move (Ev.t rfl))) rfl ?_; clear S a w; intro a w S)
  (refine st_yt S rfl rfl (ys_call Try.call32 (EvL.cons (Ev.t rfl) (EvL.cons (Ev.t rfl) EvL.nil)) (fun hp w W => c32 _ _ _ _ _ (by exact Sl.of_own W (k := 1) rfl (fun _ => rfl)) (by exact Sl.of_own W (k := 0) rfl (fun _ => rfl)))) rfl ?_; clear S a w; intro a w S)
  simp only [List.nil_append] at S
  (refine st_yt S rfl rfl (Yr.ys (ys_not (Ev.t rfl))) rfl ?_; clear S a w; intro a w S)
  (refine st_y S (Yr.ys (ys_pickF (Ev.t rfl) (Ev.t rfl))) rfl ?_; clear S a w; intro a w S)
  refine st_nil ?_
  (refine (then_normal (hK2 _ _ ?_)); clear hK2)
  refine st_else S (Ev.t rfl) ?_
  refine wp_skip ?_
  (refine (then_normal (hK1 _ _ ?_)); clear hK1)
  refine wp_seq_k fun _ hK1 => ?_
  refine wp_region_lit ?_
  (refine st_y S (Yr.ys (ys_ldA ⟨Try.isAgg24, Try.sizeOf24⟩ (Ev.t rfl) (k := 6) rfl rfl)) rfl ?_; clear S a w; intro a w S)
  (refine st_m (op_calls S Try.call33 (EvL.cons (Ev.t rfl) EvL.nil) (c33 _ _ _ _ _ _ (by exact Sl.of_own S.wd (k := 8) rfl (fun _ => rfl)) (by omega)) rfl ?_); clear S a w; rintro _ _ ⟨A9, cp7, rfl, rfl⟩ a w S)
  (refine st_y S (Yr.ys (ys_move (Ev.t rfl))) rfl ?_; clear S a w; intro a w S)
  (refine st_y S (Yr.ys (ys_ext (Ev.t rfl) rfl)) rfl ?_; clear S a w; intro a w S)
  (refine st_y S (Yr.ys (ys_ext (Ev.t rfl) rfl)) rfl ?_; clear S a w; intro a w S)
  (refine st_y S (Yr.ys (ys_assign (Ev.t rfl))) rfl ?_; clear S a w; intro a w S)
  (refine st_y S (Yr.ys (ys_assign (Ev.t rfl))) rfl ?_; clear S a w; intro a w S)
  refine st_nil ?_
  (refine (then_normal (hK1 _ _ ?_)); clear hK1)
  refine wp_seq_k fun _ hK1 => ?_
  refine wp_region_lit ?_
  (refine st_y S (Yr.ys (ys_ldA ⟨Try.isAgg24, Try.sizeOf24⟩ (Ev.t rfl) (k := 12) rfl rfl)) rfl ?_; clear S a w; intro a w S)
  (refine st_m (op_calls S Try.call41 (EvL.cons (Ev.t rfl) EvL.nil) (c41 _ _ _ _ _ _ (by exact .old S.wd (by assumption)) (by omega)) rfl ?_); clear S a w; rintro _ _ ⟨A10, cp8, rfl, rfl⟩ a w S)
  (refine st_y S (Yr.ys (ys_move (Ev.t rfl))) rfl ?_; clear S a w; intro a w S)
  (refine st_y S (Yr.ys (ys_ext (Ev.t rfl) rfl)) rfl ?_; clear S a w; intro a w S)
  (refine st_y S (Yr.ys (ys_ext (Ev.t rfl) rfl)) rfl ?_; clear S a w; intro a w S)
  (refine st_y S (Yr.ys (ys_assign (Ev.t rfl))) rfl ?_; clear S a w; intro a w S)
  (refine st_y S (Yr.ys (ys_assign (Ev.t rfl))) rfl ?_; clear S a w; intro a w S)
  refine st_nil ?_
  (refine (then_normal (hK1 _ _ ?_)); clear hK1)
  refine wp_seq_k fun _ hK1 => ?_
  refine wp_region_lit ?_
  (refine st_y S (Yr.ys (ys_move (Ev.t rfl))) rfl ?_; clear S a w; intro a w S)
  (refine st_y S (Yr.ys (ys_move (Ev.t rfl))) rfl ?_; clear S a w; intro a w S)
  (refine st_y S (Yr.ys (ys_T (by omega) (ys_eql (Ev.t rfl) (Ev.t rfl)))) rfl ?_; clear S a w; intro a w S)
  (refine st_y S (Yr.ys (ys_move (Ev.t rfl))) rfl ?_; clear S a w; intro a w S)
  (refine st_yt S rfl rfl (Yr.ys (ys_move (Ev.t rfl))) rfl ?_; clear S a w; intro a w S)
  (refine st_yt S rfl rfl (Yr.ys (ys_move (Ev.t rfl))) rfl ?_; clear S a w; intro a w S)
  (refine st_yt S rfl rfl (ys_call Try.call32 (EvL.cons (Ev.t rfl) (EvL.cons (Ev.t rfl) EvL.nil)) (fun hp w W => c32 _ _ _ _ _ (by exact Sl.of_own W (k := 1) rfl (fun _ => rfl)) (by exact Sl.of_own W (k := 0) rfl (fun _ => rfl)))) rfl ?_; clear S a w; intro a w S)
  simp only [List.nil_append] at S
  (refine st_y S (Yr.ys (ys_pickT (Ev.t rfl) (Ev.t rfl))) rfl ?_; clear S a w; intro a w S)
  (refine st_y S (Yr.ys (ys_move (Ev.t rfl))) rfl ?_; clear S a w; intro a w S)
  (refine st_yt S rfl rfl (Yr.ys (ys_ldA ⟨Try.isAgg24, Try.sizeOf24⟩ (Ev.t rfl) (k := 8) rfl rfl)) rfl ?_; clear S a w; intro a w S)
  (refine st_yt S rfl rfl (Yr.ys (ys_ldA ⟨Try.isAgg24, Try.sizeOf24⟩ (Ev.t rfl) (k := 13) rfl rfl)) rfl ?_; clear S a w; intro a w S)
  (refine st_yt S rfl rfl (ys_call Try.call26 (EvL.cons (Ev.t rfl) (EvL.cons (Ev.t rfl) EvL.nil)) (fun hp w W => c26 _ _ _ _ _ _ (by exact Sl.of_own W (k := 10) rfl (fun _ => rfl)) _ _ _ _ _ (by exact .old W (by assumption)))) rfl ?_; clear S a w; intro a w S)
  simp only [List.nil_append] at S
  (refine st_y S (Yr.ys (ys_pickT (Ev.t rfl) (Ev.t rfl))) rfl ?_; clear S a w; intro a w S)
  (refine st_y S (Yr.ys (ys_move (Ev.t rfl))) rfl ?_; clear S a w; intro a w S)
  (refine st_yt S rfl rfl (Yr.ys (ys_ldA ⟨Try.isAgg24, Try.sizeOf24⟩ (Ev.t rfl) (k := 9) rfl rfl)) rfl ?_; clear S a w; intro a w S)
  (refine st_yt S rfl rfl (Yr.ys (ys_ldA ⟨Try.isAgg24, Try.sizeOf24⟩ (Ev.t rfl) (k := 12) rfl rfl)) rfl ?_; clear S a w; intro a w S)
  (refine st_yt S rfl rfl (ys_call Try.call26 (EvL.cons (Ev.t rfl) (EvL.cons (Ev.t rfl) EvL.nil)) (fun hp w W => c26 _ _ _ _ _ _ (by exact Sl.of_own W (k := 11) rfl (fun _ => rfl)) _ _ _ _ _ (by exact .old W (by assumption)))) rfl ?_; clear S a w; intro a w S)
  simp only [List.nil_append] at S
  (refine st_y S (Yr.ys (ys_pickT (Ev.t rfl) (Ev.t rfl))) rfl ?_; clear S a w; intro a w S)
  (refine st_y S (Yr.ys (ys_move (Ev.t rfl))) rfl ?_; clear S a w; intro a w S)
  (refine st_yt S rfl rfl (ys_call Try.call21 EvL.nil (fun hp w W => c21 _)) rfl ?_; clear S a w; intro a w S)
  (refine st_y S (Yr.ys (ys_pickT (Ev.t rfl) (Ev.t rfl))) rfl ?_; clear S a w; intro a w S)
  (refine st_y S (Yr.ys (ys_assign (Ev.t rfl))) rfl ?_; clear S a w; intro a w S)
  refine st_nil ?_
  (refine (then_normal (hK1 _ _ ?_)); clear hK1)
  refine wp_ret ?_
  refine st_ret S (results1 S Try.results9 (Rv.tmp rfl)) ?_
  exact ⟨rfl, S.wd.below⟩
theorem c3 (w0 : World) (p c s : Int) (v : Value) (l : List Mbr) (h : Sl Mbr.enc 4 w0 w0.heap.size v l) (hn : l.length ≤ 1048576) :
    Calls Try.prog 3 #[.agg #[.int .i64 p, .int .i64 c, .int .i64 s, v]] w0 fun e w' => e = .returned (.bool true) ∧ Bel w0.heap.size w0 w' := by
  have rw_m := movesR_same ⟨p, c, s, l⟩
  have rw_b : ∀ b : Bool, (b == b) = true := fun b => by simp
  refine enter1 Try.func3 rfl Try.ntmps3 rfl fun a S => ?_
  refine wp_seq_k fun _ hK1 => ?_
  refine wp_region_lit ?_
  (refine st_m (op_box S (Ev.t rfl) rfl ?_); clear S a; intro g1 a w S)
  (refine st_y S (Yr.ys (ys_assign Ev.c)) rfl ?_; clear S a w; intro a w S)
  refine st_nil ?_
  (refine (then_normal (hK1 _ _ ?_)); clear hK1)
  refine wp_seq_k fun _ hK1 => ?_
  (refine h_begin0 S (by kernel_rfl) ?_; clear S a w; intro a w S)
  (refine h_y (i := 0) S (by repeat (first | exact List.Sublist.refl _ | exact List.nil_sublist _ | refine .cons_cons _ ?_ | refine .cons _ ?_)) rfl (by kernel_rfl) (by kernel_rfl) (by kernel_rfl) (fun _ _ _ _ h => h) (ys_ldA ⟨Try.isAgg24, Try.sizeOf24⟩ (Ev.t rfl) (k := 0) rfl rfl) rfl ?_; clear S a w; intro a w S)
  (refine h_y (i := 2) S (by repeat (first | exact List.Sublist.refl _ | exact List.nil_sublist _ | refine .cons_cons _ ?_ | refine .cons _ ?_)) rfl (by kernel_rfl) (by kernel_rfl) (by kernel_rfl) (fun _ _ _ _ h => h) (ys_ldA ⟨Try.isAgg24, Try.sizeOf24⟩ (Ev.t rfl) (k := 0) rfl rfl) rfl ?_; clear S a w; intro a w S)
  (refine h_m (i := 1) rfl (by kernel_rfl) (op_calls S Try.call19 (EvL.cons (Ev.t rfl) EvL.nil) (c19 _ _ _ _ _ _ (by exact .old S.wd (by assumption)) (by omega)) rfl ?_); clear S a w; rintro _ _ ⟨A1, cp1, rfl, rfl⟩ a w S; refine h_on S _ (by repeat (first | exact List.Sublist.refl _ | exact List.nil_sublist _ | refine .cons_cons _ ?_ | refine .cons _ ?_)) (List.Sublist.refl _) ?_)
  (refine h_m (i := 3) rfl (by kernel_rfl) (op_calls S Try.call19 (EvL.cons (Ev.t rfl) EvL.nil) (c19 _ _ _ _ _ _ (by exact .old S.wd (by assumption)) (by omega)) rfl ?_); clear S a w; rintro _ _ ⟨A2, cp2, rfl, rfl⟩ a w S; refine h_on S _ (by repeat (first | exact List.Sublist.refl _ | exact List.nil_sublist _ | refine .cons_cons _ ?_ | refine .cons _ ?_)) (List.Sublist.refl _) ?_)
  (refine h_m (i := 4) rfl (by kernel_rfl) (op_calls S Try.call18 (EvL.cons (Ev.t rfl) (EvL.cons (Ev.t rfl) EvL.nil)) (c18 _ _ _ _ _ _ (by exact Sl.of_own S.wd (k := 1) rfl (fun _ => rfl)) (by omega) _ _ _ _ _ (by exact Sl.of_own S.wd (k := 0) rfl (fun _ => rfl)) (by omega)) rfl ?_); clear S a w; rintro _ _ ⟨A3, cp3, rfl, rfl⟩ a w S; refine h_on S _ (by repeat (first | exact List.Sublist.refl _ | exact List.nil_sublist _ | refine .cons_cons _ ?_ | refine .cons _ ?_)) (List.Sublist.refl _) ?_)
  rw [rw_m] at S ⊢
  (refine h_y (i := 5) S (by repeat (first | exact List.Sublist.refl _ | exact List.nil_sublist _ | refine .cons_cons _ ?_ | refine .cons _ ?_)) rfl (by kernel_rfl) (by kernel_rfl) (by kernel_rfl) (fun _ _ _ _ h => h) (ys_move (Ev.t rfl)) rfl ?_; clear S a w; intro a w S)
  (refine h_y (i := 6) S (by repeat (first | exact List.Sublist.refl _ | exact List.nil_sublist _ | refine .cons_cons _ ?_ | refine .cons _ ?_)) rfl (by kernel_rfl) (by kernel_rfl) (by kernel_rfl) (fun _ _ _ _ h => h) (ys_ext (Ev.t rfl) rfl) rfl ?_; clear S a w; intro a w S)
  (refine h_y (i := 7) S (by repeat (first | exact List.Sublist.refl _ | exact List.nil_sublist _ | refine .cons_cons _ ?_ | refine .cons _ ?_)) rfl (by kernel_rfl) (by kernel_rfl) (by kernel_rfl) (fun _ _ _ _ h => h) (ys_ext (Ev.t rfl) rfl) rfl ?_; clear S a w; intro a w S)
  (refine h_y (i := 8) S (by repeat (first | exact List.Sublist.refl _ | exact List.nil_sublist _ | refine .cons_cons _ ?_ | refine .cons _ ?_)) rfl (by kernel_rfl) (by kernel_rfl) (by kernel_rfl) (fun _ _ _ _ h => h) (ys_assign (Ev.t rfl)) rfl ?_; clear S a w; intro a w S)
  (refine h_y (i := 9) S (by repeat (first | exact List.Sublist.refl _ | exact List.nil_sublist _ | refine .cons_cons _ ?_ | refine .cons _ ?_)) rfl (by kernel_rfl) (by kernel_rfl) (by kernel_rfl) (fun _ _ _ _ h => h) (ys_assign (Ev.t rfl)) rfl ?_; clear S a w; intro a w S)
  refine h_done (by kernel_rfl) ?_
  (refine (then_normal (hK1 _ _ ?_)); clear hK1)
  refine wp_seq_k fun _ hK1 => ?_
  refine wp_region_lit ?_
  (refine st_y S (Yr.ys (ys_move (Ev.t rfl))) rfl ?_; clear S a w; intro a w S)
  (refine st_y S (Yr.ys (ys_lenS Try.underlying25 (Ev.t rfl))) rfl ?_; clear S a w; intro a w S)
  (refine st_y S (Yr.ys (ys_eql (Ev.t rfl) Ev.c)) rfl ?_; clear S a w; intro a w S)
  (refine st_y S (Yr.ys (ys_move (Ev.t rfl))) rfl ?_; clear S a w; intro a w S)
  (refine st_yg S rfl rfl (Yr.ys (ys_move (Ev.t rfl))) rfl ?_; clear S a w; intro a w S)
  (refine st_yg S rfl rfl (Yr.ys (ys_eql (Ev.g rfl) Ev.c)) rfl ?_; clear S a w; intro a w S)
  (refine st_yg S rfl rfl (Yr.ys (ys_ldA ⟨Try.isAgg24, Try.sizeOf24⟩ (Ev.t rfl) (k := 3) rfl rfl)) rfl ?_; clear S a w; intro a w S)
  (refine st_yg S rfl rfl (ys_call Try.call20 (EvL.cons (Ev.g rfl) EvL.nil) (fun hp w W => c20 _ _ _ _ _ _ (by exact .old W (by assumption)) (by omega))) rfl ?_; clear S a w; intro a w S)
  simp only [List.nil_append] at S
  (refine st_yg S rfl rfl (Yr.ys (ys_eql (Ev.g rfl) Ev.c)) rfl ?_; clear S a w; intro a w S)
  (refine st_yg S rfl rfl (Yr.ys (ys_eqlB Try.underlying4 (Ev.g rfl) (Ev.g rfl))) rfl ?_; clear S a w; intro a w S)
  rw [rw_b] at S
  (refine st_y S (Yr.ys (ys_andT (Ev.t rfl) (Ev.g rfl) Ev.c)) rfl ?_; clear S a w; intro a w S)
  (refine st_y S (Yr.ys (ys_move (Ev.t rfl))) rfl ?_; clear S a w; intro a w S)
  (refine st_yg S rfl rfl (ys_call Try.call21 EvL.nil (fun hp w W => c21 _)) rfl ?_; clear S a w; intro a w S)
  (refine st_y S (Yr.ys (ys_andT (Ev.t rfl) (Ev.g rfl) Ev.c)) rfl ?_; clear S a w; intro a w S)
  (refine st_y S (Yr.ys (ys_assign (Ev.t rfl))) rfl ?_; clear S a w; intro a w S)
  refine st_nil ?_
  (refine (then_normal (hK1 _ _ ?_)); clear hK1)
  refine wp_ret ?_
  refine st_ret S (results1 S Try.results3 (Rv.tmp rfl)) ?_
  exact ⟨rfl, S.wd.below⟩
end Go.Proofs.Ytcglchdbddlnjaa
set_option linter.unusedVariables false
set_option linter.unusedSimpArgs false
namespace Go.Fw
open Go.RowKit
theorem mem_movesAt {A B : List Int} {p : Int} {m : Dot} (h : m ∈ movesAt A B p) : m.node = p ∧ m.life ∈ A ∧ m.count ∈ B ∧ m.count ∉ A := by
  unfold movesAt at h
  split at h
  · simp at h
  · rename_i hA
    rw [List.mem_mapIdx] at h
    obtain ⟨i, hi, rfl⟩ := h
    have hg := List.getElem_mem hi
    rw [List.mem_filter] at hg
    refine ⟨rfl, ?_, hg.1, (by simpa using hg.2 : (withoutL B A)[i] ∉ A)⟩
    show ((withoutL A B)[i]?).getD (A.headD 0) ∈ A
    cases e : (withoutL A B)[i]? with
    | none =>
      cases A with
      | nil => exact absurd rfl hA
      | cons a r => simp
    | some x => exact (List.mem_filter.1 (List.mem_of_getElem? e)).1
theorem mem_movesTo {a b : Rng} {k : Nat} {m : Dot} (h : m ∈ movesTo a b k) : ∃ q : Nat, q < k ∧ m ∈ movesAt (ownersR a q) (ownersR b q) q := by
  unfold movesTo at h
  rw [List.mem_flatMap] at h
  obtain ⟨q, h1, h2⟩ := h
  exact ⟨q, List.mem_range.1 h1, h2⟩
def gotL (p : Int) (l : List Dot) : List Int := (l.filter fun m => decide (m.node = p)).map (·.count)
theorem gotL_app (p : Int) (l l' : List Dot) : gotL p (l ++ l') = gotL p l ++ gotL p l' := by unfold gotL; rw [List.filter_append, List.map_append]
theorem gotL_snoc (p : Int) (l : List Dot) (m : Dot) : gotL p (l ++ [m]) = gotL p l ++ if m.node = p then [m.count] else [] := by
  rw [gotL_app]
  congr 1
  by_cases h : m.node = p <;> simp [h, gotL]
theorem gotL_le (p : Int) (l : List Dot) : (gotL p l).length ≤ l.length := by
  unfold gotL
  rw [List.length_map]
  exact List.length_filter_le _ _
theorem gotL_at (A B : List Int) (p q : Int) : gotL p (movesAt A B q) = if p = q ∧ A ≠ [] then withoutL B A else [] := by
  by_cases hp : p = q
  · subst hp
    have : (movesAt A B p).filter (fun m => decide (m.node = p)) = movesAt A B p := List.filter_eq_self.2 fun m hm => by simpa using (mem_movesAt hm).1
    unfold gotL
    rw [this]
    unfold movesAt
    by_cases hA : A = []
    · simp [hA]
    · rw [if_neg hA, if_pos ⟨rfl, hA⟩]
      refine List.ext_getElem? fun i => ?_
      rw [List.getElem?_map, List.getElem?_mapIdx]
      cases (withoutL B A)[i]? <;> rfl
  · have : (movesAt A B q).filter (fun m => decide (m.node = p)) = [] := List.filter_eq_nil_iff.2 fun m hm => by
      rw [(mem_movesAt hm).1]
      simpa using fun e => hp e.symm
    unfold gotL
    rw [this, if_neg (fun h => hp h.1)]
    rfl
theorem gotL_to (a b : Rng) (q : Nat) : ∀ k : Nat, gotL q (movesTo a b k) = if q < k ∧ ownersR a q ≠ [] then withoutL (ownersR b q) (ownersR a q) else []
  | 0 => by simp [movesTo, gotL]
  | k + 1 => by
    rw [movesTo_next, gotL_app, gotL_to a b q k, gotL_at]
    by_cases e : q = k
    · subst e
      simp
    · have h1 : ¬ ((q : Int) = (k : Int) ∧ ownersR a k ≠ []) := fun h => e (by omega)
      rw [if_neg h1, List.append_nil]
      by_cases h2 : q < k ∧ ownersR a q ≠ []
      · rw [if_pos h2, if_pos ⟨by omega, h2.2⟩]
      · rw [if_neg h2, if_neg fun h => h2 ⟨by omega, h.2⟩]
theorem movesAt_one {A B : List Int} {p : Int} (h : (withoutL B A).length ≤ 1) : (movesAt A B p).length ≤ 1 := by
  unfold movesAt
  split
  · exact Nat.zero_le _
  · rw [List.length_mapIdx]; exact h
theorem movesTo_rise {a b : Rng} : ∀ {k : Nat}, (∀ q : Nat, q < k → (movesAt (ownersR a q) (ownersR b q) q).length ≤ 1) → (movesTo a b k).Pairwise (fun x y => x.node < y.node)
  | 0, _ => by simp [movesTo]
  | k + 1, h => by
    rw [movesTo_next, List.pairwise_append]
    refine ⟨movesTo_rise fun q hq => h q (by omega), ?_, fun x hx y hy => ?_⟩
    · have h1 := h k (by omega)
      rcases e : movesAt (ownersR a k) (ownersR b k) k with _ | ⟨x, _ | ⟨y, r⟩⟩
      · exact List.Pairwise.nil
      · exact List.pairwise_singleton _ _
      · rw [e] at h1; simp at h1
    · obtain ⟨q, h1, h2⟩ := mem_movesTo hx
      rw [(mem_movesAt h2).1, (mem_movesAt hy).1]
      omega
theorem join_one {W : List Int} {n : Int} (hW : W.Nodup) (hn : n ∈ W) (c : Nat) {la lb : List Int} (ha : la = (W.filter fun x => !decide (x = n)).take c) (hb : lb = W.take c) : (withoutL lb la).length ≤ 1 ∧ ∀ x ∈ withoutL lb la, x = n := by
  obtain ⟨r, h1, h2, h3, h4, h5⟩ := cut_filter hW hn c
  rw [← ha, ← hb] at h1
  have key : ∀ x ∈ withoutL lb la, x = n := fun x hx => by
    rw [List.mem_filter] at hx
    refine Decidable.byContradiction fun hne => ?_
    have : x ∈ lb.filter (fun x => !decide (x = n)) := List.mem_filter.2 ⟨hx.1, by simpa using hne⟩
    rw [h1] at this
    exact absurd (List.mem_of_mem_take this) (by simpa using hx.2)
  refine ⟨?_, key⟩
  have hnd : (withoutL lb la).Nodup := (by rw [hb]; exact hW.sublist (List.take_sublist _ _) : lb.Nodup).sublist List.filter_sublist
  rcases e : withoutL lb la with _ | ⟨x, _ | ⟨y, r⟩⟩
  · exact Nat.zero_le _
  · exact Nat.le_refl _
  · rw [e] at hnd key
    have e1 := key x (by simp)
    have e2 := key y (by simp)
    rw [e1, e2] at hnd
    simp at hnd
theorem leave_one {W : List Int} {n : Int} (hW : W.Nodup) (hn : n ∈ W) (c : Nat) {la lb : List Int} (ha : la = W.take c) (hb : lb = (W.filter fun x => !decide (x = n)).take c) (p : Int) :
    (withoutL lb la).length ≤ 1 ∧ ∀ m ∈ movesAt la lb p, m.count ≠ n ∧ m.life = n := by
  obtain ⟨r, h1, h2, h3, h4, h5⟩ := cut_filter hW hn c
  rw [← ha, ← hb] at h1 h5
  rw [← hb] at h2
  have hnb : n ∉ lb := fun h => by
    rw [hb] at h
    have := List.mem_of_mem_take h
    simp at this
  have hsp : withoutL lb la = withoutL (lb.drop r) la := by
    unfold withoutL
    rw [← List.take_append_drop r lb, List.filter_append, List.take_append_drop]
    rw [show (lb.take r).filter (fun x => !decide (x ∈ la)) = [] from List.filter_eq_nil_iff.2 fun x hx => by
      rw [← h1] at hx
      have := (List.mem_filter.1 hx).1
      simpa using this]
    rfl
  have hle : (withoutL lb la).length ≤ 1 := by
    rw [hsp]
    refine Nat.le_trans (withoutL_le _ _) ?_
    rw [List.length_drop]
    omega
  refine ⟨hle, fun m hm => ?_⟩
  have hm2 := mem_movesAt hm
  refine ⟨fun e => hnb (e ▸ hm2.2.2.1), ?_⟩
  have hin : m.count ∈ withoutL lb la := List.mem_filter.2 ⟨hm2.2.2.1, by simpa using hm2.2.2.2⟩
  have hpos : 0 < (withoutL (lb.drop r) la).length := by rw [← hsp]; exact List.length_pos_of_mem hin
  have hdr := withoutL_le (lb.drop r) la
  rw [List.length_drop] at hdr
  have hla : la.length = r + 1 := by omega
  have hnl : n ∈ la := Decidable.byContradiction fun hno => by
    have : la.filter (fun x => !decide (x = n)) = la := List.filter_eq_self.2 fun x hx => by simp only [Bool.not_eq_true', decide_eq_false_iff_not]; exact fun e => hno (e ▸ hx)
    rw [this] at h1
    have := congrArg List.length h1
    rw [List.length_take] at this
    omega
  have hall : ∀ x ∈ withoutL la lb, x = n := fun x hx => by
    rw [List.mem_filter] at hx
    refine Decidable.byContradiction fun hne => ?_
    have : x ∈ la.filter (fun x => !decide (x = n)) := List.mem_filter.2 ⟨hx.1, by simpa using hne⟩
    rw [h1] at this
    exact absurd (List.mem_of_mem_take this) (by simpa using hx.2)
  have hnw : n ∈ withoutL la lb := List.mem_filter.2 ⟨hnl, by simpa using hnb⟩
  unfold movesAt at hm
  split at hm
  · simp at hm
  · rw [List.mem_mapIdx] at hm
    obtain ⟨i, hi, rfl⟩ := hm
    obtain rfl : i = 0 := by omega
    show ((withoutL la lb)[0]?).getD (la.headD 0) = n
    cases e : withoutL la lb with
    | nil => rw [e] at hnw; simp at hnw
    | cons x t => exact hall x (by rw [e]; simp)
end Go.Fw
set_option linter.unusedVariables false
set_option linter.unusedSimpArgs false
set_option maxRecDepth 100000
set_option maxHeartbeats 4000000
namespace Go.Proofs.Ytcglchdbddlnjaa
open Go.Fw Go.Proofs Go.RowKit
theorem c31 (w0 : World) (x : Int) (g : Nat) (v' : Value) (m : List Int) (hc : w0.cell? ⟨g, 0, none⟩ = some v') (h : Sl encI 1 w0 w0.heap.size v' m) :
    Calls Try.prog 31 #[.int .i64 x, .pointer (some ⟨g, 0, none⟩)] w0 fun e w' => e = .returned (.bool (decide (x ∈ m))) ∧ Bel w0.heap.size w0 w' := by
  refine enter2 Try.func31 rfl Try.ntmps31 rfl fun a S => ?_
  refine wp_seq_k fun _ hK1 => ?_
  refine wp_region_lit ?_
  (refine st_y S (Yr.ys (ys_assign Ev.c)) rfl ?_; clear S a; intro a w S)
  refine st_nil ?_
  (refine (then_normal (hK1 _ _ ?_)); clear hK1)
  refine wp_seq_k fun _ hK1 => ?_
  refine wp_region_lit ?_
  (refine st_y S (Yr.ys (ys_ldO ⟨Try.isAgg40, Try.sizeOf40⟩ (Ev.t rfl) (fun _ => hc))) rfl ?_; clear S a w; intro a w S)
  (refine st_y S (Yr.ys (ys_move (Ev.t rfl))) rfl ?_; clear S a w; intro a w S)
  (refine st_y S (ys_call Try.call28 (EvL.cons (Ev.t rfl) (EvL.cons (Ev.t rfl) EvL.nil)) (fun hp w W => c28 _ _ _ _ (by exact .old W (by assumption)))) rfl ?_; clear S a w; intro a w S)
  (refine st_y S (Yr.ys (ys_assign (Ev.t rfl))) rfl ?_; clear S a w; intro a w S)
  refine st_nil ?_
  (refine (then_normal (hK1 _ _ ?_)); clear hK1)
  refine wp_ret ?_
  refine st_ret S (results1 S Try.results31 (Rv.tmp rfl)) ?_
  exact ⟨rfl, S.wd.below⟩
theorem r29 {w0 w : World} {L : List Chunk} {A A2 : Option Addr} {cap cp2 g : Nat} {l m : List Int} (W : Wd w0 (rowOf 3 1 encI A cap l :: .blk g (.cells #[.slice A2 m.length cp2] 40) :: rowOf 3 1 encI A2 cp2 m :: L) w) (hn : l.length ≤ 4194304) :
    RetsO Try.prog 29 #[.slice A l.length cap, .func (.func 31) #[] #[.pointer (some ⟨g, 0, none⟩)]] w0 w fun v L' => v = .slice A (withoutL l m).length cap ∧ L' = rowOf 3 1 encI A cap (withoutL l m) :: .blk g (.cells #[.slice A2 m.length cp2] 40) :: rowOf 3 1 encI A2 cp2 m :: L :=
  x29 _ [.pointer (some ⟨g, 0, none⟩)] (fun x => decide (x ∈ m)) Try.call31 W (fun w' W' x => c31 w' x g _ m (Wd.cell W' (k := 0) rfl rfl) (Sl.of_own W' (k := 1) rfl (fun _ => rfl))) hn
theorem c6 (w0 : World) (p c s : Int) (v : Value) (l : List Mbr) (h : Sl Mbr.enc 4 w0 w0.heap.size v l) (hn : l.length ≤ 1048576) (p' c' s' : Int) (v' : Value) (l' : List Mbr) (h' : Sl Mbr.enc 4 w0 w0.heap.size v' l') (hn' : l'.length ≤ 1048576) :
    Calls Try.prog 6 #[.agg #[.int .i64 p, .int .i64 c, .int .i64 s, v], .agg #[.int .i64 p', .int .i64 c', .int .i64 s', v']] w0 fun e w' => e = .returned (.bool true) ∧ Bel w0.heap.size w0 w' := by
  by_cases hm : mergeOk ⟨p, c, s, l⟩ ⟨p', c', s', l'⟩
  rotate_left
  · have rw_m1 : (movesR ⟨p, c, s, l⟩ ⟨p', c', s', l'⟩).1 = [] := by unfold movesR; rw [if_neg hm]
    have rw_m2 : (movesR ⟨p, c, s, l⟩ ⟨p', c', s', l'⟩).2 = 60 := by unfold movesR; rw [if_neg hm]
    refine enter2 Try.func6 rfl Try.ntmps6 rfl fun a S => ?_
    refine wp_seq_k fun _ hK1 => ?_
    refine wp_region_lit ?_
    (refine st_m (op_box S (Ev.t rfl) rfl ?_); clear S a; intro g1 a w S)
    (refine st_m (op_box S (Ev.t rfl) rfl ?_); clear S a w; intro g2 a w S)
    (refine st_y S (Yr.ys (ys_assign Ev.c)) rfl ?_; clear S a w; intro a w S)
    refine st_nil ?_
    (refine (then_normal (hK1 _ _ ?_)); clear hK1)
    refine wp_seq_k fun _ hK1 => ?_
    (refine h_begin0 S (by kernel_rfl) ?_; clear S a w; intro a w S)
    (refine h_y (i := 0) S (by repeat (first | exact List.Sublist.refl _ | exact List.nil_sublist _ | refine .cons_cons _ ?_ | refine .cons _ ?_)) rfl (by kernel_rfl) (by kernel_rfl) (by kernel_rfl) (fun _ _ _ _ h => h) (ys_ldA ⟨Try.isAgg24, Try.sizeOf24⟩ (Ev.t rfl) (k := 1) rfl rfl) rfl ?_; clear S a w; intro a w S)
    (refine h_y (i := 2) S (by repeat (first | exact List.Sublist.refl _ | exact List.nil_sublist _ | refine .cons_cons _ ?_ | refine .cons _ ?_)) rfl (by kernel_rfl) (by kernel_rfl) (by kernel_rfl) (fun _ _ _ _ h => h) (ys_ldA ⟨Try.isAgg24, Try.sizeOf24⟩ (Ev.t rfl) (k := 0) rfl rfl) rfl ?_; clear S a w; intro a w S)
    (refine h_m (i := 1) rfl (by kernel_rfl) (op_calls S Try.call19 (EvL.cons (Ev.t rfl) EvL.nil) (c19 _ _ _ _ _ _ (by exact .old S.wd (by assumption)) (by omega)) rfl ?_); clear S a w; rintro _ _ ⟨A1, cp1, rfl, rfl⟩ a w S; refine h_on S _ (by repeat (first | exact List.Sublist.refl _ | exact List.nil_sublist _ | refine .cons_cons _ ?_ | refine .cons _ ?_)) (List.Sublist.refl _) ?_)
    (refine h_m (i := 3) rfl (by kernel_rfl) (op_calls S Try.call19 (EvL.cons (Ev.t rfl) EvL.nil) (c19 _ _ _ _ _ _ (by exact .old S.wd (by assumption)) (by omega)) rfl ?_); clear S a w; rintro _ _ ⟨A2, cp2, rfl, rfl⟩ a w S; refine h_on S _ (by repeat (first | exact List.Sublist.refl _ | exact List.nil_sublist _ | refine .cons_cons _ ?_ | refine .cons _ ?_)) (List.Sublist.refl _) ?_)
    (refine h_m (i := 4) rfl (by kernel_rfl) (op_calls S Try.call18 (EvL.cons (Ev.t rfl) (EvL.cons (Ev.t rfl) EvL.nil)) (c18 _ _ _ _ _ _ (by exact Sl.of_own S.wd (k := 1) rfl (fun _ => rfl)) (by omega) _ _ _ _ _ (by exact Sl.of_own S.wd (k := 0) rfl (fun _ => rfl)) (by omega)) rfl ?_); clear S a w; rintro _ _ ⟨A3, cp3, rfl, rfl⟩ a w S; refine h_on S _ (by repeat (first | exact List.Sublist.refl _ | exact List.nil_sublist _ | refine .cons_cons _ ?_ | refine .cons _ ?_)) (List.Sublist.refl _) ?_)
    rw [rw_m1] at S ⊢
    rw [rw_m2] at S
    (refine h_y (i := 5) S (by repeat (first | exact List.Sublist.refl _ | exact List.nil_sublist _ | refine .cons_cons _ ?_ | refine .cons _ ?_)) rfl (by kernel_rfl) (by kernel_rfl) (by kernel_rfl) (fun _ _ _ _ h => h) (ys_move (Ev.t rfl)) rfl ?_; clear S a w; intro a w S)
    (refine h_y (i := 6) S (by repeat (first | exact List.Sublist.refl _ | exact List.nil_sublist _ | refine .cons_cons _ ?_ | refine .cons _ ?_)) rfl (by kernel_rfl) (by kernel_rfl) (by kernel_rfl) (fun _ _ _ _ h => h) (ys_ext (Ev.t rfl) rfl) rfl ?_; clear S a w; intro a w S)
    (refine h_y (i := 7) S (by repeat (first | exact List.Sublist.refl _ | exact List.nil_sublist _ | refine .cons_cons _ ?_ | refine .cons _ ?_)) rfl (by kernel_rfl) (by kernel_rfl) (by kernel_rfl) (fun _ _ _ _ h => h) (ys_ext (Ev.t rfl) rfl) rfl ?_; clear S a w; intro a w S)
    (refine h_y (i := 8) S (by repeat (first | exact List.Sublist.refl _ | exact List.nil_sublist _ | refine .cons_cons _ ?_ | refine .cons _ ?_)) rfl (by kernel_rfl) (by kernel_rfl) (by kernel_rfl) (fun _ _ _ _ h => h) (ys_assign (Ev.t rfl)) rfl ?_; clear S a w; intro a w S)
    (refine h_y (i := 9) S (by repeat (first | exact List.Sublist.refl _ | exact List.nil_sublist _ | refine .cons_cons _ ?_ | refine .cons _ ?_)) rfl (by kernel_rfl) (by kernel_rfl) (by kernel_rfl) (fun _ _ _ _ h => h) (ys_assign (Ev.t rfl)) rfl ?_; clear S a w; intro a w S)
    refine h_done (by kernel_rfl) ?_
    (refine (then_normal (hK1 _ _ ?_)); clear hK1)
    refine wp_seq_k fun _ hK1 => ?_
    refine wp_seq_k fun _ hK2 => ?_
    refine wp_region_lit ?_
    (refine st_y S (Yr.ys (ys_move (Ev.t rfl))) rfl ?_; clear S a w; intro a w S)
    (refine st_y S (Yr.ys (ys_T (by omega) (ys_neq (Ev.t rfl) Ev.c))) rfl ?_; clear S a w; intro a w S)
    (refine st_y S (Yr.ys (ys_move (Ev.t rfl))) rfl ?_; clear S a w; intro a w S)
    (refine st_skip S rfl rfl rfl rfl ?_; clear S a w; intro a w S)
    (refine st_skip S rfl rfl rfl rfl ?_; clear S a w; intro a w S)
    (refine st_y S (Yr.ys (ys_pickT (Ev.t rfl) Ev.c)) rfl ?_; clear S a w; intro a w S)
    refine st_nil ?_
    (refine (then_normal (hK2 _ _ ?_)); clear hK2)
    refine st_then S (Ev.t rfl) ?_
    refine wp_seq_k fun _ hK2 => ?_
    refine wp_region_lit ?_
    (refine st_y S (ys_call Try.call21 EvL.nil (fun hp w W => c21 _)) rfl ?_; clear S a w; intro a w S)
    (refine st_y S (Yr.ys (ys_assign (Ev.t rfl))) rfl ?_; clear S a w; intro a w S)
    refine st_nil ?_
    (refine (then_normal (hK2 _ _ ?_)); clear hK2)
    refine wp_ret ?_
    refine (then_ret ?_)
    refine st_ret S (results1 S Try.results6 (Rv.tmp rfl)) ?_
    all_goals exact ⟨rfl, S.wd.below⟩
  have hp := parts_le hm.1.1.1
  obtain ⟨pn, rfl⟩ : ∃ m : Nat, p = m := ⟨p.toNat, by dsimp only at hp; omega⟩
  dsimp only at hp
  have rw_m1 : (movesR ⟨pn, c, s, l⟩ ⟨p', c', s', l'⟩).1 = movesTo ⟨pn, c, s, l⟩ ⟨p', c', s', l'⟩ pn := by unfold movesR; rw [if_pos hm, Int.toNat_natCast]
  have rw_m2 : (movesR ⟨pn, c, s, l⟩ ⟨p', c', s', l'⟩).2 = 0 := by unfold movesR; rw [if_pos hm]
  have hM : ∀ (q : Nat) (m : Dot), m ∈ movesTo ⟨pn, c, s, l⟩ ⟨p', c', s', l'⟩ pn → m.node = q → m.life ∈ ownersR ⟨pn, c, s, l⟩ q ∧ m.count ∉ ownersR ⟨pn, c, s, l⟩ q ∧ m.count ∈ ownersR ⟨p', c', s', l'⟩ q := fun q m hmm e => by
    obtain ⟨q', h1, h2⟩ := mem_movesTo hmm
    have h3 := mem_movesAt h2
    obtain rfl : q = q' := by omega
    exact ⟨h3.2.1, h3.2.2.2, h3.2.2.1⟩
  have hG : ∀ q : Nat, q < pn → gotL q (movesTo ⟨pn, c, s, l⟩ ⟨p', c', s', l'⟩ pn) = if ownersR ⟨pn, c, s, l⟩ q ≠ [] then withoutL (ownersR ⟨p', c', s', l'⟩ q) (ownersR ⟨pn, c, s, l⟩ q) else [] := fun q hq => by
    rw [gotL_to]
    by_cases e : ownersR ⟨pn, c, s, l⟩ q ≠ []
    · rw [if_pos e, if_pos ⟨hq, e⟩]
    · rw [if_neg e, if_neg fun h => e h.2]
  have hMl := movesTo_len ⟨pn, c, s, l⟩ ⟨p', c', s', l'⟩ pn
  generalize movesTo ⟨pn, c, s, l⟩ ⟨p', c', s', l'⟩ pn = M at *
  refine enter2 Try.func6 rfl Try.ntmps6 rfl fun a S => ?_
  refine wp_seq_k fun _ hK1 => ?_
  refine wp_region_lit ?_
  (refine st_m (op_box S (Ev.t rfl) rfl ?_); clear S a; intro g1 a w S)
  (refine st_m (op_box S (Ev.t rfl) rfl ?_); clear S a w; intro g2 a w S)
  (refine st_y S (Yr.ys (ys_assign Ev.c)) rfl ?_; clear S a w; intro a w S)
  refine st_nil ?_
  (refine (then_normal (hK1 _ _ ?_)); clear hK1)
  refine wp_seq_k fun _ hK1 => ?_
  (refine h_begin0 S (by kernel_rfl) ?_; clear S a w; intro a w S)
  (refine h_y (i := 0) S (by repeat (first | exact List.Sublist.refl _ | exact List.nil_sublist _ | refine .cons_cons _ ?_ | refine .cons _ ?_)) rfl (by kernel_rfl) (by kernel_rfl) (by kernel_rfl) (fun _ _ _ _ h => h) (ys_ldA ⟨Try.isAgg24, Try.sizeOf24⟩ (Ev.t rfl) (k := 1) rfl rfl) rfl ?_; clear S a w; intro a w S)
  (refine h_y (i := 2) S (by repeat (first | exact List.Sublist.refl _ | exact List.nil_sublist _ | refine .cons_cons _ ?_ | refine .cons _ ?_)) rfl (by kernel_rfl) (by kernel_rfl) (by kernel_rfl) (fun _ _ _ _ h => h) (ys_ldA ⟨Try.isAgg24, Try.sizeOf24⟩ (Ev.t rfl) (k := 0) rfl rfl) rfl ?_; clear S a w; intro a w S)
  (refine h_m (i := 1) rfl (by kernel_rfl) (op_calls S Try.call19 (EvL.cons (Ev.t rfl) EvL.nil) (c19 _ _ _ _ _ _ (by exact .old S.wd (by assumption)) (by omega)) rfl ?_); clear S a w; rintro _ _ ⟨A1, cp1, rfl, rfl⟩ a w S; refine h_on S _ (by repeat (first | exact List.Sublist.refl _ | exact List.nil_sublist _ | refine .cons_cons _ ?_ | refine .cons _ ?_)) (List.Sublist.refl _) ?_)
  (refine h_m (i := 3) rfl (by kernel_rfl) (op_calls S Try.call19 (EvL.cons (Ev.t rfl) EvL.nil) (c19 _ _ _ _ _ _ (by exact .old S.wd (by assumption)) (by omega)) rfl ?_); clear S a w; rintro _ _ ⟨A2, cp2, rfl, rfl⟩ a w S; refine h_on S _ (by repeat (first | exact List.Sublist.refl _ | exact List.nil_sublist _ | refine .cons_cons _ ?_ | refine .cons _ ?_)) (List.Sublist.refl _) ?_)
  (refine h_m (i := 4) rfl (by kernel_rfl) (op_calls S Try.call18 (EvL.cons (Ev.t rfl) (EvL.cons (Ev.t rfl) EvL.nil)) (c18 _ _ _ _ _ _ (by exact Sl.of_own S.wd (k := 1) rfl (fun _ => rfl)) (by omega) _ _ _ _ _ (by exact Sl.of_own S.wd (k := 0) rfl (fun _ => rfl)) (by omega)) rfl ?_); clear S a w; rintro _ _ ⟨A3, cp3, rfl, rfl⟩ a w S; refine h_on S _ (by repeat (first | exact List.Sublist.refl _ | exact List.nil_sublist _ | refine .cons_cons _ ?_ | refine .cons _ ?_)) (List.Sublist.refl _) ?_)
  rw [rw_m2] at S
  rw [rw_m1] at S ⊢
  (refine h_y (i := 5) S (by repeat (first | exact List.Sublist.refl _ | exact List.nil_sublist _ | refine .cons_cons _ ?_ | refine .cons _ ?_)) rfl (by kernel_rfl) (by kernel_rfl) (by kernel_rfl) (fun _ _ _ _ h => h) (ys_move (Ev.t rfl)) rfl ?_; clear S a w; intro a w S)
  (refine h_y (i := 6) S (by repeat (first | exact List.Sublist.refl _ | exact List.nil_sublist _ | refine .cons_cons _ ?_ | refine .cons _ ?_)) rfl (by kernel_rfl) (by kernel_rfl) (by kernel_rfl) (fun _ _ _ _ h => h) (ys_ext (Ev.t rfl) rfl) rfl ?_; clear S a w; intro a w S)
  (refine h_y (i := 7) S (by repeat (first | exact List.Sublist.refl _ | exact List.nil_sublist _ | refine .cons_cons _ ?_ | refine .cons _ ?_)) rfl (by kernel_rfl) (by kernel_rfl) (by kernel_rfl) (fun _ _ _ _ h => h) (ys_ext (Ev.t rfl) rfl) rfl ?_; clear S a w; intro a w S)
  (refine h_y (i := 8) S (by repeat (first | exact List.Sublist.refl _ | exact List.nil_sublist _ | refine .cons_cons _ ?_ | refine .cons _ ?_)) rfl (by kernel_rfl) (by kernel_rfl) (by kernel_rfl) (fun _ _ _ _ h => h) (ys_assign (Ev.t rfl)) rfl ?_; clear S a w; intro a w S)
  (refine h_y (i := 9) S (by repeat (first | exact List.Sublist.refl _ | exact List.nil_sublist _ | refine .cons_cons _ ?_ | refine .cons _ ?_)) rfl (by kernel_rfl) (by kernel_rfl) (by kernel_rfl) (fun _ _ _ _ h => h) (ys_assign (Ev.t rfl)) rfl ?_; clear S a w; intro a w S)
  refine h_done (by kernel_rfl) ?_
  (refine (then_normal (hK1 _ _ ?_)); clear hK1)
  refine wp_seq_k fun _ hK1 => ?_
  refine wp_seq_k fun _ hK2 => ?_
  refine wp_region_lit ?_
  (refine st_y S (Yr.ys (ys_move (Ev.t rfl))) rfl ?_; clear S a w; intro a w S)
  (refine st_y S (Yr.ys (ys_F (by omega) (ys_neq (Ev.t rfl) Ev.c))) rfl ?_; clear S a w; intro a w S)
  (refine st_y S (Yr.ys (ys_move (Ev.t rfl))) rfl ?_; clear S a w; intro a w S)
  (refine st_yt S rfl rfl (ys_call Try.call21 EvL.nil (fun hp w W => c21 _)) rfl ?_; clear S a w; intro a w S)
  (refine st_yt S rfl rfl (Yr.ys (ys_not (Ev.t rfl))) rfl ?_; clear S a w; intro a w S)
  (refine st_y S (Yr.ys (ys_pickF (Ev.t rfl) (Ev.t rfl))) rfl ?_; clear S a w; intro a w S)
  refine st_nil ?_
  (refine (then_normal (hK2 _ _ ?_)); clear hK2)
  refine st_else S (Ev.t rfl) ?_
  refine wp_skip ?_
  (refine (then_normal (hK1 _ _ ?_)); clear hK1)
  refine wp_seq_k fun _ hK1 => ?_
  refine wp_seq_k fun _ hK2 => ?_
  refine wp_region_lit ?_
  (refine st_y S (Yr.ys (ys_fieldN (FieldT.mk Try.underlying24 rfl Try.sizeOf3 rfl) (Ev.t rfl) (i' := 0) rfl)) rfl ?_; clear S a w; intro a w S)
  (refine st_y S (Yr.ys (ys_ld ⟨Try.isAgg3, Try.sizeOf3⟩ (Ev.t rfl) (k := 4) rfl rfl)) rfl ?_; clear S a w; intro a w S)
  (refine st_y S (Yr.ys (ys_move Ev.c)) rfl ?_; clear S a w; intro a w S)
  refine st_nil ?_
  (refine (then_normal (hK2 _ _ ?_)); clear hK2)
  refine wp_block ?_
  replace S : St 98 w0 [(31, true, .int .i64 0), (30, true, .int .i64 (pn : Int)), (5, true, .slice A3 M.length cp3), (3, true, .pointer (some ⟨g2, 0, none⟩)), (2, true, .pointer (some ⟨g1, 0, none⟩))]
    [rowOf 36 3 Dot.enc A3 cp3 M, .blk g2 (.cells #[.int .i64 p', .int .i64 c', .int .i64 s', v'] 24), .blk g1 (.cells #[.int .i64 pn, .int .i64 c, .int .i64 s, v] 24)] a w := S.picks (by repeat (first | exact Fits.nil | refine Fits.skip rfl ?_ | refine Fits.cons rfl ?_)) (by repeat (first | exact Picks.nil | (refine Picks.rest ?_; (repeat (first | exact List.Sublist.refl _ | refine List.Sublist.cons_cons _ ?_ | refine List.Sublist.cons _ ?_)); done) | refine Picks.take 0 rfl ?_ | refine Picks.take 1 rfl ?_ | refine Picks.take 2 rfl ?_ | refine Picks.take 3 rfl ?_ | refine Picks.take 4 rfl ?_ | refine Picks.take 5 rfl ?_ | refine Picks.take 6 rfl ?_ | refine Picks.take 7 rfl ?_ | refine Picks.take 8 rfl ?_ | refine Picks.take 9 rfl ?_ | refine Picks.take 10 rfl ?_ | refine Picks.take 11 rfl ?_))
  refine st_loopM S [4, 31] (X := Nat) (fun k => [(31, true, .int .i64 (k : Int))])
    (fun _ => [rowOf 36 3 Dot.enc A3 cp3 M, .blk g2 (.cells #[.int .i64 p', .int .i64 c', .int .i64 s', v'] 24), .blk g1 (.cells #[.int .i64 pn, .int .i64 c, .int .i64 s, v] 24)])
    (fun k => k ≤ pn) (fun k => pn - k) 0 (Nat.zero_le _) (by repeat (first | exact Fits.nil | refine Fits.skip rfl ?_ | refine Fits.cons rfl ?_)) (by repeat (first | exact Picks.nil | (refine Picks.rest ?_; (repeat (first | exact List.Sublist.refl _ | refine List.Sublist.cons_cons _ ?_ | refine List.Sublist.cons _ ?_)); done) | refine Picks.take 0 rfl ?_ | refine Picks.take 1 rfl ?_ | refine Picks.take 2 rfl ?_ | refine Picks.take 3 rfl ?_ | refine Picks.take 4 rfl ?_ | refine Picks.take 5 rfl ?_ | refine Picks.take 6 rfl ?_ | refine Picks.take 7 rfl ?_ | refine Picks.take 8 rfl ?_ | refine Picks.take 9 rfl ?_ | refine Picks.take 10 rfl ?_ | refine Picks.take 11 rfl ?_)) ?_
  clear S
  intro k a w hk S
  by_cases hlt : k < pn
  rotate_left
  · obtain rfl : k = pn := by omega
    refine wp_seq_k fun _ hK2 => ?_
    refine wp_region_lit ?_
    (refine st_y S (Yr.ys (ys_F (by omega) (ys_lss (Ev.t rfl) (Ev.t rfl)))) rfl ?_; clear S a w; intro a w S)
    refine st_nil ?_
    (refine (then_normal (hK2 _ _ ?_)); clear hK2)
    refine wp_seq_k fun _ hK2 => ?_
    refine st_else S (Ev.t rfl) ?_
    refine wp_exit ?_
    (refine (then_exit (then_exit (in_here (then_normal (hK1 _ _ ?_))))); clear hK1)
    refine wp_seq_k fun _ hK1 => ?_
    refine wp_region_lit ?_
    (refine st_y S (Yr.ys (ys_assign Ev.c)) rfl ?_; clear S a w; intro a w S)
    refine st_nil ?_
    (refine (then_normal (hK1 _ _ ?_)); clear hK1)
    refine wp_ret ?_
    refine st_ret S (results1 S Try.results6 (Rv.tmp rfl)) ?_
    exact ⟨rfl, S.wd.below⟩
  have hMk := hM k
  have hGk := hG k hlt
  have hA8 := owners_len ⟨pn, c, s, l⟩ k
  have hB8 := owners_len ⟨p', c', s', l'⟩ k
  generalize rw_A : ownersR ⟨pn, c, s, l⟩ k = A at *
  generalize rw_B : ownersR ⟨p', c', s', l'⟩ k = B at *
  refine wp_seq_k fun _ hK2 => ?_
  refine wp_region_lit ?_
  (refine st_y S (Yr.ys (ys_T (by omega) (ys_lss (Ev.t rfl) (Ev.t rfl)))) rfl ?_; clear S a w; intro a w S)
  refine st_nil ?_
  (refine (then_normal (hK2 _ _ ?_)); clear hK2)
  refine wp_seq_k fun _ hK2 => ?_
  refine st_then S (Ev.t rfl) ?_
  refine wp_skip ?_
  (refine (then_normal (hK2 _ _ ?_)); clear hK2)
  refine wp_seq_k fun _ hK2 => ?_
  refine wp_block ?_
  refine wp_seq_k fun _ hK3 => ?_
  refine wp_region_lit ?_
  (refine st_y S (Yr.ys (ys_move (Ev.t rfl))) rfl ?_; clear S a w; intro a w S)
  (refine st_y S (Yr.ys (ys_assign (Ev.t rfl))) rfl ?_; clear S a w; intro a w S)
  refine st_nil ?_
  (refine (then_normal (hK3 _ _ ?_)); clear hK3)
  refine wp_seq_k fun _ hK1 => ?_
  refine Code.wp_mono (Q := fun e a w => match e with
    | .normal => ∃ ga A1 c1 A2 c2, St 98 w0 [(9, true, .slice A2 B.length c2), (8, true, .pointer (some ⟨ga, 0, none⟩)), (7, true, .int .i64 (k : Int)), (31, true, .int .i64 (k : Int)), (30, true, .int .i64 (pn : Int)), (5, true, .slice A3 M.length cp3), (3, true, .pointer (some ⟨g2, 0, none⟩)), (2, true, .pointer (some ⟨g1, 0, none⟩))]
        [.blk ga (.cells #[.slice A1 A.length c1] 40), rowOf 3 1 encI A1 c1 A, rowOf 3 1 encI A2 c2 B, rowOf 36 3 Dot.enc A3 cp3 M, .blk g2 (.cells #[.int .i64 p', .int .i64 c', .int .i64 s', v'] 24), .blk g1 (.cells #[.int .i64 pn, .int .i64 c, .int .i64 s, v] 24)] a w
    | _ => False) (fun e a w q => ?_) ?_
  rotate_left
  · (refine h_begin0 S (by kernel_rfl) ?_; clear S a w; intro a w S)
    (refine h_y (i := 0) S (by repeat (first | exact List.Sublist.refl _ | exact List.nil_sublist _ | refine .cons_cons _ ?_ | refine .cons _ ?_)) rfl (by kernel_rfl) (by kernel_rfl) (by kernel_rfl) (fun _ _ _ _ h => h) (ys_ldA ⟨Try.isAgg24, Try.sizeOf24⟩ (Ev.t rfl) (k := 2) rfl rfl) rfl ?_; clear S a w; intro a w S)
    (refine h_y (i := 1) S (by repeat (first | exact List.Sublist.refl _ | exact List.nil_sublist _ | refine .cons_cons _ ?_ | refine .cons _ ?_)) rfl (by kernel_rfl) (by kernel_rfl) (by kernel_rfl) (fun _ _ _ _ h => h) (ys_move (Ev.t rfl)) rfl ?_; clear S a w; intro a w S)
    (refine h_y (i := 3) S (by repeat (first | exact List.Sublist.refl _ | exact List.nil_sublist _ | refine .cons_cons _ ?_ | refine .cons _ ?_)) rfl (by kernel_rfl) (by kernel_rfl) (by kernel_rfl) (fun _ _ _ _ h => h) (ys_ldA ⟨Try.isAgg24, Try.sizeOf24⟩ (Ev.t rfl) (k := 1) rfl rfl) rfl ?_; clear S a w; intro a w S)
    (refine h_y (i := 4) S (by repeat (first | exact List.Sublist.refl _ | exact List.nil_sublist _ | refine .cons_cons _ ?_ | refine .cons _ ?_)) rfl (by kernel_rfl) (by kernel_rfl) (by kernel_rfl) (fun _ _ _ _ h => h) (ys_move (Ev.t rfl)) rfl ?_; clear S a w; intro a w S)
    refine h_split (i := 2) (j := 6) (by kernel_rfl) rfl rfl ?_ ?_
    (refine op_calls S Try.call27 (EvL.cons (Ev.t rfl) (EvL.cons (Ev.t rfl) EvL.nil)) (c27 _ _ _ _ _ _ _ (by exact .old S.wd (by assumption)) (by omega)) rfl ?_; clear S a w; rintro _ _ ⟨A4, cp4, rfl, rfl⟩ a w S; refine h_on S _ (List.Sublist.refl _) (by repeat (first | exact List.Sublist.refl _ | exact List.nil_sublist _ | refine .cons_cons _ ?_ | refine .cons _ ?_)) ?_)
    rw [rw_A] at S
    refine h_split (i := 5) (j := 6) (by kernel_rfl) rfl rfl ?_ ?_
    (refine op_calls S Try.call27 (EvL.cons (Ev.t rfl) (EvL.cons (Ev.t rfl) EvL.nil)) (c27 _ _ _ _ _ _ _ (by exact .old S.wd (by assumption)) (by omega)) rfl ?_; clear S a w; rintro _ _ ⟨A5, cp5, rfl, rfl⟩ a w S; refine h_on S _ (List.Sublist.refl _) (by repeat (first | exact List.Sublist.refl _ | exact List.nil_sublist _ | refine .cons_cons _ ?_ | refine .cons _ ?_)) ?_)
    rw [rw_B] at S
    (refine h_m (i := 6) rfl (by kernel_rfl) (op_alloc S Try.zeroValue40 (cs := _) rfl rfl ?_); clear S a w; intro g3 a w S; refine h_on S _ (List.Sublist.refl _) (by repeat (first | exact List.Sublist.refl _ | exact List.nil_sublist _ | refine .cons_cons _ ?_ | refine .cons _ ?_)) ?_)
    (refine h_m0 (i := 7) rfl (by kernel_rfl) (op_st S Try.sizeOf40 (Ev.t rfl) (Ev.t rfl) (k := 0) rfl rfl (by simp) ?_); clear S a w; intro a w S; refine h_on S _ (List.Sublist.refl _) (by repeat (first | exact List.Sublist.refl _ | exact List.nil_sublist _ | refine .cons_cons _ ?_ | refine .cons _ ?_)) ?_)
    (refine h_y (i := 8) S (by repeat (first | exact List.Sublist.refl _ | exact List.nil_sublist _ | refine .cons_cons _ ?_ | refine .cons _ ?_)) rfl (by kernel_rfl) (by kernel_rfl) (by kernel_rfl) (fun _ _ _ _ h => h) (ys_assign (Ev.t rfl)) rfl ?_; clear S a w; intro a w S)
    refine h_done (by kernel_rfl) ?_
    rotate_left
    (refine op_alloc S Try.zeroValue40 (cs := _) rfl rfl ?_; clear S a w; intro g3 a w S; refine h_on S _ (List.Sublist.refl _) (by repeat (first | exact List.Sublist.refl _ | exact List.nil_sublist _ | refine .cons_cons _ ?_ | refine .cons _ ?_)) ?_)
    (refine h_m (i := 5) rfl (by kernel_rfl) (op_calls S Try.call27 (EvL.cons (Ev.t rfl) (EvL.cons (Ev.t rfl) EvL.nil)) (c27 _ _ _ _ _ _ _ (by exact .old S.wd (by assumption)) (by omega)) rfl ?_); clear S a w; rintro _ _ ⟨A5, cp5, rfl, rfl⟩ a w S; refine h_on S _ (List.Sublist.refl _) (by repeat (first | exact List.Sublist.refl _ | exact List.nil_sublist _ | refine .cons_cons _ ?_ | refine .cons _ ?_)) ?_)
    rw [rw_B] at S
    (refine h_m0 (i := 7) rfl (by kernel_rfl) (op_st S Try.sizeOf40 (Ev.t rfl) (Ev.t rfl) (k := 1) rfl rfl (by simp) ?_); clear S a w; intro a w S; refine h_on S _ (List.Sublist.refl _) (by repeat (first | exact List.Sublist.refl _ | exact List.nil_sublist _ | refine .cons_cons _ ?_ | refine .cons _ ?_)) ?_)
    (refine h_y (i := 8) S (by repeat (first | exact List.Sublist.refl _ | exact List.nil_sublist _ | refine .cons_cons _ ?_ | refine .cons _ ?_)) rfl (by kernel_rfl) (by kernel_rfl) (by kernel_rfl) (fun _ _ _ _ h => h) (ys_assign (Ev.t rfl)) rfl ?_; clear S a w; intro a w S)
    refine h_done (by kernel_rfl) ?_
    rotate_left
    (refine op_alloc S Try.zeroValue40 (cs := _) rfl rfl ?_; clear S a w; intro g3 a w S; refine h_on S _ (List.Sublist.refl _) (by repeat (first | exact List.Sublist.refl _ | exact List.nil_sublist _ | refine .cons_cons _ ?_ | refine .cons _ ?_)) ?_)
    (refine h_m (i := 2) rfl (by kernel_rfl) (op_calls S Try.call27 (EvL.cons (Ev.t rfl) (EvL.cons (Ev.t rfl) EvL.nil)) (c27 _ _ _ _ _ _ _ (by exact .old S.wd (by assumption)) (by omega)) rfl ?_); clear S a w; rintro _ _ ⟨A4, cp4, rfl, rfl⟩ a w S; refine h_on S _ (List.Sublist.refl _) (by repeat (first | exact List.Sublist.refl _ | exact List.nil_sublist _ | refine .cons_cons _ ?_ | refine .cons _ ?_)) ?_)
    rw [rw_A] at S
    (refine h_m (i := 5) rfl (by kernel_rfl) (op_calls S Try.call27 (EvL.cons (Ev.t rfl) (EvL.cons (Ev.t rfl) EvL.nil)) (c27 _ _ _ _ _ _ _ (by exact .old S.wd (by assumption)) (by omega)) rfl ?_); clear S a w; rintro _ _ ⟨A5, cp5, rfl, rfl⟩ a w S; refine h_on S _ (List.Sublist.refl _) (by repeat (first | exact List.Sublist.refl _ | exact List.nil_sublist _ | refine .cons_cons _ ?_ | refine .cons _ ?_)) ?_)
    rw [rw_B] at S
    (refine h_m0 (i := 7) rfl (by kernel_rfl) (op_st S Try.sizeOf40 (Ev.t rfl) (Ev.t rfl) (k := 2) rfl rfl (by simp) ?_); clear S a w; intro a w S; refine h_on S _ (List.Sublist.refl _) (by repeat (first | exact List.Sublist.refl _ | exact List.nil_sublist _ | refine .cons_cons _ ?_ | refine .cons _ ?_)) ?_)
    (refine h_y (i := 8) S (by repeat (first | exact List.Sublist.refl _ | exact List.nil_sublist _ | refine .cons_cons _ ?_ | refine .cons _ ?_)) rfl (by kernel_rfl) (by kernel_rfl) (by kernel_rfl) (fun _ _ _ _ h => h) (ys_assign (Ev.t rfl)) rfl ?_; clear S a w; intro a w S)
    refine h_done (by kernel_rfl) ?_
    rotate_left
    all_goals exact ⟨_, _, _, _, _, S.picks (by repeat (first | exact Fits.nil | refine Fits.skip rfl ?_ | refine Fits.cons rfl ?_)) (by repeat (first | exact Picks.nil | (refine Picks.rest ?_; (repeat (first | exact List.Sublist.refl _ | refine List.Sublist.cons_cons _ ?_ | refine List.Sublist.cons _ ?_)); done) | refine Picks.take 0 rfl ?_ | refine Picks.take 1 rfl ?_ | refine Picks.take 2 rfl ?_ | refine Picks.take 3 rfl ?_ | refine Picks.take 4 rfl ?_ | refine Picks.take 5 rfl ?_ | refine Picks.take 6 rfl ?_ | refine Picks.take 7 rfl ?_ | refine Picks.take 8 rfl ?_ | refine Picks.take 9 rfl ?_ | refine Picks.take 10 rfl ?_ | refine Picks.take 11 rfl ?_))⟩
  clear S
  rcases e with _ | _ | _ | _ | _ | _ | _
  any_goals exact q.elim
  obtain ⟨ga, A1, c1, A2, c2, S⟩ := q
  refine then_normal (hK1 _ _ ?_)
  clear hK1
  refine wp_seq_k fun _ hK3 => ?_
  refine wp_region_lit ?_
  (refine st_y S (Yr.ys (ys_assign Ev.c)) rfl ?_; clear S a w; intro a w S)
  refine st_nil ?_
  (refine (then_normal (hK3 _ _ ?_)); clear hK3)
  refine wp_seq_k fun _ hK3 => ?_
  refine wp_seq_k fun _ hK4 => ?_
  refine wp_region_lit ?_
  (refine st_y S (Yr.ys (ys_move (Ev.t rfl))) rfl ?_; clear S a w; intro a w S)
  (refine st_y S (Yr.ys (ys_lenS Try.underlying25 (Ev.t rfl))) rfl ?_; clear S a w; intro a w S)
  (refine st_y S (Yr.ys (ys_move Ev.c)) rfl ?_; clear S a w; intro a w S)
  refine st_nil ?_
  (refine (then_normal (hK4 _ _ ?_)); clear hK4)
  refine wp_block ?_
  replace S := S.nil_ 3 1 encI none
  refine st_loopM S [10, 42] (X := Nat × Option Addr × Nat) (fun y => [(10, true, .slice y.2.1 (gotL k (M.take y.1)).length y.2.2), (42, true, .int .i64 (y.1 : Int))])
    (fun y => [rowOf 3 1 encI y.2.1 y.2.2 (gotL k (M.take y.1)), .blk ga (.cells #[.slice A1 A.length c1] 40), rowOf 3 1 encI A1 c1 A, rowOf 3 1 encI A2 c2 B, rowOf 36 3 Dot.enc A3 cp3 M, .blk g2 (.cells #[.int .i64 p', .int .i64 c', .int .i64 s', v'] 24), .blk g1 (.cells #[.int .i64 pn, .int .i64 c, .int .i64 s, v] 24)])
    (fun y => y.1 ≤ M.length) (fun y => M.length - y.1) (0, none, 0) (Nat.zero_le _) (by repeat (first | exact Fits.nil | refine Fits.skip rfl ?_ | refine Fits.cons rfl ?_)) (by repeat (first | exact Picks.nil | (refine Picks.rest ?_; (repeat (first | exact List.Sublist.refl _ | refine List.Sublist.cons_cons _ ?_ | refine List.Sublist.cons _ ?_)); done) | refine Picks.take 0 rfl ?_ | refine Picks.take 1 rfl ?_ | refine Picks.take 2 rfl ?_ | refine Picks.take 3 rfl ?_ | refine Picks.take 4 rfl ?_ | refine Picks.take 5 rfl ?_ | refine Picks.take 6 rfl ?_ | refine Picks.take 7 rfl ?_ | refine Picks.take 8 rfl ?_ | refine Picks.take 9 rfl ?_ | refine Picks.take 10 rfl ?_ | refine Picks.take 11 rfl ?_)) ?_
  clear S
  rintro ⟨i, G, cg⟩ a w hi S
  dsimp only at hi S
  have hgl := gotL_le k (M.take i)
  rw [List.length_take] at hgl
  by_cases hil : i < M.length
  · have hroom := S.wd.room (k := 4) rfl
    obtain ⟨gb, rfl⟩ := S.wd.row_at (k := 4) rfl (by omega)
    obtain ⟨⟨x0, x1, x2⟩, hx⟩ : ∃ x, M[i]? = some x := ⟨_, List.getElem?_eq_getElem hil⟩
    have ht : gotL k (M.take (i + 1)) = gotL k (M.take i) ++ if x0 = k then [x2] else [] := by rw [List.take_add_one, hx, Option.toList_some, gotL_snoc]
    have hmx := hMk ⟨x0, x1, x2⟩ (List.mem_of_getElem? hx)
    dsimp only at hmx
    by_cases e : x0 = (k : Int)
    · obtain ⟨f1, f2, f3⟩ := hmx e
      have rw_1 : decide (x0 ≠ (k : Int)) = false := decide_eq_false (by simp [e])
      have rw_2 : decide (x1 ∈ A) = true := decide_eq_true f1
      have rw_3 : decide (x2 ∈ A) = false := decide_eq_false f2
      have rw_4 : decide (x2 ∈ B) = true := decide_eq_true f3
      rw [if_pos e] at ht
      refine wp_seq_k fun _ hK4 => ?_
      refine wp_region_lit ?_
      (refine st_y S (Yr.ys (ys_T (by omega) (ys_lss (Ev.t rfl) (Ev.t rfl)))) rfl ?_; clear S a w; intro a w S)
      refine st_nil ?_
      (refine (then_normal (hK4 _ _ ?_)); clear hK4)
      refine wp_seq_k fun _ hK4 => ?_
      refine st_then S (Ev.t rfl) ?_
      refine wp_skip ?_
      (refine (then_normal (hK4 _ _ ?_)); clear hK4)
      refine wp_seq_k fun _ hK4 => ?_
      refine wp_block ?_
      refine wp_seq_k fun _ hK5 => ?_
      refine wp_region_lit ?_
      (refine st_y S (Yr.ys (ys_ixS Try.underlying25 Try.sizeOf36 (Ev.t rfl) (Ev.t rfl) (fun _ => by omega))) rfl ?_; clear S a w; intro a w S)
      (refine st_y S (Yr.ys (ys_ldWA ⟨Try.isAgg36, Try.sizeOf36⟩ (Ev.t rfl) (k := 4) rfl hx (fun _ => rfl))) rfl ?_; clear S a w; intro a w S)
      (refine st_m (op_alloc S Try.zeroValue36 (cs := _) rfl rfl ?_); clear S a w; intro g3 a w S)
      (refine st_m (op_stW S Try.sizeOf36 (Ev.t rfl) (Ev.t rfl) (k := 0) rfl rfl rfl (by simp [Value.oneCell']) ?_); clear S a w; intro a w S)
      refine st_nil ?_
      (refine (then_normal (hK5 _ _ ?_)); clear hK5)
      refine wp_seq_k fun _ hK5 => ?_
      refine wp_seq_k fun _ hK6 => ?_
      refine wp_region_lit ?_
      (refine st_y S (Yr.ys (ys_fieldN (FieldT.mk Try.underlying36 rfl Try.sizeOf3 rfl) (Ev.t rfl) (i' := 0) rfl)) rfl ?_; clear S a w; intro a w S)
      (refine st_y S (Yr.ys (ys_ld ⟨Try.isAgg3, Try.sizeOf3⟩ (Ev.t rfl) (k := 0) rfl rfl)) rfl ?_; clear S a w; intro a w S)
      (refine st_y S (Yr.ys (ys_move (Ev.t rfl))) rfl ?_; clear S a w; intro a w S)
      (refine st_y S (Yr.ys (ys_neq (Ev.t rfl) (Ev.t rfl))) rfl ?_; clear S a w; intro a w S)
      rw [rw_1] at S
      refine st_nil ?_
      (refine (then_normal (hK6 _ _ ?_)); clear hK6)
      refine st_else S (Ev.t rfl) ?_
      refine wp_skip ?_
      (refine (then_normal (hK5 _ _ ?_)); clear hK5)
      refine wp_seq_k fun _ hK5 => ?_
      refine wp_seq_k fun _ hK6 => ?_
      refine wp_region_lit ?_
      (refine st_y S (Yr.ys (ys_ld ⟨Try.isAgg40, Try.sizeOf40⟩ (Ev.t rfl) (k := 2) rfl rfl)) rfl ?_; clear S a w; intro a w S)
      (refine st_y S (Yr.ys (ys_fieldN (FieldT.mk Try.underlying36 rfl Try.sizeOf3 rfl) (Ev.t rfl) (i' := 1) rfl)) rfl ?_; clear S a w; intro a w S)
      (refine st_y S (Yr.ys (ys_ld ⟨Try.isAgg3, Try.sizeOf3⟩ (Ev.t rfl) (k := 0) rfl rfl)) rfl ?_; clear S a w; intro a w S)
      (refine st_y S (ys_call Try.call28 (EvL.cons (Ev.t rfl) (EvL.cons (Ev.t rfl) EvL.nil)) (fun hp w W => c28 _ _ _ _ (by exact Sl.of_own W (k := 3) rfl (fun _ => rfl)))) rfl ?_; clear S a w; intro a w S)
      simp only [List.nil_append] at S
      rw [rw_2] at S
      (refine st_y S (Yr.ys (ys_not (Ev.t rfl))) rfl ?_; clear S a w; intro a w S)
      (refine st_y S (Yr.ys (ys_move (Ev.t rfl))) rfl ?_; clear S a w; intro a w S)
      (refine st_yt S rfl rfl (Yr.ys (ys_ld ⟨Try.isAgg40, Try.sizeOf40⟩ (Ev.t rfl) (k := 2) rfl rfl)) rfl ?_; clear S a w; intro a w S)
      (refine st_yt S rfl rfl (Yr.ys (ys_fieldN (FieldT.mk Try.underlying36 rfl Try.sizeOf3 rfl) (Ev.t rfl) (i' := 2) rfl)) rfl ?_; clear S a w; intro a w S)
      (refine st_yt S rfl rfl (Yr.ys (ys_ld ⟨Try.isAgg3, Try.sizeOf3⟩ (Ev.t rfl) (k := 0) rfl rfl)) rfl ?_; clear S a w; intro a w S)
      (refine st_yt S rfl rfl (ys_call Try.call28 (EvL.cons (Ev.t rfl) (EvL.cons (Ev.t rfl) EvL.nil)) (fun hp w W => c28 _ _ _ _ (by exact Sl.of_own W (k := 3) rfl (fun _ => rfl)))) rfl ?_; clear S a w; intro a w S)
      simp only [List.nil_append] at S
      rw [rw_3] at S
      (refine st_y S (Yr.ys (ys_pickF (Ev.t rfl) (Ev.t rfl))) rfl ?_; clear S a w; intro a w S)
      (refine st_y S (Yr.ys (ys_move (Ev.t rfl))) rfl ?_; clear S a w; intro a w S)
      (refine st_yt S rfl rfl (Yr.ys (ys_move (Ev.t rfl))) rfl ?_; clear S a w; intro a w S)
      (refine st_yt S rfl rfl (Yr.ys (ys_fieldN (FieldT.mk Try.underlying36 rfl Try.sizeOf3 rfl) (Ev.t rfl) (i' := 2) rfl)) rfl ?_; clear S a w; intro a w S)
      (refine st_yt S rfl rfl (Yr.ys (ys_ld ⟨Try.isAgg3, Try.sizeOf3⟩ (Ev.t rfl) (k := 0) rfl rfl)) rfl ?_; clear S a w; intro a w S)
      (refine st_yt S rfl rfl (ys_call Try.call28 (EvL.cons (Ev.t rfl) (EvL.cons (Ev.t rfl) EvL.nil)) (fun hp w W => c28 _ _ _ _ (by exact Sl.of_own W (k := 4) rfl (fun _ => rfl)))) rfl ?_; clear S a w; intro a w S)
      simp only [List.nil_append] at S
      rw [rw_4] at S
      (refine st_yt S rfl rfl (Yr.ys (ys_not (Ev.t rfl))) rfl ?_; clear S a w; intro a w S)
      (refine st_y S (Yr.ys (ys_pickF (Ev.t rfl) (Ev.t rfl))) rfl ?_; clear S a w; intro a w S)
      refine st_nil ?_
      (refine (then_normal (hK6 _ _ ?_)); clear hK6)
      refine st_else S (Ev.t rfl) ?_
      refine wp_skip ?_
      (refine (then_normal (hK5 _ _ ?_)); clear hK5)
      refine wp_region_lit ?_
      (refine st_y S (Yr.ys (ys_move (Ev.t rfl))) rfl ?_; clear S a w; intro a w S)
      (refine st_y S (Yr.ys (ys_fieldN (FieldT.mk Try.underlying36 rfl Try.sizeOf3 rfl) (Ev.t rfl) (i' := 2) rfl)) rfl ?_; clear S a w; intro a w S)
      (refine st_y S (Yr.ys (ys_ld ⟨Try.isAgg3, Try.sizeOf3⟩ (Ev.t rfl) (k := 0) rfl rfl)) rfl ?_; clear S a w; intro a w S)
      (refine st_m (op_bslice1 S Try.underlying40 inf3 rfl rfl rfl (Ev.t rfl) rfl rfl rfl ?_); clear S a w; intro g4 a w S)
      (refine st_m (op_push S Try.underlying40 inf3 rfl (k := 2) (j := 0) rfl (Ev.t rfl) (Ev.t rfl) rfl rfl rfl rfl (by first | omega | (simp only [List.length_append, List.length_cons, List.length_nil]; omega)) rfl rfl rfl ?_); clear S a w; intro A3 cap1 a w S)
      (refine st_y S (Yr.ys (ys_assign (Ev.t rfl))) rfl ?_; clear S a w; intro a w S)
      refine st_nil ?_
      (refine (in_normal (then_normal (hK4 _ _ ?_))); clear hK4)
      refine wp_region_lit ?_
      (refine st_y S (Yr.ys (ys_addI (Ev.t rfl) Ev.c (fun _ => by unfold I64; omega))) rfl ?_; clear S a w; intro a w S)
      (refine st_y S (Yr.ys (ys_move (Ev.t rfl))) rfl ?_; clear S a w; intro a w S)
      refine st_nil ?_
      refine (then_normal ?_)
      exact ⟨(i + 1, A3, cap1), by dsimp only; omega, by dsimp only; omega, by dsimp only; rw [ht]; exact S.picks (by repeat (first | exact Fits.nil | refine Fits.skip rfl ?_ | refine Fits.cons rfl ?_)) (by repeat (first | exact Picks.nil | (refine Picks.rest ?_; (repeat (first | exact List.Sublist.refl _ | refine List.Sublist.cons_cons _ ?_ | refine List.Sublist.cons _ ?_)); done) | refine Picks.take 0 rfl ?_ | refine Picks.take 1 rfl ?_ | refine Picks.take 2 rfl ?_ | refine Picks.take 3 rfl ?_ | refine Picks.take 4 rfl ?_ | refine Picks.take 5 rfl ?_ | refine Picks.take 6 rfl ?_ | refine Picks.take 7 rfl ?_ | refine Picks.take 8 rfl ?_ | refine Picks.take 9 rfl ?_ | refine Picks.take 10 rfl ?_ | refine Picks.take 11 rfl ?_))⟩
    · have rw_1 : decide (x0 ≠ (k : Int)) = true := decide_eq_true e
      rw [if_neg e, List.append_nil] at ht
      refine wp_seq_k fun _ hK4 => ?_
      refine wp_region_lit ?_
      (refine st_y S (Yr.ys (ys_T (by omega) (ys_lss (Ev.t rfl) (Ev.t rfl)))) rfl ?_; clear S a w; intro a w S)
      refine st_nil ?_
      (refine (then_normal (hK4 _ _ ?_)); clear hK4)
      refine wp_seq_k fun _ hK4 => ?_
      refine st_then S (Ev.t rfl) ?_
      refine wp_skip ?_
      (refine (then_normal (hK4 _ _ ?_)); clear hK4)
      refine wp_seq_k fun _ hK4 => ?_
      refine wp_block ?_
      refine wp_seq_k fun _ hK5 => ?_
      refine wp_region_lit ?_
      (refine st_y S (Yr.ys (ys_ixS Try.underlying25 Try.sizeOf36 (Ev.t rfl) (Ev.t rfl) (fun _ => by omega))) rfl ?_; clear S a w; intro a w S)
      (refine st_y S (Yr.ys (ys_ldWA ⟨Try.isAgg36, Try.sizeOf36⟩ (Ev.t rfl) (k := 4) rfl hx (fun _ => rfl))) rfl ?_; clear S a w; intro a w S)
      (refine st_m (op_alloc S Try.zeroValue36 (cs := _) rfl rfl ?_); clear S a w; intro g3 a w S)
      (refine st_m (op_stW S Try.sizeOf36 (Ev.t rfl) (Ev.t rfl) (k := 0) rfl rfl rfl (by simp [Value.oneCell']) ?_); clear S a w; intro a w S)
      refine st_nil ?_
      (refine (then_normal (hK5 _ _ ?_)); clear hK5)
      refine wp_seq_k fun _ hK5 => ?_
      refine wp_seq_k fun _ hK6 => ?_
      refine wp_region_lit ?_
      (refine st_y S (Yr.ys (ys_fieldN (FieldT.mk Try.underlying36 rfl Try.sizeOf3 rfl) (Ev.t rfl) (i' := 0) rfl)) rfl ?_; clear S a w; intro a w S)
      (refine st_y S (Yr.ys (ys_ld ⟨Try.isAgg3, Try.sizeOf3⟩ (Ev.t rfl) (k := 0) rfl rfl)) rfl ?_; clear S a w; intro a w S)
      (refine st_y S (Yr.ys (ys_move (Ev.t rfl))) rfl ?_; clear S a w; intro a w S)
      (refine st_y S (Yr.ys (ys_T (by omega) (ys_neq (Ev.t rfl) (Ev.t rfl)))) rfl ?_; clear S a w; intro a w S)
      refine st_nil ?_
      (refine (then_normal (hK6 _ _ ?_)); clear hK6)
      refine st_then S (Ev.t rfl) ?_
      refine wp_exit ?_
      (refine (then_exit (in_here (then_normal (hK4 _ _ ?_)))); clear hK4)
      refine wp_region_lit ?_
      (refine st_y S (Yr.ys (ys_addI (Ev.t rfl) Ev.c (fun _ => by unfold I64; omega))) rfl ?_; clear S a w; intro a w S)
      (refine st_y S (Yr.ys (ys_move (Ev.t rfl))) rfl ?_; clear S a w; intro a w S)
      refine st_nil ?_
      refine (then_normal ?_)
      exact ⟨(i + 1, G, cg), by dsimp only; omega, by dsimp only; omega, by dsimp only; rw [ht]; exact S.picks (by repeat (first | exact Fits.nil | refine Fits.skip rfl ?_ | refine Fits.cons rfl ?_)) (by repeat (first | exact Picks.nil | (refine Picks.rest ?_; (repeat (first | exact List.Sublist.refl _ | refine List.Sublist.cons_cons _ ?_ | refine List.Sublist.cons _ ?_)); done) | refine Picks.take 0 rfl ?_ | refine Picks.take 1 rfl ?_ | refine Picks.take 2 rfl ?_ | refine Picks.take 3 rfl ?_ | refine Picks.take 4 rfl ?_ | refine Picks.take 5 rfl ?_ | refine Picks.take 6 rfl ?_ | refine Picks.take 7 rfl ?_ | refine Picks.take 8 rfl ?_ | refine Picks.take 9 rfl ?_ | refine Picks.take 10 rfl ?_ | refine Picks.take 11 rfl ?_))⟩
  obtain rfl : i = M.length := by omega
  rw [List.take_length, hGk] at S
  by_cases hA : A = []
  · rw [if_neg (by simp [hA])] at S
    refine wp_seq_k fun _ hK4 => ?_
    refine wp_region_lit ?_
    (refine st_y S (Yr.ys (ys_F (by omega) (ys_lss (Ev.t rfl) (Ev.t rfl)))) rfl ?_; clear S a w; intro a w S)
    refine st_nil ?_
    (refine (then_normal (hK4 _ _ ?_)); clear hK4)
    refine wp_seq_k fun _ hK4 => ?_
    refine st_else S (Ev.t rfl) ?_
    refine wp_exit ?_
    (refine (then_exit (then_exit (in_here (then_normal (hK3 _ _ ?_))))); clear hK3)
    refine wp_seq_k fun _ hK3 => ?_
    refine wp_region_lit ?_
    (refine st_y S (Yr.ys (ys_move (Ev.t rfl))) rfl ?_; clear S a w; intro a w S)
    (refine st_m (op_calls S Try.call30 (EvL.cons (Ev.t rfl) EvL.nil) (c30 _ _ _ (by exact Sl.of_own S.wd (k := 3) rfl (fun _ => rfl)) (by omega)) rfl ?_); clear S a w; rintro _ _ ⟨A4, c4, rfl, rfl⟩ a w S)
    (refine st_y S (Yr.ys (ys_mkFunc (EvL.cons (Ev.t rfl) EvL.nil))) rfl ?_; clear S a w; intro a w S)
    (replace S := S.pull 3 rfl; try simp only [List.set_cons_zero, List.set_cons_succ, List.eraseIdx_cons_succ, List.eraseIdx_cons_zero] at S; replace S := S.pull 3 rfl; try simp only [List.set_cons_zero, List.set_cons_succ, List.eraseIdx_cons_succ, List.eraseIdx_cons_zero] at S; replace S := S.pull 2 rfl; try simp only [List.set_cons_zero, List.set_cons_succ, List.eraseIdx_cons_succ, List.eraseIdx_cons_zero] at S; refine st_m (op_callO S Try.call29 (EvL.cons (Ev.t rfl) (EvL.cons (Ev.t rfl) EvL.nil)) (r29 S.wd (by first | assumption | omega | (dsimp only; omega) | exact Sl.nil_ | exact .old S.wd (by assumption) | exact Sl.of_own S.wd (k := 0) rfl (fun _ => rfl) | exact Sl.of_own S.wd (k := 1) rfl (fun _ => rfl) | exact Sl.of_own S.wd (k := 2) rfl (fun _ => rfl) | exact Sl.of_own S.wd (k := 3) rfl (fun _ => rfl) | exact Sl.of_own S.wd (k := 4) rfl (fun _ => rfl) | exact Sl.of_own S.wd (k := 5) rfl (fun _ => rfl) | exact Sl.of_own S.wd (k := 6) rfl (fun _ => rfl) | exact Sl.of_own S.wd (k := 7) rfl (fun _ => rfl) | (simp at *; omega))) rfl ?_) <;> clear S a w)
    (replace S := S.pull 0 rfl; try simp only [List.set_cons_zero, List.set_cons_succ, List.eraseIdx_cons_succ, List.eraseIdx_cons_zero] at S; replace S := S.pull 3 rfl; try simp only [List.set_cons_zero, List.set_cons_succ, List.eraseIdx_cons_succ, List.eraseIdx_cons_zero] at S; replace S := S.pull 2 rfl; try simp only [List.set_cons_zero, List.set_cons_succ, List.eraseIdx_cons_succ, List.eraseIdx_cons_zero] at S; refine st_m (op_callO S Try.call29 (EvL.cons (Ev.t rfl) (EvL.cons (Ev.t rfl) EvL.nil)) (r29 S.wd (by first | assumption | omega | (dsimp only; omega) | exact Sl.nil_ | exact .old S.wd (by assumption) | exact Sl.of_own S.wd (k := 0) rfl (fun _ => rfl) | exact Sl.of_own S.wd (k := 1) rfl (fun _ => rfl) | exact Sl.of_own S.wd (k := 2) rfl (fun _ => rfl) | exact Sl.of_own S.wd (k := 3) rfl (fun _ => rfl) | exact Sl.of_own S.wd (k := 4) rfl (fun _ => rfl) | exact Sl.of_own S.wd (k := 5) rfl (fun _ => rfl) | exact Sl.of_own S.wd (k := 6) rfl (fun _ => rfl) | exact Sl.of_own S.wd (k := 7) rfl (fun _ => rfl) | (simp at *; omega))) rfl ?_) <;> clear S a w)
    rintro _ _ ⟨rfl, rfl⟩ a w S
    (refine st_y S (Yr.ys (ys_assign (Ev.t rfl))) rfl ?_; clear S a w; intro a w S)
    refine st_nil ?_
    (refine (then_normal (hK3 _ _ ?_)); clear hK3)
    refine wp_seq_k fun _ hK3 => ?_
    refine wp_region_lit ?_
    (refine st_y S (Yr.ys (ys_ld ⟨Try.isAgg40, Try.sizeOf40⟩ (Ev.t rfl) (k := 1) rfl rfl)) rfl ?_; clear S a w; intro a w S)
    (refine st_y S (Yr.ys (ys_lenS Try.underlying40 (Ev.t rfl))) rfl ?_; clear S a w; intro a w S)
    (refine st_y S (Yr.ys (ys_gtr (Ev.t rfl) Ev.c)) rfl ?_; clear S a w; intro a w S)
    (refine st_y S (Yr.ys (ys_move (Ev.t rfl))) rfl ?_; clear S a w; intro a w S)
    (refine st_yg S rfl rfl (Yr.ys (ys_move (Ev.t rfl))) rfl ?_; clear S a w; intro a w S)
    (refine st_yg S rfl rfl (Yr.ys (ys_move (Ev.t rfl))) rfl ?_; clear S a w; intro a w S)
    (refine st_yg S rfl rfl (ys_call Try.call32 (EvL.cons (Ev.g rfl) (EvL.cons (Ev.g rfl) EvL.nil)) (fun hp w W => c32 _ _ _ _ _ (by exact Sl.of_own W (k := 3) rfl (fun _ => rfl)) (by exact Sl.of_own W (k := 0) rfl (fun _ => rfl)))) rfl ?_; clear S a w; intro a w S)
    (refine st_yg S rfl rfl (Yr.ys (ys_not (Ev.g rfl))) rfl ?_; clear S a w; intro a w S)
    (refine st_y S (Yr.ys (ys_and (Ev.t rfl) (Ev.g rfl) Ev.c)) rfl ?_; clear S a w; intro a w S)
    (refine st_y S (Yr.ys (ys_move (Ev.t rfl))) rfl ?_; clear S a w; intro a w S)
    (refine st_yf S rfl rfl (Yr.ys (ys_ld ⟨Try.isAgg40, Try.sizeOf40⟩ (Ev.t rfl) (k := 1) rfl rfl)) rfl ?_; clear S a w; intro a w S)
    (refine st_yf S rfl rfl (Yr.ys (ys_lenS Try.underlying40 (Ev.g rfl))) rfl ?_; clear S a w; intro a w S)
    (refine st_yf S rfl rfl (Yr.ys (ys_eql (Ev.g rfl) Ev.c)) rfl ?_; clear S a w; intro a w S)
    (refine st_yf S rfl rfl (Yr.ys (ys_move (Ev.g rfl))) rfl ?_; clear S a w; intro a w S)
    (refine st_yg2 S rfl rfl (Yr.ys (ys_move (Ev.t rfl))) rfl ?_; clear S a w; intro a w S)
    (refine st_yg2 S rfl rfl (Yr.ys (ys_lenS Try.underlying40 (Ev.g rfl))) rfl ?_; clear S a w; intro a w S)
    (refine st_yg2 S rfl rfl (Yr.ys (ys_gtr (Ev.g rfl) Ev.c)) rfl ?_; clear S a w; intro a w S)
    (refine st_yf S rfl rfl (Yr.ys (ys_and2F (Ev.g rfl) (Ev.g rfl) Ev.c)) rfl ?_; clear S a w; intro a w S)
    (refine st_y S (Yr.ys (ys_orF (Ev.t rfl) Ev.c (Ev.g rfl))) rfl ?_; clear S a w; intro a w S)
    refine st_nil ?_
    (refine (then_normal (hK3 _ _ ?_)); clear hK3)
    refine st_cond S (Ev.t rfl) (fun h1 => ?_) (fun h1 => ?_)
    refine wp_seq_k fun _ hK3 => ?_
    refine wp_region_lit ?_
    (refine st_y S (Yr.ys (ys_assign Ev.c)) rfl ?_; clear S a w; intro a w S)
    refine st_nil ?_
    (refine (then_normal (hK3 _ _ ?_)); clear hK3)
    refine wp_ret ?_
    refine (in_ret (then_ret (then_ret (in_ret (then_ret ?_)))))
    refine st_ret S (results1 S Try.results6 (Rv.tmp rfl)) ?_
    rotate_left
    refine wp_skip ?_
    (refine (in_normal (then_normal (hK2 _ _ ?_))); clear hK2)
    refine wp_region_lit ?_
    (refine st_y S (Yr.ys (ys_addI (Ev.t rfl) Ev.c (fun _ => by unfold I64; omega))) rfl ?_; clear S a w; intro a w S)
    (refine st_y S (Yr.ys (ys_move (Ev.t rfl))) rfl ?_; clear S a w; intro a w S)
    refine st_nil ?_
    refine (then_normal ?_)
    rotate_left
    · exact absurd h1 (by simp [hA])
    · exact ⟨k + 1, by omega, by omega, S.picks (by repeat (first | exact Fits.nil | refine Fits.skip rfl ?_ | refine Fits.cons rfl ?_)) (by repeat (first | exact Picks.nil | (refine Picks.rest ?_; (repeat (first | exact List.Sublist.refl _ | refine List.Sublist.cons_cons _ ?_ | refine List.Sublist.cons _ ?_)); done) | refine Picks.take 0 rfl ?_ | refine Picks.take 1 rfl ?_ | refine Picks.take 2 rfl ?_ | refine Picks.take 3 rfl ?_ | refine Picks.take 4 rfl ?_ | refine Picks.take 5 rfl ?_ | refine Picks.take 6 rfl ?_ | refine Picks.take 7 rfl ?_ | refine Picks.take 8 rfl ?_ | refine Picks.take 9 rfl ?_ | refine Picks.take 10 rfl ?_ | refine Picks.take 11 rfl ?_))⟩
  · rw [if_pos hA] at S
    refine wp_seq_k fun _ hK4 => ?_
    refine wp_region_lit ?_
    (refine st_y S (Yr.ys (ys_F (by omega) (ys_lss (Ev.t rfl) (Ev.t rfl)))) rfl ?_; clear S a w; intro a w S)
    refine st_nil ?_
    (refine (then_normal (hK4 _ _ ?_)); clear hK4)
    refine wp_seq_k fun _ hK4 => ?_
    refine st_else S (Ev.t rfl) ?_
    refine wp_exit ?_
    (refine (then_exit (then_exit (in_here (then_normal (hK3 _ _ ?_))))); clear hK3)
    refine wp_seq_k fun _ hK3 => ?_
    refine wp_region_lit ?_
    (refine st_y S (Yr.ys (ys_move (Ev.t rfl))) rfl ?_; clear S a w; intro a w S)
    (refine st_m (op_calls S Try.call30 (EvL.cons (Ev.t rfl) EvL.nil) (c30 _ _ _ (by exact Sl.of_own S.wd (k := 3) rfl (fun _ => rfl)) (by omega)) rfl ?_); clear S a w; rintro _ _ ⟨A4, c4, rfl, rfl⟩ a w S)
    (refine st_y S (Yr.ys (ys_mkFunc (EvL.cons (Ev.t rfl) EvL.nil))) rfl ?_; clear S a w; intro a w S)
    (replace S := S.pull 3 rfl; try simp only [List.set_cons_zero, List.set_cons_succ, List.eraseIdx_cons_succ, List.eraseIdx_cons_zero] at S; replace S := S.pull 3 rfl; try simp only [List.set_cons_zero, List.set_cons_succ, List.eraseIdx_cons_succ, List.eraseIdx_cons_zero] at S; replace S := S.pull 2 rfl; try simp only [List.set_cons_zero, List.set_cons_succ, List.eraseIdx_cons_succ, List.eraseIdx_cons_zero] at S; refine st_m (op_callO S Try.call29 (EvL.cons (Ev.t rfl) (EvL.cons (Ev.t rfl) EvL.nil)) (r29 S.wd (by first | assumption | omega | (dsimp only; omega) | exact Sl.nil_ | exact .old S.wd (by assumption) | exact Sl.of_own S.wd (k := 0) rfl (fun _ => rfl) | exact Sl.of_own S.wd (k := 1) rfl (fun _ => rfl) | exact Sl.of_own S.wd (k := 2) rfl (fun _ => rfl) | exact Sl.of_own S.wd (k := 3) rfl (fun _ => rfl) | exact Sl.of_own S.wd (k := 4) rfl (fun _ => rfl) | exact Sl.of_own S.wd (k := 5) rfl (fun _ => rfl) | exact Sl.of_own S.wd (k := 6) rfl (fun _ => rfl) | exact Sl.of_own S.wd (k := 7) rfl (fun _ => rfl) | (simp at *; omega))) rfl ?_) <;> clear S a w)
    (replace S := S.pull 0 rfl; try simp only [List.set_cons_zero, List.set_cons_succ, List.eraseIdx_cons_succ, List.eraseIdx_cons_zero] at S; replace S := S.pull 3 rfl; try simp only [List.set_cons_zero, List.set_cons_succ, List.eraseIdx_cons_succ, List.eraseIdx_cons_zero] at S; replace S := S.pull 2 rfl; try simp only [List.set_cons_zero, List.set_cons_succ, List.eraseIdx_cons_succ, List.eraseIdx_cons_zero] at S; refine st_m (op_callO S Try.call29 (EvL.cons (Ev.t rfl) (EvL.cons (Ev.t rfl) EvL.nil)) (r29 S.wd (by first | assumption | omega | (dsimp only; omega) | exact Sl.nil_ | exact .old S.wd (by assumption) | exact Sl.of_own S.wd (k := 0) rfl (fun _ => rfl) | exact Sl.of_own S.wd (k := 1) rfl (fun _ => rfl) | exact Sl.of_own S.wd (k := 2) rfl (fun _ => rfl) | exact Sl.of_own S.wd (k := 3) rfl (fun _ => rfl) | exact Sl.of_own S.wd (k := 4) rfl (fun _ => rfl) | exact Sl.of_own S.wd (k := 5) rfl (fun _ => rfl) | exact Sl.of_own S.wd (k := 6) rfl (fun _ => rfl) | exact Sl.of_own S.wd (k := 7) rfl (fun _ => rfl) | (simp at *; omega))) rfl ?_) <;> clear S a w)
    rintro _ _ ⟨rfl, rfl⟩ a w S
    (refine st_y S (Yr.ys (ys_assign (Ev.t rfl))) rfl ?_; clear S a w; intro a w S)
    refine st_nil ?_
    (refine (then_normal (hK3 _ _ ?_)); clear hK3)
    refine wp_seq_k fun _ hK3 => ?_
    refine wp_region_lit ?_
    (refine st_y S (Yr.ys (ys_ld ⟨Try.isAgg40, Try.sizeOf40⟩ (Ev.t rfl) (k := 1) rfl rfl)) rfl ?_; clear S a w; intro a w S)
    (refine st_y S (Yr.ys (ys_lenS Try.underlying40 (Ev.t rfl))) rfl ?_; clear S a w; intro a w S)
    (refine st_y S (Yr.ys (ys_gtr (Ev.t rfl) Ev.c)) rfl ?_; clear S a w; intro a w S)
    (refine st_y S (Yr.ys (ys_move (Ev.t rfl))) rfl ?_; clear S a w; intro a w S)
    (refine st_yg S rfl rfl (Yr.ys (ys_move (Ev.t rfl))) rfl ?_; clear S a w; intro a w S)
    (refine st_yg S rfl rfl (Yr.ys (ys_move (Ev.t rfl))) rfl ?_; clear S a w; intro a w S)
    (refine st_yg S rfl rfl (ys_call Try.call32 (EvL.cons (Ev.g rfl) (EvL.cons (Ev.g rfl) EvL.nil)) (fun hp w W => c32 _ _ _ _ _ (by exact Sl.of_own W (k := 3) rfl (fun _ => rfl)) (by exact Sl.of_own W (k := 0) rfl (fun _ => rfl)))) rfl ?_; clear S a w; intro a w S)
    simp only [List.nil_append] at S
    (refine st_yg S rfl rfl (Yr.ys (ys_not (Ev.g rfl))) rfl ?_; clear S a w; intro a w S)
    (refine st_y S (Yr.ys (ys_andF (Ev.t rfl) (Ev.g rfl) Ev.c)) rfl ?_; clear S a w; intro a w S)
    (refine st_y S (Yr.ys (ys_move (Ev.t rfl))) rfl ?_; clear S a w; intro a w S)
    (refine st_yt S rfl rfl (Yr.ys (ys_ld ⟨Try.isAgg40, Try.sizeOf40⟩ (Ev.t rfl) (k := 1) rfl rfl)) rfl ?_; clear S a w; intro a w S)
    (refine st_yt S rfl rfl (Yr.ys (ys_lenS Try.underlying40 (Ev.t rfl))) rfl ?_; clear S a w; intro a w S)
    (refine st_yt S rfl rfl (Yr.ys (ys_eql (Ev.t rfl) Ev.c)) rfl ?_; clear S a w; intro a w S)
    (refine st_yt S rfl rfl (Yr.ys (ys_move (Ev.t rfl))) rfl ?_; clear S a w; intro a w S)
    (refine st_yg S rfl rfl (Yr.ys (ys_move (Ev.t rfl))) rfl ?_; clear S a w; intro a w S)
    (refine st_yg S rfl rfl (Yr.ys (ys_lenS Try.underlying40 (Ev.g rfl))) rfl ?_; clear S a w; intro a w S)
    (refine st_yg S rfl rfl (Yr.ys (ys_gtr (Ev.g rfl) Ev.c)) rfl ?_; clear S a w; intro a w S)
    (refine st_yt S rfl rfl (Yr.ys (ys_and2 (Ev.t rfl) (Ev.g rfl) Ev.c)) rfl ?_; clear S a w; intro a w S)
    (refine st_y S (Yr.ys (ys_pickF (Ev.t rfl) (Ev.t rfl))) rfl ?_; clear S a w; intro a w S)
    refine st_nil ?_
    (refine (then_normal (hK3 _ _ ?_)); clear hK3)
    refine st_cond S (Ev.t rfl) (fun h1 => ?_) (fun h1 => ?_)
    refine wp_seq_k fun _ hK3 => ?_
    refine wp_region_lit ?_
    (refine st_y S (Yr.ys (ys_assign Ev.c)) rfl ?_; clear S a w; intro a w S)
    refine st_nil ?_
    (refine (then_normal (hK3 _ _ ?_)); clear hK3)
    refine wp_ret ?_
    refine (in_ret (then_ret (then_ret (in_ret (then_ret ?_)))))
    refine st_ret S (results1 S Try.results6 (Rv.tmp rfl)) ?_
    rotate_left
    refine wp_skip ?_
    (refine (in_normal (then_normal (hK2 _ _ ?_))); clear hK2)
    refine wp_region_lit ?_
    (refine st_y S (Yr.ys (ys_addI (Ev.t rfl) Ev.c (fun _ => by unfold I64; omega))) rfl ?_; clear S a w; intro a w S)
    (refine st_y S (Yr.ys (ys_move (Ev.t rfl))) rfl ?_; clear S a w; intro a w S)
    refine st_nil ?_
    refine (then_normal ?_)
    rotate_left
    · exact absurd h1 (by simp [show ¬ A.length = 0 from fun e => hA (List.length_eq_zero_iff.1 e)])
    · exact ⟨k + 1, by omega, by omega, S.picks (by repeat (first | exact Fits.nil | refine Fits.skip rfl ?_ | refine Fits.cons rfl ?_)) (by repeat (first | exact Picks.nil | (refine Picks.rest ?_; (repeat (first | exact List.Sublist.refl _ | refine List.Sublist.cons_cons _ ?_ | refine List.Sublist.cons _ ?_)); done) | refine Picks.take 0 rfl ?_ | refine Picks.take 1 rfl ?_ | refine Picks.take 2 rfl ?_ | refine Picks.take 3 rfl ?_ | refine Picks.take 4 rfl ?_ | refine Picks.take 5 rfl ?_ | refine Picks.take 6 rfl ?_ | refine Picks.take 7 rfl ?_ | refine Picks.take 8 rfl ?_ | refine Picks.take 9 rfl ?_ | refine Picks.take 10 rfl ?_ | refine Picks.take 11 rfl ?_))⟩
end Go.Proofs.Ytcglchdbddlnjaa
