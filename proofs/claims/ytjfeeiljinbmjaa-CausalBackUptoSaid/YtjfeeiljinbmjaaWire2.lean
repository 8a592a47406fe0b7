/- Layer 1: the reader, walked. -/
import Derived.Test.YtjfeeiljinbmjaaRd
import Derived.Test.YtjfeeiljinbmjaaMore9
import Derived.Test.YtjfeeiljinbmjaaWire1
set_option linter.unusedVariables false
set_option linter.unusedSimpArgs false
set_option maxRecDepth 100000
set_option maxHeartbeats 4000000
namespace Go.Proofs.Ytjfeeiljinbmjaa
open Go.Fw Go.Proofs Go.RowKit

theorem c83 {w0 w : World} {L : List Chunk} (W : Wd w0 L w) (e : Int) : RetsP Try.prog 83 #[.int .i64 e] 48 w0 w (fun _ _ => False) (fun x L' => x = e ∧ L' = L) := by
  unfold Go.Fw.RetsP
  refine enterW1 W Try.func83 rfl Try.ntmps83 rfl fun a S => ?_
  refine wp_region_lit ?_
  (refine st_y S (Yr.ys (ys_move (Ev.t rfl))) rfl ?_; clear S a; intro a w S)
  (refine st_y S (Yr.ys (ys_iface Try.underlying48 (Ev.t rfl))) rfl ?_; clear S a w; intro a w S)
  refine st_m (op_panic S (Ev.t rfl) ?_)
  refine post_panic S ?_
  exact .inr ⟨_, _, rfl, S.wd, rfl, rfl⟩
theorem c77 (w0 : World) (g : Nat) (h2 : w0.cell? ⟨g, 2, none⟩ = some (.bool true)) : Calls Try.prog 77 #[.pointer (some ⟨g, 0, none⟩)] w0 fun r w' => r = .returned (.bool true) ∧ Bel w0.heap.size w0 w' := by
  refine enter1 Try.func77 rfl Try.ntmps77 rfl fun a S => ?_
  refine wp_seq_k fun _ hK1 => ?_
  refine wp_region_lit ?_
  (refine st_y S (Yr.ys (ys_assign Ev.c)) rfl ?_; clear S a; intro a w S)
  refine st_nil ?_
  (refine (then_normal (hK1 _ _ ?_)); clear hK1)
  refine wp_seq_k fun _ hK1 => ?_
  refine wp_region_lit ?_
  (refine st_y S (Yr.ys (ys_move (Ev.t rfl))) rfl ?_; clear S a w; intro a w S)
  (refine st_y S (Yr.ys (ys_pNotS Try.underlying70 (Ev.t rfl) Ev.c)) rfl ?_; clear S a w; intro a w S)
  (refine st_y S (Yr.ys (ys_move (Ev.t rfl))) rfl ?_; clear S a w; intro a w S)
  (refine st_yt S rfl rfl (Yr.ys (ys_move (Ev.t rfl))) rfl ?_; clear S a w; intro a w S)
  (refine st_yt S rfl rfl (Yr.ys (ys_nilc (Ev.t rfl))) rfl ?_; clear S a w; intro a w S)
  (refine st_yt S rfl rfl (Yr.ys (ys_fieldN (FieldT.mk Try.underlying134 rfl Try.sizeOf4 rfl) (Ev.t rfl) (i' := 2) rfl)) rfl ?_; clear S a w; intro a w S)
  (refine st_yt S rfl rfl (Yr.ys (ys_ldO ⟨Try.isAgg4, Try.sizeOf4⟩ (Ev.t rfl) (fun _ => h2))) rfl ?_; clear S a w; intro a w S)
  (refine st_y S (Yr.ys (ys_pickT (Ev.t rfl) (Ev.t rfl))) rfl ?_; clear S a w; intro a w S)
  (refine st_y S (Yr.ys (ys_assign (Ev.t rfl))) rfl ?_; clear S a w; intro a w S)
  refine st_nil ?_
  (refine (then_normal (hK1 _ _ ?_)); clear hK1)
  refine wp_ret ?_
  refine st_ret S (results1 S Try.results77 (Rv.tmp rfl)) ?_
  exact ⟨rfl, S.wd.below⟩
theorem c37 (w0 : World) (g : Nat) (A : Option Addr) (cap k n : Nat) (h0 : w0.cell? ⟨g, 0, none⟩ = some (.slice A n cap)) (h1 : w0.cell? ⟨g, 1, none⟩ = some (.int .i64 (k : Int))) (h2 : w0.cell? ⟨g, 2, none⟩ = some (.bool true)) (hk : k ≤ n) (hn : n ≤ 16777216) :
    Calls Try.prog 37 #[.pointer (some ⟨g, 0, none⟩)] w0 fun r w' => r = .returned (.int .i64 ((n - k : Nat) : Int)) ∧ Bel w0.heap.size w0 w' := by
  refine enter1 Try.func37 rfl Try.ntmps37 rfl fun a S => ?_
  refine wp_seq_k fun _ hK1 => ?_
  refine wp_region_lit ?_
  (refine st_y S (Yr.ys (ys_assign Ev.c)) rfl ?_; clear S a; intro a w S)
  refine st_nil ?_
  (refine (then_normal (hK1 _ _ ?_)); clear hK1)
  refine wp_seq_k fun _ hK1 => ?_
  refine wp_seq_k fun _ hK2 => ?_
  refine wp_region_lit ?_
  (refine st_y S (Yr.ys (ys_move (Ev.t rfl))) rfl ?_; clear S a w; intro a w S)
  (refine st_y S (ys_call Try.call77 (EvL.cons (Ev.t rfl) EvL.nil) (fun hp w W => c77 _ _ (by exact Wd.cellOld W (by assumption)))) rfl ?_; clear S a w; intro a w S)
  (refine st_y S (Yr.ys (ys_not (Ev.t rfl))) rfl ?_; clear S a w; intro a w S)
  refine st_nil ?_
  (refine (then_normal (hK2 _ _ ?_)); clear hK2)
  refine st_else S (Ev.t rfl) ?_
  refine wp_skip ?_
  (refine (then_normal (hK1 _ _ ?_)); clear hK1)
  refine wp_seq_k fun _ hK1 => ?_
  (refine st_quiet S (by kernel_rfl) (by kernel_rfl) ?_; clear S w; intro a S)
  (refine q_y S (Yr.ys (ys_move (Ev.t rfl))) rfl ?_; clear S a; intro a S)
  (refine q_y S (Yr.ys (ys_nilc (Ev.t rfl))) rfl ?_; clear S a; intro a S)
  (refine q_y S (Yr.ys (ys_fieldN (FieldT.mk Try.underlying134 rfl Try.sizeOf22 rfl) (Ev.t rfl) (i' := 0) rfl)) rfl ?_; clear S a; intro a S)
  (refine q_y S (Yr.ys (ys_ldO ⟨Try.isAgg22, Try.sizeOf22⟩ (Ev.t rfl) (fun _ => h0))) rfl ?_; clear S a; intro a S)
  (refine q_y S (Yr.ys (ys_lenS Try.underlying22 (Ev.t rfl))) rfl ?_; clear S a; intro a S)
  (refine q_y S (Yr.ys (ys_move (Ev.t rfl))) rfl ?_; clear S a; intro a S)
  (refine q_y S (Yr.ys (ys_nilc (Ev.t rfl))) rfl ?_; clear S a; intro a S)
  (refine q_y S (Yr.ys (ys_fieldN (FieldT.mk Try.underlying134 rfl Try.sizeOf3 rfl) (Ev.t rfl) (i' := 1) rfl)) rfl ?_; clear S a; intro a S)
  (refine q_y S (Yr.ys (ys_ldO ⟨Try.isAgg3, Try.sizeOf3⟩ (Ev.t rfl) (fun _ => h1))) rfl ?_; clear S a; intro a S)
  (refine q_y S (Yr.ys (ys_subI (Ev.t rfl) (Ev.t rfl) (fun _ => by unfold I64; omega))) rfl ?_; clear S a; intro a S)
  (refine q_y S (Yr.ys (ys_assign (Ev.t rfl))) rfl ?_; clear S a; intro a S)
  (refine q_nil ?_; intro w W; replace S := St.mk S W; clear W)
  (refine (then_normal (hK1 _ _ ?_)); clear hK1)
  refine wp_ret ?_
  refine st_ret S (results1 S Try.results37 (Rv.tmp rfl)) ?_
  have e : (n : Int) - (k : Int) = ((n - k : Nat) : Int) := by omega
  rw [e]
  exact ⟨rfl, S.wd.below⟩
theorem c38 (w0 : World) (g : Nat) (k : Nat) (h1 : w0.cell? ⟨g, 1, none⟩ = some (.int .i64 (k : Int))) (h2 : w0.cell? ⟨g, 2, none⟩ = some (.bool true)) :
    Calls Try.prog 38 #[.pointer (some ⟨g, 0, none⟩)] w0 fun r w' => r = .returned (.int .i64 (k : Int)) ∧ Bel w0.heap.size w0 w' := by
  refine enter1 Try.func38 rfl Try.ntmps38 rfl fun a S => ?_
  refine wp_seq_k fun _ hK1 => ?_
  refine wp_region_lit ?_
  (refine st_y S (Yr.ys (ys_assign Ev.c)) rfl ?_; clear S a; intro a w S)
  refine st_nil ?_
  (refine (then_normal (hK1 _ _ ?_)); clear hK1)
  refine wp_seq_k fun _ hK1 => ?_
  refine wp_seq_k fun _ hK2 => ?_
  refine wp_region_lit ?_
  (refine st_y S (Yr.ys (ys_move (Ev.t rfl))) rfl ?_; clear S a w; intro a w S)
  (refine st_y S (ys_call Try.call77 (EvL.cons (Ev.t rfl) EvL.nil) (fun hp w W => c77 _ _ (by exact Wd.cellOld W (by assumption)))) rfl ?_; clear S a w; intro a w S)
  (refine st_y S (Yr.ys (ys_not (Ev.t rfl))) rfl ?_; clear S a w; intro a w S)
  refine st_nil ?_
  (refine (then_normal (hK2 _ _ ?_)); clear hK2)
  refine st_else S (Ev.t rfl) ?_
  refine wp_skip ?_
  (refine (then_normal (hK1 _ _ ?_)); clear hK1)
  refine wp_seq_k fun _ hK1 => ?_
  refine wp_region_lit ?_
  (refine st_y S (Yr.ys (ys_move (Ev.t rfl))) rfl ?_; clear S a w; intro a w S)
  (refine st_y S (Yr.ys (ys_nilc (Ev.t rfl))) rfl ?_; clear S a w; intro a w S)
  (refine st_y S (Yr.ys (ys_fieldN (FieldT.mk Try.underlying134 rfl Try.sizeOf3 rfl) (Ev.t rfl) (i' := 1) rfl)) rfl ?_; clear S a w; intro a w S)
  (refine st_y S (Yr.ys (ys_ldO ⟨Try.isAgg3, Try.sizeOf3⟩ (Ev.t rfl) (fun _ => h1))) rfl ?_; clear S a w; intro a w S)
  (refine st_y S (Yr.ys (ys_assign (Ev.t rfl))) rfl ?_; clear S a w; intro a w S)
  refine st_nil ?_
  (refine (then_normal (hK1 _ _ ?_)); clear hK1)
  refine wp_ret ?_
  refine st_ret S (results1 S Try.results38 (Rv.tmp rfl)) ?_
  exact ⟨rfl, S.wd.below⟩
/-- a reader's block, and its bytes -/
abbrev rdr (g : Nat) (A : Option Addr) (cap : Nat) (b : List UInt8) (k : Nat) (L : List Chunk) : List Chunk := .blk g (.cells #[.slice A b.length cap, .int .i64 (k : Int), .bool true] 134) :: rowOf 5 1 encB A cap b :: L
theorem c35 (w0 : World) (v1 : Value) (l : List UInt8) (h : Sl encB 1 w0 w0.heap.size v1 l) (hl : l.length ≤ 16777216) :
    Rets Try.prog 35 #[v1] w0 fun v L => ∃ g A c, v = .pointer (some ⟨g, 0, none⟩) ∧ L = rdr g A c l 0 [] := by
  obtain ⟨A, cap, rfl, _⟩ := id h
  unfold Go.Fw.Rets
  refine enter1 Try.func35 rfl Try.ntmps35 rfl fun a S => ?_
  refine wp_seq_k fun _ hK1 => ?_
  refine wp_region_lit ?_
  (refine st_y S (Yr.ys (ys_assign Ev.c)) rfl ?_; clear S a; intro a w S)
  refine st_nil ?_
  (refine (then_normal (hK1 _ _ ?_)); clear hK1)
  refine wp_seq_k fun _ hK1 => ?_
  refine wp_region_lit ?_
  (refine st_y S (Yr.ys (ys_move (Ev.t rfl))) rfl ?_; clear S a w; intro a w S)
  (refine st_m (op_extend _ (S.nil_ 5 _ Go.Fw.encB _) Try.underlying22 Try.underlying22 (.inr ⟨_, rfl⟩) inf5 rfl (k := 0) rfl Ev.c (Ev.t rfl) (Src.sl (Sl.old S.wd h) (by decide) Go.Fw.encB_len Go.Fw.encB_one) (by first | omega | (simp only [List.length_append, List.length_cons, List.length_nil]; omega) | (simp; omega)) rfl rfl rfl ?_); clear S a w; intro A1 cap1 a w S)
  simp only [List.nil_append] at S
  (refine st_y S (Yr.ys (ys_bld (ps := [(0, Go.Operand.tmp 4), (2, _)]) (us := [_, _, _]) bld134 (EvL.cons (Ev.t rfl) (EvL.cons Ev.c EvL.nil)) rfl)) rfl ?_; clear S a w; intro a w S)
  (refine st_m (op_box S (Ev.t rfl) rfl ?_); clear S a w; intro g1 a w S)
  (refine st_y S (Yr.ys (ys_assign (Ev.t rfl))) rfl ?_; clear S a w; intro a w S)
  refine st_nil ?_
  (refine (then_normal (hK1 _ _ ?_)); clear hK1)
  refine wp_ret ?_
  refine st_ret S (results1 S Try.results35 (Rv.tmp rfl)) ?_
  exact ⟨_, _, rfl, S.wd, _, _, _, rfl, rfl⟩
theorem c84 {w0 w : World} {L : List Chunk} {g cap k : Nat} {A : Option Addr} {b : List UInt8} (W : Wd w0 (rdr g A cap b k L) w) (n : Nat) (hn : k + n ≤ b.length) (hb : b.length ≤ 16777216) :
    RetsO Try.prog 84 #[.pointer (some ⟨g, 0, none⟩), .int .i64 (n : Int)] w0 w fun v L' => ∃ A1 c1, v = .slice A1 ((b.drop k).take n).length c1 ∧ L' = rdr g A cap b (k + n) (rowOf 5 1 encB A1 c1 ((b.drop k).take n) :: L) := by
  have hr := (W.room (k := 1) rfl).1
  have rw_k : (k : Int) + (n : Int) = ((k + n : Nat) : Int) := by omega
  unfold Go.Fw.RetsO
  refine enterW2 W Try.func84 rfl Try.ntmps84 rfl fun a S => ?_
  refine wp_seq_k fun _ hK1 => ?_
  refine wp_region_lit ?_
  (refine st_y S (Yr.ys (ys_assign Ev.c)) rfl ?_; clear S a; intro a w S)
  refine st_nil ?_
  (refine (then_normal (hK1 _ _ ?_)); clear hK1)
  refine wp_seq_k fun _ hK1 => ?_
  (refine h_begin0 S (by kernel_rfl) ?_; clear S a w; intro a w S)
  (refine h_y (i := 0) S (by repeat (first | exact List.Sublist.refl _ | exact List.nil_sublist _ | refine .cons_cons _ ?_ | refine .cons _ ?_)) rfl (by kernel_rfl) (by kernel_rfl) (by kernel_rfl) (fun _ _ _ _ h => h) (ys_move (Ev.t rfl)) rfl ?_; clear S a w; intro a w S)
  (refine h_y (i := 1) S (by repeat (first | exact List.Sublist.refl _ | exact List.nil_sublist _ | refine .cons_cons _ ?_ | refine .cons _ ?_)) rfl (by kernel_rfl) (by kernel_rfl) (by kernel_rfl) (fun _ _ _ _ h => h) (ys_nilc (Ev.t rfl)) rfl ?_; clear S a w; intro a w S)
  (refine h_y (i := 2) S (by repeat (first | exact List.Sublist.refl _ | exact List.nil_sublist _ | refine .cons_cons _ ?_ | refine .cons _ ?_)) rfl (by kernel_rfl) (by kernel_rfl) (by kernel_rfl) (fun _ _ _ _ h => h) (ys_fieldN (FieldT.mk Try.underlying134 rfl Try.sizeOf22 rfl) (Ev.t rfl) (i' := 0) rfl) rfl ?_; clear S a w; intro a w S)
  (refine h_y (i := 3) S (by repeat (first | exact List.Sublist.refl _ | exact List.nil_sublist _ | refine .cons_cons _ ?_ | refine .cons _ ?_)) rfl (by kernel_rfl) (by kernel_rfl) (by kernel_rfl) (fun _ _ _ _ h => h) (ys_ld ⟨Try.isAgg22, Try.sizeOf22⟩ (Ev.t rfl) (k := 0) rfl rfl) rfl ?_; clear S a w; intro a w S)
  (refine h_y (i := 4) S (by repeat (first | exact List.Sublist.refl _ | exact List.nil_sublist _ | refine .cons_cons _ ?_ | refine .cons _ ?_)) rfl (by kernel_rfl) (by kernel_rfl) (by kernel_rfl) (fun _ _ _ _ h => h) (ys_move (Ev.t rfl)) rfl ?_; clear S a w; intro a w S)
  (refine h_y (i := 5) S (by repeat (first | exact List.Sublist.refl _ | exact List.nil_sublist _ | refine .cons_cons _ ?_ | refine .cons _ ?_)) rfl (by kernel_rfl) (by kernel_rfl) (by kernel_rfl) (fun _ _ _ _ h => h) (ys_nilc (Ev.t rfl)) rfl ?_; clear S a w; intro a w S)
  (refine h_y (i := 6) S (by repeat (first | exact List.Sublist.refl _ | exact List.nil_sublist _ | refine .cons_cons _ ?_ | refine .cons _ ?_)) rfl (by kernel_rfl) (by kernel_rfl) (by kernel_rfl) (fun _ _ _ _ h => h) (ys_fieldN (FieldT.mk Try.underlying134 rfl Try.sizeOf3 rfl) (Ev.t rfl) (i' := 1) rfl) rfl ?_; clear S a w; intro a w S)
  (refine h_y (i := 7) S (by repeat (first | exact List.Sublist.refl _ | exact List.nil_sublist _ | refine .cons_cons _ ?_ | refine .cons _ ?_)) rfl (by kernel_rfl) (by kernel_rfl) (by kernel_rfl) (fun _ _ _ _ h => h) (ys_ld ⟨Try.isAgg3, Try.sizeOf3⟩ (Ev.t rfl) (k := 0) rfl rfl) rfl ?_; clear S a w; intro a w S)
  (refine h_y (i := 8) S (by repeat (first | exact List.Sublist.refl _ | exact List.nil_sublist _ | refine .cons_cons _ ?_ | refine .cons _ ?_)) rfl (by kernel_rfl) (by kernel_rfl) (by kernel_rfl) (fun _ _ _ _ h => h) (ys_move (Ev.t rfl)) rfl ?_; clear S a w; intro a w S)
  (refine h_y (i := 9) S (by repeat (first | exact List.Sublist.refl _ | exact List.nil_sublist _ | refine .cons_cons _ ?_ | refine .cons _ ?_)) rfl (by kernel_rfl) (by kernel_rfl) (by kernel_rfl) (fun _ _ _ _ h => h) (ys_nilc (Ev.t rfl)) rfl ?_; clear S a w; intro a w S)
  (refine h_y (i := 10) S (by repeat (first | exact List.Sublist.refl _ | exact List.nil_sublist _ | refine .cons_cons _ ?_ | refine .cons _ ?_)) rfl (by kernel_rfl) (by kernel_rfl) (by kernel_rfl) (fun _ _ _ _ h => h) (ys_fieldN (FieldT.mk Try.underlying134 rfl Try.sizeOf3 rfl) (Ev.t rfl) (i' := 1) rfl) rfl ?_; clear S a w; intro a w S)
  (refine h_y (i := 11) S (by repeat (first | exact List.Sublist.refl _ | exact List.nil_sublist _ | refine .cons_cons _ ?_ | refine .cons _ ?_)) rfl (by kernel_rfl) (by kernel_rfl) (by kernel_rfl) (fun _ _ _ _ h => h) (ys_ld ⟨Try.isAgg3, Try.sizeOf3⟩ (Ev.t rfl) (k := 0) rfl rfl) rfl ?_; clear S a w; intro a w S)
  (refine h_y (i := 12) S (by repeat (first | exact List.Sublist.refl _ | exact List.nil_sublist _ | refine .cons_cons _ ?_ | refine .cons _ ?_)) rfl (by kernel_rfl) (by kernel_rfl) (by kernel_rfl) (fun _ _ _ _ h => h) (ys_move (Ev.t rfl)) rfl ?_; clear S a w; intro a w S)
  (refine h_y (i := 13) S (by repeat (first | exact List.Sublist.refl _ | exact List.nil_sublist _ | refine .cons_cons _ ?_ | refine .cons _ ?_)) rfl (by kernel_rfl) (by kernel_rfl) (by kernel_rfl) (fun _ _ _ _ h => h) (ys_addI (Ev.t rfl) (Ev.t rfl) (fun _ => by unfold I64; omega)) rfl ?_; clear S a w; intro a w S)
  rw [rw_k] at S
  (refine h_y (i := 14) S (by repeat (first | exact List.Sublist.refl _ | exact List.nil_sublist _ | refine .cons_cons _ ?_ | refine .cons _ ?_)) rfl (by kernel_rfl) (by kernel_rfl) (by kernel_rfl) (fun _ _ _ _ h => h) (ys_slLH Try.underlying22 Try.sizeOf5 (Ev.t rfl) (Ev.t rfl) (Ev.t rfl) (fun _ => by first | omega | (simp; done) | (simp; omega))) rfl ?_; clear S a w; intro a w S)
  (refine h_m (i := 15) rfl (by kernel_rfl) (op_extend _ (S.nil_ 5 _ Go.Fw.encB _) Try.underlying22 Try.underlying22 (.inr ⟨_, rfl⟩) inf5 rfl (k := 0) rfl Ev.c (Ev.t rfl) (by exact Src.sub S.wd (k := 1) rfl (by decide) Go.Fw.encB_len Go.Fw.encB_one (by omega) (by omega)) (by first | omega | (simp only [List.length_append, List.length_cons, List.length_nil]; omega) | (simp; omega)) rfl rfl rfl ?_); clear S a w; intro A1 cap1 a w S; refine h_on S _ (by repeat (first | exact List.Sublist.refl _ | exact List.nil_sublist _ | refine .cons_cons _ ?_ | refine .cons _ ?_)) (List.Sublist.refl _) ?_)
  simp only [List.nil_append] at S
  (refine h_y (i := 16) S (by repeat (first | exact List.Sublist.refl _ | exact List.nil_sublist _ | refine .cons_cons _ ?_ | refine .cons _ ?_)) rfl (by kernel_rfl) (by kernel_rfl) (by kernel_rfl) (fun _ _ _ _ h => h) (ys_assign (Ev.t rfl)) rfl ?_; clear S a w; intro a w S)
  refine h_done (by kernel_rfl) ?_
  (refine (then_normal (hK1 _ _ ?_)); clear hK1)
  refine wp_seq_k fun _ hK1 => ?_
  refine wp_region_lit ?_
  (refine st_y S (Yr.ys (ys_move (Ev.t rfl))) rfl ?_; clear S a w; intro a w S)
  (refine st_y S (Yr.ys (ys_nilc (Ev.t rfl))) rfl ?_; clear S a w; intro a w S)
  (refine st_y S (Yr.ys (ys_fieldN (FieldT.mk Try.underlying134 rfl Try.sizeOf3 rfl) (Ev.t rfl) (i' := 1) rfl)) rfl ?_; clear S a w; intro a w S)
  (refine st_y S (Yr.ys (ys_ld ⟨Try.isAgg3, Try.sizeOf3⟩ (Ev.t rfl) (k := 1) rfl rfl)) rfl ?_; clear S a w; intro a w S)
  (refine st_y S (Yr.ys (ys_move (Ev.t rfl))) rfl ?_; clear S a w; intro a w S)
  (refine st_y S (Yr.ys (ys_addI (Ev.t rfl) (Ev.t rfl) (fun _ => by unfold I64; omega))) rfl ?_; clear S a w; intro a w S)
  rw [rw_k] at S
  (refine st_y S (Yr.ys (ys_nilc (Ev.t rfl))) rfl ?_; clear S a w; intro a w S)
  (refine st_y S (Yr.ys (ys_fieldN (FieldT.mk Try.underlying134 rfl Try.sizeOf3 rfl) (Ev.t rfl) (i' := 1) rfl)) rfl ?_; clear S a w; intro a w S)
  (refine st_m (op_st S Try.sizeOf3 (Ev.t rfl) (Ev.t rfl) (k := 1) rfl rfl (by simp) ?_); clear S a w; intro a w S)
  refine st_nil ?_
  (refine (then_normal (hK1 _ _ ?_)); clear hK1)
  refine wp_seq_k fun _ hK1 => ?_
  refine wp_region_lit ?_
  (refine st_y S (Yr.ys (ys_move (Ev.t rfl))) rfl ?_; clear S a w; intro a w S)
  (refine st_y S (Yr.ys (ys_assign (Ev.t rfl))) rfl ?_; clear S a w; intro a w S)
  refine st_nil ?_
  (refine (then_normal (hK1 _ _ ?_)); clear hK1)
  refine wp_ret ?_
  refine st_ret S (results1 S Try.results84 (Rv.tmp rfl)) ?_
  have e : k + n - k = n := by omega
  rw [e] at S
  exact ⟨_, _, by rw [e], (S.wd.picks (L' := rdr g A cap b (k + n) (rowOf 5 1 encB A1 cap1 ((b.drop k).take n) :: L)) (by repeat (first | exact Picks.nil | (refine Picks.rest ?_; (repeat (first | exact List.Sublist.refl _ | refine List.Sublist.cons_cons _ ?_ | refine List.Sublist.cons _ ?_)); done) | refine Picks.take 0 rfl ?_ | refine Picks.take 1 rfl ?_ | refine Picks.take 2 rfl ?_ | refine Picks.take 3 rfl ?_ | refine Picks.take 4 rfl ?_ | refine Picks.take 5 rfl ?_ | refine Picks.take 6 rfl ?_ | refine Picks.take 7 rfl ?_ | refine Picks.take 8 rfl ?_ | refine Picks.take 9 rfl ?_ | refine Picks.take 10 rfl ?_ | refine Picks.take 11 rfl ?_))), _, _, rfl, rfl⟩
theorem c125 {w0 w : World} {L : List Chunk} {g cap k : Nat} {A : Option Addr} {b : List UInt8} (W : Wd w0 (rdr g A cap b k L) w) (hk : k ≤ b.length) (hb : b.length ≤ 16777216) :
    RetsP Try.prog 125 #[.pointer (some ⟨g, 0, none⟩)] 48 w0 w (fun v L' => (numR 0 0 (b.drop k)).2.2 = 0 ∧ v = .int .i64 (numR 0 0 (b.drop k)).1 ∧ L' = rdr g A cap b (k + (numR 0 0 (b.drop k)).2.1) L) (fun x L' => x = (numR 0 0 (b.drop k)).2.2 ∧ x ≠ 0 ∧ L' = rdr g A cap b k L) := by
  unfold Go.Fw.RetsP
  refine enterW1 W Try.func125 rfl Try.ntmps125 rfl fun a S => ?_
  refine wp_seq_k fun _ hK1 => ?_
  refine wp_region_lit ?_
  (refine st_y S (Yr.ys (ys_assign Ev.c)) rfl ?_; clear S a; intro a w S)
  refine st_nil ?_
  (refine (then_normal (hK1 _ _ ?_)); clear hK1)
  refine wp_seq_k fun _ hK1 => ?_
  (refine st_quiet S (by kernel_rfl) (by kernel_rfl) ?_; clear S w; intro a S)
  (refine q_y S (Yr.ys (ys_move (Ev.t rfl))) rfl ?_; clear S a; intro a S)
  (refine q_y S (Yr.ys (ys_nilc (Ev.t rfl))) rfl ?_; clear S a; intro a S)
  (refine q_y S (Yr.ys (ys_fieldN (FieldT.mk Try.underlying134 rfl Try.sizeOf3 rfl) (Ev.t rfl) (i' := 1) rfl)) rfl ?_; clear S a; intro a S)
  (refine q_y S (Yr.ys (ys_ld ⟨Try.isAgg3, Try.sizeOf3⟩ (Ev.t rfl) (k := 0) rfl rfl)) rfl ?_; clear S a; intro a S)
  (refine q_y S (Yr.ys (ys_assign Ev.c)) rfl ?_; clear S a; intro a S)
  (refine q_y S (Yr.ys (ys_assign (Ev.t rfl))) rfl ?_; clear S a; intro a S)
  (refine q_nil ?_; intro w W; replace S := St.mk S W; clear W)
  (refine (then_normal (hK1 _ _ ?_)); clear hK1)
  refine wp_seq_k fun _ hK1 => ?_
  refine wp_region_lit ?_
  (refine st_y S (Yr.ys (ys_assign Ev.c)) rfl ?_; clear S a w; intro a w S)
  refine st_nil ?_
  (refine (then_normal (hK1 _ _ ?_)); clear hK1)
  refine wp_block ?_
  replace S := S.weak (K' := [(5, true, .int .i64 ((0 : Nat) : Int)), (4, true, .int .i64 ((k + 0 : Nat) : Int)), (3, true, .int .i64 (0 : Int)), (0, true, .pointer (some ⟨g, 0, none⟩))]) (L' := rdr g A cap b k L) (by repeat (first | exact Fits.nil | refine Fits.skip rfl ?_ | refine Fits.cons rfl ?_)) (by repeat (first | exact List.Sublist.refl _ | exact List.nil_sublist _ | refine .cons_cons _ ?_ | refine .cons _ ?_))
  refine st_loopK S (X := Nat × Int) (fun q => [(5, true, .int .i64 (q.1 : Int)), (4, true, .int .i64 ((k + q.1 : Nat) : Int)), (3, true, .int .i64 q.2)]) (fun _ L => L)
    (fun q => q.1 ≤ 8 ∧ k + q.1 ≤ b.length ∧ 0 ≤ q.2 ∧ q.2 < 128 ^ q.1 ∧ numR q.1 q.2 (b.drop (k + q.1)) = numR 0 0 (b.drop k)) (fun q => 9 - q.1) (0, 0) ⟨by simp, by omega, by simp, by simp, rfl⟩ (by repeat (first | exact Fits.nil | refine Fits.skip rfl ?_ | refine Fits.cons rfl ?_)) (by repeat (first | exact List.Sublist.refl _ | exact List.nil_sublist _ | refine .cons_cons _ ?_ | refine .cons _ ?_)) ?_
  clear S
  intro ⟨i, m⟩ a w ⟨hi8, hik, hm0, hm1, hno⟩ S
  dsimp only at hi8 hik hm0 hm1 hno S
  by_cases hlt : k + i < b.length
  · obtain ⟨ga, rfl⟩ := S.wd.row_at (k := 1) rfl (by have := (S.wd.room (k := 1) rfl).1; omega)
    obtain ⟨x, hx⟩ : ∃ x, b[k + i]? = some x := ⟨b[k + i], by simp⟩
    have hx8 : x.toNat < 256 := x.toNat_lt
    have hst := numR_step (i := i) (n := m) hx
    rw [hno] at hst
    obtain ⟨p1, p2, p3⟩ := pow_num hi8
    obtain ⟨rw_s, hs0, hs1⟩ := sh_num (i := i) (y := (x.toNat : Int) % 128) hi8 (by omega) (by omega)
    have rw_o := or_num (i := i) (m := m) (y := (x.toNat : Int) % 128) hi8 hm0 hm1 (by omega) (by omega)
    have rw_7 : 7 * (i : Int) = ((7 * i : Nat) : Int) := by omega
    have rw_k : ((k + i : Nat) : Int) + 1 = ((k + (i + 1) : Nat) : Int) := by omega
    by_cases h128 : x.toNat < 128
    · rw [if_neg (by omega), if_pos h128] at hst
      by_cases h0 : 0 < i ∧ x.toNat = 0
      · rw [if_pos h0] at hst
        obtain ⟨h0a, h0b⟩ := h0
        refine wp_seq_k fun _ hK1 => ?_
        refine wp_block ?_
        refine wp_seq_k fun _ hK2 => ?_
        refine wp_seq_k fun _ hK3 => ?_
        refine wp_region_lit ?_
        (refine st_y S (Yr.ys (ys_move (Ev.t rfl))) rfl ?_; clear S a w; intro a w S)
        (refine st_y S (Yr.ys (ys_move (Ev.t rfl))) rfl ?_; clear S a w; intro a w S)
        (refine st_y S (Yr.ys (ys_nilc (Ev.t rfl))) rfl ?_; clear S a w; intro a w S)
        (refine st_y S (Yr.ys (ys_fieldN (FieldT.mk Try.underlying134 rfl Try.sizeOf22 rfl) (Ev.t rfl) (i' := 0) rfl)) rfl ?_; clear S a w; intro a w S)
        (refine st_y S (Yr.ys (ys_ld ⟨Try.isAgg22, Try.sizeOf22⟩ (Ev.t rfl) (k := 0) rfl rfl)) rfl ?_; clear S a w; intro a w S)
        (refine st_y S (Yr.ys (ys_lenS Try.underlying22 (Ev.t rfl))) rfl ?_; clear S a w; intro a w S)
        (refine st_y S (Yr.ys (ys_F (by omega) (ys_eql (Ev.t rfl) (Ev.t rfl)))) rfl ?_; clear S a w; intro a w S)
        refine st_nil ?_
        (refine (then_normal (hK3 _ _ ?_)); clear hK3)
        refine st_else S (Ev.t rfl) ?_
        refine wp_skip ?_
        (refine (then_normal (hK2 _ _ ?_)); clear hK2)
        refine wp_seq_k fun _ hK2 => ?_
        refine wp_region_lit ?_
        (refine st_y S (Yr.ys (ys_move (Ev.t rfl))) rfl ?_; clear S a w; intro a w S)
        (refine st_y S (Yr.ys (ys_nilc (Ev.t rfl))) rfl ?_; clear S a w; intro a w S)
        (refine st_y S (Yr.ys (ys_fieldN (FieldT.mk Try.underlying134 rfl Try.sizeOf22 rfl) (Ev.t rfl) (i' := 0) rfl)) rfl ?_; clear S a w; intro a w S)
        (refine st_y S (Yr.ys (ys_ld ⟨Try.isAgg22, Try.sizeOf22⟩ (Ev.t rfl) (k := 0) rfl rfl)) rfl ?_; clear S a w; intro a w S)
        (refine st_y S (Yr.ys (ys_move (Ev.t rfl))) rfl ?_; clear S a w; intro a w S)
        (refine st_y S (Yr.ys (ys_ixS Try.underlying22 Try.sizeOf5 (Ev.t rfl) (Ev.t rfl) (fun _ => by omega))) rfl ?_; clear S a w; intro a w S)
        (refine st_y S (Yr.ys (ys_ldW0 ⟨Try.isAgg5, Try.sizeOf5⟩ (Ev.t rfl) (k := 1) rfl hx (fun _ => rfl) rfl)) rfl ?_; clear S a w; intro a w S)
        (refine st_y S (Yr.ys (ys_cvI Try.underlying5 Try.underlying3 (Ev.t rfl) (fun _ => by unfold I64; omega))) rfl ?_; clear S a w; intro a w S)
        (refine st_y S (Yr.ys (ys_assign (Ev.t rfl))) rfl ?_; clear S a w; intro a w S)
        refine st_nil ?_
        (refine (then_normal (hK2 _ _ ?_)); clear hK2)
        refine wp_seq_k fun _ hK2 => ?_
        refine wp_region_lit ?_
        (refine st_y S (Yr.ys (ys_move (Ev.t rfl))) rfl ?_; clear S a w; intro a w S)
        (refine st_y S (Yr.ys (ys_addI (Ev.t rfl) Ev.c (fun _ => by unfold I64; omega))) rfl ?_; clear S a w; intro a w S)
        rw [rw_k] at S
        (refine st_y S (Yr.ys (ys_assign (Ev.t rfl))) rfl ?_; clear S a w; intro a w S)
        refine st_nil ?_
        (refine (then_normal (hK2 _ _ ?_)); clear hK2)
        refine wp_seq_k fun _ hK2 => ?_
        refine wp_seq_k fun _ hK3 => ?_
        refine wp_region_lit ?_
        (refine st_y S (Yr.ys (ys_move (Ev.t rfl))) rfl ?_; clear S a w; intro a w S)
        (refine st_y S (Yr.ys (ys_eql (Ev.t rfl) Ev.c)) rfl ?_; clear S a w; intro a w S)
        (refine st_y S (Yr.ys (ys_move (Ev.t rfl))) rfl ?_; clear S a w; intro a w S)
        (refine st_yg S rfl rfl (Yr.ys (ys_move (Ev.t rfl))) rfl ?_; clear S a w; intro a w S)
        (refine st_yg S rfl rfl (Yr.ys (ys_F (by omega) (ys_geq (Ev.g rfl) Ev.c))) rfl ?_; clear S a w; intro a w S)
        (refine st_y S (Yr.ys (ys_andF (Ev.t rfl) (Ev.g rfl) Ev.c)) rfl ?_; clear S a w; intro a w S)
        refine st_nil ?_
        (refine (then_normal (hK3 _ _ ?_)); clear hK3)
        refine st_else S (Ev.t rfl) ?_
        refine wp_skip ?_
        (refine (then_normal (hK2 _ _ ?_)); clear hK2)
        refine wp_seq_k fun _ hK2 => ?_
        refine wp_region_lit ?_
        (refine st_y S (Yr.ys (ys_move (Ev.t rfl))) rfl ?_; clear S a w; intro a w S)
        (refine st_y S (Yr.ys (ys_move (Ev.t rfl))) rfl ?_; clear S a w; intro a w S)
        (refine st_y S (Yr.ys (ys_andM 7 (c := 128) (Ev.t rfl) Ev.c rfl rfl rfl (fun _ => by omega))) rfl ?_; clear S a w; intro a w S)
        (refine st_y S (Yr.ys (ys_move (Ev.t rfl))) rfl ?_; clear S a w; intro a w S)
        (refine st_y S (Yr.ys (ys_mulI Ev.c (Ev.t rfl) (fun _ => by unfold I64; omega))) rfl ?_; clear S a w; intro a w S)
        rw [rw_7] at S
        (refine st_y S (Yr.ys (ys_shl (Ev.t rfl) (Ev.t rfl) (Nat.ble_eq_true_of_le (by show _ ≤ 64; omega)))) rfl ?_; clear S a w; intro a w S)
        rw [rw_s] at S
        (refine st_y S (Yr.ys (ys_bor (Ev.t rfl) (Ev.t rfl))) rfl ?_; clear S a w; intro a w S)
        rw [rw_o] at S
        (refine st_y S (Yr.ys (ys_assign (Ev.t rfl))) rfl ?_; clear S a w; intro a w S)
        refine st_nil ?_
        (refine (then_normal (hK2 _ _ ?_)); clear hK2)
        refine wp_seq_k fun _ hK2 => ?_
        refine wp_region_lit ?_
        (refine st_y S (Yr.ys (ys_move (Ev.t rfl))) rfl ?_; clear S a w; intro a w S)
        (refine st_y S (Yr.ys (ys_T (by omega) (ys_lss (Ev.t rfl) Ev.c))) rfl ?_; clear S a w; intro a w S)
        refine st_nil ?_
        (refine (then_normal (hK2 _ _ ?_)); clear hK2)
        refine st_then S (Ev.t rfl) ?_
        refine wp_seq_k fun _ hK2 => ?_
        refine wp_seq_k fun _ hK3 => ?_
        refine wp_region_lit ?_
        (refine st_y S (Yr.ys (ys_move (Ev.t rfl))) rfl ?_; clear S a w; intro a w S)
        (refine st_y S (Yr.ys (ys_T (by omega) (ys_gtr (Ev.t rfl) Ev.c))) rfl ?_; clear S a w; intro a w S)
        (refine st_y S (Yr.ys (ys_move (Ev.t rfl))) rfl ?_; clear S a w; intro a w S)
        (refine st_yt S rfl rfl (Yr.ys (ys_move (Ev.t rfl))) rfl ?_; clear S a w; intro a w S)
        (refine st_yt S rfl rfl (Yr.ys (ys_T (by omega) (ys_eql (Ev.t rfl) Ev.c))) rfl ?_; clear S a w; intro a w S)
        (refine st_y S (Yr.ys (ys_pickT (Ev.t rfl) (Ev.t rfl))) rfl ?_; clear S a w; intro a w S)
        refine st_nil ?_
        (refine (then_normal (hK3 _ _ ?_)); clear hK3)
        refine st_then S (Ev.t rfl) ?_
        refine wp_region_lit ?_
        (refine st_m (op_callRP S Try.call83 (EvL.cons Ev.c EvL.nil) (c83 S.wd _) rfl ?_ ?_) <;> clear S a w)
        (intro _ _ h; exact h.elim)
        rintro _ _ ⟨rfl, rfl⟩ a w S
        refine (then_panic (in_panic (then_panic (then_panic (in_panic ?_)))))
        refine post_panic S ?_
        rw [hst]
        exact .inr ⟨_, _, rfl, S.wd, rfl, by decide, rfl⟩
      · rw [if_neg h0] at hst
        have rw_f : (decide (0 < (i : Int)) && decide ((x.toNat : Int) = 0)) = false := by rw [Bool.eq_false_iff]; intro h; simp at h; omega
        refine wp_seq_k fun _ hK1 => ?_
        refine wp_block ?_
        refine wp_seq_k fun _ hK2 => ?_
        refine wp_seq_k fun _ hK3 => ?_
        refine wp_region_lit ?_
        (refine st_y S (Yr.ys (ys_move (Ev.t rfl))) rfl ?_; clear S a w; intro a w S)
        (refine st_y S (Yr.ys (ys_move (Ev.t rfl))) rfl ?_; clear S a w; intro a w S)
        (refine st_y S (Yr.ys (ys_nilc (Ev.t rfl))) rfl ?_; clear S a w; intro a w S)
        (refine st_y S (Yr.ys (ys_fieldN (FieldT.mk Try.underlying134 rfl Try.sizeOf22 rfl) (Ev.t rfl) (i' := 0) rfl)) rfl ?_; clear S a w; intro a w S)
        (refine st_y S (Yr.ys (ys_ld ⟨Try.isAgg22, Try.sizeOf22⟩ (Ev.t rfl) (k := 0) rfl rfl)) rfl ?_; clear S a w; intro a w S)
        (refine st_y S (Yr.ys (ys_lenS Try.underlying22 (Ev.t rfl))) rfl ?_; clear S a w; intro a w S)
        (refine st_y S (Yr.ys (ys_F (by omega) (ys_eql (Ev.t rfl) (Ev.t rfl)))) rfl ?_; clear S a w; intro a w S)
        refine st_nil ?_
        (refine (then_normal (hK3 _ _ ?_)); clear hK3)
        refine st_else S (Ev.t rfl) ?_
        refine wp_skip ?_
        (refine (then_normal (hK2 _ _ ?_)); clear hK2)
        refine wp_seq_k fun _ hK2 => ?_
        refine wp_region_lit ?_
        (refine st_y S (Yr.ys (ys_move (Ev.t rfl))) rfl ?_; clear S a w; intro a w S)
        (refine st_y S (Yr.ys (ys_nilc (Ev.t rfl))) rfl ?_; clear S a w; intro a w S)
        (refine st_y S (Yr.ys (ys_fieldN (FieldT.mk Try.underlying134 rfl Try.sizeOf22 rfl) (Ev.t rfl) (i' := 0) rfl)) rfl ?_; clear S a w; intro a w S)
        (refine st_y S (Yr.ys (ys_ld ⟨Try.isAgg22, Try.sizeOf22⟩ (Ev.t rfl) (k := 0) rfl rfl)) rfl ?_; clear S a w; intro a w S)
        (refine st_y S (Yr.ys (ys_move (Ev.t rfl))) rfl ?_; clear S a w; intro a w S)
        (refine st_y S (Yr.ys (ys_ixS Try.underlying22 Try.sizeOf5 (Ev.t rfl) (Ev.t rfl) (fun _ => by omega))) rfl ?_; clear S a w; intro a w S)
        (refine st_y S (Yr.ys (ys_ldW0 ⟨Try.isAgg5, Try.sizeOf5⟩ (Ev.t rfl) (k := 1) rfl hx (fun _ => rfl) rfl)) rfl ?_; clear S a w; intro a w S)
        (refine st_y S (Yr.ys (ys_cvI Try.underlying5 Try.underlying3 (Ev.t rfl) (fun _ => by unfold I64; omega))) rfl ?_; clear S a w; intro a w S)
        (refine st_y S (Yr.ys (ys_assign (Ev.t rfl))) rfl ?_; clear S a w; intro a w S)
        refine st_nil ?_
        (refine (then_normal (hK2 _ _ ?_)); clear hK2)
        refine wp_seq_k fun _ hK2 => ?_
        refine wp_region_lit ?_
        (refine st_y S (Yr.ys (ys_move (Ev.t rfl))) rfl ?_; clear S a w; intro a w S)
        (refine st_y S (Yr.ys (ys_addI (Ev.t rfl) Ev.c (fun _ => by unfold I64; omega))) rfl ?_; clear S a w; intro a w S)
        rw [rw_k] at S
        (refine st_y S (Yr.ys (ys_assign (Ev.t rfl))) rfl ?_; clear S a w; intro a w S)
        refine st_nil ?_
        (refine (then_normal (hK2 _ _ ?_)); clear hK2)
        refine wp_seq_k fun _ hK2 => ?_
        refine wp_seq_k fun _ hK3 => ?_
        refine wp_region_lit ?_
        (refine st_y S (Yr.ys (ys_move (Ev.t rfl))) rfl ?_; clear S a w; intro a w S)
        (refine st_y S (Yr.ys (ys_eql (Ev.t rfl) Ev.c)) rfl ?_; clear S a w; intro a w S)
        (refine st_y S (Yr.ys (ys_move (Ev.t rfl))) rfl ?_; clear S a w; intro a w S)
        (refine st_yg S rfl rfl (Yr.ys (ys_move (Ev.t rfl))) rfl ?_; clear S a w; intro a w S)
        (refine st_yg S rfl rfl (Yr.ys (ys_F (by omega) (ys_geq (Ev.g rfl) Ev.c))) rfl ?_; clear S a w; intro a w S)
        (refine st_y S (Yr.ys (ys_andF (Ev.t rfl) (Ev.g rfl) Ev.c)) rfl ?_; clear S a w; intro a w S)
        refine st_nil ?_
        (refine (then_normal (hK3 _ _ ?_)); clear hK3)
        refine st_else S (Ev.t rfl) ?_
        refine wp_skip ?_
        (refine (then_normal (hK2 _ _ ?_)); clear hK2)
        refine wp_seq_k fun _ hK2 => ?_
        refine wp_region_lit ?_
        (refine st_y S (Yr.ys (ys_move (Ev.t rfl))) rfl ?_; clear S a w; intro a w S)
        (refine st_y S (Yr.ys (ys_move (Ev.t rfl))) rfl ?_; clear S a w; intro a w S)
        (refine st_y S (Yr.ys (ys_andM 7 (c := 128) (Ev.t rfl) Ev.c rfl rfl rfl (fun _ => by omega))) rfl ?_; clear S a w; intro a w S)
        (refine st_y S (Yr.ys (ys_move (Ev.t rfl))) rfl ?_; clear S a w; intro a w S)
        (refine st_y S (Yr.ys (ys_mulI Ev.c (Ev.t rfl) (fun _ => by unfold I64; omega))) rfl ?_; clear S a w; intro a w S)
        rw [rw_7] at S
        (refine st_y S (Yr.ys (ys_shl (Ev.t rfl) (Ev.t rfl) (Nat.ble_eq_true_of_le (by show _ ≤ 64; omega)))) rfl ?_; clear S a w; intro a w S)
        rw [rw_s] at S
        (refine st_y S (Yr.ys (ys_bor (Ev.t rfl) (Ev.t rfl))) rfl ?_; clear S a w; intro a w S)
        rw [rw_o] at S
        (refine st_y S (Yr.ys (ys_assign (Ev.t rfl))) rfl ?_; clear S a w; intro a w S)
        refine st_nil ?_
        (refine (then_normal (hK2 _ _ ?_)); clear hK2)
        refine wp_seq_k fun _ hK2 => ?_
        refine wp_region_lit ?_
        (refine st_y S (Yr.ys (ys_move (Ev.t rfl))) rfl ?_; clear S a w; intro a w S)
        (refine st_y S (Yr.ys (ys_T (by omega) (ys_lss (Ev.t rfl) Ev.c))) rfl ?_; clear S a w; intro a w S)
        refine st_nil ?_
        (refine (then_normal (hK2 _ _ ?_)); clear hK2)
        refine st_then S (Ev.t rfl) ?_
        refine wp_seq_k fun _ hK2 => ?_
        refine wp_seq_k fun _ hK3 => ?_
        refine wp_region_lit ?_
        (refine st_y S (Yr.ys (ys_move (Ev.t rfl))) rfl ?_; clear S a w; intro a w S)
        (refine st_y S (Yr.ys (ys_gtr (Ev.t rfl) Ev.c)) rfl ?_; clear S a w; intro a w S)
        (refine st_y S (Yr.ys (ys_move (Ev.t rfl))) rfl ?_; clear S a w; intro a w S)
        (refine st_yg S rfl rfl (Yr.ys (ys_move (Ev.t rfl))) rfl ?_; clear S a w; intro a w S)
        (refine st_yg S rfl rfl (Yr.ys (ys_eql (Ev.g rfl) Ev.c)) rfl ?_; clear S a w; intro a w S)
        (refine st_y S (Yr.ys (ys_and (Ev.t rfl) (Ev.g rfl) Ev.c)) rfl ?_; clear S a w; intro a w S)
        rw [rw_f] at S
        refine st_nil ?_
        (refine (then_normal (hK3 _ _ ?_)); clear hK3)
        refine st_else S (Ev.t rfl) ?_
        refine wp_skip ?_
        (refine (then_normal (hK2 _ _ ?_)); clear hK2)
        refine wp_seq_k fun _ hK2 => ?_
        refine wp_region_lit ?_
        (refine st_y S (Yr.ys (ys_move (Ev.t rfl))) rfl ?_; clear S a w; intro a w S)
        (refine st_y S (Yr.ys (ys_move (Ev.t rfl))) rfl ?_; clear S a w; intro a w S)
        (refine st_y S (Yr.ys (ys_nilc (Ev.t rfl))) rfl ?_; clear S a w; intro a w S)
        (refine st_y S (Yr.ys (ys_fieldN (FieldT.mk Try.underlying134 rfl Try.sizeOf3 rfl) (Ev.t rfl) (i' := 1) rfl)) rfl ?_; clear S a w; intro a w S)
        (refine st_m (op_st S Try.sizeOf3 (Ev.t rfl) (Ev.t rfl) (k := 0) rfl rfl (by simp) ?_); clear S a w; intro a w S)
        refine st_nil ?_
        (refine (then_normal (hK2 _ _ ?_)); clear hK2)
        refine wp_seq_k fun _ hK2 => ?_
        refine wp_region_lit ?_
        (refine st_y S (Yr.ys (ys_move (Ev.t rfl))) rfl ?_; clear S a w; intro a w S)
        (refine st_y S (Yr.ys (ys_assign (Ev.t rfl))) rfl ?_; clear S a w; intro a w S)
        refine st_nil ?_
        (refine (then_normal (hK2 _ _ ?_)); clear hK2)
        refine wp_ret ?_
        refine (in_ret (then_ret (then_ret (in_ret ?_))))
        refine st_ret S (results1 S Try.results125 (Rv.tmp rfl)) ?_
        rw [hst]
        exact .inl ⟨_, _, rfl, S.wd, rfl, rfl, rfl⟩
    · by_cases h8 : i = 8
      · rw [if_pos (by omega)] at hst
        refine wp_seq_k fun _ hK1 => ?_
        refine wp_block ?_
        refine wp_seq_k fun _ hK2 => ?_
        refine wp_seq_k fun _ hK3 => ?_
        refine wp_region_lit ?_
        (refine st_y S (Yr.ys (ys_move (Ev.t rfl))) rfl ?_; clear S a w; intro a w S)
        (refine st_y S (Yr.ys (ys_move (Ev.t rfl))) rfl ?_; clear S a w; intro a w S)
        (refine st_y S (Yr.ys (ys_nilc (Ev.t rfl))) rfl ?_; clear S a w; intro a w S)
        (refine st_y S (Yr.ys (ys_fieldN (FieldT.mk Try.underlying134 rfl Try.sizeOf22 rfl) (Ev.t rfl) (i' := 0) rfl)) rfl ?_; clear S a w; intro a w S)
        (refine st_y S (Yr.ys (ys_ld ⟨Try.isAgg22, Try.sizeOf22⟩ (Ev.t rfl) (k := 0) rfl rfl)) rfl ?_; clear S a w; intro a w S)
        (refine st_y S (Yr.ys (ys_lenS Try.underlying22 (Ev.t rfl))) rfl ?_; clear S a w; intro a w S)
        (refine st_y S (Yr.ys (ys_F (by omega) (ys_eql (Ev.t rfl) (Ev.t rfl)))) rfl ?_; clear S a w; intro a w S)
        refine st_nil ?_
        (refine (then_normal (hK3 _ _ ?_)); clear hK3)
        refine st_else S (Ev.t rfl) ?_
        refine wp_skip ?_
        (refine (then_normal (hK2 _ _ ?_)); clear hK2)
        refine wp_seq_k fun _ hK2 => ?_
        refine wp_region_lit ?_
        (refine st_y S (Yr.ys (ys_move (Ev.t rfl))) rfl ?_; clear S a w; intro a w S)
        (refine st_y S (Yr.ys (ys_nilc (Ev.t rfl))) rfl ?_; clear S a w; intro a w S)
        (refine st_y S (Yr.ys (ys_fieldN (FieldT.mk Try.underlying134 rfl Try.sizeOf22 rfl) (Ev.t rfl) (i' := 0) rfl)) rfl ?_; clear S a w; intro a w S)
        (refine st_y S (Yr.ys (ys_ld ⟨Try.isAgg22, Try.sizeOf22⟩ (Ev.t rfl) (k := 0) rfl rfl)) rfl ?_; clear S a w; intro a w S)
        (refine st_y S (Yr.ys (ys_move (Ev.t rfl))) rfl ?_; clear S a w; intro a w S)
        (refine st_y S (Yr.ys (ys_ixS Try.underlying22 Try.sizeOf5 (Ev.t rfl) (Ev.t rfl) (fun _ => by omega))) rfl ?_; clear S a w; intro a w S)
        (refine st_y S (Yr.ys (ys_ldW0 ⟨Try.isAgg5, Try.sizeOf5⟩ (Ev.t rfl) (k := 1) rfl hx (fun _ => rfl) rfl)) rfl ?_; clear S a w; intro a w S)
        (refine st_y S (Yr.ys (ys_cvI Try.underlying5 Try.underlying3 (Ev.t rfl) (fun _ => by unfold I64; omega))) rfl ?_; clear S a w; intro a w S)
        (refine st_y S (Yr.ys (ys_assign (Ev.t rfl))) rfl ?_; clear S a w; intro a w S)
        refine st_nil ?_
        (refine (then_normal (hK2 _ _ ?_)); clear hK2)
        refine wp_seq_k fun _ hK2 => ?_
        refine wp_region_lit ?_
        (refine st_y S (Yr.ys (ys_move (Ev.t rfl))) rfl ?_; clear S a w; intro a w S)
        (refine st_y S (Yr.ys (ys_addI (Ev.t rfl) Ev.c (fun _ => by unfold I64; omega))) rfl ?_; clear S a w; intro a w S)
        rw [rw_k] at S
        (refine st_y S (Yr.ys (ys_assign (Ev.t rfl))) rfl ?_; clear S a w; intro a w S)
        refine st_nil ?_
        (refine (then_normal (hK2 _ _ ?_)); clear hK2)
        refine wp_seq_k fun _ hK2 => ?_
        refine wp_seq_k fun _ hK3 => ?_
        refine wp_region_lit ?_
        (refine st_y S (Yr.ys (ys_move (Ev.t rfl))) rfl ?_; clear S a w; intro a w S)
        (refine st_y S (Yr.ys (ys_T (by omega) (ys_eql (Ev.t rfl) Ev.c))) rfl ?_; clear S a w; intro a w S)
        (refine st_y S (Yr.ys (ys_move (Ev.t rfl))) rfl ?_; clear S a w; intro a w S)
        (refine st_yt S rfl rfl (Yr.ys (ys_move (Ev.t rfl))) rfl ?_; clear S a w; intro a w S)
        (refine st_yt S rfl rfl (Yr.ys (ys_T (by omega) (ys_geq (Ev.t rfl) Ev.c))) rfl ?_; clear S a w; intro a w S)
        (refine st_y S (Yr.ys (ys_pickT (Ev.t rfl) (Ev.t rfl))) rfl ?_; clear S a w; intro a w S)
        refine st_nil ?_
        (refine (then_normal (hK3 _ _ ?_)); clear hK3)
        refine st_then S (Ev.t rfl) ?_
        refine wp_region_lit ?_
        (refine st_m (op_callRP S Try.call83 (EvL.cons Ev.c EvL.nil) (c83 S.wd _) rfl ?_ ?_) <;> clear S a w)
        (intro _ _ h; exact h.elim)
        rintro _ _ ⟨rfl, rfl⟩ a w S
        refine (then_panic (in_panic (then_panic (then_panic (in_panic ?_)))))
        refine post_panic S ?_
        rw [hst]
        exact .inr ⟨_, _, rfl, S.wd, rfl, by decide, rfl⟩
      · rw [if_neg (by omega), if_neg h128] at hst
        have h5 : (128 : Int) ^ (i + 1) = 128 * 128 ^ i := by rw [Int.pow_succ]; omega
        have h6 : (x.toNat : Int) % 128 * 128 ^ i ≤ 127 * 128 ^ i := Int.mul_le_mul_of_nonneg_right (by omega) (by omega)
        refine wp_seq_k fun _ hK1 => ?_
        refine wp_block ?_
        refine wp_seq_k fun _ hK2 => ?_
        refine wp_seq_k fun _ hK3 => ?_
        refine wp_region_lit ?_
        (refine st_y S (Yr.ys (ys_move (Ev.t rfl))) rfl ?_; clear S a w; intro a w S)
        (refine st_y S (Yr.ys (ys_move (Ev.t rfl))) rfl ?_; clear S a w; intro a w S)
        (refine st_y S (Yr.ys (ys_nilc (Ev.t rfl))) rfl ?_; clear S a w; intro a w S)
        (refine st_y S (Yr.ys (ys_fieldN (FieldT.mk Try.underlying134 rfl Try.sizeOf22 rfl) (Ev.t rfl) (i' := 0) rfl)) rfl ?_; clear S a w; intro a w S)
        (refine st_y S (Yr.ys (ys_ld ⟨Try.isAgg22, Try.sizeOf22⟩ (Ev.t rfl) (k := 0) rfl rfl)) rfl ?_; clear S a w; intro a w S)
        (refine st_y S (Yr.ys (ys_lenS Try.underlying22 (Ev.t rfl))) rfl ?_; clear S a w; intro a w S)
        (refine st_y S (Yr.ys (ys_F (by omega) (ys_eql (Ev.t rfl) (Ev.t rfl)))) rfl ?_; clear S a w; intro a w S)
        refine st_nil ?_
        (refine (then_normal (hK3 _ _ ?_)); clear hK3)
        refine st_else S (Ev.t rfl) ?_
        refine wp_skip ?_
        (refine (then_normal (hK2 _ _ ?_)); clear hK2)
        refine wp_seq_k fun _ hK2 => ?_
        refine wp_region_lit ?_
        (refine st_y S (Yr.ys (ys_move (Ev.t rfl))) rfl ?_; clear S a w; intro a w S)
        (refine st_y S (Yr.ys (ys_nilc (Ev.t rfl))) rfl ?_; clear S a w; intro a w S)
        (refine st_y S (Yr.ys (ys_fieldN (FieldT.mk Try.underlying134 rfl Try.sizeOf22 rfl) (Ev.t rfl) (i' := 0) rfl)) rfl ?_; clear S a w; intro a w S)
        (refine st_y S (Yr.ys (ys_ld ⟨Try.isAgg22, Try.sizeOf22⟩ (Ev.t rfl) (k := 0) rfl rfl)) rfl ?_; clear S a w; intro a w S)
        (refine st_y S (Yr.ys (ys_move (Ev.t rfl))) rfl ?_; clear S a w; intro a w S)
        (refine st_y S (Yr.ys (ys_ixS Try.underlying22 Try.sizeOf5 (Ev.t rfl) (Ev.t rfl) (fun _ => by omega))) rfl ?_; clear S a w; intro a w S)
        (refine st_y S (Yr.ys (ys_ldW0 ⟨Try.isAgg5, Try.sizeOf5⟩ (Ev.t rfl) (k := 1) rfl hx (fun _ => rfl) rfl)) rfl ?_; clear S a w; intro a w S)
        (refine st_y S (Yr.ys (ys_cvI Try.underlying5 Try.underlying3 (Ev.t rfl) (fun _ => by unfold I64; omega))) rfl ?_; clear S a w; intro a w S)
        (refine st_y S (Yr.ys (ys_assign (Ev.t rfl))) rfl ?_; clear S a w; intro a w S)
        refine st_nil ?_
        (refine (then_normal (hK2 _ _ ?_)); clear hK2)
        refine wp_seq_k fun _ hK2 => ?_
        refine wp_region_lit ?_
        (refine st_y S (Yr.ys (ys_move (Ev.t rfl))) rfl ?_; clear S a w; intro a w S)
        (refine st_y S (Yr.ys (ys_addI (Ev.t rfl) Ev.c (fun _ => by unfold I64; omega))) rfl ?_; clear S a w; intro a w S)
        rw [rw_k] at S
        (refine st_y S (Yr.ys (ys_assign (Ev.t rfl))) rfl ?_; clear S a w; intro a w S)
        refine st_nil ?_
        (refine (then_normal (hK2 _ _ ?_)); clear hK2)
        refine wp_seq_k fun _ hK2 => ?_
        refine wp_seq_k fun _ hK3 => ?_
        refine wp_region_lit ?_
        (refine st_y S (Yr.ys (ys_move (Ev.t rfl))) rfl ?_; clear S a w; intro a w S)
        (refine st_y S (Yr.ys (ys_F (by omega) (ys_eql (Ev.t rfl) Ev.c))) rfl ?_; clear S a w; intro a w S)
        (refine st_y S (Yr.ys (ys_move (Ev.t rfl))) rfl ?_; clear S a w; intro a w S)
        (refine st_skip S rfl rfl rfl rfl ?_; clear S a w; intro a w S)
        (refine st_skip S rfl rfl rfl rfl ?_; clear S a w; intro a w S)
        (refine st_y S (Yr.ys (ys_pickF (Ev.t rfl) Ev.c)) rfl ?_; clear S a w; intro a w S)
        refine st_nil ?_
        (refine (then_normal (hK3 _ _ ?_)); clear hK3)
        refine st_else S (Ev.t rfl) ?_
        refine wp_skip ?_
        (refine (then_normal (hK2 _ _ ?_)); clear hK2)
        refine wp_seq_k fun _ hK2 => ?_
        refine wp_region_lit ?_
        (refine st_y S (Yr.ys (ys_move (Ev.t rfl))) rfl ?_; clear S a w; intro a w S)
        (refine st_y S (Yr.ys (ys_move (Ev.t rfl))) rfl ?_; clear S a w; intro a w S)
        (refine st_y S (Yr.ys (ys_andM 7 (c := 128) (Ev.t rfl) Ev.c rfl rfl rfl (fun _ => by omega))) rfl ?_; clear S a w; intro a w S)
        (refine st_y S (Yr.ys (ys_move (Ev.t rfl))) rfl ?_; clear S a w; intro a w S)
        (refine st_y S (Yr.ys (ys_mulI Ev.c (Ev.t rfl) (fun _ => by unfold I64; omega))) rfl ?_; clear S a w; intro a w S)
        rw [rw_7] at S
        (refine st_y S (Yr.ys (ys_shl (Ev.t rfl) (Ev.t rfl) (Nat.ble_eq_true_of_le (by show _ ≤ 64; omega)))) rfl ?_; clear S a w; intro a w S)
        rw [rw_s] at S
        (refine st_y S (Yr.ys (ys_bor (Ev.t rfl) (Ev.t rfl))) rfl ?_; clear S a w; intro a w S)
        rw [rw_o] at S
        (refine st_y S (Yr.ys (ys_assign (Ev.t rfl))) rfl ?_; clear S a w; intro a w S)
        refine st_nil ?_
        (refine (then_normal (hK2 _ _ ?_)); clear hK2)
        refine wp_seq_k fun _ hK2 => ?_
        refine wp_region_lit ?_
        (refine st_y S (Yr.ys (ys_move (Ev.t rfl))) rfl ?_; clear S a w; intro a w S)
        (refine st_y S (Yr.ys (ys_F (by omega) (ys_lss (Ev.t rfl) Ev.c))) rfl ?_; clear S a w; intro a w S)
        refine st_nil ?_
        (refine (then_normal (hK2 _ _ ?_)); clear hK2)
        refine st_else S (Ev.t rfl) ?_
        refine wp_skip ?_
        (refine (in_normal (then_normal (hK1 _ _ ?_))); clear hK1)
        refine wp_region_lit ?_
        (refine st_y S (Yr.ys (ys_move (Ev.t rfl))) rfl ?_; clear S a w; intro a w S)
        (refine st_y S (Yr.ys (ys_addI (Ev.t rfl) Ev.c (fun _ => by unfold I64; omega))) rfl ?_; clear S a w; intro a w S)
        (refine st_y S (Yr.ys (ys_assign (Ev.t rfl))) rfl ?_; clear S a w; intro a w S)
        refine st_nil ?_
        refine (then_normal ?_)
        exact ⟨(i + 1, m + (x.toNat : Int) % 128 * 128 ^ i), ⟨by dsimp only; omega, by dsimp only; omega, by dsimp only; omega, by dsimp only; omega, by dsimp only; rw [hst]; rfl⟩, by dsimp only; omega, S.weak (by repeat (first | exact Fits.nil | refine Fits.skip rfl ?_ | refine Fits.cons rfl ?_)) (by repeat (first | exact List.Sublist.refl _ | exact List.nil_sublist _ | refine .cons_cons _ ?_ | refine .cons _ ?_))⟩
  · refine wp_seq_k fun _ hK1 => ?_
    refine wp_block ?_
    refine wp_seq_k fun _ hK2 => ?_
    refine wp_seq_k fun _ hK3 => ?_
    refine wp_region_lit ?_
    (refine st_y S (Yr.ys (ys_move (Ev.t rfl))) rfl ?_; clear S a w; intro a w S)
    (refine st_y S (Yr.ys (ys_move (Ev.t rfl))) rfl ?_; clear S a w; intro a w S)
    (refine st_y S (Yr.ys (ys_nilc (Ev.t rfl))) rfl ?_; clear S a w; intro a w S)
    (refine st_y S (Yr.ys (ys_fieldN (FieldT.mk Try.underlying134 rfl Try.sizeOf22 rfl) (Ev.t rfl) (i' := 0) rfl)) rfl ?_; clear S a w; intro a w S)
    (refine st_y S (Yr.ys (ys_ld ⟨Try.isAgg22, Try.sizeOf22⟩ (Ev.t rfl) (k := 0) rfl rfl)) rfl ?_; clear S a w; intro a w S)
    (refine st_y S (Yr.ys (ys_lenS Try.underlying22 (Ev.t rfl))) rfl ?_; clear S a w; intro a w S)
    (refine st_y S (Yr.ys (ys_T (by omega) (ys_eql (Ev.t rfl) (Ev.t rfl)))) rfl ?_; clear S a w; intro a w S)
    refine st_nil ?_
    (refine (then_normal (hK3 _ _ ?_)); clear hK3)
    refine st_then S (Ev.t rfl) ?_
    refine wp_region_lit ?_
    (refine st_m (op_callRP S Try.call83 (EvL.cons Ev.c EvL.nil) (c83 S.wd _) rfl ?_ ?_) <;> clear S a w)
    (intro _ _ h; exact h.elim)
    rintro _ _ ⟨rfl, rfl⟩ a w S
    refine (then_panic (in_panic (then_panic (then_panic (in_panic ?_)))))
    refine post_panic S ?_
    have hkk : k + i = b.length := by omega
    rw [List.drop_of_length_le (by omega), numR_nil] at hno
    rw [← hno]
    exact .inr ⟨_, _, rfl, S.wd, rfl, by decide, rfl⟩
end Go.Proofs.Ytjfeeiljinbmjaa
