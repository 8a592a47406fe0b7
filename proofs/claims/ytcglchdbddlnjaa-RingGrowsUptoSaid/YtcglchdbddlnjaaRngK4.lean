/- Contracts and laws that the statement Rng leans on, part 4. -/
import Derived.Test.YtcglchdbddlnjaaRngK3
import Derived.Shelf.SlIterI.Nil
import Derived.Shelf.SlGeneric
import Derived.Shelf.SlSortCmp.WholeK
import Derived.Ground.SlsfProg
import Derived.Ground.GgzProg
import Derived.Shelf.SortM.Plain
import Derived.Shelf.SortM.SortNone
import Derived.Ground.SlgmProg
import Derived.Test.YtcglchdbddlnjaaProg
import Derived.Shelf.GgSortFunc.InsertionK
import Derived.Shelf.SlSortCmp.Insertion
import Derived.WalkKit
import Derived.Below
import Derived.OrdersHeld
import Derived.Deep.Quiet
import Derived.Laws.StructEq
import Derived.Deep.MidRow
import Derived.Sort.Grow
import Derived.Shelf.SlSortCmp.NoneTotal
import Derived.ScopeJumps
import Derived.LoopN
import Derived.Recover
set_option linter.unusedVariables false
set_option linter.unusedSimpArgs false
set_option maxRecDepth 100000
set_option maxHeartbeats 4000000
namespace Go.Fw
def cmpI (x y : Int) : Int := if x < y then -1 else if y < x then 1 else 0
def orI (x y : Int) : Int := if x ≠ 0 then x else y
end Go.Fw
namespace Go.Proofs.Ytcglchdbddlnjaa
open Go.Fw Go.Proofs Go.RowKit
theorem c113 (w0 : World) (x : Int) : Calls Try.prog 113 #[.int .i64 x] w0 fun e w' => e = .returned (.bool false) ∧ Bel w0.heap.size w0 w' := by
  refine enter1 Try.func113 rfl Try.ntmps113 rfl fun a S => ?_
  refine wp_seq_k fun _ hK1 => ?_
  refine wp_region_lit ?_
  (refine st_y S (Yr.ys (ys_assign Ev.c)) rfl ?_; clear S a; intro a w S)
  refine st_nil ?_
  (refine (then_normal (hK1 _ _ ?_)); clear hK1)
  refine wp_seq_k fun _ hK1 => ?_
  refine wp_region_lit ?_
  (refine st_y S (Yr.ys (ys_move (Ev.t rfl))) rfl ?_; clear S a w; intro a w S)
  (refine st_y S (Yr.ys (ys_move (Ev.t rfl))) rfl ?_; clear S a w; intro a w S)
  (refine st_y S (Yr.ys (ys_F (by omega) (ys_neq (Ev.t rfl) (Ev.t rfl)))) rfl ?_; clear S a w; intro a w S)
  (refine st_y S (Yr.ys (ys_assign (Ev.t rfl))) rfl ?_; clear S a w; intro a w S)
  refine st_nil ?_
  (refine (then_normal (hK1 _ _ ?_)); clear hK1)
  refine wp_ret ?_
  refine st_ret S (results1 S Try.results113 (Rv.tmp rfl)) ?_
  exact ⟨by simp, S.wd.below⟩
theorem c112 (w0 : World) (x : Int) : Calls Try.prog 112 #[.int .u64 x] w0 fun e w' => e = .returned (.bool false) ∧ Bel w0.heap.size w0 w' := by
  refine enter1 Try.func112 rfl Try.ntmps112 rfl fun a S => ?_
  refine wp_seq_k fun _ hK1 => ?_
  refine wp_region_lit ?_
  (refine st_y S (Yr.ys (ys_assign Ev.c)) rfl ?_; clear S a; intro a w S)
  refine st_nil ?_
  (refine (then_normal (hK1 _ _ ?_)); clear hK1)
  refine wp_seq_k fun _ hK1 => ?_
  refine wp_region_lit ?_
  (refine st_y S (Yr.ys (ys_move (Ev.t rfl))) rfl ?_; clear S a w; intro a w S)
  (refine st_y S (Yr.ys (ys_move (Ev.t rfl))) rfl ?_; clear S a w; intro a w S)
  (refine st_y S (Yr.ys (ys_F (by omega) (ys_neq (Ev.t rfl) (Ev.t rfl)))) rfl ?_; clear S a w; intro a w S)
  (refine st_y S (Yr.ys (ys_assign (Ev.t rfl))) rfl ?_; clear S a w; intro a w S)
  refine st_nil ?_
  (refine (then_normal (hK1 _ _ ?_)); clear hK1)
  refine wp_ret ?_
  refine st_ret S (results1 S Try.results112 (Rv.tmp rfl)) ?_
  exact ⟨by simp, S.wd.below⟩
theorem c87 (w0 : World) (x y : Int) :
    Calls Try.prog 87 #[.int .i64 x, .int .i64 y] w0 fun e w' => e = .returned (.int .i64 (cmpI x y)) ∧ Bel w0.heap.size w0 w' := by
  refine enter2 Try.func87 rfl Try.ntmps87 rfl fun a S => ?_
  refine wp_seq_k fun _ hK1 => ?_
  refine wp_region_lit ?_
  (refine st_y S (Yr.ys (ys_assign Ev.c)) rfl ?_; clear S a; intro a w S)
  refine st_nil ?_
  (refine (then_normal (hK1 _ _ ?_)); clear hK1)
  refine wp_seq_k fun _ hK1 => ?_
  refine wp_region_lit ?_
  (refine st_y S (Yr.ys (ys_move (Ev.t rfl))) rfl ?_; clear S a w; intro a w S)
  (refine st_y S (ys_call Try.call113 (EvL.cons (Ev.t rfl) EvL.nil) (fun hp w W => c113 _ _)) rfl ?_; clear S a w; intro a w S)
  (refine st_y S (Yr.ys (ys_assign (Ev.t rfl))) rfl ?_; clear S a w; intro a w S)
  refine st_nil ?_
  (refine (then_normal (hK1 _ _ ?_)); clear hK1)
  refine wp_seq_k fun _ hK1 => ?_
  refine wp_region_lit ?_
  (refine st_y S (Yr.ys (ys_move (Ev.t rfl))) rfl ?_; clear S a w; intro a w S)
  (refine st_y S (ys_call Try.call113 (EvL.cons (Ev.t rfl) EvL.nil) (fun hp w W => c113 _ _)) rfl ?_; clear S a w; intro a w S)
  (refine st_y S (Yr.ys (ys_assign (Ev.t rfl))) rfl ?_; clear S a w; intro a w S)
  refine st_nil ?_
  (refine (then_normal (hK1 _ _ ?_)); clear hK1)
  refine wp_seq_k fun _ hK1 => ?_
  refine wp_seq_k fun _ hK2 => ?_
  refine wp_region_lit ?_
  (refine st_y S (Yr.ys (ys_move (Ev.t rfl))) rfl ?_; clear S a w; intro a w S)
  refine st_nil ?_
  (refine (then_normal (hK2 _ _ ?_)); clear hK2)
  refine st_else S (Ev.t rfl) ?_
  refine wp_skip ?_
  (refine (then_normal (hK1 _ _ ?_)); clear hK1)
  refine wp_seq_k fun _ hK1 => ?_
  refine wp_seq_k fun _ hK2 => ?_
  refine wp_region_lit ?_
  (refine st_y S (Yr.ys (ys_move (Ev.t rfl))) rfl ?_; clear S a w; intro a w S)
  refine st_nil ?_
  (refine (then_normal (hK2 _ _ ?_)); clear hK2)
  refine st_else S (Ev.t rfl) ?_
  refine wp_skip ?_
  (refine (then_normal (hK1 _ _ ?_)); clear hK1)
  refine wp_seq_k fun _ hK1 => ?_
  refine wp_seq_k fun _ hK2 => ?_
  refine wp_region_lit ?_
  (refine st_y S (Yr.ys (ys_move (Ev.t rfl))) rfl ?_; clear S a w; intro a w S)
  (refine st_y S (Yr.ys (ys_move (Ev.t rfl))) rfl ?_; clear S a w; intro a w S)
  (refine st_y S (Yr.ys (ys_lss (Ev.t rfl) (Ev.t rfl))) rfl ?_; clear S a w; intro a w S)
  refine st_nil ?_
  (refine (then_normal (hK2 _ _ ?_)); clear hK2)
  refine st_if S (Ev.t rfl) (fun h1 => ?_) (fun h1 => ?_)
  refine wp_seq_k fun _ hK2 => ?_
  refine wp_region_lit ?_
  (refine st_y S (Yr.ys (ys_assign Ev.c)) rfl ?_; clear S a w; intro a w S)
  refine st_nil ?_
  (refine (then_normal (hK2 _ _ ?_)); clear hK2)
  refine wp_ret ?_
  refine (then_ret ?_)
  refine st_ret S (results1 S Try.results87 (Rv.tmp rfl)) ?_
  rotate_left
  refine wp_skip ?_
  (refine (then_normal (hK1 _ _ ?_)); clear hK1)
  refine wp_seq_k fun _ hK1 => ?_
  refine wp_seq_k fun _ hK2 => ?_
  refine wp_region_lit ?_
  (refine st_y S (Yr.ys (ys_move (Ev.t rfl))) rfl ?_; clear S a w; intro a w S)
  (refine st_y S (Yr.ys (ys_move (Ev.t rfl))) rfl ?_; clear S a w; intro a w S)
  (refine st_y S (Yr.ys (ys_gtr (Ev.t rfl) (Ev.t rfl))) rfl ?_; clear S a w; intro a w S)
  refine st_nil ?_
  (refine (then_normal (hK2 _ _ ?_)); clear hK2)
  refine st_if S (Ev.t rfl) (fun h2 => ?_) (fun h2 => ?_)
  refine wp_seq_k fun _ hK2 => ?_
  refine wp_region_lit ?_
  (refine st_y S (Yr.ys (ys_assign Ev.c)) rfl ?_; clear S a w; intro a w S)
  refine st_nil ?_
  (refine (then_normal (hK2 _ _ ?_)); clear hK2)
  refine wp_ret ?_
  refine (then_ret ?_)
  refine st_ret S (results1 S Try.results87 (Rv.tmp rfl)) ?_
  rotate_left
  refine wp_skip ?_
  (refine (then_normal (hK1 _ _ ?_)); clear hK1)
  refine wp_seq_k fun _ hK1 => ?_
  refine wp_region_lit ?_
  (refine st_y S (Yr.ys (ys_assign Ev.c)) rfl ?_; clear S a w; intro a w S)
  refine st_nil ?_
  (refine (then_normal (hK1 _ _ ?_)); clear hK1)
  refine wp_ret ?_
  refine st_ret S (results1 S Try.results87 (Rv.tmp rfl)) ?_
  rotate_left
  · exact ⟨by rw [cmpI, if_pos h1], S.wd.below⟩
  · exact ⟨by rw [cmpI, if_neg h1, if_pos h2], S.wd.below⟩
  · exact ⟨by rw [cmpI, if_neg h1, if_neg h2], S.wd.below⟩
theorem c86 (w0 : World) (x y : Int) :
    Calls Try.prog 86 #[.int .u64 x, .int .u64 y] w0 fun e w' => e = .returned (.int .i64 (cmpI x y)) ∧ Bel w0.heap.size w0 w' := by
  refine enter2 Try.func86 rfl Try.ntmps86 rfl fun a S => ?_
  refine wp_seq_k fun _ hK1 => ?_
  refine wp_region_lit ?_
  (refine st_y S (Yr.ys (ys_assign Ev.c)) rfl ?_; clear S a; intro a w S)
  refine st_nil ?_
  (refine (then_normal (hK1 _ _ ?_)); clear hK1)
  refine wp_seq_k fun _ hK1 => ?_
  refine wp_region_lit ?_
  (refine st_y S (Yr.ys (ys_move (Ev.t rfl))) rfl ?_; clear S a w; intro a w S)
  (refine st_y S (ys_call Try.call112 (EvL.cons (Ev.t rfl) EvL.nil) (fun hp w W => c112 _ _)) rfl ?_; clear S a w; intro a w S)
  (refine st_y S (Yr.ys (ys_assign (Ev.t rfl))) rfl ?_; clear S a w; intro a w S)
  refine st_nil ?_
  (refine (then_normal (hK1 _ _ ?_)); clear hK1)
  refine wp_seq_k fun _ hK1 => ?_
  refine wp_region_lit ?_
  (refine st_y S (Yr.ys (ys_move (Ev.t rfl))) rfl ?_; clear S a w; intro a w S)
  (refine st_y S (ys_call Try.call112 (EvL.cons (Ev.t rfl) EvL.nil) (fun hp w W => c112 _ _)) rfl ?_; clear S a w; intro a w S)
  (refine st_y S (Yr.ys (ys_assign (Ev.t rfl))) rfl ?_; clear S a w; intro a w S)
  refine st_nil ?_
  (refine (then_normal (hK1 _ _ ?_)); clear hK1)
  refine wp_seq_k fun _ hK1 => ?_
  refine wp_seq_k fun _ hK2 => ?_
  refine wp_region_lit ?_
  (refine st_y S (Yr.ys (ys_move (Ev.t rfl))) rfl ?_; clear S a w; intro a w S)
  refine st_nil ?_
  (refine (then_normal (hK2 _ _ ?_)); clear hK2)
  refine st_else S (Ev.t rfl) ?_
  refine wp_skip ?_
  (refine (then_normal (hK1 _ _ ?_)); clear hK1)
  refine wp_seq_k fun _ hK1 => ?_
  refine wp_seq_k fun _ hK2 => ?_
  refine wp_region_lit ?_
  (refine st_y S (Yr.ys (ys_move (Ev.t rfl))) rfl ?_; clear S a w; intro a w S)
  refine st_nil ?_
  (refine (then_normal (hK2 _ _ ?_)); clear hK2)
  refine st_else S (Ev.t rfl) ?_
  refine wp_skip ?_
  (refine (then_normal (hK1 _ _ ?_)); clear hK1)
  refine wp_seq_k fun _ hK1 => ?_
  refine wp_seq_k fun _ hK2 => ?_
  refine wp_region_lit ?_
  (refine st_y S (Yr.ys (ys_move (Ev.t rfl))) rfl ?_; clear S a w; intro a w S)
  (refine st_y S (Yr.ys (ys_move (Ev.t rfl))) rfl ?_; clear S a w; intro a w S)
  (refine st_y S (Yr.ys (ys_lss (Ev.t rfl) (Ev.t rfl))) rfl ?_; clear S a w; intro a w S)
  refine st_nil ?_
  (refine (then_normal (hK2 _ _ ?_)); clear hK2)
  refine st_if S (Ev.t rfl) (fun h1 => ?_) (fun h1 => ?_)
  refine wp_seq_k fun _ hK2 => ?_
  refine wp_region_lit ?_
  (refine st_y S (Yr.ys (ys_assign Ev.c)) rfl ?_; clear S a w; intro a w S)
  refine st_nil ?_
  (refine (then_normal (hK2 _ _ ?_)); clear hK2)
  refine wp_ret ?_
  refine (then_ret ?_)
  refine st_ret S (results1 S Try.results86 (Rv.tmp rfl)) ?_
  rotate_left
  refine wp_skip ?_
  (refine (then_normal (hK1 _ _ ?_)); clear hK1)
  refine wp_seq_k fun _ hK1 => ?_
  refine wp_seq_k fun _ hK2 => ?_
  refine wp_region_lit ?_
  (refine st_y S (Yr.ys (ys_move (Ev.t rfl))) rfl ?_; clear S a w; intro a w S)
  (refine st_y S (Yr.ys (ys_move (Ev.t rfl))) rfl ?_; clear S a w; intro a w S)
  (refine st_y S (Yr.ys (ys_gtr (Ev.t rfl) (Ev.t rfl))) rfl ?_; clear S a w; intro a w S)
  refine st_nil ?_
  (refine (then_normal (hK2 _ _ ?_)); clear hK2)
  refine st_if S (Ev.t rfl) (fun h2 => ?_) (fun h2 => ?_)
  refine wp_seq_k fun _ hK2 => ?_
  refine wp_region_lit ?_
  (refine st_y S (Yr.ys (ys_assign Ev.c)) rfl ?_; clear S a w; intro a w S)
  refine st_nil ?_
  (refine (then_normal (hK2 _ _ ?_)); clear hK2)
  refine wp_ret ?_
  refine (then_ret ?_)
  refine st_ret S (results1 S Try.results86 (Rv.tmp rfl)) ?_
  rotate_left
  refine wp_skip ?_
  (refine (then_normal (hK1 _ _ ?_)); clear hK1)
  refine wp_seq_k fun _ hK1 => ?_
  refine wp_region_lit ?_
  (refine st_y S (Yr.ys (ys_assign Ev.c)) rfl ?_; clear S a w; intro a w S)
  refine st_nil ?_
  (refine (then_normal (hK1 _ _ ?_)); clear hK1)
  refine wp_ret ?_
  refine st_ret S (results1 S Try.results86 (Rv.tmp rfl)) ?_
  rotate_left
  · exact ⟨by rw [cmpI, if_pos h1], S.wd.below⟩
  · exact ⟨by rw [cmpI, if_neg h1, if_pos h2], S.wd.below⟩
  · exact ⟨by rw [cmpI, if_neg h1, if_neg h2], S.wd.below⟩
theorem c85 (w0 : World) (g : Nat) (x y : Int) (h0 : w0.cell? ⟨g, 0, none⟩ = some (.int .i64 x)) (h1 : w0.cell? ⟨g, 1, none⟩ = some (.int .i64 y)) :
    Calls Try.prog 85 #[.slice (some ⟨g, 0, none⟩) 2 2] w0 fun e w' => e = .returned (.int .i64 (orI x y)) ∧ Bel w0.heap.size w0 w' := by
  have rw_1 : (0 : Int) + 1 = ((1 : Nat) : Int) := rfl
  have rw_2 : ((1 : Nat) : Int) + 1 = ((2 : Nat) : Int) := rfl
  refine enter1 Try.func85 rfl Try.ntmps85 rfl fun a S => ?_
  refine wp_seq_k fun _ hK1 => ?_
  refine wp_region_lit ?_
  (refine st_y S (Yr.ys (ys_assign Ev.c)) rfl ?_; clear S a; intro a w S)
  refine st_nil ?_
  (refine (then_normal (hK1 _ _ ?_)); clear hK1)
  refine wp_seq_k fun _ hK1 => ?_
  refine wp_region_lit ?_
  (refine st_y S (Yr.ys (ys_assign Ev.c)) rfl ?_; clear S a w; intro a w S)
  refine st_nil ?_
  (refine (then_normal (hK1 _ _ ?_)); clear hK1)
  refine wp_seq_k fun _ hK1 => ?_
  refine wp_seq_k fun _ hK2 => ?_
  refine wp_region_lit ?_
  (refine st_y S (Yr.ys (ys_move (Ev.t rfl))) rfl ?_; clear S a w; intro a w S)
  (refine st_y S (Yr.ys (ys_lenS Try.underlying40 (Ev.t rfl))) rfl ?_; clear S a w; intro a w S)
  (refine st_y S (Yr.ys (ys_move Ev.c)) rfl ?_; clear S a w; intro a w S)
  refine st_nil ?_
  (refine (then_normal (hK2 _ _ ?_)); clear hK2)
  refine wp_block ?_
  refine st_rounds 3 (st_round ?_)
  refine wp_seq_k fun _ hK2 => ?_
  refine wp_region_lit ?_
  (refine st_y S (Yr.ys (ys_T (by omega) (ys_lss (Ev.t rfl) (Ev.t rfl)))) rfl ?_; clear S a w; intro a w S)
  refine st_nil ?_
  (refine (then_normal (hK2 _ _ ?_)); clear hK2)
  refine wp_seq_k fun _ hK2 => ?_
  refine st_then S (Ev.t rfl) ?_
  refine wp_skip ?_
  (refine (then_normal (hK2 _ _ ?_)); clear hK2)
  refine wp_seq_k fun _ hK2 => ?_
  refine wp_block ?_
  refine wp_seq_k fun _ hK3 => ?_
  refine wp_region_lit ?_
  (refine st_y S (Yr.ys (ys_ixS (j := 0) Try.underlying40 Try.sizeOf3 (Ev.t rfl) (Ev.t rfl) (fun _ => by omega))) rfl ?_; clear S a w; intro a w S)
  (refine st_y S (Yr.ys (ys_ldO ⟨Try.isAgg3, Try.sizeOf3⟩ (Ev.t rfl) (fun _ => h0))) rfl ?_; clear S a w; intro a w S)
  (refine st_y S (Yr.ys (ys_assign (Ev.t rfl))) rfl ?_; clear S a w; intro a w S)
  refine st_nil ?_
  (refine (then_normal (hK3 _ _ ?_)); clear hK3)
  refine wp_seq_k fun _ hK3 => ?_
  refine wp_region_lit ?_
  (refine st_y S (Yr.ys (ys_move (Ev.t rfl))) rfl ?_; clear S a w; intro a w S)
  (refine st_y S (Yr.ys (ys_move (Ev.t rfl))) rfl ?_; clear S a w; intro a w S)
  (refine st_y S (Yr.ys (ys_neq (Ev.t rfl) (Ev.t rfl))) rfl ?_; clear S a w; intro a w S)
  refine st_nil ?_
  (refine (then_normal (hK3 _ _ ?_)); clear hK3)
  refine st_if S (Ev.t rfl) (fun h2 => ?_) (fun h2 => ?_)
  refine wp_seq_k fun _ hK3 => ?_
  refine wp_region_lit ?_
  (refine st_y S (Yr.ys (ys_move (Ev.t rfl))) rfl ?_; clear S a w; intro a w S)
  (refine st_y S (Yr.ys (ys_assign (Ev.t rfl))) rfl ?_; clear S a w; intro a w S)
  refine st_nil ?_
  (refine (then_normal (hK3 _ _ ?_)); clear hK3)
  refine wp_ret ?_
  refine (in_ret (then_ret (then_ret (in_ret (then_ret ?_)))))
  refine st_ret S (results1 S Try.results85 (Rv.tmp rfl)) ?_
  rotate_left
  refine wp_skip ?_
  (refine (in_normal (then_normal (hK2 _ _ ?_))); clear hK2)
  refine wp_region_lit ?_
  (refine st_y S (Yr.ys (ys_addI (Ev.t rfl) Ev.c (fun _ => by unfold I64; omega))) rfl ?_; clear S a w; intro a w S)
  rw [rw_1] at S
  (refine st_y S (Yr.ys (ys_move (Ev.t rfl))) rfl ?_; clear S a w; intro a w S)
  refine st_nil ?_
  refine (then_normal ?_)
  rotate_left
  · exact ⟨by rw [orI, if_pos h2], S.wd.below⟩
  refine st_round ?_
  refine wp_seq_k fun _ hK2 => ?_
  refine wp_region_lit ?_
  (refine st_y S (Yr.ys (ys_T (by omega) (ys_lss (Ev.t rfl) (Ev.t rfl)))) rfl ?_; clear S a w; intro a w S)
  refine st_nil ?_
  (refine (then_normal (hK2 _ _ ?_)); clear hK2)
  refine wp_seq_k fun _ hK2 => ?_
  refine st_then S (Ev.t rfl) ?_
  refine wp_skip ?_
  (refine (then_normal (hK2 _ _ ?_)); clear hK2)
  refine wp_seq_k fun _ hK2 => ?_
  refine wp_block ?_
  refine wp_seq_k fun _ hK3 => ?_
  refine wp_region_lit ?_
  (refine st_y S (Yr.ys (ys_ixS (j := 1) Try.underlying40 Try.sizeOf3 (Ev.t rfl) (Ev.t rfl) (fun _ => by omega))) rfl ?_; clear S a w; intro a w S)
  (refine st_y S (Yr.ys (ys_ldO ⟨Try.isAgg3, Try.sizeOf3⟩ (Ev.t rfl) (fun _ => h1))) rfl ?_; clear S a w; intro a w S)
  (refine st_y S (Yr.ys (ys_assign (Ev.t rfl))) rfl ?_; clear S a w; intro a w S)
  refine st_nil ?_
  (refine (then_normal (hK3 _ _ ?_)); clear hK3)
  refine wp_seq_k fun _ hK3 => ?_
  refine wp_region_lit ?_
  (refine st_y S (Yr.ys (ys_move (Ev.t rfl))) rfl ?_; clear S a w; intro a w S)
  (refine st_y S (Yr.ys (ys_move (Ev.t rfl))) rfl ?_; clear S a w; intro a w S)
  (refine st_y S (Yr.ys (ys_neq (Ev.t rfl) (Ev.t rfl))) rfl ?_; clear S a w; intro a w S)
  refine st_nil ?_
  (refine (then_normal (hK3 _ _ ?_)); clear hK3)
  refine st_if S (Ev.t rfl) (fun h3 => ?_) (fun h3 => ?_)
  refine wp_seq_k fun _ hK3 => ?_
  refine wp_region_lit ?_
  (refine st_y S (Yr.ys (ys_move (Ev.t rfl))) rfl ?_; clear S a w; intro a w S)
  (refine st_y S (Yr.ys (ys_assign (Ev.t rfl))) rfl ?_; clear S a w; intro a w S)
  refine st_nil ?_
  (refine (then_normal (hK3 _ _ ?_)); clear hK3)
  refine wp_ret ?_
  refine (in_ret (then_ret (then_ret (in_ret (then_ret ?_)))))
  refine st_ret S (results1 S Try.results85 (Rv.tmp rfl)) ?_
  rotate_left
  refine wp_skip ?_
  (refine (in_normal (then_normal (hK2 _ _ ?_))); clear hK2)
  refine wp_region_lit ?_
  (refine st_y S (Yr.ys (ys_addI (Ev.t rfl) Ev.c (fun _ => by unfold I64; omega))) rfl ?_; clear S a w; intro a w S)
  rw [rw_2] at S
  (refine st_y S (Yr.ys (ys_move (Ev.t rfl))) rfl ?_; clear S a w; intro a w S)
  refine st_nil ?_
  refine (then_normal ?_)
  rotate_left
  · exact ⟨by rw [orI, if_neg h2], S.wd.below⟩
  refine st_round ?_
  refine wp_seq_k fun _ hK2 => ?_
  refine wp_region_lit ?_
  (refine st_y S (Yr.ys (ys_F (by omega) (ys_lss (Ev.t rfl) (Ev.t rfl)))) rfl ?_; clear S a w; intro a w S)
  refine st_nil ?_
  (refine (then_normal (hK2 _ _ ?_)); clear hK2)
  refine wp_seq_k fun _ hK2 => ?_
  refine st_else S (Ev.t rfl) ?_
  refine wp_exit ?_
  (refine (then_exit (then_exit (in_here (then_normal (hK1 _ _ ?_))))); clear hK1)
  refine wp_seq_k fun _ hK1 => ?_
  refine wp_region_lit ?_
  (refine st_y S (Yr.ys (ys_move (Ev.t rfl))) rfl ?_; clear S a w; intro a w S)
  (refine st_y S (Yr.ys (ys_assign (Ev.t rfl))) rfl ?_; clear S a w; intro a w S)
  refine st_nil ?_
  (refine (then_normal (hK1 _ _ ?_)); clear hK1)
  refine wp_ret ?_
  refine st_ret S (results1 S Try.results85 (Rv.tmp rfl)) ?_
  exact ⟨by rw [orI, if_neg h2, Decidable.not_not.1 h3], S.wd.below⟩
theorem d85 (w0 : World) (g : Nat) (x y z : Int) (h0 : w0.cell? ⟨g, 0, none⟩ = some (.int .i64 x)) (h1 : w0.cell? ⟨g, 1, none⟩ = some (.int .i64 y)) (h2 : w0.cell? ⟨g, 2, none⟩ = some (.int .i64 z)) :
    Calls Try.prog 85 #[.slice (some ⟨g, 0, none⟩) 3 3] w0 fun e w' => e = .returned (.int .i64 (orI x (orI y z))) ∧ Bel w0.heap.size w0 w' := by
  have rw_1 : (0 : Int) + 1 = ((1 : Nat) : Int) := rfl
  have rw_2 : ((1 : Nat) : Int) + 1 = ((2 : Nat) : Int) := rfl
  have rw_3 : ((2 : Nat) : Int) + 1 = ((3 : Nat) : Int) := rfl
  refine enter1 Try.func85 rfl Try.ntmps85 rfl fun a S => ?_
  refine wp_seq_k fun _ hK1 => ?_
  refine wp_region_lit ?_
  (refine st_y S (Yr.ys (ys_assign Ev.c)) rfl ?_; clear S a; intro a w S)
  refine st_nil ?_
  (refine (then_normal (hK1 _ _ ?_)); clear hK1)
  refine wp_seq_k fun _ hK1 => ?_
  refine wp_region_lit ?_
  (refine st_y S (Yr.ys (ys_assign Ev.c)) rfl ?_; clear S a w; intro a w S)
  refine st_nil ?_
  (refine (then_normal (hK1 _ _ ?_)); clear hK1)
  refine wp_seq_k fun _ hK1 => ?_
  refine wp_seq_k fun _ hK2 => ?_
  refine wp_region_lit ?_
  (refine st_y S (Yr.ys (ys_move (Ev.t rfl))) rfl ?_; clear S a w; intro a w S)
  (refine st_y S (Yr.ys (ys_lenS Try.underlying40 (Ev.t rfl))) rfl ?_; clear S a w; intro a w S)
  (refine st_y S (Yr.ys (ys_move Ev.c)) rfl ?_; clear S a w; intro a w S)
  refine st_nil ?_
  (refine (then_normal (hK2 _ _ ?_)); clear hK2)
  refine wp_block ?_
  refine st_rounds 4 (st_round ?_)
  refine wp_seq_k fun _ hK2 => ?_
  refine wp_region_lit ?_
  (refine st_y S (Yr.ys (ys_T (by omega) (ys_lss (Ev.t rfl) (Ev.t rfl)))) rfl ?_; clear S a w; intro a w S)
  refine st_nil ?_
  (refine (then_normal (hK2 _ _ ?_)); clear hK2)
  refine wp_seq_k fun _ hK2 => ?_
  refine st_then S (Ev.t rfl) ?_
  refine wp_skip ?_
  (refine (then_normal (hK2 _ _ ?_)); clear hK2)
  refine wp_seq_k fun _ hK2 => ?_
  refine wp_block ?_
  refine wp_seq_k fun _ hK3 => ?_
  refine wp_region_lit ?_
  (refine st_y S (Yr.ys (ys_ixS (j := 0) Try.underlying40 Try.sizeOf3 (Ev.t rfl) (Ev.t rfl) (fun _ => by omega))) rfl ?_; clear S a w; intro a w S)
  (refine st_y S (Yr.ys (ys_ldO ⟨Try.isAgg3, Try.sizeOf3⟩ (Ev.t rfl) (fun _ => h0))) rfl ?_; clear S a w; intro a w S)
  (refine st_y S (Yr.ys (ys_assign (Ev.t rfl))) rfl ?_; clear S a w; intro a w S)
  refine st_nil ?_
  (refine (then_normal (hK3 _ _ ?_)); clear hK3)
  refine wp_seq_k fun _ hK3 => ?_
  refine wp_region_lit ?_
  (refine st_y S (Yr.ys (ys_move (Ev.t rfl))) rfl ?_; clear S a w; intro a w S)
  (refine st_y S (Yr.ys (ys_move (Ev.t rfl))) rfl ?_; clear S a w; intro a w S)
  (refine st_y S (Yr.ys (ys_neq (Ev.t rfl) (Ev.t rfl))) rfl ?_; clear S a w; intro a w S)
  refine st_nil ?_
  (refine (then_normal (hK3 _ _ ?_)); clear hK3)
  refine st_if S (Ev.t rfl) (fun h3 => ?_) (fun h3 => ?_)
  refine wp_seq_k fun _ hK3 => ?_
  refine wp_region_lit ?_
  (refine st_y S (Yr.ys (ys_move (Ev.t rfl))) rfl ?_; clear S a w; intro a w S)
  (refine st_y S (Yr.ys (ys_assign (Ev.t rfl))) rfl ?_; clear S a w; intro a w S)
  refine st_nil ?_
  (refine (then_normal (hK3 _ _ ?_)); clear hK3)
  refine wp_ret ?_
  refine (in_ret (then_ret (then_ret (in_ret (then_ret ?_)))))
  refine st_ret S (results1 S Try.results85 (Rv.tmp rfl)) ?_
  rotate_left
  refine wp_skip ?_
  (refine (in_normal (then_normal (hK2 _ _ ?_))); clear hK2)
  refine wp_region_lit ?_
  (refine st_y S (Yr.ys (ys_addI (Ev.t rfl) Ev.c (fun _ => by unfold I64; omega))) rfl ?_; clear S a w; intro a w S)
  rw [rw_1] at S
  (refine st_y S (Yr.ys (ys_move (Ev.t rfl))) rfl ?_; clear S a w; intro a w S)
  refine st_nil ?_
  refine (then_normal ?_)
  rotate_left
  · exact ⟨by rw [orI, if_pos h3], S.wd.below⟩
  refine st_round ?_
  refine wp_seq_k fun _ hK2 => ?_
  refine wp_region_lit ?_
  (refine st_y S (Yr.ys (ys_T (by omega) (ys_lss (Ev.t rfl) (Ev.t rfl)))) rfl ?_; clear S a w; intro a w S)
  refine st_nil ?_
  (refine (then_normal (hK2 _ _ ?_)); clear hK2)
  refine wp_seq_k fun _ hK2 => ?_
  refine st_then S (Ev.t rfl) ?_
  refine wp_skip ?_
  (refine (then_normal (hK2 _ _ ?_)); clear hK2)
  refine wp_seq_k fun _ hK2 => ?_
  refine wp_block ?_
  refine wp_seq_k fun _ hK3 => ?_
  refine wp_region_lit ?_
  (refine st_y S (Yr.ys (ys_ixS (j := 1) Try.underlying40 Try.sizeOf3 (Ev.t rfl) (Ev.t rfl) (fun _ => by omega))) rfl ?_; clear S a w; intro a w S)
  (refine st_y S (Yr.ys (ys_ldO ⟨Try.isAgg3, Try.sizeOf3⟩ (Ev.t rfl) (fun _ => h1))) rfl ?_; clear S a w; intro a w S)
  (refine st_y S (Yr.ys (ys_assign (Ev.t rfl))) rfl ?_; clear S a w; intro a w S)
  refine st_nil ?_
  (refine (then_normal (hK3 _ _ ?_)); clear hK3)
  refine wp_seq_k fun _ hK3 => ?_
  refine wp_region_lit ?_
  (refine st_y S (Yr.ys (ys_move (Ev.t rfl))) rfl ?_; clear S a w; intro a w S)
  (refine st_y S (Yr.ys (ys_move (Ev.t rfl))) rfl ?_; clear S a w; intro a w S)
  (refine st_y S (Yr.ys (ys_neq (Ev.t rfl) (Ev.t rfl))) rfl ?_; clear S a w; intro a w S)
  refine st_nil ?_
  (refine (then_normal (hK3 _ _ ?_)); clear hK3)
  refine st_if S (Ev.t rfl) (fun h4 => ?_) (fun h4 => ?_)
  refine wp_seq_k fun _ hK3 => ?_
  refine wp_region_lit ?_
  (refine st_y S (Yr.ys (ys_move (Ev.t rfl))) rfl ?_; clear S a w; intro a w S)
  (refine st_y S (Yr.ys (ys_assign (Ev.t rfl))) rfl ?_; clear S a w; intro a w S)
  refine st_nil ?_
  (refine (then_normal (hK3 _ _ ?_)); clear hK3)
  refine wp_ret ?_
  refine (in_ret (then_ret (then_ret (in_ret (then_ret ?_)))))
  refine st_ret S (results1 S Try.results85 (Rv.tmp rfl)) ?_
  rotate_left
  refine wp_skip ?_
  (refine (in_normal (then_normal (hK2 _ _ ?_))); clear hK2)
  refine wp_region_lit ?_
  (refine st_y S (Yr.ys (ys_addI (Ev.t rfl) Ev.c (fun _ => by unfold I64; omega))) rfl ?_; clear S a w; intro a w S)
  rw [rw_2] at S
  (refine st_y S (Yr.ys (ys_move (Ev.t rfl))) rfl ?_; clear S a w; intro a w S)
  refine st_nil ?_
  refine (then_normal ?_)
  rotate_left
  · exact ⟨by rw [orI, if_neg h3, orI, if_pos h4], S.wd.below⟩
  refine st_round ?_
  refine wp_seq_k fun _ hK2 => ?_
  refine wp_region_lit ?_
  (refine st_y S (Yr.ys (ys_T (by omega) (ys_lss (Ev.t rfl) (Ev.t rfl)))) rfl ?_; clear S a w; intro a w S)
  refine st_nil ?_
  (refine (then_normal (hK2 _ _ ?_)); clear hK2)
  refine wp_seq_k fun _ hK2 => ?_
  refine st_then S (Ev.t rfl) ?_
  refine wp_skip ?_
  (refine (then_normal (hK2 _ _ ?_)); clear hK2)
  refine wp_seq_k fun _ hK2 => ?_
  refine wp_block ?_
  refine wp_seq_k fun _ hK3 => ?_
  refine wp_region_lit ?_
  (refine st_y S (Yr.ys (ys_ixS (j := 2) Try.underlying40 Try.sizeOf3 (Ev.t rfl) (Ev.t rfl) (fun _ => by omega))) rfl ?_; clear S a w; intro a w S)
  (refine st_y S (Yr.ys (ys_ldO ⟨Try.isAgg3, Try.sizeOf3⟩ (Ev.t rfl) (fun _ => h2))) rfl ?_; clear S a w; intro a w S)
  (refine st_y S (Yr.ys (ys_assign (Ev.t rfl))) rfl ?_; clear S a w; intro a w S)
  refine st_nil ?_
  (refine (then_normal (hK3 _ _ ?_)); clear hK3)
  refine wp_seq_k fun _ hK3 => ?_
  refine wp_region_lit ?_
  (refine st_y S (Yr.ys (ys_move (Ev.t rfl))) rfl ?_; clear S a w; intro a w S)
  (refine st_y S (Yr.ys (ys_move (Ev.t rfl))) rfl ?_; clear S a w; intro a w S)
  (refine st_y S (Yr.ys (ys_neq (Ev.t rfl) (Ev.t rfl))) rfl ?_; clear S a w; intro a w S)
  refine st_nil ?_
  (refine (then_normal (hK3 _ _ ?_)); clear hK3)
  refine st_if S (Ev.t rfl) (fun h5 => ?_) (fun h5 => ?_)
  refine wp_seq_k fun _ hK3 => ?_
  refine wp_region_lit ?_
  (refine st_y S (Yr.ys (ys_move (Ev.t rfl))) rfl ?_; clear S a w; intro a w S)
  (refine st_y S (Yr.ys (ys_assign (Ev.t rfl))) rfl ?_; clear S a w; intro a w S)
  refine st_nil ?_
  (refine (then_normal (hK3 _ _ ?_)); clear hK3)
  refine wp_ret ?_
  refine (in_ret (then_ret (then_ret (in_ret (then_ret ?_)))))
  refine st_ret S (results1 S Try.results85 (Rv.tmp rfl)) ?_
  rotate_left
  refine wp_skip ?_
  (refine (in_normal (then_normal (hK2 _ _ ?_))); clear hK2)
  refine wp_region_lit ?_
  (refine st_y S (Yr.ys (ys_addI (Ev.t rfl) Ev.c (fun _ => by unfold I64; omega))) rfl ?_; clear S a w; intro a w S)
  rw [rw_3] at S
  (refine st_y S (Yr.ys (ys_move (Ev.t rfl))) rfl ?_; clear S a w; intro a w S)
  refine st_nil ?_
  refine (then_normal ?_)
  rotate_left
  · exact ⟨by rw [orI, if_neg h3, orI, if_neg h4], S.wd.below⟩
  refine st_round ?_
  refine wp_seq_k fun _ hK2 => ?_
  refine wp_region_lit ?_
  (refine st_y S (Yr.ys (ys_F (by omega) (ys_lss (Ev.t rfl) (Ev.t rfl)))) rfl ?_; clear S a w; intro a w S)
  refine st_nil ?_
  (refine (then_normal (hK2 _ _ ?_)); clear hK2)
  refine wp_seq_k fun _ hK2 => ?_
  refine st_else S (Ev.t rfl) ?_
  refine wp_exit ?_
  (refine (then_exit (then_exit (in_here (then_normal (hK1 _ _ ?_))))); clear hK1)
  refine wp_seq_k fun _ hK1 => ?_
  refine wp_region_lit ?_
  (refine st_y S (Yr.ys (ys_move (Ev.t rfl))) rfl ?_; clear S a w; intro a w S)
  (refine st_y S (Yr.ys (ys_assign (Ev.t rfl))) rfl ?_; clear S a w; intro a w S)
  refine st_nil ?_
  (refine (then_normal (hK1 _ _ ?_)); clear hK1)
  refine wp_ret ?_
  refine st_ret S (results1 S Try.results85 (Rv.tmp rfl)) ?_
  exact ⟨by rw [orI, if_neg h3, orI, if_neg h4, Decidable.not_not.1 h5], S.wd.below⟩
theorem c84 (w0 : World) (x0 x1 y0 y1 : Int) :
    Calls Try.prog 84 #[.agg #[.int .u64 x0, .int .i64 x1], .agg #[.int .u64 y0, .int .i64 y1]] w0 fun e w' => e = .returned (.int .i64 (orI (cmpI x0 y0) (cmpI x1 y1))) ∧ Bel w0.heap.size w0 w' := by
  refine enter2 Try.func84 rfl Try.ntmps84 rfl fun a S => ?_
  refine wp_seq_k fun _ hK1 => ?_
  refine wp_region_lit ?_
  (refine st_m (op_box S (Ev.t rfl) rfl ?_); clear S a; intro g1 a w S)
  (refine st_m (op_box S (Ev.t rfl) rfl ?_); clear S a w; intro g2 a w S)
  (refine st_y S (Yr.ys (ys_assign Ev.c)) rfl ?_; clear S a w; intro a w S)
  refine st_nil ?_
  (refine (then_normal (hK1 _ _ ?_)); clear hK1)
  refine wp_seq_k fun _ hK1 => ?_
  (refine h_begin0 S (by kernel_rfl) ?_; clear S a w; intro a w S)
  (refine h_y (i := 0) S (by repeat (first | exact List.Sublist.refl _ | exact List.nil_sublist _ | refine .cons_cons _ ?_ | refine .cons _ ?_)) rfl (by kernel_rfl) (by kernel_rfl) (by kernel_rfl) (fun _ _ _ _ h => h) (ys_fieldN (FieldT.mk Try.underlying82 rfl Try.sizeOf53 rfl) (Ev.t rfl) (i' := 0) rfl) rfl ?_; clear S a w; intro a w S)
  (refine h_y (i := 1) S (by repeat (first | exact List.Sublist.refl _ | exact List.nil_sublist _ | refine .cons_cons _ ?_ | refine .cons _ ?_)) rfl (by kernel_rfl) (by kernel_rfl) (by kernel_rfl) (fun _ _ _ _ h => h) (ys_ld ⟨Try.isAgg53, Try.sizeOf53⟩ (Ev.t rfl) (k := 1) rfl rfl) rfl ?_; clear S a w; intro a w S)
  (refine h_y (i := 2) S (by repeat (first | exact List.Sublist.refl _ | exact List.nil_sublist _ | refine .cons_cons _ ?_ | refine .cons _ ?_)) rfl (by kernel_rfl) (by kernel_rfl) (by kernel_rfl) (fun _ _ _ _ h => h) (ys_fieldN (FieldT.mk Try.underlying82 rfl Try.sizeOf53 rfl) (Ev.t rfl) (i' := 0) rfl) rfl ?_; clear S a w; intro a w S)
  (refine h_y (i := 3) S (by repeat (first | exact List.Sublist.refl _ | exact List.nil_sublist _ | refine .cons_cons _ ?_ | refine .cons _ ?_)) rfl (by kernel_rfl) (by kernel_rfl) (by kernel_rfl) (fun _ _ _ _ h => h) (ys_ld ⟨Try.isAgg53, Try.sizeOf53⟩ (Ev.t rfl) (k := 0) rfl rfl) rfl ?_; clear S a w; intro a w S)
  (refine h_y (i := 5) S (by repeat (first | exact List.Sublist.refl _ | exact List.nil_sublist _ | refine .cons_cons _ ?_ | refine .cons _ ?_)) rfl (by kernel_rfl) (by kernel_rfl) (by kernel_rfl) (fun _ _ _ _ h => h) (ys_fieldN (FieldT.mk Try.underlying82 rfl Try.sizeOf3 rfl) (Ev.t rfl) (i' := 1) rfl) rfl ?_; clear S a w; intro a w S)
  (refine h_y (i := 6) S (by repeat (first | exact List.Sublist.refl _ | exact List.nil_sublist _ | refine .cons_cons _ ?_ | refine .cons _ ?_)) rfl (by kernel_rfl) (by kernel_rfl) (by kernel_rfl) (fun _ _ _ _ h => h) (ys_ld ⟨Try.isAgg3, Try.sizeOf3⟩ (Ev.t rfl) (k := 1) rfl rfl) rfl ?_; clear S a w; intro a w S)
  (refine h_y (i := 7) S (by repeat (first | exact List.Sublist.refl _ | exact List.nil_sublist _ | refine .cons_cons _ ?_ | refine .cons _ ?_)) rfl (by kernel_rfl) (by kernel_rfl) (by kernel_rfl) (fun _ _ _ _ h => h) (ys_fieldN (FieldT.mk Try.underlying82 rfl Try.sizeOf3 rfl) (Ev.t rfl) (i' := 1) rfl) rfl ?_; clear S a w; intro a w S)
  (refine h_y (i := 8) S (by repeat (first | exact List.Sublist.refl _ | exact List.nil_sublist _ | refine .cons_cons _ ?_ | refine .cons _ ?_)) rfl (by kernel_rfl) (by kernel_rfl) (by kernel_rfl) (fun _ _ _ _ h => h) (ys_ld ⟨Try.isAgg3, Try.sizeOf3⟩ (Ev.t rfl) (k := 0) rfl rfl) rfl ?_; clear S a w; intro a w S)
  (refine h_q (i := 4) S (by repeat (first | exact List.Sublist.refl _ | exact List.nil_sublist _ | refine .cons_cons _ ?_ | refine .cons _ ?_)) rfl (by kernel_rfl) (ys_call Try.call86 (EvL.cons (Ev.t rfl) (EvL.cons (Ev.t rfl) EvL.nil)) (fun hp w W => c86 _ _ _)) rfl ?_; clear S a w; intro a w S)
  (refine h_q (i := 9) S (by repeat (first | exact List.Sublist.refl _ | exact List.nil_sublist _ | refine .cons_cons _ ?_ | refine .cons _ ?_)) rfl (by kernel_rfl) (ys_call Try.call87 (EvL.cons (Ev.t rfl) (EvL.cons (Ev.t rfl) EvL.nil)) (fun hp w W => c87 _ _ _)) rfl ?_; clear S a w; intro a w S)
  (refine h_m (i := 10) rfl (by kernel_rfl) (op_bsliceZ (ps := [(0, Go.Operand.tmp 9), (1, Go.Operand.tmp 14)]) (us := [_, _]) S Try.underlying40 Try.sizeOf3 Try.zeroValue3 rfl rfl (EvL.cons (Ev.t rfl) (EvL.cons (Ev.t rfl) EvL.nil)) rfl rfl ?_); clear S a w; intro g3 a w S; refine h_on S _ (by repeat (first | exact List.Sublist.refl _ | exact List.nil_sublist _ | refine .cons_cons _ ?_ | refine .cons _ ?_)) (List.Sublist.refl _) ?_)
  (refine h_q (i := 11) S (by repeat (first | exact List.Sublist.refl _ | exact List.nil_sublist _ | refine .cons_cons _ ?_ | refine .cons _ ?_)) rfl (by kernel_rfl) (ys_call Try.call85 (EvL.cons (Ev.t rfl) EvL.nil) (fun hp w W => c85 _ _ _ _ (by exact Wd.cell W (k := 0) rfl rfl) (by exact Wd.cell W (k := 0) rfl rfl))) rfl ?_; clear S a w; intro a w S)
  (refine h_y (i := 12) S (by repeat (first | exact List.Sublist.refl _ | exact List.nil_sublist _ | refine .cons_cons _ ?_ | refine .cons _ ?_)) rfl (by kernel_rfl) (by kernel_rfl) (by kernel_rfl) (fun _ _ _ _ h => h) (ys_assign (Ev.t rfl)) rfl ?_; clear S a w; intro a w S)
  refine h_done (by kernel_rfl) ?_
  (refine (then_normal (hK1 _ _ ?_)); clear hK1)
  refine wp_ret ?_
  refine st_ret S (results1 S Try.results84 (Rv.tmp rfl)) ?_
  exact ⟨rfl, S.wd.below⟩
theorem c102 (w0 : World) (x0 x1 x2 x3 y0 y1 y2 y3 : Int) :
    Calls Try.prog 102 #[.agg #[.int .i64 x0, .int .i64 x1, .int .i64 x2, .int .i64 x3], .agg #[.int .i64 y0, .int .i64 y1, .int .i64 y2, .int .i64 y3]] w0 fun e w' => e = .returned (.int .i64 (orI (cmpI x1 y1) (orI (cmpI x2 y2) (cmpI x3 y3)))) ∧ Bel w0.heap.size w0 w' := by
  refine enter2 Try.func102 rfl Try.ntmps102 rfl fun a S => ?_
  refine wp_seq_k fun _ hK1 => ?_
  refine wp_region_lit ?_
  (refine st_m (op_box S (Ev.t rfl) rfl ?_); clear S a; intro g1 a w S)
  (refine st_m (op_box S (Ev.t rfl) rfl ?_); clear S a w; intro g2 a w S)
  (refine st_y S (Yr.ys (ys_assign Ev.c)) rfl ?_; clear S a w; intro a w S)
  refine st_nil ?_
  (refine (then_normal (hK1 _ _ ?_)); clear hK1)
  refine wp_seq_k fun _ hK1 => ?_
  (refine h_begin0 S (by kernel_rfl) ?_; clear S a w; intro a w S)
  (refine h_y (i := 0) S (by repeat (first | exact List.Sublist.refl _ | exact List.nil_sublist _ | refine .cons_cons _ ?_ | refine .cons _ ?_)) rfl (by kernel_rfl) (by kernel_rfl) (by kernel_rfl) (fun _ _ _ _ h => h) (ys_fieldN (FieldT.mk Try.underlying60 rfl Try.sizeOf3 rfl) (Ev.t rfl) (i' := 1) rfl) rfl ?_; clear S a w; intro a w S)
  (refine h_y (i := 1) S (by repeat (first | exact List.Sublist.refl _ | exact List.nil_sublist _ | refine .cons_cons _ ?_ | refine .cons _ ?_)) rfl (by kernel_rfl) (by kernel_rfl) (by kernel_rfl) (fun _ _ _ _ h => h) (ys_ld ⟨Try.isAgg3, Try.sizeOf3⟩ (Ev.t rfl) (k := 1) rfl rfl) rfl ?_; clear S a w; intro a w S)
  (refine h_y (i := 2) S (by repeat (first | exact List.Sublist.refl _ | exact List.nil_sublist _ | refine .cons_cons _ ?_ | refine .cons _ ?_)) rfl (by kernel_rfl) (by kernel_rfl) (by kernel_rfl) (fun _ _ _ _ h => h) (ys_fieldN (FieldT.mk Try.underlying60 rfl Try.sizeOf3 rfl) (Ev.t rfl) (i' := 1) rfl) rfl ?_; clear S a w; intro a w S)
  (refine h_y (i := 3) S (by repeat (first | exact List.Sublist.refl _ | exact List.nil_sublist _ | refine .cons_cons _ ?_ | refine .cons _ ?_)) rfl (by kernel_rfl) (by kernel_rfl) (by kernel_rfl) (fun _ _ _ _ h => h) (ys_ld ⟨Try.isAgg3, Try.sizeOf3⟩ (Ev.t rfl) (k := 0) rfl rfl) rfl ?_; clear S a w; intro a w S)
  (refine h_y (i := 5) S (by repeat (first | exact List.Sublist.refl _ | exact List.nil_sublist _ | refine .cons_cons _ ?_ | refine .cons _ ?_)) rfl (by kernel_rfl) (by kernel_rfl) (by kernel_rfl) (fun _ _ _ _ h => h) (ys_fieldN (FieldT.mk Try.underlying60 rfl Try.sizeOf3 rfl) (Ev.t rfl) (i' := 2) rfl) rfl ?_; clear S a w; intro a w S)
  (refine h_y (i := 6) S (by repeat (first | exact List.Sublist.refl _ | exact List.nil_sublist _ | refine .cons_cons _ ?_ | refine .cons _ ?_)) rfl (by kernel_rfl) (by kernel_rfl) (by kernel_rfl) (fun _ _ _ _ h => h) (ys_ld ⟨Try.isAgg3, Try.sizeOf3⟩ (Ev.t rfl) (k := 1) rfl rfl) rfl ?_; clear S a w; intro a w S)
  (refine h_y (i := 7) S (by repeat (first | exact List.Sublist.refl _ | exact List.nil_sublist _ | refine .cons_cons _ ?_ | refine .cons _ ?_)) rfl (by kernel_rfl) (by kernel_rfl) (by kernel_rfl) (fun _ _ _ _ h => h) (ys_fieldN (FieldT.mk Try.underlying60 rfl Try.sizeOf3 rfl) (Ev.t rfl) (i' := 2) rfl) rfl ?_; clear S a w; intro a w S)
  (refine h_y (i := 8) S (by repeat (first | exact List.Sublist.refl _ | exact List.nil_sublist _ | refine .cons_cons _ ?_ | refine .cons _ ?_)) rfl (by kernel_rfl) (by kernel_rfl) (by kernel_rfl) (fun _ _ _ _ h => h) (ys_ld ⟨Try.isAgg3, Try.sizeOf3⟩ (Ev.t rfl) (k := 0) rfl rfl) rfl ?_; clear S a w; intro a w S)
  (refine h_y (i := 10) S (by repeat (first | exact List.Sublist.refl _ | exact List.nil_sublist _ | refine .cons_cons _ ?_ | refine .cons _ ?_)) rfl (by kernel_rfl) (by kernel_rfl) (by kernel_rfl) (fun _ _ _ _ h => h) (ys_fieldN (FieldT.mk Try.underlying60 rfl Try.sizeOf3 rfl) (Ev.t rfl) (i' := 3) rfl) rfl ?_; clear S a w; intro a w S)
  (refine h_y (i := 11) S (by repeat (first | exact List.Sublist.refl _ | exact List.nil_sublist _ | refine .cons_cons _ ?_ | refine .cons _ ?_)) rfl (by kernel_rfl) (by kernel_rfl) (by kernel_rfl) (fun _ _ _ _ h => h) (ys_ld ⟨Try.isAgg3, Try.sizeOf3⟩ (Ev.t rfl) (k := 1) rfl rfl) rfl ?_; clear S a w; intro a w S)
  (refine h_y (i := 12) S (by repeat (first | exact List.Sublist.refl _ | exact List.nil_sublist _ | refine .cons_cons _ ?_ | refine .cons _ ?_)) rfl (by kernel_rfl) (by kernel_rfl) (by kernel_rfl) (fun _ _ _ _ h => h) (ys_fieldN (FieldT.mk Try.underlying60 rfl Try.sizeOf3 rfl) (Ev.t rfl) (i' := 3) rfl) rfl ?_; clear S a w; intro a w S)
  (refine h_y (i := 13) S (by repeat (first | exact List.Sublist.refl _ | exact List.nil_sublist _ | refine .cons_cons _ ?_ | refine .cons _ ?_)) rfl (by kernel_rfl) (by kernel_rfl) (by kernel_rfl) (fun _ _ _ _ h => h) (ys_ld ⟨Try.isAgg3, Try.sizeOf3⟩ (Ev.t rfl) (k := 0) rfl rfl) rfl ?_; clear S a w; intro a w S)
  (refine h_q (i := 4) S (by repeat (first | exact List.Sublist.refl _ | exact List.nil_sublist _ | refine .cons_cons _ ?_ | refine .cons _ ?_)) rfl (by kernel_rfl) (ys_call Try.call87 (EvL.cons (Ev.t rfl) (EvL.cons (Ev.t rfl) EvL.nil)) (fun hp w W => c87 _ _ _)) rfl ?_; clear S a w; intro a w S)
  (refine h_q (i := 9) S (by repeat (first | exact List.Sublist.refl _ | exact List.nil_sublist _ | refine .cons_cons _ ?_ | refine .cons _ ?_)) rfl (by kernel_rfl) (ys_call Try.call87 (EvL.cons (Ev.t rfl) (EvL.cons (Ev.t rfl) EvL.nil)) (fun hp w W => c87 _ _ _)) rfl ?_; clear S a w; intro a w S)
  (refine h_q (i := 14) S (by repeat (first | exact List.Sublist.refl _ | exact List.nil_sublist _ | refine .cons_cons _ ?_ | refine .cons _ ?_)) rfl (by kernel_rfl) (ys_call Try.call87 (EvL.cons (Ev.t rfl) (EvL.cons (Ev.t rfl) EvL.nil)) (fun hp w W => c87 _ _ _)) rfl ?_; clear S a w; intro a w S)
  (refine h_m (i := 15) rfl (by kernel_rfl) (op_bsliceZ (ps := [(0, Go.Operand.tmp 9), (1, Go.Operand.tmp 14), (2, Go.Operand.tmp 19)]) (us := [_, _, _]) S Try.underlying40 Try.sizeOf3 Try.zeroValue3 rfl rfl (EvL.cons (Ev.t rfl) (EvL.cons (Ev.t rfl) (EvL.cons (Ev.t rfl) EvL.nil))) rfl rfl ?_); clear S a w; intro g3 a w S; refine h_on S _ (by repeat (first | exact List.Sublist.refl _ | exact List.nil_sublist _ | refine .cons_cons _ ?_ | refine .cons _ ?_)) (List.Sublist.refl _) ?_)
  (refine h_q (i := 16) S (by repeat (first | exact List.Sublist.refl _ | exact List.nil_sublist _ | refine .cons_cons _ ?_ | refine .cons _ ?_)) rfl (by kernel_rfl) (ys_call Try.call85 (EvL.cons (Ev.t rfl) EvL.nil) (fun hp w W => d85 _ _ _ _ _ (by exact Wd.cell W (k := 0) rfl rfl) (by exact Wd.cell W (k := 0) rfl rfl) (by exact Wd.cell W (k := 0) rfl rfl))) rfl ?_; clear S a w; intro a w S)
  (refine h_y (i := 17) S (by repeat (first | exact List.Sublist.refl _ | exact List.nil_sublist _ | refine .cons_cons _ ?_ | refine .cons _ ?_)) rfl (by kernel_rfl) (by kernel_rfl) (by kernel_rfl) (fun _ _ _ _ h => h) (ys_assign (Ev.t rfl)) rfl ?_; clear S a w; intro a w S)
  refine h_done (by kernel_rfl) ?_
  (refine (then_normal (hK1 _ _ ?_)); clear hK1)
  refine wp_ret ?_
  refine st_ret S (results1 S Try.results102 (Rv.tmp rfl)) ?_
  exact ⟨rfl, S.wd.below⟩
end Go.Proofs.Ytcglchdbddlnjaa
set_option linter.unusedVariables false
set_option linter.unusedSimpArgs false
namespace Go.Fw
open Go.RowKit Go.Maps Go.Sort Go.Proofs Go.Shelf Go.Proofs.Ytcglchdbddlnjaa
theorem mL_born {α β : Type} (kv : α → Value) (vv : β → Value) : ∀ (l : List (α × β)) (i : Nat), (mL kv vv i l).map (·.born) = List.range' i l.length
  | [], i => rfl
  | (x, u) :: r, i => by simp only [mL, List.map_cons, List.length_cons, List.range'_succ, mL_born kv vv r]
section
variable {P : Program} {n : Nat} {w0 : World} {K : KL} {L : List Chunk} {b : Bool} {dst : Option Tmp} {ty : TypeId} {pos : String} {aft : Array Edge} {gd : Option (Nat × Bool)}
theorem ys_entry {α β : Type} {kv : α → Value} {vv : β → Value} {i j g i' m N : Nat} {l : List (α × β)} {seen : Array Nat} {k : α} {v : β} {x : Operand} (hx : Ev n b K x (.pointer (some ⟨i', 0, none⟩))) (hi : L[i]? = some (.blk i' (.mapIter (some g) N (seen.push m) N))) (hk : L[j]? = some (.blk g (mapK kv vv l))) (hN : l.length = N) (hm : l[m]? = some (k, v)) :
    Yr P ⟨dst, .entry x, ty, pos, aft, gd⟩ n K w0 L b (.tuple #[kv k, vv v]) := fun a w hb hkn hw => by
  have h1 := (hw.get hi).2
  have h2 := (hw.get hk).2
  subst hN
  have hrun := Go.run_entry_at (P := P) w i' g l.length seen (mL kv vv 0 l).toArray l.length ⟨kv k, vv v, m⟩ h1 h2 (by
    rw [List.mem_iff_getElem?]
    exact ⟨m, by rw [mL_get, hm]; simp⟩) (by
    show ((mL kv vv 0 l).map (·.born)).Nodup
    rw [mL_born]
    exact List.nodup_range')
  simp only [execOp, hx a hb hkn]
  simp [hrun]
end
theorem nodup_mapI {l : List Int} (h : l.Nodup) : (l.map fun x => Value.int .i64 x).Nodup := by
  refine (List.pairwise_map.2 (h.imp fun hne e => ?_))
  simp only [Value.int.injEq, true_and] at e
  exact hne e
theorem owns_mapK {P : Program} {kt : TypeId} (hk : P.underlying kt = some (.int .i64)) {β : Type} {vv : β → Value} {m : List (Int × β)} {w : World} {b : Nat} (hn : (m.map (·.1)).Nodup) (hw : ∀ p ∈ m, (Lit.int .i64 p.1).wf = true) (hl : m.length ≤ maxLen)
    (hb : w.heap[b]? = some (mapK (fun x : Int => .int .i64 x) vv m)) :
    ∃ D : DataW Unit, w.ownsMap P kt (fun _ => some (.lit (.bool true), [])) b m.length D ∧ Maps.size D = m.length ∧ (intKeys D).Perm (m.map (·.1)) := by
  have hrd : ∀ (l : List (Int × β)) (i : Nat), (∀ p ∈ l, (Lit.int .i64 p.1).wf = true) → (mL (fun x : Int => Value.int .i64 x) vv i l).map (Go.WideElems.rg (H := Unit) P kt fun _ => some (.lit (.bool true), [])) = l.map fun p => (Lit.int .i64 p.1, DataW.lit (.bool true)) := by
    intro l
    induction l with
    | nil => intro i _; rfl
    | cons p r ih =>
      intro i h
      obtain ⟨x, u⟩ := p
      have hx := h (x, u) (by simp)
      simp only [mL, List.map_cons]
      rw [ih (i + 1) fun q hq => h q (by simp [hq])]
      congr 1
      simp [Go.WideElems.rg, Go.WideElems.rd, keyOf_int_mk hk hx]
  have hborn : ∀ (l : List (Int × β)) (i : Nat), (mL (fun x : Int => Value.int .i64 x) vv i l).map (·.born) = (List.range' i l.length) := by
    intro l
    induction l with
    | nil => intro i; rfl
    | cons p r ih =>
      intro i
      obtain ⟨x, u⟩ := p
      simp only [mL, List.map_cons, List.length_cons, List.range'_succ, ih]
  have hkey : ∀ (l : List (Int × β)) (i : Nat), (mL (fun x : Int => Value.int .i64 x) vv i l).map (·.key) = (l.map (·.1)).map fun x => Value.int .i64 x := by
    intro l
    induction l with
    | nil => intro i; rfl
    | cons p r ih =>
      intro i
      obtain ⟨x, u⟩ := p
      simp only [mL, List.map_cons, ih]
  have hD := Go.WideShapes.sorted_perm ((mL (fun x : Int => Value.int .i64 x) vv 0 m).map (Go.WideElems.rg (H := Unit) P kt fun _ => some (.lit (.bool true), [])))
  refine ⟨.map (((mL (fun x : Int => Value.int .i64 x) vv 0 m).map (Go.WideElems.rg (H := Unit) P kt fun _ => some (.lit (.bool true), []))).foldr DataW.insert []), ⟨_, _, hb, ⟨by simp [mL_len]; exact hl, ⟨?_, ?_, ?_⟩, ?_⟩, by simp [mL_len], rfl⟩, ?_, ?_⟩
  · intro x hx
    have h1 : x.born ∈ (mL (fun x : Int => Value.int .i64 x) vv 0 m).map (·.born) := List.mem_map.2 ⟨x, hx, rfl⟩
    rw [hborn, List.mem_range'_1] at h1
    omega
  · show ((mL (fun x : Int => Value.int .i64 x) vv 0 m).map (·.born)).Nodup
    rw [hborn]
    exact List.nodup_range'
  · show ((mL (fun x : Int => Value.int .i64 x) vv 0 m).map (·.key)).Nodup
    rw [hkey]
    exact nodup_mapI hn
  · intro x hx
    obtain ⟨j, hj⟩ := List.mem_iff_getElem?.1 (show x ∈ mL (fun x : Int => Value.int .i64 x) vv 0 m from hx)
    rw [mL_get] at hj
    obtain ⟨p, hp, rfl⟩ := Option.map_eq_some_iff.1 hj
    exact ⟨_, by simp only [Go.WideElems.rd, keyOf_int_mk hk (hw p (List.mem_of_getElem? hp))]; rfl⟩
  · show List.length _ = _
    rw [hD.length_eq, List.length_map, mL_len]
  · show (List.map _ _).Perm _
    refine (hD.map _).trans ?_
    rw [hrd m 0 hw, List.map_map]
    exact List.Perm.of_eq rfl
theorem sorted_keys {P : Program} {ρk ρs : Ren} (LK : SlLaysZI.n10 P ρk) (LS : SlLaysZI.n6 P ρs) (hsort : AnyZI.SortsIn P ρs Fence.wide 5) (e9 : ∀ args w, (callFunc (ρs.f 9) args).run P w = .ok (.enter (ρs.f 9) args) w) (eK : ∀ args w, (callFunc (ρk.f 10) args).run P w = .ok (.enter (ρk.f 10) args) w)
    {β : Type} {vv : β → Value} {m : List (Int × β)} {w0 w : World} {L : List Chunk} {g b : Nat} {te : TypeId} {fr : Nat × Nat} (W : Wd w0 (.blk g (.cells #[.map (some b)] te fr) :: .blk b (mapK (fun x : Int => .int .i64 x) vv m) :: L) w) (hk : P.underlying (ρk.t 26) = some (.int .i64))
    (hn : (m.map (·.1)).Nodup) (hw : ∀ p ∈ m, (Lit.int .i64 p.1).wf = true) (hl : m.length ≤ 4194304) :
    RetsO P (ρs.f 6) #[.func (.func (ρk.f 10)) #[] #[.pointer (some ⟨g, 0, none⟩)]] w0 w fun v L' => ∃ ss A cap, v = .slice A ss.length cap ∧ ss.Perm (m.map (·.1)) ∧ ss.Pairwise (· < ·) ∧ L' = rowOf (ρs.t 26) 1 encI A cap ss :: .blk g (.cells #[.map (some b)] te fr) :: .blk b (mapK (fun x : Int => .int .i64 x) vv m) :: L := by
  have hg := (W.get (k := 0) rfl).2
  have hb := (W.get (k := 1) rfl).2
  have hgl := (Array.getElem?_eq_some_iff.1 hg).1
  obtain ⟨D, hown, hsz, hperm⟩ := owns_mapK (P := P) (kt := ρk.t 26) hk hn hw (by simp only [maxLen]; omega) hb
  have hseq : SeqGives Fence.wide 3 P (ρk.f 10) #[.pointer (some ⟨g, 0, none⟩)] encZ (fun ss => ss.Perm (intKeys D)) (Maps.size D) w :=
    AnyZI.keys_gives LK Fence.wide _ trivial rfl (by omega) g b _ D w hgl (by rw [cell_of_row w g 0 _ te fr hg]; rfl) hown
  have cS := AnyZI.sorted_in LS Fence.wide 6 trivial trivial trivial trivial rfl (by omega) hsort e9 (ρk.f 10) #[.pointer (some ⟨g, 0, none⟩)] trivial eK _ _ (by rw [hsz]; simp only [maxLen]; omega) (by rw [hsz]; omega) w hseq
  refine (callsIn_wide.1 cS).mono fun e w' ⟨v, ss, he, hS, hrow, hnil, hbel⟩ => ?_
  have hlen : (ss.mergeSort fun x y => decide (x ≤ y)).length = ss.length := (List.mergeSort_perm _ _).length_eq
  have hp : (ss.mergeSort fun x y => decide (x ≤ y)).Perm (m.map (·.1)) := (List.mergeSort_perm _ _).trans (hS.trans hperm)
  have hs : (ss.mergeSort fun x y => decide (x ≤ y)).Pairwise (· < ·) := by
    have h1 : (ss.mergeSort fun x y => decide (x ≤ y)).Pairwise (fun a b => decide (a ≤ b) = true) := List.pairwise_mergeSort (fun a b c h1 h2 => by simp only [decide_eq_true_eq] at *; omega) (fun a b => by simp only [Bool.or_eq_true, decide_eq_true_eq]; omega) ss
    have h2 : (ss.mergeSort fun x y => decide (x ≤ y)).Nodup := hp.nodup_iff.2 hn
    exact (h1.and h2).imp fun {a b} ⟨h3, h4⟩ => by simp only [decide_eq_true_eq] at h3; omega
  have hfl : (ss.mergeSort fun x y => decide (x ≤ y)).flatMap encI = (ss.mergeSort fun x y => decide (x ≤ y)).map encZ := by
    generalize ss.mergeSort (fun x y => decide (x ≤ y)) = q
    induction q with
    | nil => rfl
    | cons a r ih => rw [List.flatMap_cons, ih]; rfl
  obtain ⟨h1, h2⟩ := hrow
  rcases h2 with ⟨rfl, h0⟩ | ⟨gr, cap, cur, rfl, h3, h4, h5, h6, h7, h8⟩
  · have hss : ss = [] := List.eq_nil_of_length_eq_zero h0
    subst hss
    refine ⟨_, _, he, W.more (Bel.of hbel) (c := rowOf (ρs.t 26) 1 encI none 0 []) ⟨rfl, .inl ⟨rfl, rfl⟩⟩, [], none, 0, rfl, by simpa using hp, List.Pairwise.nil, rfl⟩
  · refine ⟨_, _, he, W.more (Bel.of hbel) (c := rowOf (ρs.t 26) 1 encI (some ⟨gr, 0, none⟩) cap (ss.mergeSort fun x y => decide (x ≤ y))) ⟨by rw [hfl, h1, hlen], .inr ⟨gr, cur, rfl, ?_, h3, h4, by omega, h6, h7, by rw [hfl, hlen, h8]⟩⟩, _, _, _, by rw [hlen], hp, hs, rfl⟩
    have hne : ss ≠ [] := fun e => by have := hnil.2 e; cases this
    have := List.length_pos_iff.2 hne
    omega
end Go.Fw
namespace Go.Proofs
open Go.Shelf
def Try.sortSpots_ren : Go.Shelf.Ren := ⟨fun | 6 => 83 | 15 => 89 | 14 => 111 | 28 => 123 | 29 => 124 | 20 => 132 | 21 => 133 | 22 => 134 | 23 => 135 | 24 => 136 | 25 => 137 | 26 => 138 | 27 => 139 | 46 => 148 | 47 => 141 | 48 => 142 | 49 => 149 | 50 => 150 | 57 => 153 | n => n, fun | 22 => 79 | 24 => 82 | 25 => 87 | 3 => 3 | 39 => 90 | 0 => 0 | 53 => 116 | 55 => 53 | 4 => 4 | 46 => 109 | 45 => 108 | 50 => 96 | 5 => 5 | 9 => 9 | 66 => 132 | 70 => 136 | 76 => 142 | 77 => 143 | n => n, fun | n => n⟩
theorem Try.sortSpots : Go.Proofs.SlLaysF0.n6 Try.prog Try.sortSpots_ren := {
  mixed := by kernel_rfl
  f6 := ⟨Try.f83.name, by decide, Try.func83.trans (congrArg some (by kernel_rfl))⟩
  f14 := ⟨Try.f111.name, by decide, Try.func111.trans (congrArg some (by kernel_rfl))⟩
  f15 := Try.func89.trans (congrArg some (by kernel_rfl))
  f20 := ⟨Try.f132.name, by decide, Try.func132.trans (congrArg some (by kernel_rfl))⟩
  f21 := ⟨Try.f133.name, by decide, Try.func133.trans (congrArg some (by kernel_rfl))⟩
  f22 := ⟨Try.f134.name, by decide, Try.func134.trans (congrArg some (by kernel_rfl))⟩
  f23 := ⟨Try.f135.name, by decide, Try.func135.trans (congrArg some (by kernel_rfl))⟩
  f24 := ⟨Try.f136.name, by decide, Try.func136.trans (congrArg some (by kernel_rfl))⟩
  f25 := ⟨Try.f137.name, by decide, Try.func137.trans (congrArg some (by kernel_rfl))⟩
  f26 := ⟨Try.f138.name, by decide, Try.func138.trans (congrArg some (by kernel_rfl))⟩
  f27 := ⟨Try.f139.name, by decide, Try.func139.trans (congrArg some (by kernel_rfl))⟩
  f28 := Try.func123.trans (congrArg some (by kernel_rfl))
  f29 := Try.func124.trans (congrArg some (by kernel_rfl))
  f46 := ⟨Try.f148.name, by decide, Try.func148.trans (congrArg some (by kernel_rfl))⟩
  f47 := Try.func141.trans (congrArg some (by kernel_rfl))
  f48 := Try.func142.trans (congrArg some (by kernel_rfl))
  f49 := ⟨Try.f149.name, by decide, Try.func149.trans (congrArg some (by kernel_rfl))⟩
  f50 := ⟨Try.f150.name, by decide, Try.func150.trans (congrArg some (by kernel_rfl))⟩
  f57 := ⟨Try.f153.name, by decide, Try.func153.trans (congrArg some (by kernel_rfl))⟩
  t0 := Try.underlying0
  a0 := Try.isAgg0
  z0 := Try.sizeOf0
  v0 := Try.zeroValue0
  t3 := Try.underlying3
  a3 := Try.isAgg3
  z3 := Try.sizeOf3
  v3 := Try.zeroValue3
  t4 := Try.underlying4
  a4 := Try.isAgg4
  z4 := Try.sizeOf4
  v4 := Try.zeroValue4
  t5 := Try.underlying5
  a5 := Try.isAgg5
  z5 := Try.sizeOf5
  v5 := Try.zeroValue5
  t9 := Try.underlying9
  a9 := Try.isAgg9
  z9 := Try.sizeOf9
  v9 := Try.zeroValue9
  t22 := Try.underlying79
  a22 := Try.isAgg79
  z22 := Try.sizeOf79
  v22 := Try.zeroValue79
  t25 := Try.underlying87
  a25 := Try.isAgg87
  z25 := Try.sizeOf87
  v25 := Try.zeroValue87
  t39 := Try.underlying90
  a39 := Try.isAgg90
  z39 := Try.sizeOf90
  v39 := Try.zeroValue90
  t45 := Try.underlying108
  a45 := Try.isAgg108
  z45 := Try.sizeOf108
  v45 := Try.zeroValue108
  t46 := Try.underlying109
  a46 := Try.isAgg109
  z46 := Try.sizeOf109
  v46 := Try.zeroValue109
  t50 := Try.underlying96
  a50 := Try.isAgg96
  z50 := Try.sizeOf96
  v50 := Try.zeroValue96
  t53 := Try.underlying116
  a53 := Try.isAgg116
  z53 := Try.sizeOf116
  v53 := Try.zeroValue116
  t55 := Try.underlying53
  a55 := Try.isAgg53
  z55 := Try.sizeOf53
  v55 := Try.zeroValue53
  t66 := Try.underlying132
  a66 := Try.isAgg132
  z66 := Try.sizeOf132
  v66 := Try.zeroValue132
  t70 := Try.underlying136
  a70 := Try.isAgg136
  z70 := Try.sizeOf136
  v70 := Try.zeroValue136
  t76 := Try.underlying142
  a76 := Try.isAgg142
  z76 := Try.sizeOf142
  v76 := Try.zeroValue142
  t77 := Try.underlying143
  a77 := Try.isAgg143
  z77 := Try.sizeOf143
  v77 := Try.zeroValue143 }
def Try.keysM_ren : Go.Shelf.Ren := ⟨fun | 7 => 128 | 10 => 147 | n => n, fun | 23 => 91 | 26 => 3 | 3 => 60 | 28 => 121 | 0 => 0 | 27 => 120 | 33 => 45 | 4 => 4 | n => n, fun | n => n⟩
theorem Try.keysM : Go.Proofs.SlLaysZI.n7 Try.prog Try.keysM_ren := {
  mixed := by kernel_rfl
  f7 := ⟨Try.f128.name, by decide, Try.func128.trans (congrArg some (by kernel_rfl))⟩
  f10 := ⟨Try.f147.name, by decide, Try.func147.trans (congrArg some (by kernel_rfl))⟩
  t0 := Try.underlying0
  a0 := Try.isAgg0
  z0 := Try.sizeOf0
  v0 := Try.zeroValue0
  t4 := Try.underlying4
  a4 := Try.isAgg4
  z4 := Try.sizeOf4
  v4 := Try.zeroValue4
  t23 := Try.underlying91
  a23 := Try.isAgg91
  z23 := Try.sizeOf91
  v23 := Try.zeroValue91
  t26 := Try.underlying3
  a26 := Try.isAgg3
  z26 := Try.sizeOf3
  v26 := Try.zeroValue3
  t27 := Try.underlying120
  a27 := Try.isAgg120
  z27 := Try.sizeOf120
  v27 := Try.zeroValue120
  t28 := Try.underlying121
  a28 := Try.isAgg121
  z28 := Try.sizeOf121
  v28 := Try.zeroValue121
  t33 := Try.underlying45
  a33 := Try.isAgg45
  z33 := Try.sizeOf45
  v33 := Try.zeroValue45 }
def Try.sortedI_ren : Go.Shelf.Ren := ⟨fun | 6 => 127 | 8 => 146 | 9 => 44 | 11 => 152 | 13 => 89 | 12 => 88 | 23 => 123 | 24 => 124 | 14 => 114 | 15 => 115 | 16 => 116 | 17 => 117 | 18 => 118 | 19 => 119 | 20 => 120 | 21 => 121 | 22 => 122 | 25 => 140 | 26 => 141 | 27 => 142 | 28 => 143 | 29 => 144 | 30 => 113 | 31 => 151 | n => n, fun | 26 => 3 | 28 => 121 | 24 => 40 | 0 => 0 | 3 => 3 | 37 => 90 | 48 => 116 | 50 => 53 | 4 => 4 | 40 => 109 | 39 => 108 | 45 => 96 | 5 => 5 | 9 => 9 | 51 => 132 | 55 => 136 | 57 => 142 | 58 => 143 | 33 => 45 | n => n, fun | n => n⟩
theorem Try.sortedI : Go.Proofs.SlLaysZI.n6 Try.prog Try.sortedI_ren := {
  mixed := by kernel_rfl
  f6 := ⟨Try.f127.name, by decide, Try.func127.trans (congrArg some (by kernel_rfl))⟩
  f8 := ⟨Try.f146.name, by decide, Try.func146.trans (congrArg some (by kernel_rfl))⟩
  f11 := ⟨Try.f152.name, by decide, Try.func152.trans (congrArg some (by kernel_rfl))⟩
  t0 := Try.underlying0
  a0 := Try.isAgg0
  z0 := Try.sizeOf0
  v0 := Try.zeroValue0
  t24 := Try.underlying40
  a24 := Try.isAgg40
  z24 := Try.sizeOf40
  v24 := Try.zeroValue40
  t26 := Try.underlying3
  a26 := Try.isAgg3
  z26 := Try.sizeOf3
  v26 := Try.zeroValue3
  t28 := Try.underlying121
  a28 := Try.isAgg121
  z28 := Try.sizeOf121
  v28 := Try.zeroValue121
  i26 := by kernel_rfl }
def Try.sortI_ren : Go.Shelf.Ren := ⟨fun | 5 => 44 | 8 => 89 | 7 => 88 | 19 => 123 | 20 => 124 | 10 => 114 | 11 => 115 | 12 => 116 | 13 => 117 | 14 => 118 | 15 => 119 | 16 => 120 | 17 => 121 | 18 => 122 | 30 => 140 | 31 => 141 | 32 => 142 | 33 => 143 | 34 => 144 | 35 => 113 | 40 => 151 | n => n, fun | 23 => 40 | 25 => 3 | 3 => 3 | 32 => 90 | 22 => 40 | 0 => 0 | 44 => 116 | 46 => 53 | 4 => 4 | 36 => 109 | 35 => 108 | 41 => 96 | 5 => 5 | 9 => 9 | 53 => 132 | 57 => 136 | 63 => 142 | 64 => 143 | n => n, fun | n => n⟩
theorem Try.sortI : Go.Proofs.SlLaysM.n5 Try.prog Try.sortI_ren := {
  mixed := by kernel_rfl
  f5 := ⟨Try.f44.name, by decide, Try.func44.trans (congrArg some (by kernel_rfl))⟩
  f7 := ⟨Try.f88.name, by decide, Try.func88.trans (congrArg some (by kernel_rfl))⟩
  f8 := Try.func89.trans (congrArg some (by kernel_rfl))
  f10 := ⟨Try.f114.name, by decide, Try.func114.trans (congrArg some (by kernel_rfl))⟩
  f11 := ⟨Try.f115.name, by decide, Try.func115.trans (congrArg some (by kernel_rfl))⟩
  f12 := ⟨Try.f116.name, by decide, Try.func116.trans (congrArg some (by kernel_rfl))⟩
  f13 := ⟨Try.f117.name, by decide, Try.func117.trans (congrArg some (by kernel_rfl))⟩
  f14 := ⟨Try.f118.name, by decide, Try.func118.trans (congrArg some (by kernel_rfl))⟩
  f15 := ⟨Try.f119.name, by decide, Try.func119.trans (congrArg some (by kernel_rfl))⟩
  f16 := ⟨Try.f120.name, by decide, Try.func120.trans (congrArg some (by kernel_rfl))⟩
  f17 := ⟨Try.f121.name, by decide, Try.func121.trans (congrArg some (by kernel_rfl))⟩
  f18 := ⟨Try.f122.name, by decide, Try.func122.trans (congrArg some (by kernel_rfl))⟩
  f19 := Try.func123.trans (congrArg some (by kernel_rfl))
  f20 := Try.func124.trans (congrArg some (by kernel_rfl))
  f30 := ⟨Try.f140.name, by decide, Try.func140.trans (congrArg some (by kernel_rfl))⟩
  f31 := Try.func141.trans (congrArg some (by kernel_rfl))
  f32 := Try.func142.trans (congrArg some (by kernel_rfl))
  f33 := ⟨Try.f143.name, by decide, Try.func143.trans (congrArg some (by kernel_rfl))⟩
  f34 := ⟨Try.f144.name, by decide, Try.func144.trans (congrArg some (by kernel_rfl))⟩
  f35 := ⟨Try.f113.name, by decide, Try.func113.trans (congrArg some (by kernel_rfl))⟩
  f40 := ⟨Try.f151.name, by decide, Try.func151.trans (congrArg some (by kernel_rfl))⟩
  t0 := Try.underlying0
  a0 := Try.isAgg0
  z0 := Try.sizeOf0
  v0 := Try.zeroValue0
  t3 := Try.underlying3
  a3 := Try.isAgg3
  z3 := Try.sizeOf3
  v3 := Try.zeroValue3
  t4 := Try.underlying4
  a4 := Try.isAgg4
  z4 := Try.sizeOf4
  v4 := Try.zeroValue4
  t5 := Try.underlying5
  a5 := Try.isAgg5
  z5 := Try.sizeOf5
  v5 := Try.zeroValue5
  t9 := Try.underlying9
  a9 := Try.isAgg9
  z9 := Try.sizeOf9
  v9 := Try.zeroValue9
  t22 := Try.underlying40
  a22 := Try.isAgg40
  z22 := Try.sizeOf40
  v22 := Try.zeroValue40
  t23 := Try.underlying40
  a23 := Try.isAgg40
  z23 := Try.sizeOf40
  v23 := Try.zeroValue40
  t25 := Try.underlying3
  a25 := Try.isAgg3
  z25 := Try.sizeOf3
  v25 := Try.zeroValue3
  t32 := Try.underlying90
  a32 := Try.isAgg90
  z32 := Try.sizeOf90
  v32 := Try.zeroValue90
  t35 := Try.underlying108
  a35 := Try.isAgg108
  z35 := Try.sizeOf108
  v35 := Try.zeroValue108
  t36 := Try.underlying109
  a36 := Try.isAgg109
  z36 := Try.sizeOf109
  v36 := Try.zeroValue109
  t41 := Try.underlying96
  a41 := Try.isAgg96
  z41 := Try.sizeOf96
  v41 := Try.zeroValue96
  t44 := Try.underlying116
  a44 := Try.isAgg116
  z44 := Try.sizeOf116
  v44 := Try.zeroValue116
  t46 := Try.underlying53
  a46 := Try.isAgg53
  z46 := Try.sizeOf53
  v46 := Try.zeroValue53
  t53 := Try.underlying132
  a53 := Try.isAgg132
  z53 := Try.sizeOf132
  v53 := Try.zeroValue132
  t57 := Try.underlying136
  a57 := Try.isAgg136
  z57 := Try.sizeOf136
  v57 := Try.zeroValue136
  t63 := Try.underlying142
  a63 := Try.isAgg142
  z63 := Try.sizeOf142
  v63 := Try.zeroValue142
  t64 := Try.underlying143
  a64 := Try.isAgg143
  z64 := Try.sizeOf143
  v64 := Try.zeroValue143 }
end Go.Proofs
set_option linter.unusedVariables false
set_option linter.unusedSimpArgs false
set_option maxRecDepth 100000
set_option maxHeartbeats 4000000
namespace Go.Fw
def mapL (l : List Mbr) : List (Int × Mbr) := l.foldl (fun m x => aput m x.node x) []
theorem mapL_snoc (l : List Mbr) (x : Mbr) : mapL (l ++ [x]) = aput (mapL l) x.node x := by unfold mapL; rw [List.foldl_append]; rfl
theorem mapL_good : ∀ {l : List Mbr}, goodL l → mapL l = l.map fun x => (x.node, x) := by
  intro l
  induction l using snocInd with
  | h0 => intro _; rfl
  | h1 l x ih =>
    intro h
    have h1 := (good_snoc.1 h).1
    rw [mapL_snoc, ih h1, List.map_append]
    have hn : afind x.node 0 (l.map fun x => (x.node, x)) = none := by
      have : aget (l.map fun x => (x.node, x)) x.node = none := by
        rw [aget_none]
        intro hm
        simp only [List.map_map, List.mem_map, Function.comp] at hm
        obtain ⟨y, hy, e⟩ := hm
        have := (List.pairwise_append.1 h.2).2.2 y hy x (by simp)
        omega
      have h2 := afind_get (l.map fun x => (x.node, x)) x.node 0
      rw [this] at h2
      simpa using h2
    rw [aput_none hn]; rfl
theorem mapL_keys {l : List Mbr} (h : goodL l) : (mapL l).map (·.1) = l.map (·.node) := by rw [mapL_good h, List.map_map]; rfl
theorem mapL_nodup {l : List Mbr} (h : goodL l) : ((mapL l).map (·.1)).Nodup := by
  rw [mapL_keys h]
  exact List.pairwise_map.2 (h.2.imp fun h e => by omega)
theorem mapL_get {l : List Mbr} (h : goodL l) (n : Int) : (aget (mapL l) n).getD Mbr.zero = getM l n := by
  rw [mapL_good h]
  clear h
  induction l with
  | nil => rfl
  | cons a r ih =>
    rw [getM_cons, List.map_cons, aget]
    by_cases e : n = a.node
    · rw [if_pos e, if_pos e.symm]; rfl
    · rw [if_neg e, if_neg fun e2 => e e2.symm, ih]
end Go.Fw
namespace Go.Proofs.Ytcglchdbddlnjaa
open Go.Fw Go.Proofs Go.RowKit Go.Shelf Go.Sort
abbrev kv91 : Int → Value := fun x => .int .i64 x
abbrev vv91 : Mbr → Value := fun x => .agg (Mbr.enc x).toArray
theorem mapT91 : MapT kv91 vv91 Try.prog 91 Mbr.zero := mapT_mk Try.underlying91 (keyI Try.underlying3) Try.zeroValue60
abbrev mapC (g : Nat) (m : List (Int × Mbr)) : Chunk := .blk g (mapK kv91 vv91 m)
theorem c97 (w0 : World) (p c s : Int) (v : Value) (l : List Mbr) (h : Sl Mbr.enc 4 w0 w0.heap.size v l) (hn : l.length ≤ 4194304) :
    Rets Try.prog 97 #[.agg #[.int .i64 p, .int .i64 c, .int .i64 s, v]] w0 fun u L => ∃ g, u = .map (some g) ∧ L = [mapC g (mapL l)] := by
  obtain ⟨A, cap, rfl, hl, hcap, hA⟩ := id h
  unfold Go.Fw.Rets
  refine enter1 Try.func97 rfl Try.ntmps97 rfl fun a S => ?_
  refine wp_seq_k fun _ hK1 => ?_
  refine wp_region_lit ?_
  (refine st_m (op_box S (Ev.t rfl) rfl ?_); clear S a; intro g1 a w S)
  (refine st_y S (Yr.ys (ys_assign Ev.c)) rfl ?_; clear S a w; intro a w S)
  refine st_nil ?_
  (refine (then_normal (hK1 _ _ ?_)); clear hK1)
  refine wp_seq_k fun _ hK1 => ?_
  refine wp_region_lit ?_
  (refine st_m (op_makeMap kv91 vv91 S rfl ?_); clear S a w; intro g2 a w S)
  (refine st_y S (Yr.ys (ys_assign (Ev.t rfl))) rfl ?_; clear S a w; intro a w S)
  refine st_nil ?_
  (refine (then_normal (hK1 _ _ ?_)); clear hK1)
  refine wp_seq_k fun _ hK1 => ?_
  refine wp_seq_k fun _ hK2 => ?_
  refine wp_region_lit ?_
  (refine st_y S (Yr.ys (ys_fieldN (FieldT.mk Try.underlying24 rfl Try.sizeOf22 rfl) (Ev.t rfl) (i' := 3) rfl)) rfl ?_; clear S a w; intro a w S)
  (refine st_y S (Yr.ys (ys_ld ⟨Try.isAgg22, Try.sizeOf22⟩ (Ev.t rfl) (k := 1) rfl rfl)) rfl ?_; clear S a w; intro a w S)
  (refine st_y S (Yr.ys (ys_lenS Try.underlying22 (Ev.t rfl))) rfl ?_; clear S a w; intro a w S)
  (refine st_y S (Yr.ys (ys_move Ev.c)) rfl ?_; clear S a w; intro a w S)
  refine st_nil ?_
  (refine (then_normal (hK2 _ _ ?_)); clear hK2)
  refine wp_block ?_
  refine st_loopM S [10] (X := Nat) (fun k => [(10, true, .int .i64 (k : Int))])
    (fun k => [mapC g2 (mapL (l.take k)), .blk g1 (.cells #[.int .i64 p, .int .i64 c, .int .i64 s, .slice A l.length cap] 24)])
    (fun k => k ≤ l.length) (fun k => l.length - k) 0 (Nat.zero_le _) (by repeat (first | exact Fits.nil | refine Fits.skip rfl ?_ | refine Fits.cons rfl ?_)) (by repeat (first | exact Picks.nil | (refine Picks.rest ?_; (repeat (first | exact List.Sublist.refl _ | refine List.Sublist.cons_cons _ ?_ | refine List.Sublist.cons _ ?_)); done) | refine Picks.take 0 rfl ?_ | refine Picks.take 1 rfl ?_ | refine Picks.take 2 rfl ?_ | refine Picks.take 3 rfl ?_ | refine Picks.take 4 rfl ?_ | refine Picks.take 5 rfl ?_ | refine Picks.take 6 rfl ?_ | refine Picks.take 7 rfl ?_ | refine Picks.take 8 rfl ?_ | refine Picks.take 9 rfl ?_ | refine Picks.take 10 rfl ?_ | refine Picks.take 11 rfl ?_)) ?_
  clear S
  intro k a w hk S
  by_cases hlt : k < l.length
  · obtain ⟨gq, oq, x, rfl, hx, hdq, hc⟩ := row_at hA hlt
    have ht : mapL (l.take (k + 1)) = aput (mapL (l.take k)) x.node x := by rw [List.take_add_one, hx, Option.toList_some, mapL_snoc]
    refine wp_seq_k fun _ hK2 => ?_
    refine wp_region_lit ?_
    (refine st_y S (Yr.ys (ys_T (by omega) (ys_lss (Ev.t rfl) (Ev.t rfl)))) rfl ?_; clear S a w; intro a w S)
    refine st_nil ?_
    (refine (then_normal (hK2 _ _ ?_)); clear hK2)
    refine wp_seq_k fun _ hK2 => ?_
    refine st_then S (Ev.t rfl) ?_
    refine wp_skip ?_
    (refine (then_normal (hK2 _ _ ?_)); clear hK2)
    refine wp_seq_k fun _ hK2 => ?_
    refine wp_block ?_
    refine wp_seq_k fun _ hK3 => ?_
    refine wp_region_lit ?_
    (refine st_y S (Yr.ys (ys_ixS Try.underlying22 Try.sizeOf60 (Ev.t rfl) (Ev.t rfl) (fun _ => by omega))) rfl ?_; clear S a w; intro a w S)
    (refine st_y S (Yr.ys (ys_ldOA ⟨Try.isAgg60, Try.sizeOf60⟩ (Ev.t rfl) (vs := [_, _, _, _]) rfl (fun _ => hc))) rfl ?_; clear S a w; intro a w S)
    (refine st_m (op_alloc S Try.zeroValue60 (cs := _) rfl rfl ?_); clear S a w; intro g3 a w S)
    (refine st_m (op_stW S Try.sizeOf60 (Ev.t rfl) (Ev.t rfl) (k := 0) rfl rfl rfl (by simp [Value.oneCell']) ?_); clear S a w; intro a w S)
    refine st_nil ?_
    (refine (then_normal (hK3 _ _ ?_)); clear hK3)
    refine wp_region_lit ?_
    (refine st_y S (Yr.ys (ys_move (Ev.t rfl))) rfl ?_; clear S a w; intro a w S)
    (refine st_y S (Yr.ys (ys_fieldN (FieldT.mk Try.underlying60 rfl Try.sizeOf3 rfl) (Ev.t rfl) (i' := 0) rfl)) rfl ?_; clear S a w; intro a w S)
    (refine st_y S (Yr.ys (ys_ld ⟨Try.isAgg3, Try.sizeOf3⟩ (Ev.t rfl) (k := 0) rfl rfl)) rfl ?_; clear S a w; intro a w S)
    (refine st_y S (Yr.ys (ys_ldA ⟨Try.isAgg60, Try.sizeOf60⟩ (Ev.t rfl) (k := 0) rfl rfl)) rfl ?_; clear S a w; intro a w S)
    (refine st_m (op_mapUpd S mapT91 (Ev.t rfl) (Ev.t rfl) (Ev.t rfl) (j := 1) rfl ?_); clear S a w; intro a w S)
    refine st_nil ?_
    (refine (in_normal (then_normal (hK2 _ _ ?_))); clear hK2)
    refine wp_region_lit ?_
    (refine st_y S (Yr.ys (ys_addI (Ev.t rfl) Ev.c (fun _ => by unfold I64; omega))) rfl ?_; clear S a w; intro a w S)
    (refine st_y S (Yr.ys (ys_move (Ev.t rfl))) rfl ?_; clear S a w; intro a w S)
    refine st_nil ?_
    refine (then_normal ?_)
    exact ⟨k + 1, by omega, by omega, by rw [ht]; exact S.picks (by repeat (first | exact Fits.nil | refine Fits.skip rfl ?_ | refine Fits.cons rfl ?_)) (by repeat (first | exact Picks.nil | (refine Picks.rest ?_; (repeat (first | exact List.Sublist.refl _ | refine List.Sublist.cons_cons _ ?_ | refine List.Sublist.cons _ ?_)); done) | refine Picks.take 0 rfl ?_ | refine Picks.take 1 rfl ?_ | refine Picks.take 2 rfl ?_ | refine Picks.take 3 rfl ?_ | refine Picks.take 4 rfl ?_ | refine Picks.take 5 rfl ?_ | refine Picks.take 6 rfl ?_ | refine Picks.take 7 rfl ?_ | refine Picks.take 8 rfl ?_ | refine Picks.take 9 rfl ?_ | refine Picks.take 10 rfl ?_ | refine Picks.take 11 rfl ?_))⟩
  obtain rfl : k = l.length := by omega
  rw [List.take_length] at S
  refine wp_seq_k fun _ hK2 => ?_
  refine wp_region_lit ?_
  (refine st_y S (Yr.ys (ys_F (by omega) (ys_lss (Ev.t rfl) (Ev.t rfl)))) rfl ?_; clear S a w; intro a w S)
  refine st_nil ?_
  (refine (then_normal (hK2 _ _ ?_)); clear hK2)
  refine wp_seq_k fun _ hK2 => ?_
  refine st_else S (Ev.t rfl) ?_
  refine wp_exit ?_
  (refine (then_exit (then_exit (in_here (then_normal (hK1 _ _ ?_))))); clear hK1)
  refine wp_seq_k fun _ hK1 => ?_
  refine wp_region_lit ?_
  (refine st_y S (Yr.ys (ys_move (Ev.t rfl))) rfl ?_; clear S a w; intro a w S)
  (refine st_y S (Yr.ys (ys_assign (Ev.t rfl))) rfl ?_; clear S a w; intro a w S)
  refine st_nil ?_
  (refine (then_normal (hK1 _ _ ?_)); clear hK1)
  refine wp_ret ?_
  refine st_ret S (results1 S Try.results97 (Rv.tmp rfl)) ?_
  exact ⟨_, [mapC g2 (mapL l)], rfl, S.wd.picks (by repeat (first | exact Picks.nil | (refine Picks.rest ?_; (repeat (first | exact List.Sublist.refl _ | refine List.Sublist.cons_cons _ ?_ | refine List.Sublist.cons _ ?_)); done) | refine Picks.take 0 rfl ?_ | refine Picks.take 1 rfl ?_ | refine Picks.take 2 rfl ?_ | refine Picks.take 3 rfl ?_ | refine Picks.take 4 rfl ?_ | refine Picks.take 5 rfl ?_ | refine Picks.take 6 rfl ?_ | refine Picks.take 7 rfl ?_ | refine Picks.take 8 rfl ?_ | refine Picks.take 9 rfl ?_ | refine Picks.take 10 rfl ?_ | refine Picks.take 11 rfl ?_)), _, rfl, rfl⟩
theorem c128 (w0 : World) (b : Option Nat) :
    Rets Try.prog 128 #[.map b] w0 fun u L => ∃ g, u = .func (.func 147) #[] #[.pointer (some ⟨g, 0, none⟩)] ∧ L = [.blk g (.cells #[.map b] 91)] := by
  unfold Go.Fw.Rets
  refine enter1 Try.func128 rfl Try.ntmps128 rfl fun a S => ?_
  refine wp_seq_k fun _ hK1 => ?_
  refine wp_region_lit ?_
  (refine st_m (op_box1 S (Ev.t rfl) rfl rfl ?_); clear S a; intro g1 a w S)
  (refine st_y S (Yr.ys (ys_assign Ev.c)) rfl ?_; clear S a w; intro a w S)
  refine st_nil ?_
  (refine (then_normal (hK1 _ _ ?_)); clear hK1)
  refine wp_seq_k fun _ hK1 => ?_
  refine wp_region_lit ?_
  (refine st_y S (Yr.ys (ys_mkFunc (EvL.cons (Ev.t rfl) EvL.nil))) rfl ?_; clear S a w; intro a w S)
  (refine st_y S (Yr.ys (ys_assign (Ev.t rfl))) rfl ?_; clear S a w; intro a w S)
  refine st_nil ?_
  (refine (then_normal (hK1 _ _ ?_)); clear hK1)
  refine wp_ret ?_
  refine st_ret S (results1 S Try.results128 (Rv.tmp rfl)) ?_
  exact ⟨_, _, rfl, S.wd.picks (by repeat (first | exact Picks.nil | (refine Picks.rest ?_; (repeat (first | exact List.Sublist.refl _ | refine List.Sublist.cons_cons _ ?_ | refine List.Sublist.cons _ ?_)); done) | refine Picks.take 0 rfl ?_ | refine Picks.take 1 rfl ?_ | refine Picks.take 2 rfl ?_ | refine Picks.take 3 rfl ?_ | refine Picks.take 4 rfl ?_ | refine Picks.take 5 rfl ?_ | refine Picks.take 6 rfl ?_ | refine Picks.take 7 rfl ?_ | refine Picks.take 8 rfl ?_ | refine Picks.take 9 rfl ?_ | refine Picks.take 10 rfl ?_ | refine Picks.take 11 rfl ?_)), _, rfl, rfl⟩
theorem c93 (w0 : World) (p c s n : Int) (v : Value) (l : List Mbr) (h : Sl Mbr.enc 4 w0 w0.heap.size v l) (hn : l.length ≤ 4194304) (hok : lookE ⟨p, c, s, l⟩ n = 0) :
    Rets Try.prog 93 #[.agg #[.int .i64 p, .int .i64 c, .int .i64 s, v], .int .i64 n] w0 fun u L => ∃ g, u = .tuple #[.map (some g), .agg (Mbr.enc (getM l n)).toArray, .int .i64 0] ∧ L = [mapC g (mapL l)] := by
  have hc := look_ok.1 hok
  have rw_0 : (if shapeP p c s ∧ goodL l then (0 : Int) else 60) = 0 := if_pos hc.2
  have rw_1 : decide (n < 0) = false := decide_eq_false (by omega)
  have rw_2 : decide (8 ≤ n) = false := decide_eq_false (by omega)
  have rw_3 := mapL_get hc.2.2 n
  unfold Go.Fw.Rets
  refine enter2 Try.func93 rfl Try.ntmps93 rfl fun a S => ?_
  refine wp_seq_k fun _ hK1 => ?_
  refine wp_region_lit ?_
  (refine st_m (op_box S (Ev.t rfl) rfl ?_); clear S a; intro g1 a w S)
  (refine st_y S (Yr.ys (ys_assign Ev.c)) rfl ?_; clear S a w; intro a w S)
  (refine st_m (op_alloc S Try.zeroValue60 (cs := _) rfl rfl ?_); clear S a w; intro g2 a w S)
  (refine st_y S (Yr.ys (ys_assign Ev.c)) rfl ?_; clear S a w; intro a w S)
  refine st_nil ?_
  (refine (then_normal (hK1 _ _ ?_)); clear hK1)
  refine wp_seq_k fun _ hK1 => ?_
  refine wp_seq_k fun _ hK2 => ?_
  refine wp_region_lit ?_
  (refine st_y S (Yr.ys (ys_move (Ev.t rfl))) rfl ?_; clear S a w; intro a w S)
  (refine st_y S (Yr.ys (ys_F (by omega) (ys_lss (Ev.t rfl) Ev.c))) rfl ?_; clear S a w; intro a w S)
  (refine st_y S (Yr.ys (ys_move (Ev.t rfl))) rfl ?_; clear S a w; intro a w S)
  (refine st_yt S rfl rfl (Yr.ys (ys_move (Ev.t rfl))) rfl ?_; clear S a w; intro a w S)
  (refine st_yt S rfl rfl (Yr.ys (ys_F (by omega) (ys_geq (Ev.t rfl) Ev.c))) rfl ?_; clear S a w; intro a w S)
  (refine st_y S (Yr.ys (ys_pickF (Ev.t rfl) (Ev.t rfl))) rfl ?_; clear S a w; intro a w S)
  refine st_nil ?_
  (refine (then_normal (hK2 _ _ ?_)); clear hK2)
  refine st_else S (Ev.t rfl) ?_
  refine wp_skip ?_
  (refine (then_normal (hK1 _ _ ?_)); clear hK1)
  refine wp_seq_k fun _ hK1 => ?_
  refine wp_seq_k fun _ hK2 => ?_
  refine wp_region_lit ?_
  (refine st_y S (Yr.ys (ys_ldA ⟨Try.isAgg24, Try.sizeOf24⟩ (Ev.t rfl) (k := 1) rfl rfl)) rfl ?_; clear S a w; intro a w S)
  (refine st_y S (ys_call Try.call55 (EvL.cons (Ev.t rfl) EvL.nil) (fun hp w W => c55 _ _ _ _ _ _ (by exact .old W (by assumption)) (by assumption))) rfl ?_; clear S a w; intro a w S)
  rw [rw_0] at S
  (refine st_y S (Yr.ys (ys_assign (Ev.t rfl))) rfl ?_; clear S a w; intro a w S)
  refine st_nil ?_
  (refine (then_normal (hK2 _ _ ?_)); clear hK2)
  refine wp_seq_k fun _ hK2 => ?_
  refine wp_region_lit ?_
  (refine st_y S (Yr.ys (ys_move (Ev.t rfl))) rfl ?_; clear S a w; intro a w S)
  (refine st_y S (Yr.ys (ys_F (by omega) (ys_neq (Ev.t rfl) Ev.c))) rfl ?_; clear S a w; intro a w S)
  refine st_nil ?_
  (refine (then_normal (hK2 _ _ ?_)); clear hK2)
  refine st_else S (Ev.t rfl) ?_
  refine wp_skip ?_
  (refine (then_normal (hK1 _ _ ?_)); clear hK1)
  refine wp_seq_k fun _ hK1 => ?_
  refine wp_region_lit ?_
  (refine st_y S (Yr.ys (ys_ldA ⟨Try.isAgg24, Try.sizeOf24⟩ (Ev.t rfl) (k := 1) rfl rfl)) rfl ?_; clear S a w; intro a w S)
  (refine st_m (op_calls S Try.call97 (EvL.cons (Ev.t rfl) EvL.nil) (c97 _ _ _ _ _ _ (by exact .old S.wd (by assumption)) (by assumption)) rfl ?_); clear S a w; rintro _ _ ⟨g3, rfl, rfl⟩ a w S)
  (refine st_y S (Yr.ys (ys_assign (Ev.t rfl))) rfl ?_; clear S a w; intro a w S)
  refine st_nil ?_
  (refine (then_normal (hK1 _ _ ?_)); clear hK1)
  refine wp_seq_k fun _ hK1 => ?_
  (refine h_beginE S (by kernel_rfl) 1 ?_; clear S a w; intro a w S)
  (refine h_y (i := 0) S (by repeat (first | exact List.Sublist.refl _ | exact List.nil_sublist _ | refine .cons_cons _ ?_ | refine .cons _ ?_)) rfl (by kernel_rfl) (by kernel_rfl) (by kernel_rfl) (fun _ _ _ _ h => h) (ys_move (Ev.t rfl)) rfl ?_; clear S a w; intro a w S)
  (refine h_y (i := 1) S (by repeat (first | exact List.Sublist.refl _ | exact List.nil_sublist _ | refine .cons_cons _ ?_ | refine .cons _ ?_)) rfl (by kernel_rfl) (by kernel_rfl) (by kernel_rfl) (fun _ _ _ _ h => h) (ys_move (Ev.t rfl)) rfl ?_; clear S a w; intro a w S)
  (refine h_y (i := 2) S (by repeat (first | exact List.Sublist.refl _ | exact List.nil_sublist _ | refine .cons_cons _ ?_ | refine .cons _ ?_)) rfl (by kernel_rfl) (by kernel_rfl) (by kernel_rfl) (fun _ _ _ _ h => h) (ys_move (Ev.t rfl)) rfl ?_; clear S a w; intro a w S)
  (refine h_y (i := 3) S (by repeat (first | exact List.Sublist.refl _ | exact List.nil_sublist _ | refine .cons_cons _ ?_ | refine .cons _ ?_)) rfl (by kernel_rfl) (by kernel_rfl) (by kernel_rfl) (fun _ _ _ _ h => h) (ys_look mapT91 (Ev.t rfl) (Ev.t rfl) (j := 0) rfl) rfl ?_; clear S a w; intro a w S)
  rw [rw_3] at S
  (refine h_y (i := 4) S (by repeat (first | exact List.Sublist.refl _ | exact List.nil_sublist _ | refine .cons_cons _ ?_ | refine .cons _ ?_)) rfl (by kernel_rfl) (by kernel_rfl) (by kernel_rfl) (fun _ _ _ _ h => h) (ys_assign (Ev.t rfl)) rfl ?_; clear S a w; intro a w S)
  (refine h_m0 (i := 5) rfl (by kernel_rfl) (op_stW S Try.sizeOf60 (Ev.t rfl) (Ev.t rfl) (k := 1) rfl rfl rfl (by simp [Value.oneCell']) ?_); clear S a w; intro a w S; refine h_on S _ (List.Sublist.refl _) (by repeat (first | exact List.Sublist.refl _ | exact List.nil_sublist _ | refine .cons_cons _ ?_ | refine .cons _ ?_)) ?_)
  (refine h_y (i := 6) S (by repeat (first | exact List.Sublist.refl _ | exact List.nil_sublist _ | refine .cons_cons _ ?_ | refine .cons _ ?_)) rfl (by kernel_rfl) (by kernel_rfl) (by kernel_rfl) (fun _ _ _ _ h => h) (ys_assign Ev.c) rfl ?_; clear S a w; intro a w S)
  refine h_done (by kernel_rfl) ?_
  (refine (then_normal (hK1 _ _ ?_)); clear hK1)
  refine wp_ret ?_
  refine st_ret S (results3 S Try.results93 (Rv.tmp rfl) (Rv.cell (k := 1) ⟨Try.isAgg60, Try.sizeOf60⟩ rfl rfl rfl) (Rv.tmp rfl)) ?_
  exact ⟨_, [mapC g3 (mapL l)], rfl, S.wd.picks (by repeat (first | exact Picks.nil | (refine Picks.rest ?_; (repeat (first | exact List.Sublist.refl _ | refine List.Sublist.cons_cons _ ?_ | refine List.Sublist.cons _ ?_)); done) | refine Picks.take 0 rfl ?_ | refine Picks.take 1 rfl ?_ | refine Picks.take 2 rfl ?_ | refine Picks.take 3 rfl ?_ | refine Picks.take 4 rfl ?_ | refine Picks.take 5 rfl ?_ | refine Picks.take 6 rfl ?_ | refine Picks.take 7 rfl ?_ | refine Picks.take 8 rfl ?_ | refine Picks.take 9 rfl ?_ | refine Picks.take 10 rfl ?_ | refine Picks.take 11 rfl ?_)), _, rfl, rfl⟩
theorem d93 (w0 : World) (p c s n : Int) (v : Value) (l : List Mbr) (h : Sl Mbr.enc 4 w0 w0.heap.size v l) (hn : l.length ≤ 4194304) (hok : lookE ⟨p, c, s, l⟩ n ≠ 0) :
    Calls Try.prog 93 #[.agg #[.int .i64 p, .int .i64 c, .int .i64 s, v], .int .i64 n] w0 fun e w' => e = .returned (.tuple #[.map none, .agg (Mbr.enc Mbr.zero).toArray, .int .i64 (lookE ⟨p, c, s, l⟩ n)]) ∧ Bel w0.heap.size w0 w' := by
  by_cases hb : n < 0 ∨ 8 ≤ n
  · have rw_0 : (decide (n < 0) || decide (8 ≤ n)) = true := by rw [Bool.or_eq_true, decide_eq_true_eq, decide_eq_true_eq]; exact hb
    refine enter2 Try.func93 rfl Try.ntmps93 rfl fun a S => ?_
    refine wp_seq_k fun _ hK1 => ?_
    refine wp_region_lit ?_
    (refine st_m (op_box S (Ev.t rfl) rfl ?_); clear S a; intro g1 a w S)
    (refine st_y S (Yr.ys (ys_assign Ev.c)) rfl ?_; clear S a w; intro a w S)
    (refine st_m (op_alloc S Try.zeroValue60 (cs := _) rfl rfl ?_); clear S a w; intro g2 a w S)
    (refine st_y S (Yr.ys (ys_assign Ev.c)) rfl ?_; clear S a w; intro a w S)
    refine st_nil ?_
    (refine (then_normal (hK1 _ _ ?_)); clear hK1)
    refine wp_seq_k fun _ hK1 => ?_
    refine wp_seq_k fun _ hK2 => ?_
    refine wp_region_lit ?_
    (refine st_y S (Yr.ys (ys_move (Ev.t rfl))) rfl ?_; clear S a w; intro a w S)
    (refine st_y S (Yr.ys (ys_lss (Ev.t rfl) Ev.c)) rfl ?_; clear S a w; intro a w S)
    (refine st_y S (Yr.ys (ys_move (Ev.t rfl))) rfl ?_; clear S a w; intro a w S)
    (refine st_yf S rfl rfl (Yr.ys (ys_move (Ev.t rfl))) rfl ?_; clear S a w; intro a w S)
    (refine st_yf S rfl rfl (Yr.ys (ys_geq (Ev.g rfl) Ev.c)) rfl ?_; clear S a w; intro a w S)
    (refine st_y S (Yr.ys (ys_or (Ev.t rfl) Ev.c (Ev.g rfl))) rfl ?_; clear S a w; intro a w S)
    rw [rw_0] at S
    refine st_nil ?_
    (refine (then_normal (hK2 _ _ ?_)); clear hK2)
    refine st_then S (Ev.t rfl) ?_
    refine wp_seq_k fun _ hK2 => ?_
    refine wp_region_lit ?_
    (refine st_y S (Yr.ys (ys_bld (ps := []) (us := [_, _, _, _]) bld60 EvL.nil rfl)) rfl ?_; clear S a w; intro a w S)
    (refine st_y S (Yr.ys (ys_assign Ev.c)) rfl ?_; clear S a w; intro a w S)
    (refine st_m (op_stW S Try.sizeOf60 (Ev.t rfl) (Ev.t rfl) (k := 0) rfl rfl rfl (by simp [Value.oneCell']) ?_); clear S a w; intro a w S)
    (refine st_y S (Yr.ys (ys_assign Ev.c)) rfl ?_; clear S a w; intro a w S)
    refine st_nil ?_
    (refine (then_normal (hK2 _ _ ?_)); clear hK2)
    refine wp_ret ?_
    refine (then_ret ?_)
    refine st_ret S (results3 S Try.results93 (Rv.tmp rfl) (Rv.cell (k := 0) ⟨Try.isAgg60, Try.sizeOf60⟩ rfl rfl rfl) (Rv.tmp rfl)) ?_
    exact ⟨by rw [lookE, if_pos hb], S.wd.below⟩
  · have rw_0 : (decide (n < 0) || decide (8 ≤ n)) = false := by rw [Bool.or_eq_false_iff, decide_eq_false_iff_not, decide_eq_false_iff_not]; omega
    have e : lookE ⟨p, c, s, l⟩ n = if shapeP p c s ∧ goodL l then 0 else 60 := if_neg hb
    rw [e] at hok
    have rw_1 : (if shapeP p c s ∧ goodL l then (0 : Int) else 60) = 60 := if_neg fun h2 => hok (if_pos h2)
    refine enter2 Try.func93 rfl Try.ntmps93 rfl fun a S => ?_
    refine wp_seq_k fun _ hK1 => ?_
    refine wp_region_lit ?_
    (refine st_m (op_box S (Ev.t rfl) rfl ?_); clear S a; intro g1 a w S)
    (refine st_y S (Yr.ys (ys_assign Ev.c)) rfl ?_; clear S a w; intro a w S)
    (refine st_m (op_alloc S Try.zeroValue60 (cs := _) rfl rfl ?_); clear S a w; intro g2 a w S)
    (refine st_y S (Yr.ys (ys_assign Ev.c)) rfl ?_; clear S a w; intro a w S)
    refine st_nil ?_
    (refine (then_normal (hK1 _ _ ?_)); clear hK1)
    refine wp_seq_k fun _ hK1 => ?_
    refine wp_seq_k fun _ hK2 => ?_
    refine wp_region_lit ?_
    (refine st_y S (Yr.ys (ys_move (Ev.t rfl))) rfl ?_; clear S a w; intro a w S)
    (refine st_y S (Yr.ys (ys_F (by omega) (ys_lss (Ev.t rfl) Ev.c))) rfl ?_; clear S a w; intro a w S)
    (refine st_y S (Yr.ys (ys_move (Ev.t rfl))) rfl ?_; clear S a w; intro a w S)
    (refine st_yt S rfl rfl (Yr.ys (ys_move (Ev.t rfl))) rfl ?_; clear S a w; intro a w S)
    (refine st_yt S rfl rfl (Yr.ys (ys_F (by omega) (ys_geq (Ev.t rfl) Ev.c))) rfl ?_; clear S a w; intro a w S)
    (refine st_y S (Yr.ys (ys_pickF (Ev.t rfl) (Ev.t rfl))) rfl ?_; clear S a w; intro a w S)
    refine st_nil ?_
    (refine (then_normal (hK2 _ _ ?_)); clear hK2)
    refine st_else S (Ev.t rfl) ?_
    refine wp_skip ?_
    (refine (then_normal (hK1 _ _ ?_)); clear hK1)
    refine wp_seq_k fun _ hK1 => ?_
    refine wp_seq_k fun _ hK2 => ?_
    refine wp_region_lit ?_
    (refine st_y S (Yr.ys (ys_ldA ⟨Try.isAgg24, Try.sizeOf24⟩ (Ev.t rfl) (k := 1) rfl rfl)) rfl ?_; clear S a w; intro a w S)
    (refine st_y S (ys_call Try.call55 (EvL.cons (Ev.t rfl) EvL.nil) (fun hp w W => c55 _ _ _ _ _ _ (by exact .old W (by assumption)) (by assumption))) rfl ?_; clear S a w; intro a w S)
    rw [rw_1] at S
    (refine st_y S (Yr.ys (ys_assign (Ev.t rfl))) rfl ?_; clear S a w; intro a w S)
    refine st_nil ?_
    (refine (then_normal (hK2 _ _ ?_)); clear hK2)
    refine wp_seq_k fun _ hK2 => ?_
    refine wp_region_lit ?_
    (refine st_y S (Yr.ys (ys_move (Ev.t rfl))) rfl ?_; clear S a w; intro a w S)
    (refine st_y S (Yr.ys (ys_T (by omega) (ys_neq (Ev.t rfl) Ev.c))) rfl ?_; clear S a w; intro a w S)
    refine st_nil ?_
    (refine (then_normal (hK2 _ _ ?_)); clear hK2)
    refine st_then S (Ev.t rfl) ?_
    refine wp_seq_k fun _ hK2 => ?_
    refine wp_region_lit ?_
    (refine st_y S (Yr.ys (ys_bld (ps := []) (us := [_, _, _, _]) bld60 EvL.nil rfl)) rfl ?_; clear S a w; intro a w S)
    (refine st_y S (Yr.ys (ys_move (Ev.t rfl))) rfl ?_; clear S a w; intro a w S)
    (refine st_y S (Yr.ys (ys_assign Ev.c)) rfl ?_; clear S a w; intro a w S)
    (refine st_m (op_stW S Try.sizeOf60 (Ev.t rfl) (Ev.t rfl) (k := 0) rfl rfl rfl (by simp [Value.oneCell']) ?_); clear S a w; intro a w S)
    (refine st_y S (Yr.ys (ys_assign (Ev.t rfl))) rfl ?_; clear S a w; intro a w S)
    refine st_nil ?_
    (refine (then_normal (hK2 _ _ ?_)); clear hK2)
    refine wp_ret ?_
    refine (then_ret ?_)
    refine st_ret S (results3 S Try.results93 (Rv.tmp rfl) (Rv.cell (k := 0) ⟨Try.isAgg60, Try.sizeOf60⟩ rfl rfl rfl) (Rv.tmp rfl)) ?_
    exact ⟨by rw [e, rw_1], S.wd.below⟩
theorem sortsI (m : Nat) : AnyZI.SortsIn Try.prog Try.sortedI_ren Fence.wide m :=
  ⟨fun blk off cap ss W hH hblk hsz => callsIn_wide.2 (AnyM.slices_Sort_int Try.sortI blk off cap ss W hH hblk hsz),
   fun p cap W => callsIn_wide.2 (AnyM.slices_Sort_int_none Try.sortI p cap W)⟩
theorem o127 {w0 w : World} {L : List Chunk} {g b : Nat} {m : List (Int × Mbr)} (W : Wd w0 (.blk g (.cells #[.map (some b)] 91) :: mapC b m :: L) w) (hn : (m.map (·.1)).Nodup) (hw : ∀ p ∈ m, 0 ≤ p.1 ∧ p.1 < 8) (hl : m.length ≤ 8) :
    RetsO Try.prog 127 #[.func (.func 147) #[] #[.pointer (some ⟨g, 0, none⟩)]] w0 w fun v L' => ∃ ss A cap, v = .slice A ss.length cap ∧ ss.Perm (m.map (·.1)) ∧ ss.Pairwise (· < ·) ∧ L' = rowOf 3 1 encI A cap ss :: .blk g (.cells #[.map (some b)] 91) :: mapC b m :: L :=
  sorted_keys (ρk := Try.keysM_ren) (ρs := Try.sortedI_ren) { Try.keysM with } Try.sortedI (sortsI _) (enters_of Try.func44 (by kernel_rfl) rfl) (enters_of Try.func147 (by kernel_rfl) rfl) W Try.underlying3 hn (fun p hp => by
    have := hw p hp
    simp [Lit.wf, IntKind.min, IntKind.max, IntKind.signed, IntKind.bits]
    omega) (by omega)
abbrev valM (m : List (Int × Mbr)) (k : Int) : Mbr := (aget m k).getD Mbr.zero
theorem o94 {w0 w : World} {L : List Chunk} {b : Nat} {m : List (Int × Mbr)} (W : Wd w0 (mapC b m :: L) w) (p c s : Int) (v : Value) (hn : (m.map (·.1)).Nodup) (hm : ∀ q ∈ m, (0 ≤ q.1 ∧ q.1 < 8) ∧ q.2.node = q.1 ∧ 0 < q.2.epoch) (hl : m.length ≤ 8) :
    RetsO Try.prog 94 #[.agg #[.int .i64 p, .int .i64 c, .int .i64 s, v], .map (some b)] w0 w fun u L' => ∃ A cp, u = rngV ⟨p, c, s, listing (valM m) 8⟩ A cp ∧ L' = rowOf 60 4 Mbr.enc A cp (listing (valM m) 8) :: mapC b m :: L := by
  have hw : ∀ q ∈ m, 0 ≤ q.1 ∧ q.1 < 8 := fun q hq => (hm q hq).1
  unfold Go.Fw.RetsO
  refine enterW2 W Try.func94 rfl Try.ntmps94 rfl fun a S => ?_
  refine wp_seq_k fun _ hK1 => ?_
  refine wp_region_lit ?_
  (refine st_m (op_box S (Ev.t rfl) rfl ?_); clear S a; intro g1 a w S)
  (refine st_m (op_alloc S Try.zeroValue24 (cs := _) rfl rfl ?_); clear S a w; intro g2 a w S)
  refine st_nil ?_
  (refine (then_normal (hK1 _ _ ?_)); clear hK1)
  refine wp_seq_k fun _ hK1 => ?_
  refine wp_region_lit ?_
  (refine st_y S (Yr.ys (ys_fieldN (FieldT.mk Try.underlying24 rfl Try.sizeOf22 rfl) (Ev.t rfl) (i' := 3) rfl)) rfl ?_; clear S a w; intro a w S)
  (refine st_m (op_st S Try.sizeOf22 (Ev.t rfl) Ev.c (k := 1) rfl rfl (by simp) ?_); clear S a w; intro a w S)
  refine st_nil ?_
  (refine (then_normal (hK1 _ _ ?_)); clear hK1)
  refine wp_seq_k fun _ hK1 => ?_
  refine wp_seq_k fun _ hK2 => ?_
  refine wp_region_lit ?_
  (refine st_y S (Yr.ys (ys_move (Ev.t rfl))) rfl ?_; clear S a w; intro a w S)
  (refine st_m (op_calls S Try.call128 (EvL.cons (Ev.t rfl) EvL.nil) (c128 _ _) rfl ?_); clear S a w; rintro _ _ ⟨g3, rfl, rfl⟩ a w S)
  (replace S := S.pull 3 rfl; try simp only [List.set_cons_zero, List.set_cons_succ, List.eraseIdx_cons_succ, List.eraseIdx_cons_zero] at S; replace S := S.pull 1 rfl; try simp only [List.set_cons_zero, List.set_cons_succ, List.eraseIdx_cons_succ, List.eraseIdx_cons_zero] at S; refine st_m (op_callO S Try.call127 (EvL.cons (Ev.t rfl) EvL.nil) (o127 S.wd (by first | assumption | omega | (dsimp only; omega) | exact Sl.nil_ | exact .old S.wd (by assumption) | exact Sl.of_own S.wd (k := 0) rfl (fun _ => rfl) | exact Sl.of_own S.wd (k := 1) rfl (fun _ => rfl) | exact Sl.of_own S.wd (k := 2) rfl (fun _ => rfl) | exact Sl.of_own S.wd (k := 3) rfl (fun _ => rfl) | (simp at *; omega)) (by first | assumption | omega | (dsimp only; omega) | exact Sl.nil_ | exact .old S.wd (by assumption) | exact Sl.of_own S.wd (k := 0) rfl (fun _ => rfl) | exact Sl.of_own S.wd (k := 1) rfl (fun _ => rfl) | exact Sl.of_own S.wd (k := 2) rfl (fun _ => rfl) | exact Sl.of_own S.wd (k := 3) rfl (fun _ => rfl) | (intro _ W'; first | exact .old W' (by assumption) | exact Sl.of_own W' (k := 0) rfl (fun _ => rfl) | exact Sl.of_own W' (k := 1) rfl (fun _ => rfl) | exact Sl.of_own W' (k := 2) rfl (fun _ => rfl) | exact Sl.of_own W' (k := 3) rfl (fun _ => rfl)) | (simp at *; omega)) (by first | assumption | omega | (dsimp only; omega) | exact Sl.nil_ | exact .old S.wd (by assumption) | exact Sl.of_own S.wd (k := 0) rfl (fun _ => rfl) | exact Sl.of_own S.wd (k := 1) rfl (fun _ => rfl) | exact Sl.of_own S.wd (k := 2) rfl (fun _ => rfl) | exact Sl.of_own S.wd (k := 3) rfl (fun _ => rfl) | (simp at *; omega))) rfl ?_) <;> clear S a w)
  rintro _ _ ⟨ss1, A1, cap1, rfl, hr1, hr2_1, rfl⟩ a w S
  (refine st_y S (Yr.ys (ys_lenS Try.underlying40 (Ev.t rfl))) rfl ?_; clear S a w; intro a w S)
  (refine st_y S (Yr.ys (ys_move Ev.c)) rfl ?_; clear S a w; intro a w S)
  refine st_nil ?_
  (refine (then_normal (hK2 _ _ ?_)); clear hK2)
  refine wp_block ?_
  have hlen : ss1.length ≤ 8 := by rw [‹ss1.Perm _›.length_eq, List.length_map]; exact hl
  have hL := withM hn hm ‹ss1.Perm _› ‹ss1.Pairwise _›
  replace S := S.nil_ 60 4 Mbr.enc none
  refine st_loopM S [12] (X := Nat × Option Addr × Nat) (fun y => [(12, true, .int .i64 (y.1 : Int))])
    (fun y => rowOf 60 4 Mbr.enc y.2.1 y.2.2 ((ss1.take y.1).map (valM m)) :: .blk g1 (.cells #[.int .i64 p, .int .i64 c, .int .i64 s, .slice y.2.1 ((ss1.take y.1).map (valM m)).length y.2.2] 24) :: rowOf 3 1 encI A1 cap1 ss1 :: mapC b m :: .blk g2 (.cells #[.int .i64 0, .int .i64 0, .int .i64 0, .slice none 0 0] 24) :: L)
    (fun y => y.1 ≤ ss1.length) (fun y => ss1.length - y.1) (0, none, 0) (Nat.zero_le _) (by repeat (first | exact Fits.nil | refine Fits.skip rfl ?_ | refine Fits.cons rfl ?_)) (by repeat (first | exact Picks.nil | (refine Picks.rest ?_; (repeat (first | exact List.Sublist.refl _ | refine List.Sublist.cons_cons _ ?_ | refine List.Sublist.cons _ ?_)); done) | refine Picks.take 0 rfl ?_ | refine Picks.take 1 rfl ?_ | refine Picks.take 2 rfl ?_ | refine Picks.take 3 rfl ?_ | refine Picks.take 4 rfl ?_ | refine Picks.take 5 rfl ?_ | refine Picks.take 6 rfl ?_ | refine Picks.take 7 rfl ?_ | refine Picks.take 8 rfl ?_ | refine Picks.take 9 rfl ?_ | refine Picks.take 10 rfl ?_ | refine Picks.take 11 rfl ?_)) ?_
  clear S
  rintro ⟨k, B, cb⟩ a w hk S
  dsimp only at hk S
  by_cases hlt : k < ss1.length
  · have hroom := S.wd.room (k := 2) rfl
    obtain ⟨ga, rfl⟩ := S.wd.row_at (k := 2) rfl (by omega)
    obtain ⟨x, hx⟩ : ∃ x, ss1[k]? = some x := ⟨_, List.getElem?_eq_getElem hlt⟩
    have ht : (ss1.take (k + 1)).map (valM m) = (ss1.take k).map (valM m) ++ [valM m x] := by rw [List.take_add_one, hx, Option.toList_some, List.map_append]; rfl
    have hlk : ((ss1.take k).map (valM m)).length ≤ 8 := by rw [List.length_map, List.length_take]; omega
    refine wp_seq_k fun _ hK2 => ?_
    refine wp_region_lit ?_
    (refine st_y S (Yr.ys (ys_T (by omega) (ys_lss (Ev.t rfl) (Ev.t rfl)))) rfl ?_; clear S a w; intro a w S)
    refine st_nil ?_
    (refine (then_normal (hK2 _ _ ?_)); clear hK2)
    refine wp_seq_k fun _ hK2 => ?_
    refine st_then S (Ev.t rfl) ?_
    refine wp_skip ?_
    (refine (then_normal (hK2 _ _ ?_)); clear hK2)
    refine wp_seq_k fun _ hK2 => ?_
    refine wp_block ?_
    refine wp_seq_k fun _ hK3 => ?_
    refine wp_region_lit ?_
    (refine st_y S (Yr.ys (ys_ixS Try.underlying40 Try.sizeOf3 (Ev.t rfl) (Ev.t rfl) (fun _ => by omega))) rfl ?_; clear S a w; intro a w S)
    (refine st_y S (Yr.ys (ys_ldW0 ⟨Try.isAgg3, Try.sizeOf3⟩ (Ev.t rfl) (k := 2) rfl hx (fun _ => rfl) rfl)) rfl ?_; clear S a w; intro a w S)
    (refine st_y S (Yr.ys (ys_assign (Ev.t rfl))) rfl ?_; clear S a w; intro a w S)
    refine st_nil ?_
    (refine (then_normal (hK3 _ _ ?_)); clear hK3)
    refine wp_region_lit ?_
    (refine st_y S (Yr.ys (ys_fieldN (FieldT.mk Try.underlying24 rfl Try.sizeOf22 rfl) (Ev.t rfl) (i' := 3) rfl)) rfl ?_; clear S a w; intro a w S)
    (refine st_y S (Yr.ys (ys_ld ⟨Try.isAgg22, Try.sizeOf22⟩ (Ev.t rfl) (k := 1) rfl rfl)) rfl ?_; clear S a w; intro a w S)
    (refine st_y S (Yr.ys (ys_move (Ev.t rfl))) rfl ?_; clear S a w; intro a w S)
    (refine st_y S (Yr.ys (ys_move (Ev.t rfl))) rfl ?_; clear S a w; intro a w S)
    (refine st_y S (Yr.ys (ys_look mapT91 (Ev.t rfl) (Ev.t rfl) (j := 3) rfl)) rfl ?_; clear S a w; intro a w S)
    (refine st_m (op_bslice1 S Try.underlying22 inf60 rfl rfl rfl (Ev.t rfl) rfl rfl rfl ?_); clear S a w; intro g4 a w S)
    (refine st_m (op_push S Try.underlying22 inf60 rfl (k := 1) (j := 0) rfl (Ev.t rfl) (Ev.t rfl) rfl rfl rfl rfl (by first | omega | (simp only [List.length_append, List.length_cons, List.length_nil]; omega)) rfl rfl rfl ?_); clear S a w; intro A1 cap2 a w S)
    (refine st_y S (Yr.ys (ys_fieldN (FieldT.mk Try.underlying24 rfl Try.sizeOf22 rfl) (Ev.t rfl) (i' := 3) rfl)) rfl ?_; clear S a w; intro a w S)
    (refine st_m (op_st S Try.sizeOf22 (Ev.t rfl) (Ev.t rfl) (k := 2) rfl rfl (by simp) ?_); clear S a w; intro a w S)
    refine st_nil ?_
    (refine (in_normal (then_normal (hK2 _ _ ?_))); clear hK2)
    refine wp_region_lit ?_
    (refine st_y S (Yr.ys (ys_addI (Ev.t rfl) Ev.c (fun _ => by unfold I64; omega))) rfl ?_; clear S a w; intro a w S)
    (refine st_y S (Yr.ys (ys_move (Ev.t rfl))) rfl ?_; clear S a w; intro a w S)
    refine st_nil ?_
    refine (then_normal ?_)
    exact ⟨(k + 1, A1, cap2), by dsimp only; omega, by dsimp only; omega, by dsimp only; rw [ht]; exact S.picks (by repeat (first | exact Fits.nil | refine Fits.skip rfl ?_ | refine Fits.cons rfl ?_)) (by repeat (first | exact Picks.nil | (refine Picks.rest ?_; (repeat (first | exact List.Sublist.refl _ | refine List.Sublist.cons_cons _ ?_ | refine List.Sublist.cons _ ?_)); done) | refine Picks.take 0 rfl ?_ | refine Picks.take 1 rfl ?_ | refine Picks.take 2 rfl ?_ | refine Picks.take 3 rfl ?_ | refine Picks.take 4 rfl ?_ | refine Picks.take 5 rfl ?_ | refine Picks.take 6 rfl ?_ | refine Picks.take 7 rfl ?_ | refine Picks.take 8 rfl ?_ | refine Picks.take 9 rfl ?_ | refine Picks.take 10 rfl ?_ | refine Picks.take 11 rfl ?_))⟩
  obtain rfl : k = ss1.length := by omega
  rw [List.take_length, hL] at S
  refine wp_seq_k fun _ hK2 => ?_
  refine wp_region_lit ?_
  (refine st_y S (Yr.ys (ys_F (by omega) (ys_lss (Ev.t rfl) (Ev.t rfl)))) rfl ?_; clear S a w; intro a w S)
  refine st_nil ?_
  (refine (then_normal (hK2 _ _ ?_)); clear hK2)
  refine wp_seq_k fun _ hK2 => ?_
  refine st_else S (Ev.t rfl) ?_
  refine wp_exit ?_
  (refine (then_exit (then_exit (in_here (then_normal (hK1 _ _ ?_))))); clear hK1)
  refine wp_seq_k fun _ hK1 => ?_
  refine wp_region_lit ?_
  (refine st_y S (Yr.ys (ys_ldA ⟨Try.isAgg24, Try.sizeOf24⟩ (Ev.t rfl) (k := 1) rfl rfl)) rfl ?_; clear S a w; intro a w S)
  (refine st_m (op_stW S Try.sizeOf24 (Ev.t rfl) (Ev.t rfl) (k := 4) rfl rfl rfl (by simp [Value.oneCell']) ?_); clear S a w; intro a w S)
  refine st_nil ?_
  (refine (then_normal (hK1 _ _ ?_)); clear hK1)
  refine wp_ret ?_
  refine st_ret S (results1 S Try.results94 (Rv.cell (k := 4) ⟨Try.isAgg24, Try.sizeOf24⟩ rfl rfl rfl)) ?_
  exact ⟨_, rowOf 60 4 Mbr.enc B cb (listing (valM m) 8) :: mapC b m :: L, rfl, S.wd.picks (by repeat (first | exact Picks.nil | (refine Picks.rest ?_; (repeat (first | exact List.Sublist.refl _ | refine List.Sublist.cons_cons _ ?_ | refine List.Sublist.cons _ ?_)); done) | refine Picks.take 0 rfl ?_ | refine Picks.take 1 rfl ?_ | refine Picks.take 2 rfl ?_ | refine Picks.take 3 rfl ?_ | refine Picks.take 4 rfl ?_ | refine Picks.take 5 rfl ?_ | refine Picks.take 6 rfl ?_ | refine Picks.take 7 rfl ?_ | refine Picks.take 8 rfl ?_ | refine Picks.take 9 rfl ?_ | refine Picks.take 10 rfl ?_ | refine Picks.take 11 rfl ?_)), _, _, rfl, rfl⟩
end Go.Proofs.Ytcglchdbddlnjaa
set_option linter.unusedVariables false
set_option linter.unusedSimpArgs false
set_option maxRecDepth 100000
set_option maxHeartbeats 4000000
namespace Go.Fw
theorem mem_aput {α β : Type} [DecidableEq α] {l : List (α × β)} {k : α} {v : β} {q : α × β} (h : q ∈ aput l k v) : q = (k, v) ∨ q ∈ l := by
  induction l with
  | nil => simpa [aput] using h
  | cons p r ih =>
    obtain ⟨x, u⟩ := p
    unfold aput at h
    split at h
    · rcases List.mem_cons.1 h with h | h
      · exact .inl h
      · exact .inr (by simp [h])
    · rcases List.mem_cons.1 h with h | h
      · exact .inr (by simp [h])
      · rcases ih h with h | h
        · exact .inl h
        · exact .inr (by simp [h])
def MapOk (m : List (Int × Mbr)) : Prop := (m.map (·.1)).Nodup ∧ ∀ q ∈ m, (0 ≤ q.1 ∧ q.1 < 8) ∧ q.2.node = q.1 ∧ 0 < q.2.epoch
theorem MapOk.len {m : List (Int × Mbr)} (h : MapOk m) : m.length ≤ 8 := by
  have h2 := List.Nodup.length_le_of_subset (l₂ := (List.range 8).map fun n : Nat => (n : Int)) h.1 (by
    intro x hx
    obtain ⟨q, hq, rfl⟩ := List.mem_map.1 hx
    have := (h.2 q hq).1
    exact List.mem_map.2 ⟨q.1.toNat, List.mem_range.2 (by omega), by omega⟩)
  simpa using h2
theorem MapOk.put {m : List (Int × Mbr)} (h : MapOk m) {n e s t : Int} (hn : 0 ≤ n ∧ n < 8) (he : 0 < e) : MapOk (aput m n ⟨n, e, s, t⟩) := by
  refine ⟨?_, fun q hq => ?_⟩
  · rw [aput_keys]
    split
    · exact h.1
    · rename_i hk
      exact List.nodup_append.2 ⟨h.1, by simp, fun a ha b hb => by simp at hb; subst hb; exact fun e => hk (e ▸ ha)⟩
  · rcases mem_aput hq with rfl | hq
    · exact ⟨hn, rfl, he⟩
    · exact h.2 q hq
theorem mapL_ok {l : List Mbr} (h : goodL l) : MapOk (mapL l) := by
  refine ⟨mapL_nodup h, fun q hq => ?_⟩
  rw [mapL_good h] at hq
  obtain ⟨x, hx, rfl⟩ := List.mem_map.1 hq
  have := h.1 x hx
  exact ⟨this.1, rfl, by show 0 < x.epoch; have := this.2.1.1; omega⟩
theorem newer_less (x y : Mbr) : 0 < orI (cmpI x.epoch y.epoch) (orI (cmpI x.stamp y.stamp) (cmpI x.status y.status)) ↔ lessM y x := by
  unfold orI cmpI lessM
  repeat' split
  all_goals (constructor <;> intro h <;> omega)
theorem seen_more {N : Nat} {seen : Array Nat} (h2 : ∀ m ∈ seen, m < N) (h3 : seen.toList.Nodup) {j : Nat} (hj : j < N) (hn : j ∉ seen) : seen.size < N ∧ (∀ m ∈ seen.push j, m < N) ∧ (seen.push j).toList.Nodup := by
  have hnd : (seen.push j).toList.Nodup := by
    rw [Array.toList_push]
    exact List.nodup_append.2 ⟨h3, by simp, fun a ha b hb => by simp at hb; subst hb; exact fun e => hn (by rw [← e]; simpa using ha)⟩
  have hlt : ∀ m ∈ seen.push j, m < N := fun m hm => by
    rcases Array.mem_push.1 hm with h | h
    · exact h2 m h
    · omega
  refine ⟨?_, hlt, hnd⟩
  have h4 := List.Nodup.length_le_of_subset (l₂ := List.range N) hnd (by
    intro m hm
    exact List.mem_range.2 (hlt m (by simpa using hm)))
  simp at h4
  omega
def MergeAt (la lb : List Mbr) (seen : Array Nat) (m : List (Int × Mbr)) : Prop :=
  ∀ n : Int, 0 ≤ n → n < 8 → ((∃ j ∈ seen, ∃ x, (mapL lb)[j]? = some (n, x)) → (aget m n).getD Mbr.zero = mxM (getM la n) (getM lb n)) ∧ (¬ (∃ j ∈ seen, ∃ x, (mapL lb)[j]? = some (n, x)) → (aget m n).getD Mbr.zero = getM la n)
theorem mapL_at {l : List Mbr} (h : goodL l) {j : Nat} {n : Int} {x : Mbr} (hj : (mapL l)[j]? = some (n, x)) : x = getM l n ∧ x.ok ∧ x.node = n := by
  rw [mapL_good h] at hj
  rw [List.getElem?_map] at hj
  obtain ⟨y, hy, e⟩ := Option.map_eq_some_iff.1 hj
  cases e
  have hm := List.mem_of_getElem? hy
  exact ⟨(getM_mem h.2 hm).symm, h.1 _ hm, rfl⟩
theorem mapL_once {l : List Mbr} (h : goodL l) {i j : Nat} {n : Int} {x y : Mbr} (hi : (mapL l)[i]? = some (n, x)) (hj : (mapL l)[j]? = some (n, y)) : i = j := by
  have hn := mapL_nodup h
  have h1 : ((mapL l).map (·.1))[i]? = some n := by rw [List.getElem?_map, hi]; rfl
  have h2 : ((mapL l).map (·.1))[j]? = some n := by rw [List.getElem?_map, hj]; rfl
  exact (List.getElem?_inj (List.getElem?_eq_some_iff.1 h1).1 hn).1 (h1.trans h2.symm)
theorem MergeAt.done {la lb : List Mbr} (ha : goodL la) (hb : goodL lb) {seen : Array Nat} {m : List (Int × Mbr)} (h : MergeAt la lb seen m) (hall : ∀ j, j < (mapL lb).length → j ∈ seen) : listing (fun n => (aget m n).getD Mbr.zero) 8 = mergeL la lb := by
  refine listing_congr fun k hk => ?_
  have hk := h k (by omega) (by omega)
  by_cases hns : ∃ j ∈ seen, ∃ x, (mapL lb)[j]? = some ((k : Int), x)
  · exact hk.1 hns
  · show (aget m (k : Int)).getD Mbr.zero = mxM (getM la (k : Int)) (getM lb (k : Int))
    rw [hk.2 hns]
    rcases getM_zero_or hb (k : Int) with e | ⟨hok, hnode, hpos⟩
    · rw [e]
      have : ¬ lessM (getM la (k : Int)) Mbr.zero := by
        rcases getM_zero_or ha (k : Int) with e | ⟨hok, _, hpos⟩
        · rw [e]; decide
        · unfold lessM; dsimp only; omega
      unfold mxM
      rw [if_neg this]
    · exfalso
      have hmem := (getM_epoch hpos).1
      have h1 : ((k : Int), getM lb (k : Int)) ∈ mapL lb := by
        rw [mapL_good hb]
        exact List.mem_map.2 ⟨_, hmem, by rw [hnode]⟩
      obtain ⟨j, hj⟩ := List.mem_iff_getElem?.1 h1
      exact hns ⟨j, hall j (List.getElem?_eq_some_iff.1 hj).1, _, hj⟩
theorem MergeAt.look {la lb : List Mbr} (hb : goodL lb) {seen : Array Nat} {m : List (Int × Mbr)} (h : MergeAt la lb seen m) {j : Nat} {n : Int} {x : Mbr} (hj : (mapL lb)[j]? = some (n, x)) (hn : j ∉ seen) : (aget m n).getD Mbr.zero = getM la n := by
  obtain ⟨e, hok, hnode⟩ := mapL_at hb hj
  have := hok.1
  refine (h n (by omega) (by omega)).2 ?_
  rintro ⟨i, hi, y, hy⟩
  exact hn (mapL_once hb hy hj ▸ hi)
theorem MergeAt.next {la lb : List Mbr} (hb : goodL lb) {seen : Array Nat} {m m' : List (Int × Mbr)} (h : MergeAt la lb seen m) {j : Nat} {n : Int} {x : Mbr} (hj : (mapL lb)[j]? = some (n, x)) (hn : j ∉ seen)
    (hm : ∀ k, (aget m' k).getD Mbr.zero = if k = n then mxM (getM la n) x else (aget m k).getD Mbr.zero) : MergeAt la lb (seen.push j) m' := by
  intro k h0 h8
  rw [hm k]
  have e := (mapL_at hb hj).1
  by_cases hk : k = n
  · subst hk
    rw [if_pos rfl, ← e]
    exact ⟨fun _ => rfl, fun h2 => absurd ⟨j, by simp, x, hj⟩ h2⟩
  · rw [if_neg hk]
    have : (∃ i ∈ seen.push j, ∃ y, (mapL lb)[i]? = some (k, y)) ↔ ∃ i ∈ seen, ∃ y, (mapL lb)[i]? = some (k, y) := by
      constructor
      · rintro ⟨i, hi, y, hy⟩
        rcases Array.mem_push.1 hi with hi | rfl
        · exact ⟨i, hi, y, hy⟩
        · rw [hj] at hy; cases hy; exact absurd rfl hk
      · rintro ⟨i, hi, y, hy⟩
        exact ⟨i, Array.mem_push.2 (.inl hi), y, hy⟩
    rw [this]
    exact h k h0 h8
theorem merge_cond {m : List (Int × Mbr)} {n : Int} {x y : Mbr} (hy : (aget m n).getD Mbr.zero = y) (hx : x.ok) : (!(aget m n).isSome || decide (0 < orI (cmpI x.epoch y.epoch) (orI (cmpI x.stamp y.stamp) (cmpI x.status y.status)))) = decide (lessM y x) := by
  cases h : aget m n with
  | some z => simp only [Option.isSome_some, Bool.not_true, Bool.false_or, newer_less]
  | none =>
    rw [h] at hy
    have hl : lessM y x := by
      subst hy
      have := hx.2.1.1
      unfold lessM
      simp only [Option.getD_none]
      omega
    simp [hl]
theorem MapOk.put' {m : List (Int × Mbr)} (h : MapOk m) {n : Int} {x : Mbr} (hx : x.ok) (hn : x.node = n) : MapOk (aput m n x) := by
  obtain ⟨a, b, c, d⟩ := x
  subst hn
  exact h.put hx.1 (by have := hx.2.1.1; dsimp only at this; omega)
theorem MergeAt.begin {la lb : List Mbr} (ha : goodL la) : MergeAt la lb #[] (mapL la) := fun n _ _ => ⟨fun ⟨j, hj, _⟩ => by simp at hj, fun _ => mapL_get ha n⟩
end Go.Fw
namespace Go.Proofs.Ytcglchdbddlnjaa
open Go.Fw Go.Proofs Go.RowKit
theorem val_put {l : List Mbr} (h : goodL l) {n e s t : Int} : listing (valM (aput (mapL l) n ⟨n, e, s, t⟩)) 8 = withL l ⟨n, e, s, t⟩ := by
  refine listing_congr fun k _ => ?_
  unfold withF valM
  rw [aget_put]
  by_cases hk : (k : Int) = n
  · rw [if_pos hk, if_pos hk]; rfl
  · rw [if_neg hk, if_neg hk]; exact mapL_get h _
theorem c51 (w0 : World) (p c s n : Int) (v : Value) (l : List Mbr) (h : Sl Mbr.enc 4 w0 w0.heap.size v l) (hn : l.length ≤ 4194304) :
    Rets Try.prog 51 #[.agg #[.int .i64 p, .int .i64 c, .int .i64 s, v], .int .i64 n] w0 fun u L => ∃ A cp, u = .tuple #[rngV (joinR ⟨p, c, s, l⟩ n).1 A cp, .int .i64 (joinR ⟨p, c, s, l⟩ n).2] ∧ L = [rowOf 60 4 Mbr.enc A cp (joinR ⟨p, c, s, l⟩ n).1.mem] := by
  by_cases hl : lookE ⟨p, c, s, l⟩ n ≠ 0
  · have rw_0 : decide (lookE ⟨p, c, s, l⟩ n ≠ 0) = true := decide_eq_true hl
    unfold Go.Fw.Rets
    refine enter2 Try.func51 rfl Try.ntmps51 rfl fun a S => ?_
    refine wp_seq_k fun _ hK1 => ?_
    refine wp_region_lit ?_
    (refine st_m (op_box S (Ev.t rfl) rfl ?_); clear S a; intro g1 a w S)
    (refine st_m (op_alloc S Try.zeroValue24 (cs := _) rfl rfl ?_); clear S a w; intro g2 a w S)
    (refine st_y S (Yr.ys (ys_assign Ev.c)) rfl ?_; clear S a w; intro a w S)
    refine st_nil ?_
    (refine (then_normal (hK1 _ _ ?_)); clear hK1)
    refine wp_seq_k fun _ hK1 => ?_
    refine wp_region_lit ?_
    (refine st_y S (Yr.ys (ys_ldA ⟨Try.isAgg24, Try.sizeOf24⟩ (Ev.t rfl) (k := 1) rfl rfl)) rfl ?_; clear S a w; intro a w S)
    (refine st_y S (Yr.ys (ys_move (Ev.t rfl))) rfl ?_; clear S a w; intro a w S)
    (refine st_y S (ys_call Try.call93 (EvL.cons (Ev.t rfl) (EvL.cons (Ev.t rfl) EvL.nil)) (fun hp w W => d93 _ _ _ _ _ _ _ (by exact .old W (by assumption)) (by assumption) (by assumption))) rfl ?_; clear S a w; intro a w S)
    (refine st_y S (Yr.ys (ys_move (Ev.t rfl))) rfl ?_; clear S a w; intro a w S)
    (refine st_y S (Yr.ys (ys_ext (Ev.t rfl) rfl)) rfl ?_; clear S a w; intro a w S)
    (refine st_y S (Yr.ys (ys_ext (Ev.t rfl) rfl)) rfl ?_; clear S a w; intro a w S)
    (refine st_y S (Yr.ys (ys_ext (Ev.t rfl) rfl)) rfl ?_; clear S a w; intro a w S)
    (refine st_m (op_alloc S Try.zeroValue60 (cs := _) rfl rfl ?_); clear S a w; intro g3 a w S)
    (refine st_y S (Yr.ys (ys_assign (Ev.t rfl))) rfl ?_; clear S a w; intro a w S)
    (refine st_m (op_stW S Try.sizeOf60 (Ev.t rfl) (Ev.t rfl) (k := 0) rfl rfl rfl (by simp [Value.oneCell']) ?_); clear S a w; intro a w S)
    (refine st_y S (Yr.ys (ys_assign (Ev.t rfl))) rfl ?_; clear S a w; intro a w S)
    refine st_nil ?_
    (refine (then_normal (hK1 _ _ ?_)); clear hK1)
    refine wp_seq_k fun _ hK1 => ?_
    refine wp_block ?_
    refine wp_seq_k fun _ hK2 => ?_
    refine wp_region_lit ?_
    (refine st_y S (Yr.ys (ys_move (Ev.t rfl))) rfl ?_; clear S a w; intro a w S)
    (refine st_y S (Yr.ys (ys_T (by omega) (ys_neq (Ev.t rfl) Ev.c))) rfl ?_; clear S a w; intro a w S)
    (refine st_y S (Yr.ys (ys_assign (Ev.t rfl))) rfl ?_; clear S a w; intro a w S)
    refine st_nil ?_
    (refine (then_normal (hK2 _ _ ?_)); clear hK2)
    refine st_then S (Ev.t rfl) ?_
    refine wp_seq_k fun _ hK2 => ?_
    refine wp_region_lit ?_
    (refine st_y S (Yr.ys (ys_bld (ps := []) (us := [_, _, _, _]) bld24 EvL.nil rfl)) rfl ?_; clear S a w; intro a w S)
    (refine st_y S (Yr.ys (ys_move (Ev.t rfl))) rfl ?_; clear S a w; intro a w S)
    (refine st_m (op_stW S Try.sizeOf24 (Ev.t rfl) (Ev.t rfl) (k := 1) rfl rfl rfl (by simp [Value.oneCell']) ?_); clear S a w; intro a w S)
    (refine st_y S (Yr.ys (ys_assign (Ev.t rfl))) rfl ?_; clear S a w; intro a w S)
    refine st_nil ?_
    (refine (then_normal (hK2 _ _ ?_)); clear hK2)
    refine wp_ret ?_
    refine (in_ret (then_ret ?_))
    refine st_ret S (results2 S Try.results51 (Rv.cell (k := 1) ⟨Try.isAgg24, Try.sizeOf24⟩ rfl rfl rfl) (Rv.tmp rfl)) ?_
    exact ⟨_, [rowOf 60 4 Mbr.enc none 0 []], rfl, (S.nil_ 60 4 Mbr.enc none).wd.picks (by repeat (first | exact Picks.nil | (refine Picks.rest ?_; (repeat (first | exact List.Sublist.refl _ | refine List.Sublist.cons_cons _ ?_ | refine List.Sublist.cons _ ?_)); done) | refine Picks.take 0 rfl ?_ | refine Picks.take 1 rfl ?_ | refine Picks.take 2 rfl ?_ | refine Picks.take 3 rfl ?_ | refine Picks.take 4 rfl ?_ | refine Picks.take 5 rfl ?_ | refine Picks.take 6 rfl ?_ | refine Picks.take 7 rfl ?_ | refine Picks.take 8 rfl ?_ | refine Picks.take 9 rfl ?_ | refine Picks.take 10 rfl ?_ | refine Picks.take 11 rfl ?_)), by rw [join_bad hl]; exact ⟨none, 0, rfl, rfl⟩⟩
  have hl0 := Decidable.not_not.1 hl
  have hc := (look_ok.1 hl0)
  have hg := getM_small hc.2.2 n
  have hmk := mapL_ok hc.2.2
  dsimp only at hg hc hmk
  have rw_1 : IntKind.i64.wrap ((getM l n).epoch + 1) = (getM l n).epoch + 1 := by rw [IntKind.wrap_i64]; omega
  have rw_2 : IntKind.i64.wrap ((getM l n).stamp + 1) = (getM l n).stamp + 1 := by rw [IntKind.wrap_i64]; omega
  have hmp := hmk.put (n := n) (e := (getM l n).epoch + 1) (s := (getM l n).stamp + 1) (t := 1) hc.1 (by omega)
  have hm1 := hmp.1
  have hm2 := hmp.2
  have hm3 := hmp.len
  have rw_v : Value.agg #[.int .i64 n, .int .i64 ((getM l n).epoch + 1), .int .i64 ((getM l n).stamp + 1), .int .i64 1] = vv91 ⟨n, (getM l n).epoch + 1, (getM l n).stamp + 1, 1⟩ := rfl
  unfold Go.Fw.Rets
  refine enter2 Try.func51 rfl Try.ntmps51 rfl fun a S => ?_
  refine wp_seq_k fun _ hK1 => ?_
  refine wp_region_lit ?_
  (refine st_m (op_box S (Ev.t rfl) rfl ?_); clear S a; intro g1 a w S)
  (refine st_m (op_alloc S Try.zeroValue24 (cs := _) rfl rfl ?_); clear S a w; intro g2 a w S)
  (refine st_y S (Yr.ys (ys_assign Ev.c)) rfl ?_; clear S a w; intro a w S)
  refine st_nil ?_
  (refine (then_normal (hK1 _ _ ?_)); clear hK1)
  refine wp_seq_k fun _ hK1 => ?_
  refine wp_region_lit ?_
  (refine st_y S (Yr.ys (ys_ldA ⟨Try.isAgg24, Try.sizeOf24⟩ (Ev.t rfl) (k := 1) rfl rfl)) rfl ?_; clear S a w; intro a w S)
  (refine st_y S (Yr.ys (ys_move (Ev.t rfl))) rfl ?_; clear S a w; intro a w S)
  (refine st_m (op_calls S Try.call93 (EvL.cons (Ev.t rfl) (EvL.cons (Ev.t rfl) EvL.nil)) (c93 _ _ _ _ _ _ _ (by exact .old S.wd (by assumption)) (by assumption) (by assumption)) rfl ?_); clear S a w; rintro _ _ ⟨g3, rfl, rfl⟩ a w S)
  (refine st_y S (Yr.ys (ys_move (Ev.t rfl))) rfl ?_; clear S a w; intro a w S)
  (refine st_y S (Yr.ys (ys_ext (Ev.t rfl) rfl)) rfl ?_; clear S a w; intro a w S)
  (refine st_y S (Yr.ys (ys_ext (Ev.t rfl) rfl)) rfl ?_; clear S a w; intro a w S)
  (refine st_y S (Yr.ys (ys_ext (Ev.t rfl) rfl)) rfl ?_; clear S a w; intro a w S)
  (refine st_m (op_alloc S Try.zeroValue60 (cs := _) rfl rfl ?_); clear S a w; intro g4 a w S)
  (refine st_y S (Yr.ys (ys_assign (Ev.t rfl))) rfl ?_; clear S a w; intro a w S)
  (refine st_m (op_stW S Try.sizeOf60 (Ev.t rfl) (Ev.t rfl) (k := 0) rfl rfl rfl (by simp [Value.oneCell']) ?_); clear S a w; intro a w S)
  (refine st_y S (Yr.ys (ys_assign (Ev.t rfl))) rfl ?_; clear S a w; intro a w S)
  refine st_nil ?_
  (refine (then_normal (hK1 _ _ ?_)); clear hK1)
  refine wp_seq_k fun _ hK1 => ?_
  refine wp_block ?_
  refine wp_seq_k fun _ hK2 => ?_
  refine wp_region_lit ?_
  (refine st_y S (Yr.ys (ys_move (Ev.t rfl))) rfl ?_; clear S a w; intro a w S)
  (refine st_y S (Yr.ys (ys_F (by omega) (ys_neq (Ev.t rfl) Ev.c))) rfl ?_; clear S a w; intro a w S)
  (refine st_y S (Yr.ys (ys_assign (Ev.t rfl))) rfl ?_; clear S a w; intro a w S)
  refine st_nil ?_
  (refine (then_normal (hK2 _ _ ?_)); clear hK2)
  refine st_else S (Ev.t rfl) ?_
  refine wp_seq_k fun _ hK2 => ?_
  refine wp_region_lit ?_
  (refine st_y S (Yr.ys (ys_fieldN (FieldT.mk Try.underlying60 rfl Try.sizeOf3 rfl) (Ev.t rfl) (i' := 3) rfl)) rfl ?_; clear S a w; intro a w S)
  (refine st_y S (Yr.ys (ys_ld ⟨Try.isAgg3, Try.sizeOf3⟩ (Ev.t rfl) (k := 0) rfl rfl)) rfl ?_; clear S a w; intro a w S)
  (refine st_y S (Yr.ys (ys_eql (Ev.t rfl) Ev.c)) rfl ?_; clear S a w; intro a w S)
  (refine st_y S (Yr.ys (ys_assign (Ev.t rfl))) rfl ?_; clear S a w; intro a w S)
  refine st_nil ?_
  (refine (then_normal (hK2 _ _ ?_)); clear hK2)
  refine st_if S (Ev.t rfl) (fun h1 => ?_) (fun h1 => ?_)
  refine wp_seq_k fun _ hK2 => ?_
  refine wp_region_lit ?_
  (refine st_y S (Yr.ys (ys_bld (ps := []) (us := [_, _, _, _]) bld24 EvL.nil rfl)) rfl ?_; clear S a w; intro a w S)
  (refine st_m (op_stW S Try.sizeOf24 (Ev.t rfl) (Ev.t rfl) (k := 2) rfl rfl rfl (by simp [Value.oneCell']) ?_); clear S a w; intro a w S)
  (refine st_y S (Yr.ys (ys_assign Ev.c)) rfl ?_; clear S a w; intro a w S)
  refine st_nil ?_
  (refine (then_normal (hK2 _ _ ?_)); clear hK2)
  refine wp_ret ?_
  refine (in_ret (then_ret ?_))
  refine st_ret S (results2 S Try.results51 (Rv.cell (k := 2) ⟨Try.isAgg24, Try.sizeOf24⟩ rfl rfl rfl) (Rv.tmp rfl)) ?_
  rotate_left
  refine wp_seq_k fun _ hK2 => ?_
  refine wp_region_lit ?_
  (refine st_y S (Yr.ys (ys_fieldN (FieldT.mk Try.underlying60 rfl Try.sizeOf3 rfl) (Ev.t rfl) (i' := 1) rfl)) rfl ?_; clear S a w; intro a w S)
  (refine st_y S (Yr.ys (ys_ld ⟨Try.isAgg3, Try.sizeOf3⟩ (Ev.t rfl) (k := 0) rfl rfl)) rfl ?_; clear S a w; intro a w S)
  (refine st_y S (Yr.ys (ys_eql (Ev.t rfl) Ev.c)) rfl ?_; clear S a w; intro a w S)
  (refine st_y S (Yr.ys (ys_move (Ev.t rfl))) rfl ?_; clear S a w; intro a w S)
  (refine st_yf S rfl rfl (Yr.ys (ys_fieldN (FieldT.mk Try.underlying60 rfl Try.sizeOf3 rfl) (Ev.t rfl) (i' := 2) rfl)) rfl ?_; clear S a w; intro a w S)
  (refine st_yf S rfl rfl (Yr.ys (ys_ld ⟨Try.isAgg3, Try.sizeOf3⟩ (Ev.g rfl) (k := 0) rfl rfl)) rfl ?_; clear S a w; intro a w S)
  (refine st_yf S rfl rfl (Yr.ys (ys_eql (Ev.g rfl) Ev.c)) rfl ?_; clear S a w; intro a w S)
  (refine st_y S (Yr.ys (ys_or (Ev.t rfl) Ev.c (Ev.g rfl))) rfl ?_; clear S a w; intro a w S)
  (refine st_y S (Yr.ys (ys_assign (Ev.t rfl))) rfl ?_; clear S a w; intro a w S)
  refine st_nil ?_
  (refine (then_normal (hK2 _ _ ?_)); clear hK2)
  refine st_cond S (Ev.t rfl) (fun h2 => ?_) (fun h2 => ?_)
  refine wp_seq_k fun _ hK2 => ?_
  refine wp_region_lit ?_
  (refine st_y S (Yr.ys (ys_bld (ps := []) (us := [_, _, _, _]) bld24 EvL.nil rfl)) rfl ?_; clear S a w; intro a w S)
  (refine st_m (op_stW S Try.sizeOf24 (Ev.t rfl) (Ev.t rfl) (k := 2) rfl rfl rfl (by simp [Value.oneCell']) ?_); clear S a w; intro a w S)
  (refine st_y S (Yr.ys (ys_assign Ev.c)) rfl ?_; clear S a w; intro a w S)
  refine st_nil ?_
  (refine (then_normal (hK2 _ _ ?_)); clear hK2)
  refine wp_ret ?_
  refine (in_ret (then_ret ?_))
  refine st_ret S (results2 S Try.results51 (Rv.cell (k := 2) ⟨Try.isAgg24, Try.sizeOf24⟩ rfl rfl rfl) (Rv.tmp rfl)) ?_
  rotate_left
  refine wp_skip ?_
  (refine (in_normal (then_normal (hK1 _ _ ?_))); clear hK1)
  refine wp_seq_k fun _ hK1 => ?_
  refine wp_region_lit ?_
  (refine st_y S (Yr.ys (ys_move (Ev.t rfl))) rfl ?_; clear S a w; intro a w S)
  (refine st_y S (Yr.ys (ys_move (Ev.t rfl))) rfl ?_; clear S a w; intro a w S)
  (refine st_y S (Yr.ys (ys_move (Ev.t rfl))) rfl ?_; clear S a w; intro a w S)
  (refine st_y S (Yr.ys (ys_fieldN (FieldT.mk Try.underlying60 rfl Try.sizeOf3 rfl) (Ev.t rfl) (i' := 1) rfl)) rfl ?_; clear S a w; intro a w S)
  (refine st_y S (Yr.ys (ys_ld ⟨Try.isAgg3, Try.sizeOf3⟩ (Ev.t rfl) (k := 0) rfl rfl)) rfl ?_; clear S a w; intro a w S)
  (refine st_y S (Yr.ys (ys_addI (Ev.t rfl) Ev.c (fun _ => by unfold I64; omega))) rfl ?_; clear S a w; intro a w S)
  (refine st_y S (Yr.ys (ys_fieldN (FieldT.mk Try.underlying60 rfl Try.sizeOf3 rfl) (Ev.t rfl) (i' := 2) rfl)) rfl ?_; clear S a w; intro a w S)
  (refine st_y S (Yr.ys (ys_ld ⟨Try.isAgg3, Try.sizeOf3⟩ (Ev.t rfl) (k := 0) rfl rfl)) rfl ?_; clear S a w; intro a w S)
  (refine st_y S (Yr.ys (ys_addI (Ev.t rfl) Ev.c (fun _ => by unfold I64; omega))) rfl ?_; clear S a w; intro a w S)
  (refine st_y S (Yr.ys (ys_bld (ps := [(0, Go.Operand.tmp 38), (1, Go.Operand.tmp 41), (2, Go.Operand.tmp 44), (3, _)]) (us := [_, _, _, _]) bld60 (EvL.cons (Ev.t rfl) (EvL.cons (Ev.t rfl) (EvL.cons (Ev.t rfl) (EvL.cons Ev.c EvL.nil)))) rfl)) rfl ?_; clear S a w; intro a w S)
  rw [rw_v] at S
  (refine st_m (op_mapUpd S mapT91 (Ev.t rfl) (Ev.t rfl) (Ev.t rfl) (j := 1) rfl ?_); clear S a w; intro a w S)
  refine st_nil ?_
  (refine (then_normal (hK1 _ _ ?_)); clear hK1)
  refine wp_seq_k fun _ hK1 => ?_
  refine wp_region_lit ?_
  (refine st_y S (Yr.ys (ys_ldA ⟨Try.isAgg24, Try.sizeOf24⟩ (Ev.t rfl) (k := 3) rfl rfl)) rfl ?_; clear S a w; intro a w S)
  (refine st_y S (Yr.ys (ys_move (Ev.t rfl))) rfl ?_; clear S a w; intro a w S)
  (replace S := S.pull 1 rfl; try simp only [List.set_cons_zero, List.set_cons_succ, List.eraseIdx_cons_succ, List.eraseIdx_cons_zero] at S; refine st_m (op_callO S Try.call94 (EvL.cons (Ev.t rfl) (EvL.cons (Ev.t rfl) EvL.nil)) (o94 S.wd _ _ _ _ (by first | assumption | omega | (dsimp only; omega) | exact Sl.nil_ | exact .old S.wd (by assumption) | exact Sl.of_own S.wd (k := 0) rfl (fun _ => rfl) | exact Sl.of_own S.wd (k := 1) rfl (fun _ => rfl) | exact Sl.of_own S.wd (k := 2) rfl (fun _ => rfl) | exact Sl.of_own S.wd (k := 3) rfl (fun _ => rfl) | (simp at *; omega)) (by first | assumption | omega | (dsimp only; omega) | exact Sl.nil_ | exact .old S.wd (by assumption) | exact Sl.of_own S.wd (k := 0) rfl (fun _ => rfl) | exact Sl.of_own S.wd (k := 1) rfl (fun _ => rfl) | exact Sl.of_own S.wd (k := 2) rfl (fun _ => rfl) | exact Sl.of_own S.wd (k := 3) rfl (fun _ => rfl) | (intro _ W'; first | exact .old W' (by assumption) | exact Sl.of_own W' (k := 0) rfl (fun _ => rfl) | exact Sl.of_own W' (k := 1) rfl (fun _ => rfl) | exact Sl.of_own W' (k := 2) rfl (fun _ => rfl) | exact Sl.of_own W' (k := 3) rfl (fun _ => rfl)) | (simp at *; omega)) (by first | assumption | omega | (dsimp only; omega) | exact Sl.nil_ | exact .old S.wd (by assumption) | exact Sl.of_own S.wd (k := 0) rfl (fun _ => rfl) | exact Sl.of_own S.wd (k := 1) rfl (fun _ => rfl) | exact Sl.of_own S.wd (k := 2) rfl (fun _ => rfl) | exact Sl.of_own S.wd (k := 3) rfl (fun _ => rfl) | (simp at *; omega))) rfl ?_) <;> clear S a w)
  rintro _ _ ⟨A1, cp1, rfl, rfl⟩ a w S
  (refine st_m (op_stW S Try.sizeOf24 (Ev.t rfl) (Ev.t rfl) (k := 3) rfl rfl rfl (by simp [Value.oneCell']) ?_); clear S a w; intro a w S)
  (refine st_y S (Yr.ys (ys_assign Ev.c)) rfl ?_; clear S a w; intro a w S)
  refine st_nil ?_
  (refine (then_normal (hK1 _ _ ?_)); clear hK1)
  refine wp_ret ?_
  refine st_ret S (results2 S Try.results51 (Rv.cell (k := 3) ⟨Try.isAgg24, Try.sizeOf24⟩ rfl rfl rfl) (Rv.tmp rfl)) ?_
  rotate_left
  · exact ⟨_, [rowOf 60 4 Mbr.enc none 0 []], rfl, (S.nil_ 60 4 Mbr.enc none).wd.picks (by repeat (first | exact Picks.nil | (refine Picks.rest ?_; (repeat (first | exact List.Sublist.refl _ | refine List.Sublist.cons_cons _ ?_ | refine List.Sublist.cons _ ?_)); done) | refine Picks.take 0 rfl ?_ | refine Picks.take 1 rfl ?_ | refine Picks.take 2 rfl ?_ | refine Picks.take 3 rfl ?_ | refine Picks.take 4 rfl ?_ | refine Picks.take 5 rfl ?_ | refine Picks.take 6 rfl ?_ | refine Picks.take 7 rfl ?_ | refine Picks.take 8 rfl ?_ | refine Picks.take 9 rfl ?_ | refine Picks.take 10 rfl ?_ | refine Picks.take 11 rfl ?_)), by rw [join_there hl h1]; exact ⟨none, 0, rfl, rfl⟩⟩
  · simp only [Bool.or_eq_true, decide_eq_true_eq] at h2
    exact ⟨_, [rowOf 60 4 Mbr.enc none 0 []], rfl, (S.nil_ 60 4 Mbr.enc none).wd.picks (by repeat (first | exact Picks.nil | (refine Picks.rest ?_; (repeat (first | exact List.Sublist.refl _ | refine List.Sublist.cons_cons _ ?_ | refine List.Sublist.cons _ ?_)); done) | refine Picks.take 0 rfl ?_ | refine Picks.take 1 rfl ?_ | refine Picks.take 2 rfl ?_ | refine Picks.take 3 rfl ?_ | refine Picks.take 4 rfl ?_ | refine Picks.take 5 rfl ?_ | refine Picks.take 6 rfl ?_ | refine Picks.take 7 rfl ?_ | refine Picks.take 8 rfl ?_ | refine Picks.take 9 rfl ?_ | refine Picks.take 10 rfl ?_ | refine Picks.take 11 rfl ?_)), by rw [join_full hl h1 (by dsimp only; omega)]; exact ⟨none, 0, rfl, rfl⟩⟩
  · simp only [Bool.or_eq_false_iff, decide_eq_false_iff_not] at h2
    rw [val_put hc.2.2] at S ⊢
    exact ⟨_, [rowOf 60 4 Mbr.enc A1 cp1 _], rfl, S.wd.picks (by repeat (first | exact Picks.nil | (refine Picks.rest ?_; (repeat (first | exact List.Sublist.refl _ | refine List.Sublist.cons_cons _ ?_ | refine List.Sublist.cons _ ?_)); done) | refine Picks.take 0 rfl ?_ | refine Picks.take 1 rfl ?_ | refine Picks.take 2 rfl ?_ | refine Picks.take 3 rfl ?_ | refine Picks.take 4 rfl ?_ | refine Picks.take 5 rfl ?_ | refine Picks.take 6 rfl ?_ | refine Picks.take 7 rfl ?_ | refine Picks.take 8 rfl ?_ | refine Picks.take 9 rfl ?_ | refine Picks.take 10 rfl ?_ | refine Picks.take 11 rfl ?_)), by rw [join_good hl h1 (by dsimp only; omega)]; exact ⟨_, _, rfl, rfl⟩⟩
theorem c52 (w0 : World) (p c s n : Int) (v : Value) (l : List Mbr) (h : Sl Mbr.enc 4 w0 w0.heap.size v l) (hn : l.length ≤ 4194304) :
    Rets Try.prog 52 #[.agg #[.int .i64 p, .int .i64 c, .int .i64 s, v], .int .i64 n] w0 fun u L => ∃ A cp, u = .tuple #[rngV (leaveR ⟨p, c, s, l⟩ n).1 A cp, .int .i64 (leaveR ⟨p, c, s, l⟩ n).2] ∧ L = [rowOf 60 4 Mbr.enc A cp (leaveR ⟨p, c, s, l⟩ n).1.mem] := by
  by_cases hl : lookE ⟨p, c, s, l⟩ n ≠ 0
  · have rw_0 : decide (lookE ⟨p, c, s, l⟩ n ≠ 0) = true := decide_eq_true hl
    unfold Go.Fw.Rets
    refine enter2 Try.func52 rfl Try.ntmps52 rfl fun a S => ?_
    refine wp_seq_k fun _ hK1 => ?_
    refine wp_region_lit ?_
    (refine st_m (op_box S (Ev.t rfl) rfl ?_); clear S a; intro g1 a w S)
    (refine st_m (op_alloc S Try.zeroValue24 (cs := _) rfl rfl ?_); clear S a w; intro g2 a w S)
    (refine st_y S (Yr.ys (ys_assign Ev.c)) rfl ?_; clear S a w; intro a w S)
    refine st_nil ?_
    (refine (then_normal (hK1 _ _ ?_)); clear hK1)
    refine wp_seq_k fun _ hK1 => ?_
    refine wp_region_lit ?_
    (refine st_y S (Yr.ys (ys_ldA ⟨Try.isAgg24, Try.sizeOf24⟩ (Ev.t rfl) (k := 1) rfl rfl)) rfl ?_; clear S a w; intro a w S)
    (refine st_y S (Yr.ys (ys_move (Ev.t rfl))) rfl ?_; clear S a w; intro a w S)
    (refine st_y S (ys_call Try.call93 (EvL.cons (Ev.t rfl) (EvL.cons (Ev.t rfl) EvL.nil)) (fun hp w W => d93 _ _ _ _ _ _ _ (by exact .old W (by assumption)) (by assumption) (by assumption))) rfl ?_; clear S a w; intro a w S)
    (refine st_y S (Yr.ys (ys_move (Ev.t rfl))) rfl ?_; clear S a w; intro a w S)
    (refine st_y S (Yr.ys (ys_ext (Ev.t rfl) rfl)) rfl ?_; clear S a w; intro a w S)
    (refine st_y S (Yr.ys (ys_ext (Ev.t rfl) rfl)) rfl ?_; clear S a w; intro a w S)
    (refine st_y S (Yr.ys (ys_ext (Ev.t rfl) rfl)) rfl ?_; clear S a w; intro a w S)
    (refine st_m (op_alloc S Try.zeroValue60 (cs := _) rfl rfl ?_); clear S a w; intro g3 a w S)
    (refine st_y S (Yr.ys (ys_assign (Ev.t rfl))) rfl ?_; clear S a w; intro a w S)
    (refine st_m (op_stW S Try.sizeOf60 (Ev.t rfl) (Ev.t rfl) (k := 0) rfl rfl rfl (by simp [Value.oneCell']) ?_); clear S a w; intro a w S)
    (refine st_y S (Yr.ys (ys_assign (Ev.t rfl))) rfl ?_; clear S a w; intro a w S)
    refine st_nil ?_
    (refine (then_normal (hK1 _ _ ?_)); clear hK1)
    refine wp_seq_k fun _ hK1 => ?_
    refine wp_block ?_
    refine wp_seq_k fun _ hK2 => ?_
    refine wp_region_lit ?_
    (refine st_y S (Yr.ys (ys_move (Ev.t rfl))) rfl ?_; clear S a w; intro a w S)
    (refine st_y S (Yr.ys (ys_T (by omega) (ys_neq (Ev.t rfl) Ev.c))) rfl ?_; clear S a w; intro a w S)
    (refine st_y S (Yr.ys (ys_assign (Ev.t rfl))) rfl ?_; clear S a w; intro a w S)
    refine st_nil ?_
    (refine (then_normal (hK2 _ _ ?_)); clear hK2)
    refine st_then S (Ev.t rfl) ?_
    refine wp_seq_k fun _ hK2 => ?_
    refine wp_region_lit ?_
    (refine st_y S (Yr.ys (ys_bld (ps := []) (us := [_, _, _, _]) bld24 EvL.nil rfl)) rfl ?_; clear S a w; intro a w S)
    (refine st_y S (Yr.ys (ys_move (Ev.t rfl))) rfl ?_; clear S a w; intro a w S)
    (refine st_m (op_stW S Try.sizeOf24 (Ev.t rfl) (Ev.t rfl) (k := 1) rfl rfl rfl (by simp [Value.oneCell']) ?_); clear S a w; intro a w S)
    (refine st_y S (Yr.ys (ys_assign (Ev.t rfl))) rfl ?_; clear S a w; intro a w S)
    refine st_nil ?_
    (refine (then_normal (hK2 _ _ ?_)); clear hK2)
    refine wp_ret ?_
    refine (in_ret (then_ret ?_))
    refine st_ret S (results2 S Try.results52 (Rv.cell (k := 1) ⟨Try.isAgg24, Try.sizeOf24⟩ rfl rfl rfl) (Rv.tmp rfl)) ?_
    exact ⟨_, [rowOf 60 4 Mbr.enc none 0 []], rfl, (S.nil_ 60 4 Mbr.enc none).wd.picks (by repeat (first | exact Picks.nil | (refine Picks.rest ?_; (repeat (first | exact List.Sublist.refl _ | refine List.Sublist.cons_cons _ ?_ | refine List.Sublist.cons _ ?_)); done) | refine Picks.take 0 rfl ?_ | refine Picks.take 1 rfl ?_ | refine Picks.take 2 rfl ?_ | refine Picks.take 3 rfl ?_ | refine Picks.take 4 rfl ?_ | refine Picks.take 5 rfl ?_ | refine Picks.take 6 rfl ?_ | refine Picks.take 7 rfl ?_ | refine Picks.take 8 rfl ?_ | refine Picks.take 9 rfl ?_ | refine Picks.take 10 rfl ?_ | refine Picks.take 11 rfl ?_)), by rw [leave_bad hl]; exact ⟨none, 0, rfl, rfl⟩⟩
  have hl0 := Decidable.not_not.1 hl
  have hc := (look_ok.1 hl0)
  have hg := getM_small hc.2.2 n
  have hmk := mapL_ok hc.2.2
  dsimp only at hg hc hmk
  have rw_2 : IntKind.i64.wrap ((getM l n).stamp + 1) = (getM l n).stamp + 1 := by rw [IntKind.wrap_i64]; omega
  unfold Go.Fw.Rets
  refine enter2 Try.func52 rfl Try.ntmps52 rfl fun a S => ?_
  refine wp_seq_k fun _ hK1 => ?_
  refine wp_region_lit ?_
  (refine st_m (op_box S (Ev.t rfl) rfl ?_); clear S a; intro g1 a w S)
  (refine st_m (op_alloc S Try.zeroValue24 (cs := _) rfl rfl ?_); clear S a w; intro g2 a w S)
  (refine st_y S (Yr.ys (ys_assign Ev.c)) rfl ?_; clear S a w; intro a w S)
  refine st_nil ?_
  (refine (then_normal (hK1 _ _ ?_)); clear hK1)
  refine wp_seq_k fun _ hK1 => ?_
  refine wp_region_lit ?_
  (refine st_y S (Yr.ys (ys_ldA ⟨Try.isAgg24, Try.sizeOf24⟩ (Ev.t rfl) (k := 1) rfl rfl)) rfl ?_; clear S a w; intro a w S)
  (refine st_y S (Yr.ys (ys_move (Ev.t rfl))) rfl ?_; clear S a w; intro a w S)
  (refine st_m (op_calls S Try.call93 (EvL.cons (Ev.t rfl) (EvL.cons (Ev.t rfl) EvL.nil)) (c93 _ _ _ _ _ _ _ (by exact .old S.wd (by assumption)) (by assumption) (by assumption)) rfl ?_); clear S a w; rintro _ _ ⟨g3, rfl, rfl⟩ a w S)
  (refine st_y S (Yr.ys (ys_move (Ev.t rfl))) rfl ?_; clear S a w; intro a w S)
  (refine st_y S (Yr.ys (ys_ext (Ev.t rfl) rfl)) rfl ?_; clear S a w; intro a w S)
  (refine st_y S (Yr.ys (ys_ext (Ev.t rfl) rfl)) rfl ?_; clear S a w; intro a w S)
  (refine st_y S (Yr.ys (ys_ext (Ev.t rfl) rfl)) rfl ?_; clear S a w; intro a w S)
  (refine st_m (op_alloc S Try.zeroValue60 (cs := _) rfl rfl ?_); clear S a w; intro g4 a w S)
  (refine st_y S (Yr.ys (ys_assign (Ev.t rfl))) rfl ?_; clear S a w; intro a w S)
  (refine st_m (op_stW S Try.sizeOf60 (Ev.t rfl) (Ev.t rfl) (k := 0) rfl rfl rfl (by simp [Value.oneCell']) ?_); clear S a w; intro a w S)
  (refine st_y S (Yr.ys (ys_assign (Ev.t rfl))) rfl ?_; clear S a w; intro a w S)
  refine st_nil ?_
  (refine (then_normal (hK1 _ _ ?_)); clear hK1)
  refine wp_seq_k fun _ hK1 => ?_
  refine wp_block ?_
  refine wp_seq_k fun _ hK2 => ?_
  refine wp_region_lit ?_
  (refine st_y S (Yr.ys (ys_move (Ev.t rfl))) rfl ?_; clear S a w; intro a w S)
  (refine st_y S (Yr.ys (ys_F (by omega) (ys_neq (Ev.t rfl) Ev.c))) rfl ?_; clear S a w; intro a w S)
  (refine st_y S (Yr.ys (ys_assign (Ev.t rfl))) rfl ?_; clear S a w; intro a w S)
  refine st_nil ?_
  (refine (then_normal (hK2 _ _ ?_)); clear hK2)
  refine st_else S (Ev.t rfl) ?_
  refine wp_seq_k fun _ hK2 => ?_
  refine wp_region_lit ?_
  (refine st_y S (Yr.ys (ys_fieldN (FieldT.mk Try.underlying60 rfl Try.sizeOf3 rfl) (Ev.t rfl) (i' := 3) rfl)) rfl ?_; clear S a w; intro a w S)
  (refine st_y S (Yr.ys (ys_ld ⟨Try.isAgg3, Try.sizeOf3⟩ (Ev.t rfl) (k := 0) rfl rfl)) rfl ?_; clear S a w; intro a w S)
  (refine st_y S (Yr.ys (ys_neq (Ev.t rfl) Ev.c)) rfl ?_; clear S a w; intro a w S)
  (refine st_y S (Yr.ys (ys_assign (Ev.t rfl))) rfl ?_; clear S a w; intro a w S)
  refine st_nil ?_
  (refine (then_normal (hK2 _ _ ?_)); clear hK2)
  refine st_if S (Ev.t rfl) (fun h1 => ?_) (fun h1 => ?_)
  refine wp_seq_k fun _ hK2 => ?_
  refine wp_region_lit ?_
  (refine st_y S (Yr.ys (ys_bld (ps := []) (us := [_, _, _, _]) bld24 EvL.nil rfl)) rfl ?_; clear S a w; intro a w S)
  (refine st_m (op_stW S Try.sizeOf24 (Ev.t rfl) (Ev.t rfl) (k := 2) rfl rfl rfl (by simp [Value.oneCell']) ?_); clear S a w; intro a w S)
  (refine st_y S (Yr.ys (ys_assign Ev.c)) rfl ?_; clear S a w; intro a w S)
  refine st_nil ?_
  (refine (then_normal (hK2 _ _ ?_)); clear hK2)
  refine wp_ret ?_
  refine (in_ret (then_ret ?_))
  refine st_ret S (results2 S Try.results52 (Rv.cell (k := 2) ⟨Try.isAgg24, Try.sizeOf24⟩ rfl rfl rfl) (Rv.tmp rfl)) ?_
  rotate_left
  refine wp_seq_k fun _ hK2 => ?_
  refine wp_region_lit ?_
  (refine st_y S (Yr.ys (ys_fieldN (FieldT.mk Try.underlying60 rfl Try.sizeOf3 rfl) (Ev.t rfl) (i' := 2) rfl)) rfl ?_; clear S a w; intro a w S)
  (refine st_y S (Yr.ys (ys_ld ⟨Try.isAgg3, Try.sizeOf3⟩ (Ev.t rfl) (k := 0) rfl rfl)) rfl ?_; clear S a w; intro a w S)
  (refine st_y S (Yr.ys (ys_eql (Ev.t rfl) Ev.c)) rfl ?_; clear S a w; intro a w S)
  (refine st_y S (Yr.ys (ys_assign (Ev.t rfl))) rfl ?_; clear S a w; intro a w S)
  refine st_nil ?_
  (refine (then_normal (hK2 _ _ ?_)); clear hK2)
  refine st_if S (Ev.t rfl) (fun h2 => ?_) (fun h2 => ?_)
  refine wp_seq_k fun _ hK2 => ?_
  refine wp_region_lit ?_
  (refine st_y S (Yr.ys (ys_bld (ps := []) (us := [_, _, _, _]) bld24 EvL.nil rfl)) rfl ?_; clear S a w; intro a w S)
  (refine st_m (op_stW S Try.sizeOf24 (Ev.t rfl) (Ev.t rfl) (k := 2) rfl rfl rfl (by simp [Value.oneCell']) ?_); clear S a w; intro a w S)
  (refine st_y S (Yr.ys (ys_assign Ev.c)) rfl ?_; clear S a w; intro a w S)
  refine st_nil ?_
  (refine (then_normal (hK2 _ _ ?_)); clear hK2)
  refine wp_ret ?_
  refine (in_ret (then_ret ?_))
  refine st_ret S (results2 S Try.results52 (Rv.cell (k := 2) ⟨Try.isAgg24, Try.sizeOf24⟩ rfl rfl rfl) (Rv.tmp rfl)) ?_
  rotate_left
  refine wp_skip ?_
  (refine (in_normal (then_normal (hK1 _ _ ?_))); clear hK1)
  refine wp_seq_k fun _ hK1 => ?_
  refine wp_region_lit ?_
  (refine st_y S (Yr.ys (ys_fieldN (FieldT.mk Try.underlying60 rfl Try.sizeOf3 rfl) (Ev.t rfl) (i' := 2) rfl)) rfl ?_; clear S a w; intro a w S)
  (refine st_y S (Yr.ys (ys_ld ⟨Try.isAgg3, Try.sizeOf3⟩ (Ev.t rfl) (k := 0) rfl rfl)) rfl ?_; clear S a w; intro a w S)
  (refine st_y S (Yr.ys (ys_addI (Ev.t rfl) Ev.c (fun _ => by unfold I64; omega))) rfl ?_; clear S a w; intro a w S)
  (refine st_y S (Yr.ys (ys_fieldN (FieldT.mk Try.underlying60 rfl Try.sizeOf3 rfl) (Ev.t rfl) (i' := 2) rfl)) rfl ?_; clear S a w; intro a w S)
  (refine st_m (op_st S Try.sizeOf3 (Ev.t rfl) (Ev.t rfl) (k := 0) rfl rfl (by simp) ?_); clear S a w; intro a w S)
  refine st_nil ?_
  (refine (then_normal (hK1 _ _ ?_)); clear hK1)
  refine wp_seq_k fun _ hK1 => ?_
  refine wp_region_lit ?_
  (refine st_y S (Yr.ys (ys_fieldN (FieldT.mk Try.underlying60 rfl Try.sizeOf3 rfl) (Ev.t rfl) (i' := 3) rfl)) rfl ?_; clear S a w; intro a w S)
  (refine st_m (op_st S Try.sizeOf3 (Ev.t rfl) Ev.c (k := 0) rfl rfl (by simp) ?_); clear S a w; intro a w S)
  refine st_nil ?_
  (refine (then_normal (hK1 _ _ ?_)); clear hK1)
  refine wp_seq_k fun _ hK1 => ?_
  refine wp_region_lit ?_
  (refine st_y S (Yr.ys (ys_move (Ev.t rfl))) rfl ?_; clear S a w; intro a w S)
  (refine st_y S (Yr.ys (ys_move (Ev.t rfl))) rfl ?_; clear S a w; intro a w S)
  (refine st_y S (Yr.ys (ys_ldA ⟨Try.isAgg60, Try.sizeOf60⟩ (Ev.t rfl) (k := 0) rfl rfl)) rfl ?_; clear S a w; intro a w S)
  rotate_left
  · exact ⟨_, [rowOf 60 4 Mbr.enc none 0 []], rfl, (S.nil_ 60 4 Mbr.enc none).wd.picks (by repeat (first | exact Picks.nil | (refine Picks.rest ?_; (repeat (first | exact List.Sublist.refl _ | refine List.Sublist.cons_cons _ ?_ | refine List.Sublist.cons _ ?_)); done) | refine Picks.take 0 rfl ?_ | refine Picks.take 1 rfl ?_ | refine Picks.take 2 rfl ?_ | refine Picks.take 3 rfl ?_ | refine Picks.take 4 rfl ?_ | refine Picks.take 5 rfl ?_ | refine Picks.take 6 rfl ?_ | refine Picks.take 7 rfl ?_ | refine Picks.take 8 rfl ?_ | refine Picks.take 9 rfl ?_ | refine Picks.take 10 rfl ?_ | refine Picks.take 11 rfl ?_)), by rw [leave_absent hl h1]; exact ⟨none, 0, rfl, rfl⟩⟩
  · exact ⟨_, [rowOf 60 4 Mbr.enc none 0 []], rfl, (S.nil_ 60 4 Mbr.enc none).wd.picks (by repeat (first | exact Picks.nil | (refine Picks.rest ?_; (repeat (first | exact List.Sublist.refl _ | refine List.Sublist.cons_cons _ ?_ | refine List.Sublist.cons _ ?_)); done) | refine Picks.take 0 rfl ?_ | refine Picks.take 1 rfl ?_ | refine Picks.take 2 rfl ?_ | refine Picks.take 3 rfl ?_ | refine Picks.take 4 rfl ?_ | refine Picks.take 5 rfl ?_ | refine Picks.take 6 rfl ?_ | refine Picks.take 7 rfl ?_ | refine Picks.take 8 rfl ?_ | refine Picks.take 9 rfl ?_ | refine Picks.take 10 rfl ?_ | refine Picks.take 11 rfl ?_)), by rw [leave_full hl h1 (by dsimp only; omega)]; exact ⟨none, 0, rfl, rfl⟩⟩
  have hst : (getM l n).status = 1 := Decidable.not_not.1 h1
  have hnode : (getM l n).node = n := by
    rcases getM_cases l n with e | e
    · rw [e] at hst; exact absurd hst (by decide)
    · exact e.2
  have hep : 0 < (getM l n).epoch := by
    rcases getM_zero_or hc.2.2 n with e | e
    · rw [show getM l n = Mbr.zero from e] at hst; exact absurd hst (by decide)
    · exact e.2.2
  have hmp := hmk.put (n := n) (e := (getM l n).epoch) (s := (getM l n).stamp + 1) (t := 2) hc.1 hep
  have hm1 := hmp.1
  have hm2 := hmp.2
  have hm3 := hmp.len
  rw [hnode] at S
  rw [show Value.agg #[.int .i64 n, .int .i64 (getM l n).epoch, .int .i64 ((getM l n).stamp + 1), .int .i64 2] = vv91 ⟨n, (getM l n).epoch, (getM l n).stamp + 1, 2⟩ from rfl] at S
  (refine st_m (op_mapUpd S mapT91 (Ev.t rfl) (Ev.t rfl) (Ev.t rfl) (j := 1) rfl ?_); clear S a w; intro a w S)
  refine st_nil ?_
  (refine (then_normal (hK1 _ _ ?_)); clear hK1)
  refine wp_seq_k fun _ hK1 => ?_
  refine wp_region_lit ?_
  (refine st_y S (Yr.ys (ys_ldA ⟨Try.isAgg24, Try.sizeOf24⟩ (Ev.t rfl) (k := 3) rfl rfl)) rfl ?_; clear S a w; intro a w S)
  (refine st_y S (Yr.ys (ys_move (Ev.t rfl))) rfl ?_; clear S a w; intro a w S)
  (replace S := S.pull 1 rfl; try simp only [List.set_cons_zero, List.set_cons_succ, List.eraseIdx_cons_succ, List.eraseIdx_cons_zero] at S; refine st_m (op_callO S Try.call94 (EvL.cons (Ev.t rfl) (EvL.cons (Ev.t rfl) EvL.nil)) (o94 S.wd _ _ _ _ (by first | assumption | omega | (dsimp only; omega) | exact Sl.nil_ | exact .old S.wd (by assumption) | exact Sl.of_own S.wd (k := 0) rfl (fun _ => rfl) | exact Sl.of_own S.wd (k := 1) rfl (fun _ => rfl) | exact Sl.of_own S.wd (k := 2) rfl (fun _ => rfl) | exact Sl.of_own S.wd (k := 3) rfl (fun _ => rfl) | (simp at *; omega)) (by first | assumption | omega | (dsimp only; omega) | exact Sl.nil_ | exact .old S.wd (by assumption) | exact Sl.of_own S.wd (k := 0) rfl (fun _ => rfl) | exact Sl.of_own S.wd (k := 1) rfl (fun _ => rfl) | exact Sl.of_own S.wd (k := 2) rfl (fun _ => rfl) | exact Sl.of_own S.wd (k := 3) rfl (fun _ => rfl) | (intro _ W'; first | exact .old W' (by assumption) | exact Sl.of_own W' (k := 0) rfl (fun _ => rfl) | exact Sl.of_own W' (k := 1) rfl (fun _ => rfl) | exact Sl.of_own W' (k := 2) rfl (fun _ => rfl) | exact Sl.of_own W' (k := 3) rfl (fun _ => rfl)) | (simp at *; omega)) (by first | assumption | omega | (dsimp only; omega) | exact Sl.nil_ | exact .old S.wd (by assumption) | exact Sl.of_own S.wd (k := 0) rfl (fun _ => rfl) | exact Sl.of_own S.wd (k := 1) rfl (fun _ => rfl) | exact Sl.of_own S.wd (k := 2) rfl (fun _ => rfl) | exact Sl.of_own S.wd (k := 3) rfl (fun _ => rfl) | (simp at *; omega))) rfl ?_) <;> clear S a w)
  rintro _ _ ⟨A1, cp1, rfl, rfl⟩ a w S
  (refine st_m (op_stW S Try.sizeOf24 (Ev.t rfl) (Ev.t rfl) (k := 3) rfl rfl rfl (by simp [Value.oneCell']) ?_); clear S a w; intro a w S)
  (refine st_y S (Yr.ys (ys_assign Ev.c)) rfl ?_; clear S a w; intro a w S)
  refine st_nil ?_
  (refine (then_normal (hK1 _ _ ?_)); clear hK1)
  refine wp_ret ?_
  refine st_ret S (results2 S Try.results52 (Rv.cell (k := 3) ⟨Try.isAgg24, Try.sizeOf24⟩ rfl rfl rfl) (Rv.tmp rfl)) ?_
  rw [val_put hc.2.2] at S ⊢
  exact ⟨_, [rowOf 60 4 Mbr.enc A1 cp1 _], rfl, S.wd.picks (by repeat (first | exact Picks.nil | (refine Picks.rest ?_; (repeat (first | exact List.Sublist.refl _ | refine List.Sublist.cons_cons _ ?_ | refine List.Sublist.cons _ ?_)); done) | refine Picks.take 0 rfl ?_ | refine Picks.take 1 rfl ?_ | refine Picks.take 2 rfl ?_ | refine Picks.take 3 rfl ?_ | refine Picks.take 4 rfl ?_ | refine Picks.take 5 rfl ?_ | refine Picks.take 6 rfl ?_ | refine Picks.take 7 rfl ?_ | refine Picks.take 8 rfl ?_ | refine Picks.take 9 rfl ?_ | refine Picks.take 10 rfl ?_ | refine Picks.take 11 rfl ?_)), by rw [leave_good hl h1 (by dsimp only; omega)]; exact ⟨_, _, rfl, rfl⟩⟩
theorem c60 (w0 : World) (p c s : Int) (v : Value) (l : List Mbr) (h : Sl Mbr.enc 4 w0 w0.heap.size v l) (hn : l.length ≤ 4194304) (p' c' s' : Int) (v' : Value) (l' : List Mbr) (h' : Sl Mbr.enc 4 w0 w0.heap.size v' l') (hn' : l'.length ≤ 4194304) :
    Rets Try.prog 60 #[.agg #[.int .i64 p, .int .i64 c, .int .i64 s, v], .agg #[.int .i64 p', .int .i64 c', .int .i64 s', v']] w0 fun u L => ∃ A cp, u = .tuple #[rngV (mergeR ⟨p, c, s, l⟩ ⟨p', c', s', l'⟩).1 A cp, .int .i64 (mergeR ⟨p, c, s, l⟩ ⟨p', c', s', l'⟩).2] ∧ L = [rowOf 60 4 Mbr.enc A cp (mergeR ⟨p, c, s, l⟩ ⟨p', c', s', l'⟩).1.mem] := by
  unfold Go.Fw.Rets
  refine enter2 Try.func60 rfl Try.ntmps60 rfl fun a S => ?_
  refine wp_seq_k fun _ hK1 => ?_
  refine wp_region_lit ?_
  (refine st_m (op_box S (Ev.t rfl) rfl ?_); clear S a; intro g1 a w S)
  (refine st_m (op_box S (Ev.t rfl) rfl ?_); clear S a w; intro g2 a w S)
  (refine st_m (op_alloc S Try.zeroValue24 (cs := _) rfl rfl ?_); clear S a w; intro g3 a w S)
  (refine st_y S (Yr.ys (ys_assign Ev.c)) rfl ?_; clear S a w; intro a w S)
  refine st_nil ?_
  (refine (then_normal (hK1 _ _ ?_)); clear hK1)
  refine wp_seq_k fun _ hK1 => ?_
  refine wp_seq_k fun _ hK2 => ?_
  refine wp_region_lit ?_
  (refine st_y S (Yr.ys (ys_ldA ⟨Try.isAgg24, Try.sizeOf24⟩ (Ev.t rfl) (k := 2) rfl rfl)) rfl ?_; clear S a w; intro a w S)
  (refine st_y S (ys_call Try.call55 (EvL.cons (Ev.t rfl) EvL.nil) (fun hp w W => c55 _ _ _ _ _ _ (by exact .old W (by assumption)) (by assumption))) rfl ?_; clear S a w; intro a w S)
  (refine st_y S (Yr.ys (ys_neq (Ev.t rfl) Ev.c)) rfl ?_; clear S a w; intro a w S)
  (refine st_y S (Yr.ys (ys_move (Ev.t rfl))) rfl ?_; clear S a w; intro a w S)
  (refine st_yf S rfl rfl (Yr.ys (ys_ldA ⟨Try.isAgg24, Try.sizeOf24⟩ (Ev.t rfl) (k := 1) rfl rfl)) rfl ?_; clear S a w; intro a w S)
  (refine st_yf S rfl rfl (ys_call Try.call55 (EvL.cons (Ev.g rfl) EvL.nil) (fun hp w W => c55 _ _ _ _ _ _ (by exact .old W (by assumption)) (by assumption))) rfl ?_; clear S a w; intro a w S)
  (refine st_yf S rfl rfl (Yr.ys (ys_neq (Ev.g rfl) Ev.c)) rfl ?_; clear S a w; intro a w S)
  (refine st_y S (Yr.ys (ys_or (Ev.t rfl) Ev.c (Ev.g rfl))) rfl ?_; clear S a w; intro a w S)
  (refine st_y S (Yr.ys (ys_move (Ev.t rfl))) rfl ?_; clear S a w; intro a w S)
  (refine st_yf S rfl rfl (Yr.ys (ys_fieldN (FieldT.mk Try.underlying24 rfl Try.sizeOf3 rfl) (Ev.t rfl) (i' := 0) rfl)) rfl ?_; clear S a w; intro a w S)
  (refine st_yf S rfl rfl (Yr.ys (ys_ld ⟨Try.isAgg3, Try.sizeOf3⟩ (Ev.g rfl) (k := 2) rfl rfl)) rfl ?_; clear S a w; intro a w S)
  (refine st_yf S rfl rfl (Yr.ys (ys_fieldN (FieldT.mk Try.underlying24 rfl Try.sizeOf3 rfl) (Ev.t rfl) (i' := 0) rfl)) rfl ?_; clear S a w; intro a w S)
  (refine st_yf S rfl rfl (Yr.ys (ys_ld ⟨Try.isAgg3, Try.sizeOf3⟩ (Ev.g rfl) (k := 1) rfl rfl)) rfl ?_; clear S a w; intro a w S)
  (refine st_yf S rfl rfl (Yr.ys (ys_neq (Ev.g rfl) (Ev.g rfl))) rfl ?_; clear S a w; intro a w S)
  (refine st_y S (Yr.ys (ys_or (Ev.t rfl) Ev.c (Ev.g rfl))) rfl ?_; clear S a w; intro a w S)
  (refine st_y S (Yr.ys (ys_move (Ev.t rfl))) rfl ?_; clear S a w; intro a w S)
  (refine st_yf S rfl rfl (Yr.ys (ys_fieldN (FieldT.mk Try.underlying24 rfl Try.sizeOf3 rfl) (Ev.t rfl) (i' := 1) rfl)) rfl ?_; clear S a w; intro a w S)
  (refine st_yf S rfl rfl (Yr.ys (ys_ld ⟨Try.isAgg3, Try.sizeOf3⟩ (Ev.g rfl) (k := 2) rfl rfl)) rfl ?_; clear S a w; intro a w S)
  (refine st_yf S rfl rfl (Yr.ys (ys_fieldN (FieldT.mk Try.underlying24 rfl Try.sizeOf3 rfl) (Ev.t rfl) (i' := 1) rfl)) rfl ?_; clear S a w; intro a w S)
  (refine st_yf S rfl rfl (Yr.ys (ys_ld ⟨Try.isAgg3, Try.sizeOf3⟩ (Ev.g rfl) (k := 1) rfl rfl)) rfl ?_; clear S a w; intro a w S)
  (refine st_yf S rfl rfl (Yr.ys (ys_neq (Ev.g rfl) (Ev.g rfl))) rfl ?_; clear S a w; intro a w S)
  (refine st_y S (Yr.ys (ys_or (Ev.t rfl) Ev.c (Ev.g rfl))) rfl ?_; clear S a w; intro a w S)
  (refine st_y S (Yr.ys (ys_move (Ev.t rfl))) rfl ?_; clear S a w; intro a w S)
  (refine st_yf S rfl rfl (Yr.ys (ys_fieldN (FieldT.mk Try.underlying24 rfl Try.sizeOf3 rfl) (Ev.t rfl) (i' := 2) rfl)) rfl ?_; clear S a w; intro a w S)
  (refine st_yf S rfl rfl (Yr.ys (ys_ld ⟨Try.isAgg3, Try.sizeOf3⟩ (Ev.g rfl) (k := 2) rfl rfl)) rfl ?_; clear S a w; intro a w S)
  (refine st_yf S rfl rfl (Yr.ys (ys_fieldN (FieldT.mk Try.underlying24 rfl Try.sizeOf3 rfl) (Ev.t rfl) (i' := 2) rfl)) rfl ?_; clear S a w; intro a w S)
  (refine st_yf S rfl rfl (Yr.ys (ys_ld ⟨Try.isAgg3, Try.sizeOf3⟩ (Ev.g rfl) (k := 1) rfl rfl)) rfl ?_; clear S a w; intro a w S)
  (refine st_yf S rfl rfl (Yr.ys (ys_neq (Ev.g rfl) (Ev.g rfl))) rfl ?_; clear S a w; intro a w S)
  (refine st_y S (Yr.ys (ys_or (Ev.t rfl) Ev.c (Ev.g rfl))) rfl ?_; clear S a w; intro a w S)
  refine st_nil ?_
  (refine (then_normal (hK2 _ _ ?_)); clear hK2)
  refine st_cond S (Ev.t rfl) (fun h1 => ?_) (fun h1 => ?_)
  refine wp_seq_k fun _ hK2 => ?_
  refine wp_region_lit ?_
  (refine st_y S (Yr.ys (ys_bld (ps := []) (us := [_, _, _, _]) bld24 EvL.nil rfl)) rfl ?_; clear S a w; intro a w S)
  (refine st_m (op_stW S Try.sizeOf24 (Ev.t rfl) (Ev.t rfl) (k := 0) rfl rfl rfl (by simp [Value.oneCell']) ?_); clear S a w; intro a w S)
  (refine st_y S (Yr.ys (ys_assign Ev.c)) rfl ?_; clear S a w; intro a w S)
  refine st_nil ?_
  (refine (then_normal (hK2 _ _ ?_)); clear hK2)
  refine wp_ret ?_
  refine (then_ret ?_)
  refine st_ret S (results2 S Try.results60 (Rv.cell (k := 0) ⟨Try.isAgg24, Try.sizeOf24⟩ rfl rfl rfl) (Rv.tmp rfl)) ?_
  rotate_left
  refine wp_skip ?_
  (refine (then_normal (hK1 _ _ ?_)); clear hK1)
  refine wp_seq_k fun _ hK1 => ?_
  refine wp_region_lit ?_
  (refine st_y S (Yr.ys (ys_ldA ⟨Try.isAgg24, Try.sizeOf24⟩ (Ev.t rfl) (k := 2) rfl rfl)) rfl ?_; clear S a w; intro a w S)
  (refine st_m (op_calls S Try.call97 (EvL.cons (Ev.t rfl) EvL.nil) (c97 _ _ _ _ _ _ (by exact .old S.wd (by assumption)) (by assumption)) rfl ?_); clear S a w; rintro _ _ ⟨g4, rfl, rfl⟩ a w S)
  (refine st_y S (Yr.ys (ys_assign (Ev.t rfl))) rfl ?_; clear S a w; intro a w S)
  refine st_nil ?_
  (refine (then_normal (hK1 _ _ ?_)); clear hK1)
  refine wp_seq_k fun _ hK1 => ?_
  refine wp_seq_k fun _ hK2 => ?_
  refine wp_region_lit ?_
  (refine st_y S (Yr.ys (ys_ldA ⟨Try.isAgg24, Try.sizeOf24⟩ (Ev.t rfl) (k := 2) rfl rfl)) rfl ?_; clear S a w; intro a w S)
  (refine st_m (op_calls S Try.call97 (EvL.cons (Ev.t rfl) EvL.nil) (c97 _ _ _ _ _ _ (by exact .old S.wd (by assumption)) (by assumption)) rfl ?_); clear S a w; rintro _ _ ⟨g5, rfl, rfl⟩ a w S)
  (refine st_m (op_range S Try.underlying91 (Ev.t rfl) (j := 0) rfl rfl ?_); clear S a w; intro g6 a w S)
  refine st_nil ?_
  (refine (then_normal (hK2 _ _ ?_)); clear hK2)
  refine wp_block ?_
  rotate_left
  · have e := merge_bad (mergeB_t (a := ⟨p, c, s, l⟩) (b := ⟨p', c', s', l'⟩) h1)
    exact ⟨_, [rowOf 60 4 Mbr.enc none 0 []], rfl, (S.nil_ 60 4 Mbr.enc none).wd.picks (by repeat (first | exact Picks.nil | (refine Picks.rest ?_; (repeat (first | exact List.Sublist.refl _ | refine List.Sublist.cons_cons _ ?_ | refine List.Sublist.cons _ ?_)); done) | refine Picks.take 0 rfl ?_ | refine Picks.take 1 rfl ?_ | refine Picks.take 2 rfl ?_ | refine Picks.take 3 rfl ?_ | refine Picks.take 4 rfl ?_ | refine Picks.take 5 rfl ?_ | refine Picks.take 6 rfl ?_ | refine Picks.take 7 rfl ?_ | refine Picks.take 8 rfl ?_ | refine Picks.take 9 rfl ?_ | refine Picks.take 10 rfl ?_ | refine Picks.take 11 rfl ?_)), by rw [e]; exact ⟨none, 0, rfl, rfl⟩⟩
  have hok := mergeB_f (a := ⟨p, c, s, l⟩) (b := ⟨p', c', s', l'⟩) h1
  have e := merge_ok hok
  have ha : goodL l := hok.1.2
  have hb : goodL l' := hok.2.1.2
  clear h1
  refine st_loopM S [] (X := Array Nat × List (Int × Mbr)) (fun y => [])
    (fun y => [.blk g6 (.mapIter (some g5) (mapL l').length y.1 (mapL l').length), mapC g5 (mapL l'), mapC g4 y.2, .blk g3 (.cells #[.int .i64 0, .int .i64 0, .int .i64 0, .slice none 0 0] 24), .blk g2 (.cells #[.int .i64 p', .int .i64 c', .int .i64 s', v'] 24), .blk g1 (.cells #[.int .i64 p, .int .i64 c, .int .i64 s, v] 24)])
    (fun y => MapOk y.2 ∧ MergeAt l l' y.1 y.2 ∧ (∀ m ∈ y.1, m < (mapL l').length) ∧ y.1.toList.Nodup) (fun y => (mapL l').length - y.1.size) (#[], mapL l)
    ⟨mapL_ok ha, MergeAt.begin ha, fun m h => by simp at h, List.nodup_nil⟩ (by repeat (first | exact Fits.nil | refine Fits.skip rfl ?_ | refine Fits.cons rfl ?_)) (by repeat (first | exact Picks.nil | (refine Picks.rest ?_; (repeat (first | exact List.Sublist.refl _ | refine List.Sublist.cons_cons _ ?_ | refine List.Sublist.cons _ ?_)); done) | refine Picks.take 0 rfl ?_ | refine Picks.take 1 rfl ?_ | refine Picks.take 2 rfl ?_ | refine Picks.take 3 rfl ?_ | refine Picks.take 4 rfl ?_ | refine Picks.take 5 rfl ?_ | refine Picks.take 6 rfl ?_ | refine Picks.take 7 rfl ?_ | refine Picks.take 8 rfl ?_ | refine Picks.take 9 rfl ?_ | refine Picks.take 10 rfl ?_ | refine Picks.take 11 rfl ?_)) ?_
  clear S
  rintro ⟨seen, m⟩ a w ⟨i1, i2, i3, i4⟩ S
  dsimp only at i1 i2 i3 i4 S
  refine wp_seq_k fun _ hK2 => ?_
  refine wp_region_lit ?_
  refine st_m (op_next (kv := kv91) (vv := vv91) (l := mapL l') S (Ev.t rfl) (i := 0) rfl (j := 1) rfl rfl ?_ ?_)
  · intro hall
    clear S
    intro a w S
    have hd := i2.done ha hb hall
    have hm1 := i1.1
    have hm2 := i1.2
    have hm3 := i1.len
    (refine st_y S (Yr.ys (ys_ext (Ev.t rfl) rfl)) rfl ?_; clear S a w; intro a w S)
    refine st_nil ?_
    (refine (then_normal (hK2 _ _ ?_)); clear hK2)
    refine wp_seq_k fun _ hK2 => ?_
    refine st_else S (Ev.t rfl) ?_
    refine wp_exit ?_
    (refine (then_exit (then_exit (in_here (then_normal (hK1 _ _ ?_))))); clear hK1)
    refine wp_seq_k fun _ hK1 => ?_
    refine wp_region_lit ?_
    (refine st_y S (Yr.ys (ys_ldA ⟨Try.isAgg24, Try.sizeOf24⟩ (Ev.t rfl) (k := 5) rfl rfl)) rfl ?_; clear S a w; intro a w S)
    (refine st_y S (Yr.ys (ys_move (Ev.t rfl))) rfl ?_; clear S a w; intro a w S)
    (replace S := S.pull 2 rfl; try simp only [List.set_cons_zero, List.set_cons_succ, List.eraseIdx_cons_succ, List.eraseIdx_cons_zero] at S; refine st_m (op_callO S Try.call94 (EvL.cons (Ev.t rfl) (EvL.cons (Ev.t rfl) EvL.nil)) (o94 S.wd _ _ _ _ (by first | assumption | omega | (dsimp only; omega) | exact Sl.nil_ | exact .old S.wd (by assumption) | exact Sl.of_own S.wd (k := 0) rfl (fun _ => rfl) | exact Sl.of_own S.wd (k := 1) rfl (fun _ => rfl) | exact Sl.of_own S.wd (k := 2) rfl (fun _ => rfl) | exact Sl.of_own S.wd (k := 3) rfl (fun _ => rfl) | exact Sl.of_own S.wd (k := 4) rfl (fun _ => rfl) | exact Sl.of_own S.wd (k := 5) rfl (fun _ => rfl) | (simp at *; omega)) (by first | assumption | omega | (dsimp only; omega) | exact Sl.nil_ | exact .old S.wd (by assumption) | exact Sl.of_own S.wd (k := 0) rfl (fun _ => rfl) | exact Sl.of_own S.wd (k := 1) rfl (fun _ => rfl) | exact Sl.of_own S.wd (k := 2) rfl (fun _ => rfl) | exact Sl.of_own S.wd (k := 3) rfl (fun _ => rfl) | exact Sl.of_own S.wd (k := 4) rfl (fun _ => rfl) | exact Sl.of_own S.wd (k := 5) rfl (fun _ => rfl) | (intro _ W'; first | exact .old W' (by assumption) | exact Sl.of_own W' (k := 0) rfl (fun _ => rfl) | exact Sl.of_own W' (k := 1) rfl (fun _ => rfl) | exact Sl.of_own W' (k := 2) rfl (fun _ => rfl) | exact Sl.of_own W' (k := 3) rfl (fun _ => rfl) | exact Sl.of_own W' (k := 4) rfl (fun _ => rfl) | exact Sl.of_own W' (k := 5) rfl (fun _ => rfl)) | (simp at *; omega)) (by first | assumption | omega | (dsimp only; omega) | exact Sl.nil_ | exact .old S.wd (by assumption) | exact Sl.of_own S.wd (k := 0) rfl (fun _ => rfl) | exact Sl.of_own S.wd (k := 1) rfl (fun _ => rfl) | exact Sl.of_own S.wd (k := 2) rfl (fun _ => rfl) | exact Sl.of_own S.wd (k := 3) rfl (fun _ => rfl) | exact Sl.of_own S.wd (k := 4) rfl (fun _ => rfl) | exact Sl.of_own S.wd (k := 5) rfl (fun _ => rfl) | (simp at *; omega))) rfl ?_) <;> clear S a w)
    rintro _ _ ⟨A1, cp1, rfl, rfl⟩ a w S
    (refine st_m (op_stW S Try.sizeOf24 (Ev.t rfl) (Ev.t rfl) (k := 4) rfl rfl rfl (by simp [Value.oneCell']) ?_); clear S a w; intro a w S)
    (refine st_y S (Yr.ys (ys_assign Ev.c)) rfl ?_; clear S a w; intro a w S)
    refine st_nil ?_
    (refine (then_normal (hK1 _ _ ?_)); clear hK1)
    refine wp_ret ?_
    refine st_ret S (results2 S Try.results60 (Rv.cell (k := 4) ⟨Try.isAgg24, Try.sizeOf24⟩ rfl rfl rfl) (Rv.tmp rfl)) ?_
    rw [show listing (valM m) 8 = mergeL l l' from hd] at S ⊢
    exact ⟨_, [rowOf 60 4 Mbr.enc A1 cp1 _], rfl, S.wd.picks (by repeat (first | exact Picks.nil | (refine Picks.rest ?_; (repeat (first | exact List.Sublist.refl _ | refine List.Sublist.cons_cons _ ?_ | refine List.Sublist.cons _ ?_)); done) | refine Picks.take 0 rfl ?_ | refine Picks.take 1 rfl ?_ | refine Picks.take 2 rfl ?_ | refine Picks.take 3 rfl ?_ | refine Picks.take 4 rfl ?_ | refine Picks.take 5 rfl ?_ | refine Picks.take 6 rfl ?_ | refine Picks.take 7 rfl ?_ | refine Picks.take 8 rfl ?_ | refine Picks.take 9 rfl ?_ | refine Picks.take 10 rfl ?_ | refine Picks.take 11 rfl ?_)), by rw [e]; exact ⟨_, _, rfl, rfl⟩⟩
  · intro j n x hj hns
    clear S
    intro a w S
    have hlk := i2.look hb hj hns
    obtain ⟨hx, hxok, hxn⟩ := mapL_at hb hj
    obtain ⟨hs1, hs2, hs3⟩ := seen_more i3 i4 (List.getElem?_eq_some_iff.1 hj).1 hns
    have rw_g := hlk
    have rw_c := merge_cond hlk hxok
    (refine st_y S (Yr.ys (ys_ext (Ev.t rfl) rfl)) rfl ?_; clear S a w; intro a w S)
    refine st_nil ?_
    (refine (then_normal (hK2 _ _ ?_)); clear hK2)
    refine wp_seq_k fun _ hK2 => ?_
    refine st_then S (Ev.t rfl) ?_
    refine wp_skip ?_
    (refine (then_normal (hK2 _ _ ?_)); clear hK2)
    refine wp_block ?_
    refine wp_seq_k fun _ hK2 => ?_
    refine wp_region_lit ?_
    (refine st_y S (Yr.ys (ys_entry (Ev.t rfl) (i := 0) rfl (j := 1) rfl rfl (by assumption))) rfl ?_; clear S a w; intro a w S)
    (refine st_y S (Yr.ys (ys_ext (Ev.t rfl) rfl)) rfl ?_; clear S a w; intro a w S)
    (refine st_y S (Yr.ys (ys_ext (Ev.t rfl) rfl)) rfl ?_; clear S a w; intro a w S)
    (refine st_m (op_alloc S Try.zeroValue60 (cs := _) rfl rfl ?_); clear S a w; intro g7 a w S)
    (refine st_y S (Yr.ys (ys_assign (Ev.t rfl))) rfl ?_; clear S a w; intro a w S)
    (refine st_m (op_stW S Try.sizeOf60 (Ev.t rfl) (Ev.t rfl) (k := 0) rfl rfl rfl (by simp [Value.oneCell']) ?_); clear S a w; intro a w S)
    refine st_nil ?_
    (refine (then_normal (hK2 _ _ ?_)); clear hK2)
    refine wp_seq_k fun _ hK2 => ?_
    refine wp_region_lit ?_
    (refine st_y S (Yr.ys (ys_move (Ev.t rfl))) rfl ?_; clear S a w; intro a w S)
    (refine st_y S (Yr.ys (ys_move (Ev.t rfl))) rfl ?_; clear S a w; intro a w S)
    (refine st_y S (Yr.ys (ys_lookOk mapT91 (Ev.t rfl) (Ev.t rfl) (j := 3) rfl)) rfl ?_; clear S a w; intro a w S)
    rw [rw_g] at S
    (refine st_y S (Yr.ys (ys_move (Ev.t rfl))) rfl ?_; clear S a w; intro a w S)
    (refine st_y S (Yr.ys (ys_ext (Ev.t rfl) rfl)) rfl ?_; clear S a w; intro a w S)
    (refine st_y S (Yr.ys (ys_ext (Ev.t rfl) rfl)) rfl ?_; clear S a w; intro a w S)
    (refine st_m (op_alloc S Try.zeroValue60 (cs := _) rfl rfl ?_); clear S a w; intro g8 a w S)
    (refine st_m (op_stW S Try.sizeOf60 (Ev.t rfl) (Ev.t rfl) (k := 0) rfl rfl rfl (by simp [Value.oneCell']) ?_); clear S a w; intro a w S)
    (refine st_y S (Yr.ys (ys_assign (Ev.t rfl))) rfl ?_; clear S a w; intro a w S)
    refine st_nil ?_
    (refine (then_normal (hK2 _ _ ?_)); clear hK2)
    refine wp_seq_k fun _ hK2 => ?_
    refine wp_region_lit ?_
    (refine st_y S (Yr.ys (ys_move (Ev.t rfl))) rfl ?_; clear S a w; intro a w S)
    (refine st_y S (Yr.ys (ys_not (Ev.t rfl))) rfl ?_; clear S a w; intro a w S)
    (refine st_y S (Yr.ys (ys_move (Ev.t rfl))) rfl ?_; clear S a w; intro a w S)
    (refine st_yf S rfl rfl (Yr.ys (ys_ldA ⟨Try.isAgg60, Try.sizeOf60⟩ (Ev.t rfl) (k := 1) rfl rfl)) rfl ?_; clear S a w; intro a w S)
    (refine st_yf S rfl rfl (Yr.ys (ys_ldA ⟨Try.isAgg60, Try.sizeOf60⟩ (Ev.t rfl) (k := 0) rfl rfl)) rfl ?_; clear S a w; intro a w S)
    (refine st_yf S rfl rfl (ys_call Try.call102 (EvL.cons (Ev.g rfl) (EvL.cons (Ev.g rfl) EvL.nil)) (fun hp w W => c102 _ _ _ _ _ _ _ _ _)) rfl ?_; clear S a w; intro a w S)
    (refine st_yf S rfl rfl (Yr.ys (ys_gtr (Ev.g rfl) Ev.c)) rfl ?_; clear S a w; intro a w S)
    (refine st_y S (Yr.ys (ys_or (Ev.t rfl) Ev.c (Ev.g rfl))) rfl ?_; clear S a w; intro a w S)
    rw [rw_c] at S
    refine st_nil ?_
    (refine (then_normal (hK2 _ _ ?_)); clear hK2)
    refine st_if S (Ev.t rfl) (fun h1 => ?_) (fun h1 => ?_)
    refine wp_region_lit ?_
    (refine st_y S (Yr.ys (ys_move (Ev.t rfl))) rfl ?_; clear S a w; intro a w S)
    (refine st_y S (Yr.ys (ys_move (Ev.t rfl))) rfl ?_; clear S a w; intro a w S)
    (refine st_y S (Yr.ys (ys_ldA ⟨Try.isAgg60, Try.sizeOf60⟩ (Ev.t rfl) (k := 1) rfl rfl)) rfl ?_; clear S a w; intro a w S)
    (refine st_m (op_mapUpd S mapT91 (Ev.t rfl) (Ev.t rfl) (Ev.t rfl) (j := 4) rfl ?_); clear S a w; intro a w S)
    refine st_nil ?_
    refine (in_normal (then_normal ?_))
    rotate_left
    refine wp_skip ?_
    refine (in_normal (then_normal ?_))
    rotate_left
    · exact ⟨(seen.push j, aput m n x), ⟨i1.put' hxok hxn, i2.next hb hj hns fun k => by
        rw [aget_put]
        split
        · unfold mxM; rw [if_pos h1]; rfl
        · rfl, hs2, hs3⟩, by dsimp only; rw [Array.size_push]; omega, S.picks (by repeat (first | exact Fits.nil | refine Fits.skip rfl ?_ | refine Fits.cons rfl ?_)) (by repeat (first | exact Picks.nil | (refine Picks.rest ?_; (repeat (first | exact List.Sublist.refl _ | refine List.Sublist.cons_cons _ ?_ | refine List.Sublist.cons _ ?_)); done) | refine Picks.take 0 rfl ?_ | refine Picks.take 1 rfl ?_ | refine Picks.take 2 rfl ?_ | refine Picks.take 3 rfl ?_ | refine Picks.take 4 rfl ?_ | refine Picks.take 5 rfl ?_ | refine Picks.take 6 rfl ?_ | refine Picks.take 7 rfl ?_ | refine Picks.take 8 rfl ?_ | refine Picks.take 9 rfl ?_ | refine Picks.take 10 rfl ?_ | refine Picks.take 11 rfl ?_))⟩
    · exact ⟨(seen.push j, m), ⟨i1, i2.next hb hj hns fun k => by
        split
        · rename_i e; subst e; unfold mxM; rw [if_neg h1]; exact hlk
        · rfl, hs2, hs3⟩, by dsimp only; rw [Array.size_push]; omega, S.picks (by repeat (first | exact Fits.nil | refine Fits.skip rfl ?_ | refine Fits.cons rfl ?_)) (by repeat (first | exact Picks.nil | (refine Picks.rest ?_; (repeat (first | exact List.Sublist.refl _ | refine List.Sublist.cons_cons _ ?_ | refine List.Sublist.cons _ ?_)); done) | refine Picks.take 0 rfl ?_ | refine Picks.take 1 rfl ?_ | refine Picks.take 2 rfl ?_ | refine Picks.take 3 rfl ?_ | refine Picks.take 4 rfl ?_ | refine Picks.take 5 rfl ?_ | refine Picks.take 6 rfl ?_ | refine Picks.take 7 rfl ?_ | refine Picks.take 8 rfl ?_ | refine Picks.take 9 rfl ?_ | refine Picks.take 10 rfl ?_ | refine Picks.take 11 rfl ?_))⟩
theorem c62 (w0 : World) (p c s : Int) (v : Value) (l : List Mbr) (h : Sl Mbr.enc 4 w0 w0.heap.size v l) (hn : l.length ≤ 4194304) (p' c' s' : Int) (v' : Value) (l' : List Mbr) (h' : Sl Mbr.enc 4 w0 w0.heap.size v' l') (hn' : l'.length ≤ 4194304) :
    Calls Try.prog 62 #[.agg #[.int .i64 p, .int .i64 c, .int .i64 s, v], .agg #[.int .i64 p', .int .i64 c', .int .i64 s', v']] w0 fun e w' => e = .returned (.bool (decide (leqR ⟨p, c, s, l⟩ ⟨p', c', s', l'⟩))) ∧ Bel w0.heap.size w0 w' := by
  refine enter2 Try.func62 rfl Try.ntmps62 rfl fun a S => ?_
  refine wp_seq_k fun _ hK1 => ?_
  refine wp_region_lit ?_
  (refine st_m (op_box S (Ev.t rfl) rfl ?_); clear S a; intro g1 a w S)
  (refine st_m (op_box S (Ev.t rfl) rfl ?_); clear S a w; intro g2 a w S)
  (refine st_y S (Yr.ys (ys_assign Ev.c)) rfl ?_; clear S a w; intro a w S)
  refine st_nil ?_
  (refine (then_normal (hK1 _ _ ?_)); clear hK1)
  refine wp_seq_k fun _ hK1 => ?_
  refine wp_region_lit ?_
  (refine st_y S (Yr.ys (ys_ldA ⟨Try.isAgg24, Try.sizeOf24⟩ (Ev.t rfl) (k := 1) rfl rfl)) rfl ?_; clear S a w; intro a w S)
  (refine st_y S (Yr.ys (ys_ldA ⟨Try.isAgg24, Try.sizeOf24⟩ (Ev.t rfl) (k := 0) rfl rfl)) rfl ?_; clear S a w; intro a w S)
  (refine st_m (op_calls S Try.call60 (EvL.cons (Ev.t rfl) (EvL.cons (Ev.t rfl) EvL.nil)) (c60 _ _ _ _ _ _ (by exact .old S.wd (by assumption)) (by assumption) _ _ _ _ _ (by exact .old S.wd (by assumption)) (by assumption)) rfl ?_); clear S a w; rintro _ _ ⟨A1, cp1, rfl, rfl⟩ a w S)
  (refine st_y S (Yr.ys (ys_move (Ev.t rfl))) rfl ?_; clear S a w; intro a w S)
  (refine st_y S (Yr.ys (ys_ext (Ev.t rfl) rfl)) rfl ?_; clear S a w; intro a w S)
  (refine st_y S (Yr.ys (ys_ext (Ev.t rfl) rfl)) rfl ?_; clear S a w; intro a w S)
  (refine st_m (op_alloc S Try.zeroValue24 (cs := _) rfl rfl ?_); clear S a w; intro g3 a w S)
  (refine st_m (op_stW S Try.sizeOf24 (Ev.t rfl) (Ev.t rfl) (k := 0) rfl rfl rfl (by simp [Value.oneCell']) ?_); clear S a w; intro a w S)
  (refine st_y S (Yr.ys (ys_assign (Ev.t rfl))) rfl ?_; clear S a w; intro a w S)
  refine st_nil ?_
  (refine (then_normal (hK1 _ _ ?_)); clear hK1)
  refine wp_seq_k fun _ hK1 => ?_
  refine wp_region_lit ?_
  (refine st_y S (Yr.ys (ys_move (Ev.t rfl))) rfl ?_; clear S a w; intro a w S)
  (refine st_y S (Yr.ys (ys_eql (Ev.t rfl) Ev.c)) rfl ?_; clear S a w; intro a w S)
  (refine st_y S (Yr.ys (ys_move (Ev.t rfl))) rfl ?_; clear S a w; intro a w S)
  (refine st_yg S rfl rfl (Yr.ys (ys_ldA ⟨Try.isAgg24, Try.sizeOf24⟩ (Ev.t rfl) (k := 0) rfl rfl)) rfl ?_; clear S a w; intro a w S)
  (refine st_yg S rfl rfl (Yr.ys (ys_ldA ⟨Try.isAgg24, Try.sizeOf24⟩ (Ev.t rfl) (k := 2) rfl rfl)) rfl ?_; clear S a w; intro a w S)
  (refine st_yg S rfl rfl (ys_call Try.call64 (EvL.cons (Ev.g rfl) (EvL.cons (Ev.g rfl) EvL.nil)) (fun hp w W => c64 _ _ _ _ _ _ (by exact Sl.of_own W (k := 1) rfl (fun _ => rfl)) _ _ _ _ _ (by exact .old W (by assumption)))) rfl ?_; clear S a w; intro a w S)
  (refine st_y S (Yr.ys (ys_and (Ev.t rfl) (Ev.g rfl) Ev.c)) rfl ?_; clear S a w; intro a w S)
  (refine st_y S (Yr.ys (ys_assign (Ev.t rfl))) rfl ?_; clear S a w; intro a w S)
  refine st_nil ?_
  (refine (then_normal (hK1 _ _ ?_)); clear hK1)
  refine wp_ret ?_
  refine st_ret S (results1 S Try.results62 (Rv.tmp rfl)) ?_
  exact ⟨boolEq (by rw [Bool.and_eq_true, decide_eq_true_eq, decide_eq_true_eq, decide_eq_true_eq]; exact Iff.rfl), S.wd.below⟩
theorem c56 (w0 : World) (p c s n : Int) (v : Value) (l : List Mbr) (h : Sl Mbr.enc 4 w0 w0.heap.size v l) (hn : l.length ≤ 4194304) :
    Calls Try.prog 56 #[.agg #[.int .i64 p, .int .i64 c, .int .i64 s, v], .int .i64 n] w0 fun e w' => e = .returned (.int .i64 (epochR ⟨p, c, s, l⟩ n)) ∧ Bel w0.heap.size w0 w' := by
  by_cases hc : shapeP p c s ∧ goodL l
  · have rw_0 : (if shapeP p c s ∧ goodL l then (0 : Int) else 60) = 0 := if_pos hc
    have e : epochR ⟨p, c, s, l⟩ n = (getM l n).epoch := if_pos hc
    have rw_1 := mapL_get hc.2 n
    refine enter2 Try.func56 rfl Try.ntmps56 rfl fun a S => ?_
    refine wp_seq_k fun _ hK1 => ?_
    refine wp_region_lit ?_
    (refine st_m (op_box S (Ev.t rfl) rfl ?_); clear S a; intro g1 a w S)
    (refine st_y S (Yr.ys (ys_assign Ev.c)) rfl ?_; clear S a w; intro a w S)
    refine st_nil ?_
    (refine (then_normal (hK1 _ _ ?_)); clear hK1)
    refine wp_seq_k fun _ hK1 => ?_
    refine wp_seq_k fun _ hK2 => ?_
    refine wp_region_lit ?_
    (refine st_y S (Yr.ys (ys_ldA ⟨Try.isAgg24, Try.sizeOf24⟩ (Ev.t rfl) (k := 0) rfl rfl)) rfl ?_; clear S a w; intro a w S)
    (refine st_y S (ys_call Try.call55 (EvL.cons (Ev.t rfl) EvL.nil) (fun hp w W => c55 _ _ _ _ _ _ (by exact .old W (by assumption)) (by assumption))) rfl ?_; clear S a w; intro a w S)
    rw [rw_0] at S
    (refine st_y S (Yr.ys (ys_F (by omega) (ys_neq (Ev.t rfl) Ev.c))) rfl ?_; clear S a w; intro a w S)
    refine st_nil ?_
    (refine (then_normal (hK2 _ _ ?_)); clear hK2)
    refine st_else S (Ev.t rfl) ?_
    refine wp_skip ?_
    (refine (then_normal (hK1 _ _ ?_)); clear hK1)
    refine wp_seq_k fun _ hK1 => ?_
    refine wp_region_lit ?_
    (refine st_y S (Yr.ys (ys_ldA ⟨Try.isAgg24, Try.sizeOf24⟩ (Ev.t rfl) (k := 0) rfl rfl)) rfl ?_; clear S a w; intro a w S)
    (refine st_m (op_calls S Try.call97 (EvL.cons (Ev.t rfl) EvL.nil) (c97 _ _ _ _ _ _ (by exact .old S.wd (by assumption)) (by assumption)) rfl ?_); clear S a w; rintro _ _ ⟨g2, rfl, rfl⟩ a w S)
    (refine st_y S (Yr.ys (ys_move (Ev.t rfl))) rfl ?_; clear S a w; intro a w S)
    (refine st_y S (Yr.ys (ys_look mapT91 (Ev.t rfl) (Ev.t rfl) (j := 0) rfl)) rfl ?_; clear S a w; intro a w S)
    rw [rw_1] at S
    (refine st_y S (Yr.ys (ys_fieldV Try.underlying60 rfl ⟨Try.isAgg3, Try.sizeOf3⟩ (Ev.t rfl) rfl)) rfl ?_; clear S a w; intro a w S)
    (refine st_y S (Yr.ys (ys_assign (Ev.t rfl))) rfl ?_; clear S a w; intro a w S)
    refine st_nil ?_
    (refine (then_normal (hK1 _ _ ?_)); clear hK1)
    refine wp_ret ?_
    refine st_ret S (results1 S Try.results56 (Rv.tmp rfl)) ?_
    exact ⟨by rw [e], S.wd.below⟩
  · have rw_0 : (if shapeP p c s ∧ goodL l then (0 : Int) else 60) = 60 := if_neg hc
    have e : epochR ⟨p, c, s, l⟩ n = 0 := if_neg hc
    refine enter2 Try.func56 rfl Try.ntmps56 rfl fun a S => ?_
    refine wp_seq_k fun _ hK1 => ?_
    refine wp_region_lit ?_
    (refine st_m (op_box S (Ev.t rfl) rfl ?_); clear S a; intro g1 a w S)
    (refine st_y S (Yr.ys (ys_assign Ev.c)) rfl ?_; clear S a w; intro a w S)
    refine st_nil ?_
    (refine (then_normal (hK1 _ _ ?_)); clear hK1)
    refine wp_seq_k fun _ hK1 => ?_
    refine wp_seq_k fun _ hK2 => ?_
    refine wp_region_lit ?_
    (refine st_y S (Yr.ys (ys_ldA ⟨Try.isAgg24, Try.sizeOf24⟩ (Ev.t rfl) (k := 0) rfl rfl)) rfl ?_; clear S a w; intro a w S)
    (refine st_y S (ys_call Try.call55 (EvL.cons (Ev.t rfl) EvL.nil) (fun hp w W => c55 _ _ _ _ _ _ (by exact .old W (by assumption)) (by assumption))) rfl ?_; clear S a w; intro a w S)
    rw [rw_0] at S
    (refine st_y S (Yr.ys (ys_T (by omega) (ys_neq (Ev.t rfl) Ev.c))) rfl ?_; clear S a w; intro a w S)
    refine st_nil ?_
    (refine (then_normal (hK2 _ _ ?_)); clear hK2)
    refine st_then S (Ev.t rfl) ?_
    refine wp_seq_k fun _ hK2 => ?_
    refine wp_region_lit ?_
    (refine st_y S (Yr.ys (ys_assign Ev.c)) rfl ?_; clear S a w; intro a w S)
    refine st_nil ?_
    (refine (then_normal (hK2 _ _ ?_)); clear hK2)
    refine wp_ret ?_
    refine (then_ret ?_)
    refine st_ret S (results1 S Try.results56 (Rv.tmp rfl)) ?_
    exact ⟨by rw [e], S.wd.below⟩
end Go.Proofs.Ytcglchdbddlnjaa
set_option linter.unusedVariables false
set_option linter.unusedSimpArgs false
namespace Go.Fw
open Go.RowKit Go.Sort Go.Proofs Go.Shelf
section
variable {w0 w w' : World} {L : List Chunk}
variable {α : Type} [Inhabited α] {enc : α → List Value} {size : Nat}
theorem flatK_list (he : ∀ x, (enc x).length = size) (hs : 0 < size) (l : List α) : (flatK enc size l.toArray).toList = l.flatMap enc := by
  have hl := flat_len he l
  apply List.ext_getElem?
  intro i
  by_cases hi : i < l.length * size
  · have hd : i / size < l.length := (Nat.div_lt_iff_lt_mul hs).2 hi
    have hx : l[i / size]? = some l[i / size] := by simp
    rw [flat_get he hs l i _ hx]
    have hm : i % size < (enc l[i / size]).length := by rw [he]; exact Nat.mod_lt _ hs
    rw [List.getElem?_eq_getElem hm]
    simp only [flatK, Array.getElem?_toList, Array.getElem?_map]
    rw [Array.getElem?_range, if_pos (by simpa using hi)]
    simp [hd, hm]
  · rw [List.getElem?_eq_none (by simp; omega), List.getElem?_eq_none (by omega)]
theorem holdsK_of (W : Wd w0 L w) (he : ∀ x, (enc x).length = size) (hs : 0 < size) {k e cap g : Nat} {l : List α} (hk : L[k]? = some (rowOf e size enc (some ⟨g, 0, none⟩) cap l)) (hc : cap ≠ 0) : HoldsK enc size w g 0 l.toArray ∧ g < w.heap.size := by
  have h := W.get hk
  refine ⟨fun j hj => ?_, (h.lt (b := g) ⟨hc, rfl⟩).2⟩
  rcases h.2 with ⟨_, h0⟩ | ⟨g', cur, hA, hp, hB, hg, hn, hm, hcs, ht⟩
  · exact absurd h0 hc
  · simp only [Option.some.injEq, Addr.mk.injEq, and_true] at hA
    subst hA
    rw [size_flatK] at hj
    have hj' : j < l.length * size := by simpa using hj
    refine ⟨?_, frozen_of_row w g _ _ e hg⟩
    rw [cell_of_row w g (0 + j) cur e (0, 0) hg, Nat.zero_add]
    have e1 : (flatK enc size l.toArray)[j]? = cur[j]? := by
      rw [← Array.getElem?_toList, ← Array.getElem?_toList, flatK_list he hs, ← ht, List.getElem?_take, if_pos hj']
    rw [← e1]
    have : j < (flatK enc size l.toArray).size := by rw [size_flatK]; exact hj
    rw [Array.getElem?_eq_getElem this, getElem!_pos _ j this]; rfl
theorem Wd.sorted (W : Wd w0 L w) (he : ∀ x, (enc x).length = size) (hs : 0 < size) {k e cap g : Nat} {l l' : List α} (hk : L[k]? = some (rowOf e size enc (some ⟨g, 0, none⟩) cap l)) (hc : cap ≠ 0) (hl : l'.length = l.length) (m : Nat) (os : Array Obj) :
    Wd w0 (L.set k (rowOf e size enc (some ⟨g, 0, none⟩) cap l')) (sortWorldK enc size w g 0 m l'.toArray os) := by
  have h := W.get hk
  have hlt := (h.lt (b := g) ⟨hc, rfl⟩).2
  rcases h.2 with ⟨_, h0⟩ | ⟨g', cur, hA, hp, hB, hg, hn, hm, hcs, ht⟩
  · exact absurd h0 hc
  · simp only [Option.some.injEq, Addr.mk.injEq, and_true] at hA
    subst hA
    have hheap : ∀ j, j < w.heap.size → (sortWorldK enc size w g 0 m l'.toArray os).heap[j]? = if g = j then some (.cells (putCells id 0 (flatK enc size l'.toArray) cur) e (0, 0)) else w.heap[j]? := fun j hj => by
      unfold sortWorldK putRowK putRow mapBlock grow Go.Sort.ahead
      simp only
      rw [Array.getElem?_append_left (by simpa using hj), Array.getElem?_modify]
      split
      · rename_i e1
        subst e1
        rw [hg]
        rfl
      · rfl
    have hcl : (l'.flatMap enc).length = l'.length * size := flat_len he l'
    refine W.change hk ⟨rfl, rfl, rfl, by simp [sortWorldK, putRowK, putRow, mapBlock, grow, Go.Sort.ahead], fun j hj hne => ?_, by simp [sortWorldK, putRowK, putRow, mapBlock, grow, Go.Sort.ahead]⟩ ⟨by rw [flat_len he], .inr ⟨g, _, rfl, hp, hB, by rw [hheap g hlt, if_pos rfl], by rw [hl]; exact hn, hm, by simp [putCells, hcs], ?_⟩⟩ fun b hb => .inl hb
    · rw [hheap j hj, if_neg (fun e1 => hne ⟨hc, by simp [e1]⟩)]
    · have hF := flatK_list he hs l'
      have hle : l'.length * size ≤ cur.size := by rw [hcs, hl]; exact Nat.mul_le_mul_right _ hn
      apply List.ext_getElem?
      intro i
      rw [List.getElem?_take]
      split
      · rename_i hi
        rw [Array.getElem?_toList, putCells, Array.getElem?_mapIdx]
        have hF2 : (flatK enc size l'.toArray)[i]? = (l'.flatMap enc)[i]? := by rw [← hF, Array.getElem?_toList]
        rw [Array.getElem?_eq_getElem (by omega)]
        have hsz : i < (flatK enc size l'.toArray).size := by simp; omega
        simp only [Option.map_some, id_eq, Nat.zero_le, Nat.zero_add, true_and, Nat.sub_zero]
        rw [if_pos hsz, ← hF2, Array.getElem?_eq_getElem hsz, getElem!_pos _ i hsz]
      · rename_i hi
        rw [List.getElem?_eq_none (by omega)]
end
end Go.Fw
set_option linter.unusedVariables false
set_option linter.unusedSimpArgs false
namespace Go.Ft
open Go.RowKit
abbrev KL := List (Nat × Bool × Value)
def look : KL → Nat → Option (Bool × Value)
  | [], _ => none
  | (j, v) :: r, i => bif Nat.beq i j then some v else look r i
structure Kn (n : Nat) (K : KL) (a : Act) : Prop where
  defers : a.defers = []
  size : a.tmps.size = n
  slot : ∀ i g v, look K i = some (g, v) → a.tmps[i]? = some (bif g then v else undef)
def Ev (n : Nat) (b : Bool) (K : KL) (x : Operand) (v : Value) : Prop := ∀ a, b = true → Kn n K a → a.eval x = v
def EvL (n : Nat) (b : Bool) (K : KL) (xs : List Operand) (vs : List Value) : Prop := ∀ a, b = true → Kn n K a → xs.map a.eval = vs
section kn
variable {n : Nat} {K : KL} {a : Act} {b : Bool}
theorem Ev.t {t : Nat} {v : Value} (h : look K t = some (true, v)) : Ev n b K (.tmp t) v := fun a _ hk => by
  simp [Act.eval, hk.slot t true v h]
theorem Ev.g {t : Nat} {v : Value} (h : look K t = some (b, v)) : Ev n b K (.tmp t) v := fun a hb hk => by
  simp [Act.eval, hk.slot t b v h, hb]
theorem Ev.c {v : Value} : Ev n b K (.const v) v := fun _ _ _ => rfl
theorem Ev.f {f : Nat} : Ev n b K (.func f) (.func (.func f) #[] #[]) := fun _ _ _ => rfl
theorem EvL.nil : EvL n b K [] [] := fun _ _ _ => rfl
theorem EvL.cons {x : Operand} {xs : List Operand} {v : Value} {vs : List Value} (h : Ev n b K x v) (h' : EvL n b K xs vs) : EvL n b K (x :: xs) (v :: vs) := fun a hb hk => by
  simp only [List.map_cons, h a hb hk, h' a hb hk]
theorem Kn.putg (h : Kn n K a) {d : Nat} (hd : Nat.blt d n = true) (g : Bool) (v : Value) : Kn n ((d, g, v) :: K) (a.put (some d) (bif g then v else undef)) := by
  refine ⟨h.defers, by simp [Act.put, h.size], fun i g' u hu => ?_⟩
  have hdn : d < n := by simpa [Nat.blt_eq] using hd
  unfold look at hu
  by_cases hi : i = d
  · subst hi
    simp only [Nat.beq_refl, cond_true, Option.some.injEq, Prod.mk.injEq] at hu
    obtain ⟨rfl, rfl⟩ := hu
    simp [Act.put, h.size, hdn]
  · have : Nat.beq i d = false := by simpa [Nat.beq_eq_true_eq, ← Bool.not_eq_true] using hi
    simp only [this, cond_false] at hu
    simp only [Act.put]
    rw [Array.getElem?_setIfInBounds_ne (fun e => hi e.symm)]
    exact h.slot i g' u hu
theorem Kn.put (h : Kn n K a) {d : Nat} (hd : Nat.blt d n = true) (v : Value) : Kn n ((d, true, v) :: K) (a.put (some d) v) := h.putg hd true v
def Fits (sn : List Nat) (K : KL) : KL → Prop
  | [] => True
  | (i, g, v) :: r => (List.elem i sn = true ∨ look K i = some (g, v)) ∧ Fits (i :: sn) K r
theorem Fits.nil {sn : List Nat} {K : KL} : Fits sn K [] := trivial
theorem Fits.cons {sn : List Nat} {K r : KL} {i : Nat} {g : Bool} {v : Value} (h : Ft.look K i = some (g, v)) (h' : Fits (i :: sn) K r) : Fits sn K ((i, g, v) :: r) := ⟨.inr h, h'⟩
theorem Fits.skip {sn : List Nat} {K r : KL} {i : Nat} {g : Bool} {v : Value} (h : List.elem i sn = true) (h' : Fits (i :: sn) K r) : Fits sn K ((i, g, v) :: r) := ⟨.inl h, h'⟩
theorem Fits.look {K : KL} : ∀ {K' : KL} {sn : List Nat}, Fits sn K K' → ∀ i v, List.elem i sn = false → Ft.look K' i = some v → Ft.look K i = some v
  | [], _, _, i, v, _, h => by simp [Ft.look] at h
  | (j, g, u) :: r, sn, hf, i, v, hn, h => by
    obtain ⟨h1, h2⟩ := hf
    unfold Ft.look at h
    by_cases hi : i = j
    · subst hi
      simp only [Nat.beq_refl, cond_true, Option.some.injEq] at h
      rw [← h]
      rcases h1 with h1 | h1
      · rw [h1] at hn; cases hn
      · exact h1
    · have : Nat.beq i j = false := by simpa [Nat.beq_eq_true_eq, ← Bool.not_eq_true] using hi
      simp only [this, cond_false] at h
      refine Fits.look h2 i v ?_ h
      have hne : (i == j) = false := by simpa using hi
      simp only [List.elem, hne]
      exact hn
end kn
abbrev Dle (a b : Nat) : Prop := a ≤ b
theorem Dle.succ (a : Nat) : Dle a (a + 1) := by unfold Dle; omega
structure Bel (B : Nat) (w w' : World) : Prop extends Below B w w' where
  drawn : Dle w.drawn w'.drawn
section bel
variable {B B' : Nat} {a b c : World}
theorem Bel.refl (B : Nat) (w : World) : Bel B w w := ⟨Below.refl B w, Nat.le_refl _⟩
theorem Bel.trans (h : Bel B a b) (k : Bel B b c) : Bel B a c := ⟨h.toBelow.trans k.toBelow, Nat.le_trans h.drawn k.drawn⟩
theorem Bel.mono (h : Bel B a b) (hB : B' ≤ B) : Bel B' a b := ⟨h.toBelow.mono hB, h.drawn⟩
theorem Bel.alloc (h : Bel B a b) (hb : B ≤ b.heap.size) (o : Obj) : Bel B a (b.alloc o) := ⟨h.toBelow.alloc hb o, h.drawn⟩
theorem Bel.drew (h : Bel B a b) : Bel B a b.drew := ⟨h.toBelow.drew, Nat.le_trans h.drawn (Dle.succ _)⟩
theorem Bel.grows (h : Bel a.heap.size a b) : ∃ q os', b = Go.Sort.grow (a.drewN q) os' := by
  refine ⟨b.drawn - a.drawn, b.heap.extract a.heap.size b.heap.size, ?_⟩
  have hh : b.heap = a.heap ++ b.heap.extract a.heap.size b.heap.size := by
    have hs := h.size
    apply Array.ext
    · simp; omega
    · intro i h1 h2
      rw [Array.getElem_append]
      split
      · rename_i hlt
        have := h.block i hlt
        rw [Array.getElem?_eq_getElem h1, Array.getElem?_eq_getElem hlt] at this
        simpa using this
      · rw [Array.getElem_extract]
        congr 1
        omega
  obtain ⟨h1, h2, h3, _, _⟩ := h.toBelow
  have h4 := h.drawn
  cases a; cases b
  simp only at h1 h2 h3 h4 hh ⊢
  subst h1; subst h2; subst h3
  simp only [Go.Sort.grow, World.drewN, World.mk.injEq, and_true, true_and]
  exact ⟨hh, by omega⟩
end bel
structure Turned (S : Nat → Prop) (w w' : World) : Prop where
  os : w'.os = w.os
  tape : w'.tape = w.tape
  output : w'.output = w.output
  size : w.heap.size ≤ w'.heap.size
  block : ∀ k, k < w.heap.size → ¬ S k → w'.heap[k]? = w.heap[k]?
  drawn : Dle w.drawn w'.drawn
theorem Turned.mono {S S' : Nat → Prop} {w w' : World} (h : Turned S w w') (hS : ∀ k, S k → S' k) : Turned S' w w' :=
  ⟨h.os, h.tape, h.output, h.size, fun k hk hn => h.block k hk fun e => hn (hS k e), h.drawn⟩
def Owns (w : World) (B : Nat) (e size : Nat) (A : Option Addr) (n cap : Nat) (xs : List Value) : Prop :=
  xs.length = n * size ∧ ((n = 0 ∧ cap = 0) ∨ ∃ g cur, A = some ⟨g, 0, none⟩ ∧ 0 < cap ∧ B ≤ g ∧ w.heap[g]? = some (.cells cur e (0, 0)) ∧ n ≤ cap ∧ cap ≤ maxLen ∧ cur.size = cap * size ∧ cur.toList.take (n * size) = xs)
inductive Chunk where
  | blk (b : Nat) (o : Obj)
  | row (e size : Nat) (A : Option Addr) (n cap : Nat) (xs : List Value)
  | ice (w1 : World) (bs : List Nat)
def Chunk.holds (B : Nat) (w : World) : Chunk → Prop
  | .blk b o => B ≤ b ∧ w.heap[b]? = some o
  | .row e size A n cap xs => Owns w B e size A n cap xs
  | .ice w1 bs => ∀ b ∈ bs, B ≤ b ∧ b < w.heap.size ∧ w.heap[b]? = w1.heap[b]?
def Chunk.own : Chunk → Nat → Prop
  | .blk b _ => fun x => x = b
  | .row _ _ A _ cap _ => fun x => cap ≠ 0 ∧ A.map (·.block) = some x
  | .ice _ bs => fun x => x ∈ bs
def Chunk.apart (c d : Chunk) : Prop := ∀ b, c.own b → ¬ d.own b
theorem Chunk.apart.symm {c d : Chunk} (h : c.apart d) : d.apart c := fun b hd hc => h b hc hd
theorem Chunk.holds.lt {B : Nat} {w : World} {c : Chunk} (h : c.holds B w) {b : Nat} (hb : c.own b) : B ≤ b ∧ b < w.heap.size := by
  cases c with
  | blk b' o =>
    obtain ⟨h1, h2⟩ := h
    simp only [Chunk.own] at hb
    subst hb
    exact ⟨h1, (Array.getElem?_eq_some_iff.1 h2).1⟩
  | row e size A n cap xs =>
    obtain ⟨h0, hb⟩ := hb
    rcases h.2 with ⟨_, hc⟩ | ⟨g, cur, rfl, hp, hB, hg, _⟩
    · exact absurd hc h0
    · simp only [Option.map_some, Option.some.injEq] at hb
      subst hb
      exact ⟨hB, (Array.getElem?_eq_some_iff.1 hg).1⟩
  | ice w1 bs => exact ⟨(h b hb).1, (h b hb).2.1⟩
theorem Chunk.holds.keep {B : Nat} {w w' : World} {c : Chunk} (h : c.holds B w) (hs : w.heap.size ≤ w'.heap.size) (hk : ∀ b, c.own b → w'.heap[b]? = w.heap[b]?) : c.holds B w' := by
  cases c with
  | blk b o => exact ⟨h.1, (hk b rfl).trans h.2⟩
  | row e size A n cap xs =>
    refine ⟨h.1, ?_⟩
    rcases h.2 with hn | ⟨g, cur, rfl, hp, hb, hgg, rest⟩
    · exact .inl hn
    · exact .inr ⟨g, cur, rfl, hp, hb, (hk g ⟨Nat.pos_iff_ne_zero.1 hp, rfl⟩).trans hgg, rest⟩
  | ice w1 bs => exact fun b hb => ⟨(h b hb).1, Nat.lt_of_lt_of_le (h b hb).2.1 hs, (hk b hb).trans (h b hb).2.2⟩
theorem Chunk.holds.mono {B B' : Nat} {w : World} {c : Chunk} (h : c.holds B w) (hB : B' ≤ B) : c.holds B' w := by
  cases c with
  | blk b o => exact ⟨Nat.le_trans hB h.1, h.2⟩
  | row e size A n cap xs =>
    refine ⟨h.1, ?_⟩
    rcases h.2 with hn | ⟨g, cur, rfl, hp, hb, rest⟩
    · exact .inl hn
    · exact .inr ⟨g, cur, rfl, hp, Nat.le_trans hB hb, rest⟩
  | ice w1 bs => exact fun b hb => ⟨Nat.le_trans hB (h b hb).1, (h b hb).2⟩
structure Wd (w0 : World) (L : List Chunk) (w : World) : Prop where
  below : Bel w0.heap.size w0 w
  all : ∀ c ∈ L, c.holds w0.heap.size w
  apart : L.Pairwise Chunk.apart
section wd
variable {w0 : World} {L : List Chunk} {w w' : World}
theorem Wd.start (w : World) : Wd w [] w := ⟨Bel.refl _ _, (fun _ h => by cases h), List.Pairwise.nil⟩
theorem Wd.get (h : Wd w0 L w) {k : Nat} {c : Chunk} (hk : L[k]? = some c) : c.holds w0.heap.size w := h.all c (List.mem_of_getElem? hk)
theorem Wd.sub (h : Wd w0 L w) {L' : List Chunk} (hs : L'.Sublist L) : Wd w0 L' w :=
  ⟨h.below, fun c hc => h.all c (hs.subset hc), h.apart.sublist hs⟩
theorem Wd.step (h : Wd w0 L w) (hb : Bel w.heap.size w w') : Wd w0 L w' :=
  ⟨h.below.trans (hb.mono h.below.size), fun c hc => (h.all c hc).keep hb.size fun b hbk => hb.block b ((h.all c hc).lt hbk).2, h.apart⟩
theorem Wd.more (h : Wd w0 L w) (hb : Bel w.heap.size w w') {c : Chunk} (hc : c.holds w.heap.size w') : Wd w0 (c :: L) w' := by
  have h' := h.step hb
  refine ⟨h'.below, fun d hd => ?_, List.Pairwise.cons (fun d hd b hcb hdb => ?_) h'.apart⟩
  · rcases List.mem_cons.1 hd with rfl | hd
    · exact hc.mono h.below.size
    · exact h'.all d hd
  · have h1 := (hc.lt hcb).1
    have h2 := ((h.all d hd).lt hdb).2
    omega
theorem Wd.drew (h : Wd w0 L w) : Wd w0 L w.drew := h.step (Bel.refl _ _).drew
theorem Wd.alloc (h : Wd w0 L w) (o : Obj) : Wd w0 (.blk w.heap.size o :: L) (w.alloc o) :=
  h.more ((Bel.refl _ _).alloc (Nat.le_refl _) o) ⟨Nat.le_refl _, heap_alloc_new w o⟩
end wd
structure St (n : Nat) (w0 : World) (K : KL) (L : List Chunk) (a : Act) (w : World) : Prop where
  kn : Kn n K a
  wd : Wd w0 L w
section code
variable {P : Program} {Q : Exit → Act → World → Prop} {n : Nat} {w0 : World} {K : KL} {L : List Chunk} {a : Act} {w : World}
theorem enter {f : FuncId} {fn : Func} {c : Code} {args : List Value} {w : World} {R : Ending → World → Prop} (hf : P.funcs[f]? = some fn) (hb : fn.body = some c)
    {n : Nat} {K : KL} (hn : fn.ntmps = n) (hsz : Nat.ble args.length n = true) (hK : ∀ i g v, look K i = some (g, v) → g = true ∧ args[i]? = some v)
    (h : ∀ a, St n w K [] a w → c.wp P (bodyPost P fn R) a w) : Calls P f args.toArray w R := by
  refine calls_of_wp hf hb (h _ ⟨⟨rfl, ?_, fun i g v hv => ?_⟩, Wd.start w⟩)
  · have := Nat.le_of_ble_eq_true hsz
    simp [hn]; omega
  · obtain ⟨rfl, h1⟩ := hK i g v hv
    have hi : i < args.length := (List.getElem?_eq_some_iff.1 h1).1
    simp [Array.getElem?_append, hi, (List.getElem?_eq_some_iff.1 h1).2]
section enters
def argsK : Nat → List Value → KL
  | _, [] => []
  | i, v :: vs => (i, true, v) :: argsK (i + 1) vs
theorem argsK_ok : ∀ (vs : List Value) (i j : Nat) (g : Bool) (v : Value), look (argsK i vs) j = some (g, v) → g = true ∧ i ≤ j ∧ vs[j - i]? = some v
  | [], i, j, g, v, h => by simp [argsK, look] at h
  | u :: us, i, j, g, v, h => by
    unfold argsK look at h
    by_cases hj : j = i
    · subst hj
      simp only [Nat.beq_refl, cond_true, Option.some.injEq, Prod.mk.injEq] at h
      obtain ⟨rfl, rfl⟩ := h
      exact ⟨rfl, Nat.le_refl _, by simp⟩
    · have : Nat.beq j i = false := by simpa [Nat.beq_eq_true_eq, ← Bool.not_eq_true] using hj
      simp only [this, cond_false] at h
      obtain ⟨h1, h2, h3⟩ := argsK_ok us (i + 1) j g v h
      refine ⟨h1, by omega, ?_⟩
      rw [show j - i = (j - (i + 1)) + 1 by omega]
      simpa using h3
theorem enterL {f : FuncId} {fn : Func} {c : Code} {args : List Value} {w : World} {R : Ending → World → Prop} (hf : P.funcs[f]? = some fn) (hb : fn.body = some c)
    {n : Nat} (hn : fn.ntmps = n) (hsz : Nat.ble args.length n = true) (h : ∀ a, St n w (argsK 0 args) [] a w → c.wp P (bodyPost P fn R) a w) : Calls P f args.toArray w R :=
  enter hf hb hn hsz (fun i g v hv => have h := argsK_ok args 0 i g v hv; ⟨h.1, by simpa using h.2.2⟩) h
variable {f : FuncId} {fn : Func} {c : Code} {R : Ending → World → Prop} {v0 v1 v2 v3 v4 v5 v6 v7 v8 : Value}
theorem enter1 (hf : P.funcs[f]? = some fn) (hb : fn.body = some c) {n : Nat} (hn : fn.ntmps = n) (hsz : Nat.ble 1 n = true)
    (h : ∀ a, St n w [(0, true, v0)] [] a w → c.wp P (bodyPost P fn R) a w) : Calls P f #[v0] w R := enterL (args := [v0]) hf hb hn hsz h
theorem enter2 (hf : P.funcs[f]? = some fn) (hb : fn.body = some c) {n : Nat} (hn : fn.ntmps = n) (hsz : Nat.ble 2 n = true)
    (h : ∀ a, St n w [(0, true, v0), (1, true, v1)] [] a w → c.wp P (bodyPost P fn R) a w) : Calls P f #[v0, v1] w R := enterL (args := [v0, v1]) hf hb hn hsz h
end enters
theorem st_if {c : Operand} {x y : Code} {p : Prop} {_ : Decidable p} (S : St n w0 K L a w) (hc : Ev n true K c (.bool (decide p))) (ht : p → x.wp P Q a w) (hf : ¬p → y.wp P Q a w) : (Code.cond c x y).wp P Q a w :=
  wp_cond_split (hc a rfl S.kn) (fun h => ht (of_decide_eq_true h)) (fun h => hf (of_decide_eq_false h))
theorem st_then {c : Operand} {x y : Code} (S : St n w0 K L a w) (hc : Ev n true K c (.bool true)) (ht : x.wp P Q a w) : (Code.cond c x y).wp P Q a w := wp_cond_true (hc a rfl S.kn) ht
theorem st_else {c : Operand} {x y : Code} (S : St n w0 K L a w) (hc : Ev n true K c (.bool false)) (hf : y.wp P Q a w) : (Code.cond c x y).wp P Q a w := wp_cond_false (hc a rfl S.kn) hf
def Ys (P : Program) (o : Oper) (n : Nat) (K : KL) (w0 : World) (L : List Chunk) (b : Bool) (v : Value) : Prop :=
  ∀ a w, b = true → Kn n K a → Wd w0 L w → Oper.quietUpon P (Wd w0 L) w v ((execOp a.eval o).run P w)
def Yr (P : Program) (o : Oper) (n : Nat) (K : KL) (w0 : World) (L : List Chunk) (b : Bool) (v : Value) : Prop :=
  ∀ a w, b = true → Kn n K a → Wd w0 L w → (execOp a.eval o).run P w = .ok (.value v) w
theorem Yr.ys {o : Oper} {b : Bool} {v : Value} (h : Yr P o n K w0 L b v) : Ys P o n K w0 L b v := fun a w hb hk hw => by
  rw [h a w hb hk hw]; exact ⟨rfl, rfl⟩
theorem Ys.wp {o : Oper} {v : Value} (hy : Ys P o n K w0 L true v) (S : St n w0 K L a w) {K' : Act → World → Prop} (h : ∀ w', Wd w0 L w' → K' (a.put o.dst v) w') : o.wp P a w K' Q := by
  have h3 := hy a w rfl S.kn S.wd
  unfold Oper.wp
  generalize (execOp a.eval o).run P w = r at *
  cases r with
  | ok x w' =>
    cases x <;> simp only [Oper.quietUpon] at h3 <;> simp only [Oper.upon]
    case value u => obtain ⟨rfl, rfl⟩ := h3; exact h _ S.wd
    case skip => obtain ⟨rfl, rfl⟩ := h3; exact h _ S.wd
    case enter f args =>
      obtain ⟨rfl, hc⟩ := h3
      exact hc.mono fun e w'' ⟨he, hw''⟩ => by subst he; exact h _ hw''
  | halt x w' => simp only [Oper.quietUpon] at h3
section list
variable {ops : Array Oper} {rest : List Oper} {op : Op} {ty : TypeId} {pos : String} {aft : Array Edge} {v : Value} {d t j : Nat} {p : Bool}
theorem st_nil (h : Q .normal a w) : wpList P ops Q [] a w := h
theorem st_m {d : Option Tmp} (h : Oper.wp P ⟨d, op, ty, pos, aft, none⟩ a w (wpList P ops Q rest) Q) : wpList P ops Q (⟨d, op, ty, pos, aft, none⟩ :: rest) a w :=
  wpList_plain rfl fun _ hK => Oper.wp_mono hK h
theorem st_y (S : St n w0 K L a w) (hy : Ys P ⟨some d, op, ty, pos, aft, none⟩ n K w0 L true v) (hd : Nat.blt d n = true)
    (next : ∀ a w, St n w0 ((d, true, v) :: K) L a w → wpList P ops Q rest a w) : wpList P ops Q (⟨some d, op, ty, pos, aft, none⟩ :: rest) a w :=
  st_m (hy.wp S fun _ hw => next _ _ ⟨S.kn.put hd v, hw⟩)
variable {Z : Act → Prop} {C : World → Prop}
end list
section held
variable {ops : Array Oper} {Lr : List Chunk} {fuel i : Nat} {listed : Array Bool} {op : Op} {ty : TypeId} {pos : String} {aft : Array Edge} {gd : Option (Nat × Bool)} {v : Value} {d t j : Nat} {p : Bool} {md : Region.Mode}
theorem h_begin0 {id : Nat} (S : St n w0 K L a w) (hm : P.follows .mixedOrders = true)
    (h : ∀ a w, St n w0 K L a w → wpAnyH P .any ops Q (Wd w0 L) ops.size (Array.replicate ops.size false) a w) : (Code.region id ops true).wp P Q a w :=
  wp_region_held hm (h _ _ ⟨S.kn, S.wd.drew⟩)
theorem h_take {o : Oper} {v : Value} (S : St n w0 K L a w) (hsub : Lr.Sublist L) (hi : ops[i]? = some o) (hs : Region.noSelect ops = true) (hf : Region.free md ops listed i = true) (hr : (Region.ready md ops listed).contains i = true)
    (hQ : ∀ c a w, Q (.panic c) (a.put o.dst v) w → Q (.panic c) a w) (hy : YieldsIf P ops (Wd w0 Lr) o v a)
    (h : wpAnyH P md ops Q (Wd w0 Lr) fuel (listed.setIfInBounds i true) (a.put o.dst v) w) : wpAnyH P md ops Q (Wd w0 Lr) (fuel + 1) listed a w :=
  wpAnyH_take hi hs hf hr hQ hy (S.wd.sub hsub) h
theorem h_y (S : St n w0 K L a w) (hsub : Lr.Sublist L) (hi : ops[i]? = some ⟨some d, op, ty, pos, aft, none⟩) (hs : Region.noSelect ops = true) (hf : Region.free md ops listed i = true) (hr : (Region.ready md ops listed).contains i = true)
    (hQ : ∀ v c a w, Q (.panic c) (a.put (some d) v) w → Q (.panic c) a w) (hy : Yr P ⟨some d, op, ty, pos, aft, none⟩ n K w0 Lr true v) (hd : Nat.blt d n = true)
    (next : ∀ a w, St n w0 ((d, true, v) :: K) L a w → wpAnyH P md ops Q (Wd w0 Lr) fuel (listed.setIfInBounds i true) a w) : wpAnyH P md ops Q (Wd w0 Lr) (fuel + 1) listed a w :=
  h_take S hsub hi hs hf hr (hQ v) (.inl ⟨rfl, fun w hw => hy a w rfl S.kn hw⟩) (next _ _ ⟨S.kn.put hd v, S.wd⟩)
theorem h_m (hi : ops[i]? = some ⟨some d, op, ty, pos, aft, none⟩) (hr : Region.ready md ops listed = [i])
    (h : Oper.wp P ⟨some d, op, ty, pos, aft, none⟩ a w (fun a' w' => Wd w0 Lr w' ∧ wpAnyH P md ops Q (Wd w0 Lr) fuel (listed.setIfInBounds i true) a' w') Q) : wpAnyH P md ops Q (Wd w0 Lr) (fuel + 1) listed a w :=
  wpAnyH_all hr (by simp) fun k hk => by
    simp only [List.mem_singleton] at hk
    subst hk
    unfold wpOp
    simp only [hi, Region.wanted, if_true]
    exact .inl h
theorem h_q (S : St n w0 K L a w) (hsub : Lr.Sublist L) (hi : ops[i]? = some ⟨some d, op, ty, pos, aft, none⟩) (hr : Region.ready md ops listed = [i]) (hy : Ys P ⟨some d, op, ty, pos, aft, none⟩ n K w0 L true v) (hd : Nat.blt d n = true)
    (next : ∀ a w, St n w0 ((d, true, v) :: K) L a w → wpAnyH P md ops Q (Wd w0 Lr) fuel (listed.setIfInBounds i true) a w) : wpAnyH P md ops Q (Wd w0 Lr) (fuel + 1) listed a w :=
  h_m hi hr (hy.wp S fun w' hw => ⟨hw.sub hsub, next _ _ ⟨S.kn.put hd v, hw⟩⟩)
theorem h_on (S : St n w0 K L a w) (Lr' : List Chunk) (h1 : Lr.Sublist Lr') (h2 : Lr'.Sublist L) (h : wpAnyH P md ops Q (Wd w0 Lr') fuel listed a w) : Wd w0 Lr w ∧ wpAnyH P md ops Q (Wd w0 Lr) fuel listed a w := by
  refine ⟨S.wd.sub (h1.trans h2), ?_⟩
  clear S h2
  induction fuel generalizing listed a w with
  | zero => exact h
  | succ fuel ih => exact ⟨h.1, fun i hi => wpOp_mono (fun a' w' h' => ⟨h'.1.sub h1, ih h'.2⟩) (h.2 i hi)⟩
theorem h_done (hr : Region.ready md ops listed = []) (h : Q .normal a w) : wpAnyH P md ops Q (Wd w0 Lr) fuel listed a w := wpAnyH_done hr h fuel
end held
end code
end Go.Ft
set_option linter.unusedVariables false
set_option linter.unusedSimpArgs false
namespace Go.Fw
open Go.RowKit Go.Sort Go.Proofs Go.Shelf
theorem sort_any {P : Program} {ρ : Ren} (LL : SlLaysF0.n6 P ρ) {α : Type} [Inhabited α] (k : Nat) (hk0 : 0 < k) (aE : ∀ w, (isAgg (ρ.t 24)).run P w = .ok true w) (zE : ∀ w, (Go.sizeOf (ρ.t 24)).run P w = .ok k w) (enc : α → List Value) (hk : ∀ x, (enc x).length = k) (h1 : ∀ x, ∀ v ∈ enc x, v.oneCell' = true)
    (cf : α → α → Int) (hO : SWO (ltOf cf)) (g : Nat) (eg : ∀ args w, (callFunc g args).run P w = .ok (.enter g args) w) (hcmp : ∀ (x y : α) W, Calls P g #[.agg (enc x).toArray, .agg (enc y).toArray] W fun e w' => e = .returned (.int .i64 (cf x y)) ∧ Go.Ft.Bel W.heap.size W w')
    {w0 w : World} {L : List Chunk} {A : Option Addr} {cap e : Nat} {l : List α} (W : Wd w0 (rowOf e k enc A cap l :: L) w) (hn : l.length ≤ 4194304) :
    RetsO P (ρ.f 6) #[.slice A l.length cap, .func (.func g) #[] #[]] w0 w fun v L' => ∃ l', v = .tuple #[] ∧ l'.Perm l ∧ l'.Pairwise (fun a b => ¬ cf b a < 0) ∧ L' = rowOf e k enc A cap l' :: L := by
  obtain ⟨hlc, hcm⟩ := W.room (k := 0) rfl
  by_cases hc : cap = 0
  · have : l = [] := List.eq_nil_of_length_eq_zero (by omega)
    subst this
    refine Calls.mono (AnyF.slices_SortFunc_none LL A cap _ w) fun e' w' ⟨he, hw⟩ => ?_
    subst hw
    exact ⟨_, _, he, W, [], rfl, List.Perm.refl _, List.Pairwise.nil, rfl⟩
  · obtain ⟨ga, rfl⟩ := W.row_at (k := 0) rfl hc
    obtain ⟨hH, hlt⟩ := holdsK_of W hk hk0 (k := 0) rfl hc
    have hcon := AnyQ.slices_SortFunc LL k aE zE enc hk h1 cf hO g #[] ga 0 cap l.toArray w eg (fun m os dk hs x y => (hcmp x y _).mono fun e' w' ⟨he, hb⟩ => ⟨he, hb.grows⟩) hH hlt (by simp; omega)
    refine Calls.mono hcon fun e' w' ⟨he, d', n, os, ⟨hsz, _, hp⟩, hs, hw⟩ => ?_
    subst hw
    have hlen : d'.toList.length = l.length := by simpa using hsz
    have hW := W.sorted (k := 0) hk hk0 rfl hc (l' := d'.toList) hlen n os
    refine ⟨_, _, he, by simpa using hW, d'.toList, rfl, ?_, ?_, rfl⟩
    · have e1 : d'.extract 0 l.toArray.size = d' := by rw [← hsz]; exact Array.extract_size
      rw [e1, Array.extract_size] at hp
      simpa using hp
    · refine List.pairwise_iff_getElem.2 fun i j hi hj hij => ?_
      have := hs i j (Nat.zero_le _) hij (by simpa using (by omega : j < l.length))
      rw [getElem!_pos d' j (by simpa using hj), getElem!_pos d' i (by simpa using hi)] at this
      simpa [ltOf] using this
end Go.Fw
set_option linter.unusedVariables false
set_option linter.unusedSimpArgs false
namespace Go.Ft
open Go.RowKit
def I64 (x : Int) : Prop := -9223372036854775808 ≤ x ∧ x ≤ 9223372036854775807
theorem wrap_i64 {x : Int} (h : I64 x) : IntKind.i64.wrap x = x := by
  obtain ⟨h1, h2⟩ := h
  rw [IntKind.wrap_i64]; omega
section ops
variable {P : Program} {n : Nat} {w0 : World} {K : KL} {L : List Chunk} {b : Bool} {dst : Option Tmp} {ty : TypeId} {pos : String} {aft : Array Edge} {gd : Option (Nat × Bool)}
theorem ys_move {x : Operand} {v : Value} (hx : Ev n b K x v) : Yr P ⟨dst, .move x, ty, pos, aft, gd⟩ n K w0 L b v := fun a w hb hk _ => by
  simp [execOp, hx a hb hk]
theorem ys_assign {x : Operand} {v : Value} (hx : Ev n b K x v) : Yr P ⟨dst, .assign x, ty, pos, aft, gd⟩ n K w0 L b v := fun a w hb hk _ => by
  simp [execOp, hx a hb hk]
def One (P : Program) (t : TypeId) : Prop := (∀ w, (isAgg t).run P w = .ok false w) ∧ ∀ w, (sizeOf t).run P w = .ok 1 w
def Many (P : Program) (t : TypeId) (k : Nat) : Prop := (∀ w, (isAgg t).run P w = .ok true w) ∧ ∀ w, (sizeOf t).run P w = .ok k w
def Size (P : Program) (t : TypeId) (k : Nat) : Prop := ∀ w, (sizeOf t).run P w = .ok k w
def nth : List Value → Nat → Option Value
  | [], _ => none
  | v :: _, 0 => some v
  | _ :: r, i + 1 => nth r i
theorem nth_eq : ∀ (cs : List Value) (i : Nat), nth cs i = cs[i]?
  | [], i => by simp [nth]
  | v :: r, 0 => by simp [nth]
  | v :: r, i + 1 => by simp [nth, nth_eq r i]
def upto : List Value → Nat → Option (List Value)
  | _, 0 => some []
  | [], _ + 1 => none
  | v :: r, k + 1 => match upto r k with
    | some l => some (v :: l)
    | none => none
def cellsAt : List Value → Nat → Nat → Option (List Value)
  | cs, 0, k => upto cs k
  | [], _ + 1, _ => none
  | _ :: r, i + 1, k => cellsAt r i k
theorem upto_eq : ∀ {cs : List Value} {k : Nat} {vs : List Value}, upto cs k = some vs → vs.length = k ∧ vs = cs.take k
  | cs, 0, vs, h => by cases cs <;> simp [upto] at h <;> simp [h]
  | [], k + 1, vs, h => by simp [upto] at h
  | v :: r, k + 1, vs, h => by
    unfold upto at h
    split at h
    · rename_i l hl
      obtain ⟨h1, h2⟩ := upto_eq hl
      simp only [Option.some.injEq] at h
      subst h
      exact ⟨by simp [h1], by simp [← h2]⟩
    · cases h
theorem cellsAt_eq : ∀ {cs : List Value} {i k : Nat} {vs : List Value}, cellsAt cs i k = some vs → vs.length = k ∧ vs = (cs.drop i).take k
  | cs, 0, k, vs, h => by cases cs <;> exact upto_eq h
  | [], i + 1, k, vs, h => by simp [cellsAt] at h
  | v :: r, i + 1, k, vs, h => by simpa using cellsAt_eq (cs := r) (i := i) h
theorem run_load_one {t : TypeId} (h1 : One P t) {w : World} {ad : Addr} {v : Value} (hc : w.cell? ad = some v) : (loadVar t ad).run P w = .ok v w := by
  simp [loadVar, Sem.run_bind, h1.1, run_load, hc]
theorem run_load_many {t : TypeId} {k : Nat} (h1 : Many P t k) {w : World} {ad : Addr} {vs : List Value} (hl : vs.length = k) (hc : ∀ j u, vs[j]? = some u → w.cell? (ad.add j) = some u) :
    (loadVar t ad).run P w = .ok (.agg vs.toArray) w := by
  have h := run_loadCells_list (P := P) w ad vs hc
  rw [hl] at h
  simp [loadVar, Sem.run_bind, h1.1, h1.2, h]
theorem ys_ld {t : TypeId} {x : Operand} {g i k : Nat} {cs : List Value} {e : TypeId} {fr : Nat × Nat} {v : Value} (h1 : One P t) (hx : Ev n b K x (.pointer (some ⟨g, i, none⟩)))
    (hk : L[k]? = some (.blk g (.cells cs.toArray e fr))) (hc : nth cs i = some v) : Yr P ⟨dst, .load t x, ty, pos, aft, gd⟩ n K w0 L b v := fun a w hb hkn hw => by
  have hg := (hw.get hk).2
  simp [execOp, hx a hb hkn, Instr.loadAt, Instr.sureAddr, run_load_one h1 (ad := ⟨g, i, none⟩) ((cell_of_row w g i _ e fr hg).trans (by rw [nth_eq] at hc; simpa using hc))]
theorem ys_ldO {t : TypeId} {x : Operand} {ad : Addr} {v : Value} (h1 : One P t) (hx : Ev n b K x (.pointer (some ad))) (hc : b = true → w0.cell? ad = some v) : Yr P ⟨dst, .load t x, ty, pos, aft, gd⟩ n K w0 L b v := fun a w hb hkn hw => by
  have hc' := hc hb
  have h := (hw.below.cell (World.block_lt_of_cell? w0 ad hc')).trans hc'
  simp [execOp, hx a hb hkn, Instr.loadAt, Instr.sureAddr, run_load_one h1 h]
theorem Owns.cell {w : World} {B e size n cap g : Nat} {xs : List Value} (h : Owns w B e size (some ⟨g, 0, none⟩) n cap xs) {j : Nat} {u : Value} (hj : xs[j]? = some u) : w.cell? ⟨g, j, none⟩ = some u := by
  rcases h.2 with ⟨h0, _⟩ | ⟨g', cur, hA, _, _, hg, _, _, _, ht⟩
  · have h1 := h.1
    rw [h0] at h1
    have : xs = [] := List.eq_nil_of_length_eq_zero (by simpa using h1)
    subst this; simp at hj
  · simp only [Option.some.injEq, Addr.mk.injEq] at hA
    obtain ⟨rfl, _, _⟩ := hA
    rw [cell_of_row w _ j cur e (0, 0) hg]
    rw [← ht, List.getElem?_take] at hj
    split at hj
    · simpa using hj
    · cases hj
def FieldT (P : Program) (s : TypeId) (f o : Nat) : Prop := ∀ w ad, (Instr.fieldAt s (.pointer (some ad)) f).run P w = .ok (.pointer (some (ad.add o))) w
theorem FieldT.mk {s f : Nat} {fs : Array Field} {nm : String} {tt o : Nat} {em : Bool} {tg pp : String} {bo : Nat} {m : Nat} (hu : P.underlying s = some (.struct fs)) (hf : fs[f]? = some ⟨nm, tt, o, em, tg, pp, bo⟩) (hz : ∀ w, (sizeOf tt).run P w = .ok m w) (hm : Nat.blt 0 m = true) : FieldT P s f o := fun w ad => by
  have hm' : m ≠ 0 := by have := Nat.le_of_ble_eq_true hm; omega
  simp [Instr.fieldAt, run_underlying hu, hf, Instr.sureAddr, fieldPlace, hz, hm']
theorem ys_field {s f o : Nat} {x : Operand} {g i : Nat} (h1 : FieldT P s f o) (hx : Ev n b K x (.pointer (some ⟨g, i, none⟩))) : Yr P ⟨dst, .fieldAddr s x f, ty, pos, aft, gd⟩ n K w0 L b (.pointer (some ⟨g, i + o, none⟩)) := fun a w hb hkn _ => by
  have h := h1 w ⟨g, i, none⟩
  rw [Addr.add_mid] at h
  simp [execOp, hx a hb hkn, h]
theorem ys_fieldN {s f o : Nat} {x : Operand} {g i i' : Nat} (h1 : FieldT P s f o) (hx : Ev n b K x (.pointer (some ⟨g, i, none⟩))) (hi : i + o = i') : Yr P ⟨dst, .fieldAddr s x f, ty, pos, aft, gd⟩ n K w0 L b (.pointer (some ⟨g, i', none⟩)) := hi ▸ ys_field h1 hx
def SliceT (P : Program) (t e : TypeId) : Prop := P.underlying t = some (.slice e)
theorem ys_ixS {t e sz : Nat} {x y : Operand} {g o len cap j : Nat} {ik : IntKind} (h1 : SliceT P t e) (h2 : Size P e sz) (hx : Ev n b K x (.slice (some ⟨g, o, none⟩) len cap)) (hy : Ev n b K y (.int ik (j : Int))) (h : b = true → j < len) :
    Yr P ⟨dst, .indexAddr t x y, ty, pos, aft, gd⟩ n K w0 L b (.pointer (some ⟨g, o + j * sz, none⟩)) := fun a w hb hkn _ => by
  have h' := h hb
  simp [execOp, hx a hb hkn, hy a hb hkn, Instr.indexAt, run_underlying h1, asIntOf, h2 w, Addr.add_mid]
  intro h4; omega
theorem ys_add {t t' : TypeId} {x y : Operand} {k : IntKind} {p q : Int} (hx : Ev n b K x (.int k p)) (hy : Ev n b K y (.int k q)) : Yr P ⟨dst, .binOp .add t x y t', ty, pos, aft, gd⟩ n K w0 L b (.int k (k.wrap (p + q))) := fun a w hb hkn _ => by
  simp only [execOp, hx a hb hkn, hy a hb hkn]
  simp [eqGuard, binOp, Op.intArith]
theorem Yr.of_imp {o : Oper} {v u : Value} (h : b = true → v = u) (hy : Yr P o n K w0 L b v) : Yr P o n K w0 L b u := fun a w hb hk hw => by
  rw [← h hb]; exact hy a w hb hk hw
theorem ys_addI {t t' : TypeId} {x y : Operand} {p q : Int} (hx : Ev n b K x (.int .i64 p)) (hy : Ev n b K y (.int .i64 q)) (h : b = true → I64 (p + q)) : Yr P ⟨dst, .binOp .add t x y t', ty, pos, aft, gd⟩ n K w0 L b (.int .i64 (p + q)) :=
  Yr.of_imp (fun hb => by rw [wrap_i64 (h hb)]) (ys_add hx hy)
section cmp
variable {t t' : TypeId} {x y : Operand} {k : IntKind} {p q : Int} (hx : Ev n b K x (.int k p)) (hy : Ev n b K y (.int k q))
include hx hy
theorem ys_lss : Yr P ⟨dst, .binOp .lss t x y t', ty, pos, aft, gd⟩ n K w0 L b (.bool (decide (p < q))) := fun a w hb hkn _ => by
  simp only [execOp, hx a hb hkn, hy a hb hkn]
  simp [eqGuard, binOp, Op.intCmp]
theorem ys_gtr : Yr P ⟨dst, .binOp .gtr t x y t', ty, pos, aft, gd⟩ n K w0 L b (.bool (decide (q < p))) := fun a w hb hkn _ => by
  simp only [execOp, hx a hb hkn, hy a hb hkn]
  simp [eqGuard, binOp, Op.intCmp]
theorem ys_neq : Yr P ⟨dst, .binOp .neq t x y t', ty, pos, aft, gd⟩ n K w0 L b (.bool (decide (p ≠ q))) := fun a w hb hkn _ => by
  simp only [execOp, hx a hb hkn, hy a hb hkn]
  simp [eqGuard, binOp, Op.intCmp]
  rw [Bool.eq_iff_iff]; simp
end cmp
def EqT (P : Program) (t : TypeId) (vs us : List Value) (r : Bool) : Prop :=
  ∀ w, (eqGuard .eql t (.tmp 0) (.tmp 0) (.agg vs.toArray) (.agg us.toArray)).run P w = .ok () w ∧ (Op.equalIn 10000 t (.agg vs.toArray) (.agg us.toArray)).run P w = .ok r w
theorem ys_lenS {t t' e : TypeId} {x : Operand} {A : Option Addr} {m c : Nat} (h1 : SliceT P t e) (hx : Ev n b K x (.slice A m c)) : Yr P ⟨dst, .call ⟨.builtin .len, #[x], #[t]⟩, t', pos, aft, gd⟩ n K w0 L b (.int .i64 (m : Int)) := fun a w hb hkn _ => by
  simp [execOp, resolve, invoke, builtin, Builtin.len_, hx a hb hkn, run_underlying h1, goInt]
def lay (cs : List Value) : Nat → List Value → List Value
  | _, [] => cs
  | i, v :: vs => lay (cs.set i v) (i + 1) vs
def fillL (places : Nat → Option (Nat × Nat)) (zs : List Value) : List (Nat × Value) → Option (List Value)
  | [] => some zs
  | (i, v) :: rest => match places i with
    | none => none
    | some (off, size) => bif Nat.beq v.cells.toList.length size && Nat.ble (off + size) zs.length then fillL places (lay zs off v.cells.toList) rest else none
theorem foldl_lay : ∀ (vs : List Value) (off j : Nat) (zs : List Value), (vs.zipIdx j).foldl (fun cs (x : Value × Nat) => cs.setIfInBounds (off + x.2) x.1) zs.toArray = (lay zs (off + j) vs).toArray
  | [], off, j, zs => rfl
  | v :: vs, off, j, zs => by
    simp only [List.zipIdx_cons, List.foldl_cons, lay]
    rw [List.setIfInBounds_toArray, foldl_lay vs off (j + 1)]
    rfl
theorem fill_of : ∀ {places : Nat → Option (Nat × Nat)} {parts : List (Nat × Value)} {zs us : List Value}, fillL places zs parts = some us → Instr.fill places zs.toArray parts = some us.toArray
  | places, [], zs, us, h => by simp [fillL] at h; simp [Instr.fill, h]
  | places, (i, v) :: rest, zs, us, h => by
    unfold fillL at h
    unfold Instr.fill
    split at h
    · cases h
    · rename_i off size hp
      simp only [hp]
      cases hc : (Nat.beq v.cells.toList.length size && Nat.ble (off + size) zs.length) with
      | false => rw [hc] at h; simp at h
      | true =>
        rw [hc] at h
        simp only [cond_true] at h
        simp only [Bool.and_eq_true, Nat.ble_eq] at hc
        obtain ⟨h1, h2⟩ := hc
        have h1' : v.cells.size = size := by simpa using h1
        have h3 : (decide (v.cells.size ≠ size) || decide (off + v.cells.size > zs.toArray.size)) = false := by
          simp [h1']; omega
        have h4 : v.cells.zipIdx.foldl (fun cs (x : Value × Nat) => cs.setIfInBounds (off + x.2) x.1) zs.toArray = (lay zs off v.cells.toList).toArray := by
          have := foldl_lay v.cells.toList off 0 zs
          rw [← Array.foldl_toList, Array.toList_zipIdx]
          simpa using this
        rw [if_neg (by rw [h3]; simp)]
        have h5 := fill_of (places := places) (parts := rest) h
        rw [← h4] at h5
        exact h5
def BuildT (P : Program) (t : TypeId) (zs : List Value) (places : List (Nat × Nat)) : Prop :=
  (∃ z, (∀ w, (zeroValue t).run P w = .ok z w) ∧ z.cells = zs.toArray) ∧ ∃ fs, P.underlying t = some (.struct fs) ∧ ∀ w, (fs.mapM (fun f => do pure (f.offset, ← sizeOf f.type)) : Sem (Array (Nat × Nat))).run P w = .ok places.toArray w
theorem BuildT.run {t : TypeId} {zs : List Value} {places : List (Nat × Nat)} (h : BuildT P t zs places) {parts : List (Nat × Value)} {us : List Value} (hf : fillL (places[·]?) zs parts = some us) (w : World) : (Instr.build t parts.toArray).run P w = .ok (.agg us.toArray) w := by
  obtain ⟨⟨z, hz, hc⟩, fs, hu, hm⟩ := h
  have h1 : Instr.fill (fun x => places[x]?) zs.toArray parts = some us.toArray := fill_of hf
  simp only [Instr.build, Sem.run_bind, hz, Result.andThen_ok, run_underlying hu, hm, hc]
  simp [h1]
theorem ys_call {f : FuncId} {xs : List Operand} {ts : Array TypeId} {vs : List Value} {v : Value} (hf : ∀ args w, (callFunc f args).run P w = .ok (.enter f args) w) (hx : EvL n b K xs vs)
    (hc : b = true → ∀ w, Wd w0 L w → Calls P f vs.toArray w fun e w' => e = .returned v ∧ Bel w.heap.size w w') : Ys P ⟨dst, .call ⟨.value (.func f), xs.toArray, ts⟩, ty, pos, aft, gd⟩ n K w0 L b v := fun a w hb hkn hw => by
  have e : (xs.toArray.map a.eval) = vs.toArray := by rw [List.map_toArray, hx a hb hkn]
  have hrun : (execOp a.eval ⟨dst, .call ⟨.value (.func f), xs.toArray, ts⟩, ty, pos, aft, gd⟩).run P w = .ok (.enter f vs.toArray) w := by
    simp only [execOp, resolve, e]
    simp [Act.eval, Deferred.ofValue, invoke, hf]
  rw [hrun]
  exact ⟨rfl, (hc hb w hw).mono fun e w' ⟨he, hbl⟩ => ⟨he, hw.step hbl⟩⟩
end ops
section movers
variable {P : Program} {n : Nat} {w0 : World} {K : KL} {L : List Chunk} {ty : TypeId} {pos : String} {aft : Array Edge} {gd : Option (Nat × Bool)} {a : Act} {w : World} {Z : Act → World → Prop} {Q : Exit → Act → World → Prop} {d : Nat}
theorem run_wp {o : Oper} {v : Value} {w' : World} (hr : (execOp a.eval o).run P w = .ok (.value v) w') (h : Z (a.put o.dst v) w') : o.wp P a w Z Q := by
  unfold Oper.wp; rw [hr]; exact h
theorem op_box {t : TypeId} {x : Operand} {vs : List Value} (S : St n w0 K L a w) (hx : Ev n true K x (.agg vs.toArray)) (hd : Nat.blt d n = true)
    (next : ∀ g a w, St n w0 ((d, true, .pointer (some ⟨g, 0, none⟩)) :: K) (.blk g (.cells vs.toArray t) :: L) a w → Z a w) : Oper.wp P ⟨some d, .box t x, ty, pos, aft, gd⟩ a w Z Q := by
  refine run_wp (v := .pointer (some ⟨w.heap.size, 0, none⟩)) (w' := w.alloc (.cells vs.toArray t)) ?_ (next _ _ _ ⟨S.kn.put hd _, S.wd.alloc _⟩)
  simp [execOp, hx a rfl S.kn, Instr.box, newVar, newRow, Value.cells]
end movers
section ends
variable {P : Program} {n : Nat} {w0 : World} {K : KL} {L : List Chunk} {a : Act} {w : World} {fn : Func} {R : Ending → World → Prop} {t : Nat} {v : Value}
theorem st_ret (S : St n w0 K L a w) (hr : (results fn a.tmps).run P w = .ok v w) (h : R (.returned v) w) : bodyPost P fn R .ret a w := ⟨S.kn.defers, v, hr, h⟩
def res1 (tmps : Array Value) (r : ResultVar) : Sem Value := match r with
  | .tmp t => pure (tmps.getD t undef)
  | .cell a t => do loadVar t (← asAddr (tmps.getD a undef))
theorem results_eq (fn : Func) (tmps : Array Value) : results fn tmps = (do let vs ← fn.results.mapM (res1 tmps); pure (if h : vs.size = 1 then vs[0] else .tuple vs)) := rfl
def Rv (P : Program) (n : Nat) (w0 : World) (K : KL) (L : List Chunk) (r : ResultVar) (v : Value) : Prop :=
  ∀ a w, Kn n K a → Wd w0 L w → (res1 a.tmps r).run P w = .ok v w
theorem Rv.tmp (h : look K t = some (true, v)) : Rv P n w0 K L (.tmp t) v := fun a w hk _ => by
  simp [res1, hk.slot t true v h]
theorem Rv.cell {ty m : Nat} {g k : Nat} {cs : List Value} {e : TypeId} {fr : Nat × Nat} (h1 : Many P ty m) (h : look K t = some (true, .pointer (some ⟨g, 0, none⟩))) (hk : L[k]? = some (.blk g (.cells cs.toArray e fr))) (hm : cs.length = m) :
    Rv P n w0 K L (.cell t ty) (.agg cs.toArray) := fun a w hkn hw => by
  have hg := (hw.get hk).2
  have h2 := run_load_many (P := P) (ad := ⟨g, 0, none⟩) h1 hm (w := w) (fun j u hj => by
    rw [Addr.add_mid, cell_of_row w g (0 + j) _ e fr hg]; simpa using hj)
  simp [res1, hkn.slot t true _ h, asAddr, h2]
theorem results1 {fn : Func} {r : ResultVar} (S : St n w0 K L a w) (h : fn.results = #[r]) (hv : Rv P n w0 K L r v) : (results fn a.tmps).run P w = .ok v w := by
  have h1 := hv a w S.kn S.wd
  simp [results_eq, h, h1]
end ends
end Go.Ft
namespace Go.Ft
open Go.RowKit
theorem then_normal {K : Act → World → Prop} {Q : Exit → Act → World → Prop} {a : Act} {w : World} (h : K a w) : Exit.then K Q .normal a w := h
section exits
variable {K : Act → World → Prop} {Q : Exit → Act → World → Prop} {a : Act} {w : World} {i j : Nat}
theorem then_ret (h : Q .ret a w) : Exit.then K Q .ret a w := h
theorem then_exit (h : Q (.exit i) a w) : Exit.then K Q (.exit i) a w := h
theorem in_ret (h : Q .ret a w) : Exit.inBlock i Q .ret a w := h
theorem in_normal (h : Q .normal a w) : Exit.inBlock i Q .normal a w := h
theorem in_here (h : Q .normal a w) : Exit.inBlock i Q (.exit i) a w := by simp [Exit.inBlock, h]
end exits
def Sl {α : Type} (enc : α → List Value) (size : Nat) (w : World) (B : Nat) (v : Value) (l : List α) : Prop :=
  ∃ A cap, v = .slice A l.length cap ∧ l.length ≤ cap ∧ cap ≤ 9223372036854775807 ∧
    (0 < l.length → ∃ g o, A = some ⟨g, o, none⟩ ∧ g < B ∧ ∀ k x, l[k]? = some x → ∀ j u, (enc x)[j]? = some u → w.cell? ⟨g, o + k * size + j, none⟩ = some u)
section sl
variable {α : Type} {enc : α → List Value} {size : Nat} {w w' w0 : World} {B B' : Nat} {v : Value} {l : List α} {L : List Chunk}
theorem Sl.keep (h : Sl enc size w B v l) (hk : Below B w w') : Sl enc size w' B v l := by
  obtain ⟨A, cap, rfl, h1, h2, h3⟩ := h
  refine ⟨A, cap, rfl, h1, h2, fun hl => ?_⟩
  obtain ⟨g, o, hA, hg, hc⟩ := h3 hl
  exact ⟨g, o, hA, hg, fun k x hx j u hu => (hk.cell (p := ⟨g, o + k * size + j, none⟩) hg).trans (hc k x hx j u hu)⟩
theorem Sl.mono (h : Sl enc size w B v l) (hB : B ≤ B') : Sl enc size w B' v l := by
  obtain ⟨A, cap, rfl, h1, h2, h3⟩ := h
  refine ⟨A, cap, rfl, h1, h2, fun hl => ?_⟩
  obtain ⟨g, o, hA, hg, hc⟩ := h3 hl
  exact ⟨g, o, hA, by omega, hc⟩
end sl
end Go.Ft
set_option linter.unusedVariables false
set_option linter.unusedSimpArgs false
namespace Go.Ft
open Go.RowKit
def InfoT (P : Program) (e : TypeId) (z : Value) (size bytes : Nat) : Prop := (P.info? e).map (fun i => (i.zero, i.size, i.bytes)) = some (some z, size, bytes)
theorem InfoT.parts {P : Program} {e : TypeId} {z : Value} {size bytes : Nat} (h : InfoT P e z size bytes) : ∃ i, P.info? e = some i ∧ i.zero = some z ∧ i.size = size ∧ i.bytes = bytes := by
  unfold InfoT at h
  cases hi : P.info? e with
  | none => rw [hi] at h; simp at h
  | some i => rw [hi] at h; simp at h; exact ⟨i, rfl, h⟩
structure Src (P : Program) (w : World) (size : Nat) (x : Value) (m : Nat) (news : List Value) : Prop where
  len : ∀ W, (Builtin.lenOf x).run P W = .ok m W
  here : (Builtin.firstCells size m x).run P w = .ok news.toArray w
  drew : (Builtin.firstCells size m x).run P w.drew = .ok news.toArray w.drew
  length : news.length = m * size
  one : ∀ u ∈ news, u.oneCell' = true
section src
variable {P : Program} {w : World} {size m : Nat} {news : List Value}
theorem Src.at_ {g o c : Nat} (hl : news.length = m * size) (h1 : ∀ u ∈ news, u.oneCell' = true) (h : ∀ j u, news[j]? = some u → w.cell? ⟨g, o + j, none⟩ = some u) : Src P w size (.slice (some ⟨g, o, none⟩) m c) m news :=
  ⟨fun W => by simp [Builtin.lenOf],
   run_firstCells_some (P := P) w size m ⟨g, o, none⟩ m c news hl (fun j u hj => by rw [Addr.add_mid]; exact h j u hj),
   run_firstCells_some (P := P) w.drew size m ⟨g, o, none⟩ m c news hl (fun j u hj => by rw [Addr.add_mid]; exact h j u hj), hl, h1⟩
theorem Src.none_ {A : Option Addr} {c : Nat} : Src P w size (.slice A 0 c) 0 [] := by
  cases A with
  | none => exact ⟨fun W => by simp [Builtin.lenOf], by simp [Builtin.firstCells], by simp [Builtin.firstCells], by simp, by simp⟩
  | some a => exact ⟨fun W => by simp [Builtin.lenOf], by simp [Builtin.firstCells, loadCells, loadCellsFrom], by simp [Builtin.firstCells, loadCells, loadCellsFrom], by simp, by simp⟩
theorem Src.blk {L : List Chunk} {w0 : World} (hw : Wd w0 L w) {k g c : Nat} {e : TypeId} {fr : Nat × Nat} (hk : L[k]? = some (.blk g (.cells news.toArray e fr))) (hl : news.length = m * size) (h1 : ∀ u ∈ news, u.oneCell' = true) : Src P w size (.slice (some ⟨g, 0, none⟩) m c) m news :=
  Src.at_ hl h1 (fun j u hj => by rw [cell_of_row w g (0 + j) _ e fr (hw.get hk).2]; simpa using hj)
theorem Src.row {L : List Chunk} {w0 : World} (hw : Wd w0 L w) {k e cap c : Nat} {A : Option Addr} (hk : L[k]? = some (.row e size A m cap news)) (h1 : ∀ u ∈ news, u.oneCell' = true) : Src P w size (.slice A m c) m news := by
  have h := hw.get hk
  rcases h.2 with ⟨rfl, _⟩ | ⟨g, cur, rfl, _⟩
  · have : news = [] := List.eq_nil_of_length_eq_zero (by simpa using h.1)
    subst this
    exact Src.none_
  · exact Src.at_ h.1 h1 (fun j u hj => by rw [Nat.zero_add]; exact Owns.cell h hj)
theorem Src.sl {α : Type} {enc : α → List Value} {B : Nat} {A : Option Addr} {l : List α} {cap c : Nat} (h : Sl enc size w B (.slice A l.length cap) l) (hsz : 0 < size) (he : ∀ x, (enc x).length = size) (h1 : ∀ x, ∀ u ∈ enc x, u.oneCell' = true) :
    Src P w size (.slice A l.length c) l.length (l.flatMap enc) := by
  have hlen : ∀ l : List α, (l.flatMap enc).length = l.length * size := by
    intro l
    induction l with
    | nil => simp
    | cons x r ih => simp [he, ih, Nat.add_mul, Nat.add_comm]
  have hget : ∀ (l : List α) (j : Nat) (u : Value), (l.flatMap enc)[j]? = some u → ∃ x, l[j / size]? = some x ∧ (enc x)[j % size]? = some u := by
    intro l
    induction l with
    | nil => intro j u hj; simp at hj
    | cons x r ih =>
      intro j u hj
      rw [List.flatMap_cons, List.getElem?_append] at hj
      split at hj
      · rename_i hlt
        rw [he] at hlt
        exact ⟨x, by simp [Nat.div_eq_of_lt hlt], by rw [Nat.mod_eq_of_lt hlt]; exact hj⟩
      · rename_i hge
        rw [he] at hge hj
        obtain ⟨y, h2, h3⟩ := ih _ _ hj
        have hge' : size ≤ j := by omega
        refine ⟨y, ?_, ?_⟩
        · rw [show j / size = (j - size) / size + 1 from Nat.div_eq_sub_div hsz hge']
          simpa using h2
        · rw [Nat.mod_eq_sub_mod hge']; exact h3
  obtain ⟨A', cap', hv, h2, h3, h4⟩ := h
  simp only [Value.slice.injEq] at hv
  obtain ⟨rfl, _, rfl⟩ := hv
  rcases Nat.eq_zero_or_pos l.length with h0 | hp
  · have : l = [] := List.eq_nil_of_length_eq_zero h0
    subst this
    exact Src.none_
  · obtain ⟨g, o, rfl, hg, hc⟩ := h4 hp
    refine Src.at_ (hlen l) (fun u hu => ?_) (fun j u hj => ?_)
    · obtain ⟨x, _, hx⟩ := List.mem_flatMap.1 hu
      exact h1 x u hx
    · obtain ⟨x, h5, h6⟩ := hget l j u hj
      have := hc _ x h5 _ u h6
      rw [show o + j = o + j / size * size + j % size by rw [Nat.add_assoc, Nat.mul_comm, Nat.div_add_mod]]
      exact this
end src
section app
variable {P : Program} {w : World}
end app
end Go.Ft
set_option linter.unusedVariables false
set_option linter.unusedSimpArgs false
namespace Go.Ft
open Go.RowKit
abbrev rowOf {α : Type} (e size : Nat) (enc : α → List Value) (A : Option Addr) (cap : Nat) (l : List α) : Chunk := .row e size A l.length cap (l.flatMap enc)
theorem Sl.of_own {α : Type} {enc : α → List Value} {size e cap k : Nat} {w w0 : World} {L : List Chunk} {A : Option Addr} {l : List α} (W : Wd w0 L w) (hk : L[k]? = some (rowOf e size enc A cap l)) (he : ∀ x, (enc x).length = size) : Sl enc size w w.heap.size (.slice A l.length cap) l := by
  have h := W.get hk
  rcases h.2 with ⟨h0, rfl⟩ | ⟨g, cur, rfl, hp, hB, hg, hn, hm, hc, ht⟩
  · exact ⟨A, 0, rfl, by omega, by omega, fun hl => by omega⟩
  · refine ⟨_, cap, rfl, hn, hm, fun _ => ⟨g, 0, rfl, (Array.getElem?_eq_some_iff.1 hg).1, fun i x hx j u hu => ?_⟩⟩
    rw [Nat.zero_add]
    refine Owns.cell h ?_
    have key : ∀ (l : List α) (i : Nat), l[i]? = some x → (l.flatMap enc)[i * size + j]? = some u := by
      intro l
      induction l with
      | nil => intro i hi; simp at hi
      | cons y r ih =>
        intro i hi
        rw [List.flatMap_cons]
        match i, hi with
        | 0, hi =>
          simp only [List.getElem?_cons_zero, Option.some.injEq] at hi
          subst hi
          have hlt : j < (enc y).length := (List.getElem?_eq_some_iff.1 hu).1
          rw [Nat.zero_mul, Nat.zero_add, List.getElem?_append_left hlt]; exact hu
        | i + 1, hi =>
          rw [List.getElem?_append_right (by rw [he, Nat.add_mul]; omega), he, show (i + 1) * size + j - size = i * size + j by rw [Nat.add_mul]; omega]
          exact ih i (by simpa using hi)
    exact key l i hx
section ldw
variable {P : Program} {n : Nat} {w0 : World} {K : KL} {L : List Chunk} {b : Bool} {dst : Option Tmp} {ty : TypeId} {pos : String} {aft : Array Edge} {gd : Option (Nat × Bool)}
end ldw
section movers
variable {P : Program} {n : Nat} {w0 : World} {K : KL} {L : List Chunk} {ty : TypeId} {pos : String} {aft : Array Edge} {gd : Option (Nat × Bool)} {a : Act} {w : World} {Z : Act → World → Prop} {Q : Exit → Act → World → Prop} {d : Nat}
theorem op_bslice {t e sz len : Nat} {z : Value} {ps : List (Nat × Operand)} {vs us : List Value} (zs : List Value) (S : St n w0 K L a w) (ht : P.underlying t = some (.slice e)) (hsz : ∀ w, (sizeOf e).run P w = .ok sz w) (hz : ∀ w, (zeroValue e).run P w = .ok z w)
    (hzs : (Array.range (len * sz)).map (fun i => (if len * sz = 0 then #[] else z.cells)[i % (if len * sz = 0 then (#[] : Array Value) else z.cells).size]!) = zs.toArray) (hmax : Nat.ble (len * sz) 16777216 = true)
    (hx : EvL n true K (ps.map (·.2)) vs) (hr : fillL (fun i => some (i * sz, sz)) zs ((ps.map (·.1)).zip vs) = some us) (hd : Nat.blt d n = true)
    (next : ∀ g a w, St n w0 ((d, true, .slice (some ⟨g, 0, none⟩) len len) :: K) (.blk g (.cells us.toArray e) :: L) a w → Z a w) :
    Oper.wp P ⟨some d, .buildSlice t len ps.toArray, ty, pos, aft, gd⟩ a w Z Q := by
  refine run_wp (v := .slice (some ⟨w.heap.size, 0, none⟩) len len) (w' := w.alloc (.cells us.toArray e)) ?_ (next _ _ _ ⟨S.kn.put hd _, S.wd.alloc _⟩)
  have h := hx a rfl S.kn
  have e : (ps.toArray.map fun (i, x) => (i, a.eval x)) = ((ps.map (·.1)).zip vs).toArray := by
    rw [← h]
    simp only [List.map_toArray, List.map_map, List.zip_map', Function.comp_def]
  have hf := fill_of hr
  have hm : ¬ (2 ^ 24 < len * sz) := by have := Nat.le_of_ble_eq_true hmax; omega
  simp only [execOp, e, Instr.buildSlice, Sem.run_bind, run_underlying ht, Result.andThen_ok, hsz]
  by_cases h0 : len * sz = 0
  · simp only [h0, if_true, Array.range_zero', List.map_toArray, List.map_nil] at hzs
    have hz0 : zs = [] := by simpa using hzs.symm
    subst hz0
    simp [hm, h0, hf, newRow, Array.range_zero']
  · simp only [h0, if_false] at hzs
    simp [hm, h0, hz, hzs, hf, newRow]
end movers
section ops
variable {P : Program} {n : Nat} {w0 : World} {K : KL} {L : List Chunk} {b : Bool} {dst : Option Tmp} {ty : TypeId} {pos : String} {aft : Array Edge} {gd : Option (Nat × Bool)}
end ops
section eq
variable {P : Program}
def FEq (P : Program) (k : Nat) (xs ys : List Value) (fs : List Field) (r : Bool) : Prop := ∀ d w, (Op.eqFields (d + k) xs.toArray ys.toArray fs).run P w = .ok r w
section fields
variable {xs ys : List Value} {nm : String} {tt o : Nat} {em : Bool} {tg pp : String} {bo : Nat} {fs : List Field} {r : Bool} {k : Nat}
theorem FEq.nil : FEq P k xs ys [] true := fun d w => by simp [Op.eqFields]
theorem FEq.int {ik ik' : IntKind} {p q : Int} (hn : (nm != "_") = true) (ht : P.underlying tt = some (.int ik')) (ha : ∀ w, (isAgg tt).run P w = .ok false w) (hx : nth xs o = some (.int ik p)) (hy : nth ys o = some (.int ik q)) (h : FEq P (k + 1) xs ys fs r) :
    FEq P (k + 1) xs ys (⟨nm, tt, o, em, tg, pp, bo⟩ :: fs) (decide (p = q) && r) := fun d w => by
  have hn' : nm ≠ "_" := by simpa using hn
  rw [nth_eq] at hx hy
  have hpq : (p == q) = decide (p = q) := rfl
  have hh := run_equalIn_int (P := P) w (d + k) tt ik ik' p q ht
  rw [Nat.add_assoc] at hh
  simp only [Op.eqFields, ne_eq, hn', not_false_eq_true, if_true, Sem.run_bind, part, ha, Result.andThen_ok]
  simp [hx, hy, hh, hpq]
  by_cases e : p = q <;> simp [e, h d w]
theorem FEq.bool {p q : Bool} (hn : (nm != "_") = true) (ht : P.underlying tt = some .bool) (ha : ∀ w, (isAgg tt).run P w = .ok false w) (hx : nth xs o = some (.bool p)) (hy : nth ys o = some (.bool q)) (h : FEq P (k + 1) xs ys fs r) :
    FEq P (k + 1) xs ys (⟨nm, tt, o, em, tg, pp, bo⟩ :: fs) (decide (p = q) && r) := fun d w => by
  have hn' : nm ≠ "_" := by simpa using hn
  rw [nth_eq] at hx hy
  have hpq : (p == q) = decide (p = q) := by cases p <;> cases q <;> rfl
  have hh := run_equalIn_bool' (P := P) w (d + k) tt p q ht
  rw [Nat.add_assoc] at hh
  simp only [Op.eqFields, ne_eq, hn', not_false_eq_true, if_true, Sem.run_bind, part, ha, Result.andThen_ok]
  simp [hx, hy, hh, hpq]
  by_cases e : p = q <;> simp [e, h d w]
theorem FEq.agg {fs' : List Field} {m : Nat} {us vs : List Value} {r' : Bool} (hn : (nm != "_") = true) (ht : P.underlying tt = some (.struct fs'.toArray)) (hp : P.stoodInHeld tt = false) (ha : ∀ w, (isAgg tt).run P w = .ok true w) (hz : ∀ w, (sizeOf tt).run P w = .ok m w) (hx : cellsAt xs o m = some us) (hy : cellsAt ys o m = some vs)
    (h' : FEq P k us vs fs' r') (h : FEq P (k + 1) xs ys fs r) : FEq P (k + 1) xs ys (⟨nm, tt, o, em, tg, pp, bo⟩ :: fs) (r' && r) := fun d w => by
  have hn' : nm ≠ "_" := by simpa using hn
  have e1 : xs.toArray.extract o (o + m) = us.toArray := by
    rw [(cellsAt_eq hx).2]; simp [List.extract_eq_take_drop, List.extract_toArray]
  have e2 : ys.toArray.extract o (o + m) = vs.toArray := by
    rw [(cellsAt_eq hy).2]; simp [List.extract_eq_take_drop, List.extract_toArray]
  have hh := run_equalIn_struct (P := P) w (d + k) tt us.toArray vs.toArray (by simp [Program.fieldsOf, ht]) hp
  rw [Nat.add_assoc] at hh
  have hf := h' d w
  simp only [Op.eqFields, ne_eq, hn', not_false_eq_true, if_true, Sem.run_bind, part, ha, hz, Result.andThen_ok, Sem.run_pure, e1, e2, hh, Program.fieldsOf, ht, hf]
  cases r' <;> simp [h d w]
end fields
theorem EqT.mk {t k d : Nat} {fs : List Field} {xs ys : List Value} {r r' : Bool} (hu : P.underlying t = some (.struct fs.toArray)) (hs : P.stoodInHeld t = false) (hg : P.eqGuardType P.depth t = false) (hk : d + k = 9999) (h : FEq P k xs ys fs r) (hr : r = r') : EqT P t xs ys r' := fun w => by
  subst hr
  refine ⟨by simp [eqGuard, hg], ?_⟩
  rw [run_equalIn_struct w 9999 t _ _ (by simp [Program.fieldsOf, hu]) hs]
  simp only [Program.fieldsOf, hu]
  rw [← hk]
  exact h d w
end eq
end Go.Ft
set_option linter.unusedVariables false
set_option linter.unusedSimpArgs false
namespace Go.Ft
open Go.RowKit
section ops
variable {P : Program} {n : Nat} {w0 : World} {K : KL} {L : List Chunk} {b : Bool} {dst : Option Tmp} {ty : TypeId} {pos : String} {aft : Array Edge} {gd : Option (Nat × Bool)}
theorem ys_T {o : Oper} {p : Prop} [Decidable p] (h : p) (hy : Yr P o n K w0 L b (.bool (decide p))) : Yr P o n K w0 L b (.bool true) := Yr.of_imp (fun _ => by rw [decide_eq_true h]) hy
theorem ys_F {o : Oper} {p : Prop} [Decidable p] (h : ¬ p) (hy : Yr P o n K w0 L b (.bool (decide p))) : Yr P o n K w0 L b (.bool false) := Yr.of_imp (fun _ => by rw [decide_eq_false h]) hy
end ops
section known
variable {P : Program} {Q : Exit → Act → World → Prop} {n : Nat} {w0 : World} {K : KL} {L Lr : List Chunk} {a : Act} {w : World} {ops : Array Oper} {rest : List Oper} {op : Op} {ty : TypeId} {pos : String} {aft : Array Edge} {v : Value} {d t j i fuel : Nat} {p q : Bool} {listed : Array Bool} {md : Region.Mode} {Z : Act → Prop}
end known
end Go.Ft
set_option linter.unusedVariables false
set_option linter.unusedSimpArgs false
namespace Go.Ft
open Go.RowKit
abbrev bs (l : List UInt8) : ByteArray := ⟨l.toArray⟩
section ops
variable {P : Program} {n : Nat} {w0 : World} {K : KL} {L : List Chunk} {b : Bool} {dst : Option Tmp} {ty : TypeId} {pos : String} {aft : Array Edge} {gd : Option (Nat × Bool)}
end ops
section
variable {P : Program} {n : Nat} {w0 : World} {K : KL} {L : List Chunk} {ty : TypeId} {pos : String} {aft : Array Edge} {gd : Option (Nat × Bool)} {a : Act} {w : World} {Z : Act → World → Prop} {Q : Exit → Act → World → Prop} {d : Nat}
end
theorem Sl.first {P : Program} {w : World} {α : Type} {enc : α → List Value} {size B : Nat} {A : Option Addr} {l : List α} {cap : Nat} (h : Sl enc size w B (.slice A l.length cap) l) (m : Nat) (hm : m ≤ l.length) (hsz : 0 < size) (he : ∀ x, (enc x).length = size) :
    (Builtin.firstCells size m (.slice A l.length cap)).run P w = .ok ((l.take m).flatMap enc).toArray w := by
  have hflen : ∀ l : List α, (l.flatMap enc).length = l.length * size := by
    intro l
    induction l with
    | nil => simp
    | cons x r ih => simp [he, ih, Nat.add_mul, Nat.add_comm]
  obtain ⟨A', cap', hv, h2, h3, h4⟩ := h
  simp only [Value.slice.injEq, true_and] at hv
  obtain ⟨rfl, rfl⟩ := hv
  rcases Nat.eq_zero_or_pos l.length with h0 | hp
  · have : l = [] := List.eq_nil_of_length_eq_zero h0
    subst this
    have : m = 0 := by simpa using hm
    subst this
    cases A <;> simp [Builtin.firstCells, loadCells, loadCellsFrom]
  · obtain ⟨g, o, rfl, hg, hc⟩ := h4 hp
    have hs := Src.sl (P := P) (w := w) (enc := enc) (size := size) (B := B) (c := cap) (l := l.take m) (A := some ⟨g, o, none⟩) (cap := cap) ⟨_, _, rfl, by simp; omega, h3, fun _ => ⟨g, o, rfl, hg, fun k x hx => hc k x (by
      rw [List.getElem?_take] at hx
      split at hx
      · exact hx
      · cases hx)⟩⟩ hsz he
    have hlen : (l.take m).length = m := by simp; omega
    have e2 : (some (⟨g, o, none⟩ : Addr)) = some ⟨g, o, none⟩ := rfl
    refine run_firstCells_some (P := P) w size m ⟨g, o, none⟩ l.length cap _ (by rw [hflen, hlen]) (fun j u hj => ?_)
    rw [Addr.add_mid]
    have hget : ∀ (l : List α) (j : Nat) (u : Value), (l.flatMap enc)[j]? = some u → ∃ x, l[j / size]? = some x ∧ (enc x)[j % size]? = some u := by
      intro l
      induction l with
      | nil => intro j u hj; simp at hj
      | cons x r ih =>
        intro j u hj
        rw [List.flatMap_cons, List.getElem?_append] at hj
        split at hj
        · rename_i hlt
          rw [he] at hlt
          exact ⟨x, by simp [Nat.div_eq_of_lt hlt], by rw [Nat.mod_eq_of_lt hlt]; exact hj⟩
        · rename_i hge
          rw [he] at hge hj
          obtain ⟨y, h2, h3⟩ := ih _ _ hj
          have hge' : size ≤ j := by omega
          refine ⟨y, ?_, ?_⟩
          · rw [show j / size = (j - size) / size + 1 from Nat.div_eq_sub_div hsz hge']
            simpa using h2
          · rw [Nat.mod_eq_sub_mod hge']; exact h3
    obtain ⟨x, h5, h6⟩ := hget _ j u hj
    rw [List.getElem?_take] at h5
    split at h5
    · have := hc _ x h5 _ u h6
      rw [show o + j = o + j / size * size + j % size by rw [Nat.add_assoc, Nat.mul_comm, Nat.div_add_mod]]
      exact this
    · cases h5
section
variable {P : Program} {n : Nat} {w0 : World} {K : KL} {L : List Chunk} {ty : TypeId} {pos : String} {aft : Array Edge} {gd : Option (Nat × Bool)} {a : Act} {w : World} {Z : Act → World → Prop} {Q : Exit → Act → World → Prop} {d : Nat}
end
section
variable {P : Program} {n : Nat} {w0 : World} {K : KL} {L : List Chunk} {ty : TypeId} {pos : String} {aft : Array Edge} {gd : Option (Nat × Bool)} {a : Act} {w : World} {Z : Act → World → Prop} {Q : Exit → Act → World → Prop} {d : Nat}
end
section
variable {P : Program} {Q : Exit → Act → World → Prop} {J : Act → World → Prop} {l i : Nat} {a : Act} {w : World}
theorem st_rounds {c : Code} (n : Nat) (h : Code.rounds P c Q n a w) : (Code.loop c).wp P Q a w := wp_loop_rounds n h
theorem st_round {c : Code} {n : Nat} (h : c.wp P (Exit.then (fun a w => Code.rounds P c Q n a w) Q) a w) : Code.rounds P c Q (n + 1) a w := h
end
section ops
variable {P : Program} {n : Nat} {w0 : World} {K : KL} {L : List Chunk} {b : Bool} {dst : Option Tmp} {ty : TypeId} {pos : String} {aft : Array Edge} {gd : Option (Nat × Bool)}
end ops
end Go.Ft
set_option linter.unusedVariables false
set_option linter.unusedSimpArgs false
namespace Go.Ft
open Go.RowKit
theorem flat_len {α : Type} {enc : α → List Value} {size : Nat} (he : ∀ x, (enc x).length = size) (l : List α) : (l.flatMap enc).length = l.length * size := by
  induction l with
  | nil => simp
  | cons x r ih => simp [he, ih, Nat.add_mul, Nat.add_comm]
theorem flat_get {α : Type} {enc : α → List Value} {size : Nat} (he : ∀ x, (enc x).length = size) (hs : 0 < size) : ∀ (l : List α) (j : Nat) (x : α), l[j / size]? = some x → (l.flatMap enc)[j]? = (enc x)[j % size]?
  | [], j, x, h => by simp at h
  | y :: r, j, x, h => by
    rw [List.flatMap_cons, List.getElem?_append, he]
    split
    · rename_i hlt
      rw [Nat.div_eq_of_lt hlt] at h
      simp at h
      subst h
      rw [Nat.mod_eq_of_lt hlt]
    · rename_i hge
      have hge' : size ≤ j := by omega
      rw [show j / size = (j - size) / size + 1 from Nat.div_eq_sub_div hs hge'] at h
      rw [Nat.mod_eq_sub_mod hge']
      exact flat_get he hs r (j - size) x (by simpa using h)
section
variable {w0 w w' : World} {L : List Chunk}
end
end Go.Ft
set_option linter.unusedVariables false
set_option linter.unusedSimpArgs false
namespace Go.Ft
open Go.RowKit
section ops
variable {P : Program} {n : Nat} {w0 : World} {K : KL} {L : List Chunk} {b : Bool} {dst : Option Tmp} {ty : TypeId} {pos : String} {aft : Array Edge} {gd : Option (Nat × Bool)}
end ops
section
variable {n : Nat} {w0 : World} {K : KL} {L : List Chunk} {a : Act} {w : World} {c : Chunk}
end
theorem Wd.cell {w0 w : World} {L : List Chunk} (W : Wd w0 L w) {k g i : Nat} {cs : List Value} {e : TypeId} {fr : Nat × Nat} {v : Value} (hk : L[k]? = some (.blk g (.cells cs.toArray e fr))) (hc : nth cs i = some v) : w.cell? ⟨g, i, none⟩ = some v := by
  rw [cell_of_row w g i _ e fr (W.get hk).2]
  rw [nth_eq] at hc
  simpa using hc
section split
variable {P : Program} {Q : Exit → Act → World → Prop} {n : Nat} {w0 : World} {K : KL} {L Lr : List Chunk} {a : Act} {w : World} {ops : Array Oper} {fuel : Nat} {listed : Array Bool} {md : Region.Mode}
end split
def zrep (len : Nat) (z : Value) : List Value := (List.replicate len ()).flatMap fun _ => z.cells.toList
theorem zrep_eq {z : Value} {sz : Nat} (len : Nat) (hz : z.cells.size = sz) : (Array.range (len * sz)).map (fun i => (if len * sz = 0 then #[] else z.cells)[i % (if len * sz = 0 then (#[] : Array Value) else z.cells).size]!) = (zrep len z).toArray := by
  have hl : (zrep len z).length = len * sz := by
    unfold zrep
    rw [flat_len (size := sz) (fun _ => by simpa using hz)]; simp
  apply Array.ext
  · simp [hl]
  · intro i h1 h2
    have hi : i < len * sz := by simpa using h1
    have hs : 0 < sz := by rcases Nat.eq_zero_or_pos sz with h | h; rw [h] at hi; simp at hi; exact h
    have hx : (List.replicate len ())[i / sz]? = some () := by
      rw [List.getElem?_replicate, if_pos ((Nat.div_lt_iff_lt_mul hs).2 hi)]
    have h3 := flat_get (enc := fun (_ : Unit) => z.cells.toList) (size := sz) (fun _ => by simpa using hz) hs (List.replicate len ()) i () hx
    have h4 : i % sz < z.cells.size := by rw [hz]; exact Nat.mod_lt _ hs
    rw [Array.getElem_map, Array.getElem_range, if_neg (by omega), hz, getElem!_pos z.cells _ h4]
    have h5 : (zrep len z)[i]? = some z.cells[i % sz] := by
      unfold zrep
      rw [h3, Array.getElem?_toList, Array.getElem?_eq_getElem h4]
    rw [List.getElem_toArray]
    exact (Option.some.inj ((List.getElem?_eq_getElem (by rw [hl]; exact hi)).symm.trans h5)).symm
section
variable {P : Program} {n : Nat} {w0 : World} {K : KL} {L : List Chunk} {ty : TypeId} {pos : String} {aft : Array Edge} {gd : Option (Nat × Bool)} {a : Act} {w : World} {Z : Act → World → Prop} {Q : Exit → Act → World → Prop} {d : Nat}
theorem op_bsliceZ {t e sz len : Nat} {z : Value} {ps : List (Nat × Operand)} {vs us : List Value} (S : St n w0 K L a w) (ht : P.underlying t = some (.slice e)) (hsz : ∀ w, (sizeOf e).run P w = .ok sz w) (hz : ∀ w, (zeroValue e).run P w = .ok z w)
    (hzc : z.cells.size = sz) (hmax : Nat.ble (len * sz) 16777216 = true) (hx : EvL n true K (ps.map (·.2)) vs) (hr : fillL (fun i => some (i * sz, sz)) (zrep len z) ((ps.map (·.1)).zip vs) = some us) (hd : Nat.blt d n = true)
    (next : ∀ g a w, St n w0 ((d, true, .slice (some ⟨g, 0, none⟩) len len) :: K) (.blk g (.cells us.toArray e) :: L) a w → Z a w) :
    Oper.wp P ⟨some d, .buildSlice t len ps.toArray, ty, pos, aft, gd⟩ a w Z Q := op_bslice (zrep len z) S ht hsz hz (zrep_eq len hzc) hmax hx hr hd next
end
end Go.Ft
set_option linter.unusedVariables false
set_option linter.unusedSimpArgs false
namespace Go.Ft
open Go.Proofs Go.RowKit
section
variable {P : Program} {n : Nat} {w0 : World} {K : KL} {L : List Chunk} {ty : TypeId} {pos : String} {aft : Array Edge} {gd : Option (Nat × Bool)} {a : Act} {w : World} {Z : Act → World → Prop} {Q : Exit → Act → World → Prop} {d : Nat} {dst : Option Tmp} {b : Bool}
variable {K' : Act → World → Prop} {i : Nat} {ps : List PanicEntry}
end
section
variable {P : Program} {f : FuncId} {fn : Func} {c : Code} {R : Ending → World → Prop} {w0 w : World} {L : List Chunk} {v0 v1 v2 v3 v4 v5 v6 v7 v8 : Value}
end
theorem Sl.sub {w : World} {α : Type} {enc : α → List Value} {size B : Nat} {A : Option Addr} {l : List α} {cap : Nat} (h : Sl enc size w B (.slice A l.length cap) l) (lo hi : Nat) (hlo : lo ≤ hi) (hhi : hi ≤ l.length) :
    Sl enc size w B (.slice (if cap = lo then A else A.map (·.add (lo * size))) (hi - lo) (cap - lo)) ((l.drop lo).take (hi - lo)) := by
  obtain ⟨A', cap', hv, h2, h3, h4⟩ := h
  simp only [Value.slice.injEq, true_and] at hv
  obtain ⟨rfl, rfl⟩ := hv
  have hl : ((l.drop lo).take (hi - lo)).length = hi - lo := by simp; omega
  refine ⟨if cap = lo then A else A.map (·.add (lo * size)), cap - lo, by rw [hl], by rw [hl]; omega, by omega, fun hp => ?_⟩
  rw [hl] at hp
  obtain ⟨g, o, rfl, hg, hc⟩ := h4 (by omega)
  rw [if_neg (by omega)]
  refine ⟨g, o + lo * size, by simp [Addr.add_mid], hg, fun k x hx j u hu => ?_⟩
  rw [List.getElem?_take] at hx
  split at hx
  · rw [List.getElem?_drop] at hx
    have := hc _ x hx j u hu
    rw [Nat.add_mul] at this
    rw [show o + lo * size + k * size + j = o + (lo * size + k * size) + j by omega]
    exact this
  · cases hx
theorem Src.subS {P : Program} {w : World} {α : Type} {enc : α → List Value} {size B : Nat} {A : Option Addr} {l : List α} {cap lo hi c : Nat} (h : Sl enc size w B (.slice A l.length cap) l) (hsz : 0 < size) (he : ∀ x, (enc x).length = size) (h1 : ∀ x, ∀ u ∈ enc x, u.oneCell' = true) (hlo : lo ≤ hi) (hhi : hi ≤ l.length) :
    Src P w size (.slice (if cap = lo then A else A.map (·.add (lo * size))) (hi - lo) c) ((l.drop lo).take (hi - lo)).length (((l.drop lo).take (hi - lo)).flatMap enc) := by
  have hl : ((l.drop lo).take (hi - lo)).length = hi - lo := by simp; omega
  have h' : Sl enc size w B (.slice (if cap = lo then A else A.map (·.add (lo * size))) ((l.drop lo).take (hi - lo)).length (cap - lo)) ((l.drop lo).take (hi - lo)) := by rw [hl]; exact h.sub lo hi hlo hhi
  have := Src.sl (P := P) (c := c) h' hsz he h1
  rw [hl] at this
  rw [hl]
  exact this
theorem Src.sub {P : Program} {α : Type} {enc : α → List Value} {size e cap k lo hi c : Nat} {w w0 : World} {L : List Chunk} {A : Option Addr} {l : List α} (W : Wd w0 L w) (hk : L[k]? = some (rowOf e size enc A cap l)) (hsz : 0 < size) (he : ∀ x, (enc x).length = size) (h1 : ∀ x, ∀ u ∈ enc x, u.oneCell' = true) (hlo : lo ≤ hi) (hhi : hi ≤ l.length) :
    Src P w size (.slice (if cap = lo then A else A.map (·.add (lo * size))) (hi - lo) c) ((l.drop lo).take (hi - lo)).length (((l.drop lo).take (hi - lo)).flatMap enc) :=
  Src.subS (Sl.of_own W hk he) hsz he h1 hlo hhi
end Go.Ft
set_option linter.unusedVariables false
set_option linter.unusedSimpArgs false
set_option maxRecDepth 100000
set_option maxHeartbeats 4000000
namespace Go.Ft
def cmpI (x y : Int) : Int := if x < y then -1 else if y < x then 1 else 0
def orI (x y : Int) : Int := if x ≠ 0 then x else y
end Go.Ft
namespace Go.Proofs.Ytcglchdbddlnjaa.Tk
open Go.Ft Go.Proofs Go.RowKit
theorem c113 (w0 : World) (x : Int) : Calls Try.prog 113 #[.int .i64 x] w0 fun e w' => e = .returned (.bool false) ∧ Bel w0.heap.size w0 w' := by
  refine enter1 Try.func113 rfl Try.ntmps113 rfl fun a S => ?_
  refine wp_seq_k fun _ hK1 => ?_
  refine wp_region_lit ?_
  (refine st_y S (Yr.ys (ys_assign Ev.c)) rfl ?_; clear S a; intro a w S)
  refine st_nil ?_
  (refine (then_normal (hK1 _ _ ?_)); clear hK1)
  refine wp_seq_k fun _ hK1 => ?_
  refine wp_region_lit ?_
  (refine st_y S (Yr.ys (ys_move (Ev.t rfl))) rfl ?_; clear S a w; intro a w S)
  (refine st_y S (Yr.ys (ys_move (Ev.t rfl))) rfl ?_; clear S a w; intro a w S)
  (refine st_y S (Yr.ys (ys_F (by omega) (ys_neq (Ev.t rfl) (Ev.t rfl)))) rfl ?_; clear S a w; intro a w S)
  (refine st_y S (Yr.ys (ys_assign (Ev.t rfl))) rfl ?_; clear S a w; intro a w S)
  refine st_nil ?_
  (refine (then_normal (hK1 _ _ ?_)); clear hK1)
  refine wp_ret ?_
  refine st_ret S (results1 S Try.results113 (Rv.tmp rfl)) ?_
  exact ⟨by simp, S.wd.below⟩
theorem c112 (w0 : World) (x : Int) : Calls Try.prog 112 #[.int .u64 x] w0 fun e w' => e = .returned (.bool false) ∧ Bel w0.heap.size w0 w' := by
  refine enter1 Try.func112 rfl Try.ntmps112 rfl fun a S => ?_
  refine wp_seq_k fun _ hK1 => ?_
  refine wp_region_lit ?_
  (refine st_y S (Yr.ys (ys_assign Ev.c)) rfl ?_; clear S a; intro a w S)
  refine st_nil ?_
  (refine (then_normal (hK1 _ _ ?_)); clear hK1)
  refine wp_seq_k fun _ hK1 => ?_
  refine wp_region_lit ?_
  (refine st_y S (Yr.ys (ys_move (Ev.t rfl))) rfl ?_; clear S a w; intro a w S)
  (refine st_y S (Yr.ys (ys_move (Ev.t rfl))) rfl ?_; clear S a w; intro a w S)
  (refine st_y S (Yr.ys (ys_F (by omega) (ys_neq (Ev.t rfl) (Ev.t rfl)))) rfl ?_; clear S a w; intro a w S)
  (refine st_y S (Yr.ys (ys_assign (Ev.t rfl))) rfl ?_; clear S a w; intro a w S)
  refine st_nil ?_
  (refine (then_normal (hK1 _ _ ?_)); clear hK1)
  refine wp_ret ?_
  refine st_ret S (results1 S Try.results112 (Rv.tmp rfl)) ?_
  exact ⟨by simp, S.wd.below⟩
theorem c87 (w0 : World) (x y : Int) :
    Calls Try.prog 87 #[.int .i64 x, .int .i64 y] w0 fun e w' => e = .returned (.int .i64 (cmpI x y)) ∧ Bel w0.heap.size w0 w' := by
  refine enter2 Try.func87 rfl Try.ntmps87 rfl fun a S => ?_
  refine wp_seq_k fun _ hK1 => ?_
  refine wp_region_lit ?_
  (refine st_y S (Yr.ys (ys_assign Ev.c)) rfl ?_; clear S a; intro a w S)
  refine st_nil ?_
  (refine (then_normal (hK1 _ _ ?_)); clear hK1)
  refine wp_seq_k fun _ hK1 => ?_
  refine wp_region_lit ?_
  (refine st_y S (Yr.ys (ys_move (Ev.t rfl))) rfl ?_; clear S a w; intro a w S)
  (refine st_y S (ys_call Try.call113 (EvL.cons (Ev.t rfl) EvL.nil) (fun hp w W => c113 _ _)) rfl ?_; clear S a w; intro a w S)
  (refine st_y S (Yr.ys (ys_assign (Ev.t rfl))) rfl ?_; clear S a w; intro a w S)
  refine st_nil ?_
  (refine (then_normal (hK1 _ _ ?_)); clear hK1)
  refine wp_seq_k fun _ hK1 => ?_
  refine wp_region_lit ?_
  (refine st_y S (Yr.ys (ys_move (Ev.t rfl))) rfl ?_; clear S a w; intro a w S)
  (refine st_y S (ys_call Try.call113 (EvL.cons (Ev.t rfl) EvL.nil) (fun hp w W => c113 _ _)) rfl ?_; clear S a w; intro a w S)
  (refine st_y S (Yr.ys (ys_assign (Ev.t rfl))) rfl ?_; clear S a w; intro a w S)
  refine st_nil ?_
  (refine (then_normal (hK1 _ _ ?_)); clear hK1)
  refine wp_seq_k fun _ hK1 => ?_
  refine wp_seq_k fun _ hK2 => ?_
  refine wp_region_lit ?_
  (refine st_y S (Yr.ys (ys_move (Ev.t rfl))) rfl ?_; clear S a w; intro a w S)
  refine st_nil ?_
  (refine (then_normal (hK2 _ _ ?_)); clear hK2)
  refine st_else S (Ev.t rfl) ?_
  refine wp_skip ?_
  (refine (then_normal (hK1 _ _ ?_)); clear hK1)
  refine wp_seq_k fun _ hK1 => ?_
  refine wp_seq_k fun _ hK2 => ?_
  refine wp_region_lit ?_
  (refine st_y S (Yr.ys (ys_move (Ev.t rfl))) rfl ?_; clear S a w; intro a w S)
  refine st_nil ?_
  (refine (then_normal (hK2 _ _ ?_)); clear hK2)
  refine st_else S (Ev.t rfl) ?_
  refine wp_skip ?_
  (refine (then_normal (hK1 _ _ ?_)); clear hK1)
  refine wp_seq_k fun _ hK1 => ?_
  refine wp_seq_k fun _ hK2 => ?_
  refine wp_region_lit ?_
  (refine st_y S (Yr.ys (ys_move (Ev.t rfl))) rfl ?_; clear S a w; intro a w S)
  (refine st_y S (Yr.ys (ys_move (Ev.t rfl))) rfl ?_; clear S a w; intro a w S)
  (refine st_y S (Yr.ys (ys_lss (Ev.t rfl) (Ev.t rfl))) rfl ?_; clear S a w; intro a w S)
  refine st_nil ?_
  (refine (then_normal (hK2 _ _ ?_)); clear hK2)
  refine st_if S (Ev.t rfl) (fun h1 => ?_) (fun h1 => ?_)
  refine wp_seq_k fun _ hK2 => ?_
  refine wp_region_lit ?_
  (refine st_y S (Yr.ys (ys_assign Ev.c)) rfl ?_; clear S a w; intro a w S)
  refine st_nil ?_
  (refine (then_normal (hK2 _ _ ?_)); clear hK2)
  refine wp_ret ?_
  refine (then_ret ?_)
  refine st_ret S (results1 S Try.results87 (Rv.tmp rfl)) ?_
  rotate_left
  refine wp_skip ?_
  (refine (then_normal (hK1 _ _ ?_)); clear hK1)
  refine wp_seq_k fun _ hK1 => ?_
  refine wp_seq_k fun _ hK2 => ?_
  refine wp_region_lit ?_
  (refine st_y S (Yr.ys (ys_move (Ev.t rfl))) rfl ?_; clear S a w; intro a w S)
  (refine st_y S (Yr.ys (ys_move (Ev.t rfl))) rfl ?_; clear S a w; intro a w S)
  (refine st_y S (Yr.ys (ys_gtr (Ev.t rfl) (Ev.t rfl))) rfl ?_; clear S a w; intro a w S)
  refine st_nil ?_
  (refine (then_normal (hK2 _ _ ?_)); clear hK2)
  refine st_if S (Ev.t rfl) (fun h2 => ?_) (fun h2 => ?_)
  refine wp_seq_k fun _ hK2 => ?_
  refine wp_region_lit ?_
  (refine st_y S (Yr.ys (ys_assign Ev.c)) rfl ?_; clear S a w; intro a w S)
  refine st_nil ?_
  (refine (then_normal (hK2 _ _ ?_)); clear hK2)
  refine wp_ret ?_
  refine (then_ret ?_)
  refine st_ret S (results1 S Try.results87 (Rv.tmp rfl)) ?_
  rotate_left
  refine wp_skip ?_
  (refine (then_normal (hK1 _ _ ?_)); clear hK1)
  refine wp_seq_k fun _ hK1 => ?_
  refine wp_region_lit ?_
  (refine st_y S (Yr.ys (ys_assign Ev.c)) rfl ?_; clear S a w; intro a w S)
  refine st_nil ?_
  (refine (then_normal (hK1 _ _ ?_)); clear hK1)
  refine wp_ret ?_
  refine st_ret S (results1 S Try.results87 (Rv.tmp rfl)) ?_
  rotate_left
  · exact ⟨by rw [cmpI, if_pos h1], S.wd.below⟩
  · exact ⟨by rw [cmpI, if_neg h1, if_pos h2], S.wd.below⟩
  · exact ⟨by rw [cmpI, if_neg h1, if_neg h2], S.wd.below⟩
theorem c86 (w0 : World) (x y : Int) :
    Calls Try.prog 86 #[.int .u64 x, .int .u64 y] w0 fun e w' => e = .returned (.int .i64 (cmpI x y)) ∧ Bel w0.heap.size w0 w' := by
  refine enter2 Try.func86 rfl Try.ntmps86 rfl fun a S => ?_
  refine wp_seq_k fun _ hK1 => ?_
  refine wp_region_lit ?_
  (refine st_y S (Yr.ys (ys_assign Ev.c)) rfl ?_; clear S a; intro a w S)
  refine st_nil ?_
  (refine (then_normal (hK1 _ _ ?_)); clear hK1)
  refine wp_seq_k fun _ hK1 => ?_
  refine wp_region_lit ?_
  (refine st_y S (Yr.ys (ys_move (Ev.t rfl))) rfl ?_; clear S a w; intro a w S)
  (refine st_y S (ys_call Try.call112 (EvL.cons (Ev.t rfl) EvL.nil) (fun hp w W => c112 _ _)) rfl ?_; clear S a w; intro a w S)
  (refine st_y S (Yr.ys (ys_assign (Ev.t rfl))) rfl ?_; clear S a w; intro a w S)
  refine st_nil ?_
  (refine (then_normal (hK1 _ _ ?_)); clear hK1)
  refine wp_seq_k fun _ hK1 => ?_
  refine wp_region_lit ?_
  (refine st_y S (Yr.ys (ys_move (Ev.t rfl))) rfl ?_; clear S a w; intro a w S)
  (refine st_y S (ys_call Try.call112 (EvL.cons (Ev.t rfl) EvL.nil) (fun hp w W => c112 _ _)) rfl ?_; clear S a w; intro a w S)
  (refine st_y S (Yr.ys (ys_assign (Ev.t rfl))) rfl ?_; clear S a w; intro a w S)
  refine st_nil ?_
  (refine (then_normal (hK1 _ _ ?_)); clear hK1)
  refine wp_seq_k fun _ hK1 => ?_
  refine wp_seq_k fun _ hK2 => ?_
  refine wp_region_lit ?_
  (refine st_y S (Yr.ys (ys_move (Ev.t rfl))) rfl ?_; clear S a w; intro a w S)
  refine st_nil ?_
  (refine (then_normal (hK2 _ _ ?_)); clear hK2)
  refine st_else S (Ev.t rfl) ?_
  refine wp_skip ?_
  (refine (then_normal (hK1 _ _ ?_)); clear hK1)
  refine wp_seq_k fun _ hK1 => ?_
  refine wp_seq_k fun _ hK2 => ?_
  refine wp_region_lit ?_
  (refine st_y S (Yr.ys (ys_move (Ev.t rfl))) rfl ?_; clear S a w; intro a w S)
  refine st_nil ?_
  (refine (then_normal (hK2 _ _ ?_)); clear hK2)
  refine st_else S (Ev.t rfl) ?_
  refine wp_skip ?_
  (refine (then_normal (hK1 _ _ ?_)); clear hK1)
  refine wp_seq_k fun _ hK1 => ?_
  refine wp_seq_k fun _ hK2 => ?_
  refine wp_region_lit ?_
  (refine st_y S (Yr.ys (ys_move (Ev.t rfl))) rfl ?_; clear S a w; intro a w S)
  (refine st_y S (Yr.ys (ys_move (Ev.t rfl))) rfl ?_; clear S a w; intro a w S)
  (refine st_y S (Yr.ys (ys_lss (Ev.t rfl) (Ev.t rfl))) rfl ?_; clear S a w; intro a w S)
  refine st_nil ?_
  (refine (then_normal (hK2 _ _ ?_)); clear hK2)
  refine st_if S (Ev.t rfl) (fun h1 => ?_) (fun h1 => ?_)
  refine wp_seq_k fun _ hK2 => ?_
  refine wp_region_lit ?_
  (refine st_y S (Yr.ys (ys_assign Ev.c)) rfl ?_; clear S a w; intro a w S)
  refine st_nil ?_
  (refine (then_normal (hK2 _ _ ?_)); clear hK2)
  refine wp_ret ?_
  refine (then_ret ?_)
  refine st_ret S (results1 S Try.results86 (Rv.tmp rfl)) ?_
  rotate_left
  refine wp_skip ?_
  (refine (then_normal (hK1 _ _ ?_)); clear hK1)
  refine wp_seq_k fun _ hK1 => ?_
  refine wp_seq_k fun _ hK2 => ?_
  refine wp_region_lit ?_
  (refine st_y S (Yr.ys (ys_move (Ev.t rfl))) rfl ?_; clear S a w; intro a w S)
  (refine st_y S (Yr.ys (ys_move (Ev.t rfl))) rfl ?_; clear S a w; intro a w S)
  (refine st_y S (Yr.ys (ys_gtr (Ev.t rfl) (Ev.t rfl))) rfl ?_; clear S a w; intro a w S)
  refine st_nil ?_
  (refine (then_normal (hK2 _ _ ?_)); clear hK2)
  refine st_if S (Ev.t rfl) (fun h2 => ?_) (fun h2 => ?_)
  refine wp_seq_k fun _ hK2 => ?_
  refine wp_region_lit ?_
  (refine st_y S (Yr.ys (ys_assign Ev.c)) rfl ?_; clear S a w; intro a w S)
  refine st_nil ?_
  (refine (then_normal (hK2 _ _ ?_)); clear hK2)
  refine wp_ret ?_
  refine (then_ret ?_)
  refine st_ret S (results1 S Try.results86 (Rv.tmp rfl)) ?_
  rotate_left
  refine wp_skip ?_
  (refine (then_normal (hK1 _ _ ?_)); clear hK1)
  refine wp_seq_k fun _ hK1 => ?_
  refine wp_region_lit ?_
  (refine st_y S (Yr.ys (ys_assign Ev.c)) rfl ?_; clear S a w; intro a w S)
  refine st_nil ?_
  (refine (then_normal (hK1 _ _ ?_)); clear hK1)
  refine wp_ret ?_
  refine st_ret S (results1 S Try.results86 (Rv.tmp rfl)) ?_
  rotate_left
  · exact ⟨by rw [cmpI, if_pos h1], S.wd.below⟩
  · exact ⟨by rw [cmpI, if_neg h1, if_pos h2], S.wd.below⟩
  · exact ⟨by rw [cmpI, if_neg h1, if_neg h2], S.wd.below⟩
theorem c85 (w0 : World) (g : Nat) (x y : Int) (h0 : w0.cell? ⟨g, 0, none⟩ = some (.int .i64 x)) (h1 : w0.cell? ⟨g, 1, none⟩ = some (.int .i64 y)) :
    Calls Try.prog 85 #[.slice (some ⟨g, 0, none⟩) 2 2] w0 fun e w' => e = .returned (.int .i64 (orI x y)) ∧ Bel w0.heap.size w0 w' := by
  have rw_1 : (0 : Int) + 1 = ((1 : Nat) : Int) := rfl
  have rw_2 : ((1 : Nat) : Int) + 1 = ((2 : Nat) : Int) := rfl
  refine enter1 Try.func85 rfl Try.ntmps85 rfl fun a S => ?_
  refine wp_seq_k fun _ hK1 => ?_
  refine wp_region_lit ?_
  (refine st_y S (Yr.ys (ys_assign Ev.c)) rfl ?_; clear S a; intro a w S)
  refine st_nil ?_
  (refine (then_normal (hK1 _ _ ?_)); clear hK1)
  refine wp_seq_k fun _ hK1 => ?_
  refine wp_region_lit ?_
  (refine st_y S (Yr.ys (ys_assign Ev.c)) rfl ?_; clear S a w; intro a w S)
  refine st_nil ?_
  (refine (then_normal (hK1 _ _ ?_)); clear hK1)
  refine wp_seq_k fun _ hK1 => ?_
  refine wp_seq_k fun _ hK2 => ?_
  refine wp_region_lit ?_
  (refine st_y S (Yr.ys (ys_move (Ev.t rfl))) rfl ?_; clear S a w; intro a w S)
  (refine st_y S (Yr.ys (ys_lenS Try.underlying40 (Ev.t rfl))) rfl ?_; clear S a w; intro a w S)
  (refine st_y S (Yr.ys (ys_move Ev.c)) rfl ?_; clear S a w; intro a w S)
  refine st_nil ?_
  (refine (then_normal (hK2 _ _ ?_)); clear hK2)
  refine wp_block ?_
  refine st_rounds 3 (st_round ?_)
  refine wp_seq_k fun _ hK2 => ?_
  refine wp_region_lit ?_
  (refine st_y S (Yr.ys (ys_T (by omega) (ys_lss (Ev.t rfl) (Ev.t rfl)))) rfl ?_; clear S a w; intro a w S)
  refine st_nil ?_
  (refine (then_normal (hK2 _ _ ?_)); clear hK2)
  refine wp_seq_k fun _ hK2 => ?_
  refine st_then S (Ev.t rfl) ?_
  refine wp_skip ?_
  (refine (then_normal (hK2 _ _ ?_)); clear hK2)
  refine wp_seq_k fun _ hK2 => ?_
  refine wp_block ?_
  refine wp_seq_k fun _ hK3 => ?_
  refine wp_region_lit ?_
  (refine st_y S (Yr.ys (ys_ixS (j := 0) Try.underlying40 Try.sizeOf3 (Ev.t rfl) (Ev.t rfl) (fun _ => by omega))) rfl ?_; clear S a w; intro a w S)
  (refine st_y S (Yr.ys (ys_ldO ⟨Try.isAgg3, Try.sizeOf3⟩ (Ev.t rfl) (fun _ => h0))) rfl ?_; clear S a w; intro a w S)
  (refine st_y S (Yr.ys (ys_assign (Ev.t rfl))) rfl ?_; clear S a w; intro a w S)
  refine st_nil ?_
  (refine (then_normal (hK3 _ _ ?_)); clear hK3)
  refine wp_seq_k fun _ hK3 => ?_
  refine wp_region_lit ?_
  (refine st_y S (Yr.ys (ys_move (Ev.t rfl))) rfl ?_; clear S a w; intro a w S)
  (refine st_y S (Yr.ys (ys_move (Ev.t rfl))) rfl ?_; clear S a w; intro a w S)
  (refine st_y S (Yr.ys (ys_neq (Ev.t rfl) (Ev.t rfl))) rfl ?_; clear S a w; intro a w S)
  refine st_nil ?_
  (refine (then_normal (hK3 _ _ ?_)); clear hK3)
  refine st_if S (Ev.t rfl) (fun h2 => ?_) (fun h2 => ?_)
  refine wp_seq_k fun _ hK3 => ?_
  refine wp_region_lit ?_
  (refine st_y S (Yr.ys (ys_move (Ev.t rfl))) rfl ?_; clear S a w; intro a w S)
  (refine st_y S (Yr.ys (ys_assign (Ev.t rfl))) rfl ?_; clear S a w; intro a w S)
  refine st_nil ?_
  (refine (then_normal (hK3 _ _ ?_)); clear hK3)
  refine wp_ret ?_
  refine (in_ret (then_ret (then_ret (in_ret (then_ret ?_)))))
  refine st_ret S (results1 S Try.results85 (Rv.tmp rfl)) ?_
  rotate_left
  refine wp_skip ?_
  (refine (in_normal (then_normal (hK2 _ _ ?_))); clear hK2)
  refine wp_region_lit ?_
  (refine st_y S (Yr.ys (ys_addI (Ev.t rfl) Ev.c (fun _ => by unfold I64; omega))) rfl ?_; clear S a w; intro a w S)
  rw [rw_1] at S
  (refine st_y S (Yr.ys (ys_move (Ev.t rfl))) rfl ?_; clear S a w; intro a w S)
  refine st_nil ?_
  refine (then_normal ?_)
  rotate_left
  · exact ⟨by rw [orI, if_pos h2], S.wd.below⟩
  refine st_round ?_
  refine wp_seq_k fun _ hK2 => ?_
  refine wp_region_lit ?_
  (refine st_y S (Yr.ys (ys_T (by omega) (ys_lss (Ev.t rfl) (Ev.t rfl)))) rfl ?_; clear S a w; intro a w S)
  refine st_nil ?_
  (refine (then_normal (hK2 _ _ ?_)); clear hK2)
  refine wp_seq_k fun _ hK2 => ?_
  refine st_then S (Ev.t rfl) ?_
  refine wp_skip ?_
  (refine (then_normal (hK2 _ _ ?_)); clear hK2)
  refine wp_seq_k fun _ hK2 => ?_
  refine wp_block ?_
  refine wp_seq_k fun _ hK3 => ?_
  refine wp_region_lit ?_
  (refine st_y S (Yr.ys (ys_ixS (j := 1) Try.underlying40 Try.sizeOf3 (Ev.t rfl) (Ev.t rfl) (fun _ => by omega))) rfl ?_; clear S a w; intro a w S)
  (refine st_y S (Yr.ys (ys_ldO ⟨Try.isAgg3, Try.sizeOf3⟩ (Ev.t rfl) (fun _ => h1))) rfl ?_; clear S a w; intro a w S)
  (refine st_y S (Yr.ys (ys_assign (Ev.t rfl))) rfl ?_; clear S a w; intro a w S)
  refine st_nil ?_
  (refine (then_normal (hK3 _ _ ?_)); clear hK3)
  refine wp_seq_k fun _ hK3 => ?_
  refine wp_region_lit ?_
  (refine st_y S (Yr.ys (ys_move (Ev.t rfl))) rfl ?_; clear S a w; intro a w S)
  (refine st_y S (Yr.ys (ys_move (Ev.t rfl))) rfl ?_; clear S a w; intro a w S)
  (refine st_y S (Yr.ys (ys_neq (Ev.t rfl) (Ev.t rfl))) rfl ?_; clear S a w; intro a w S)
  refine st_nil ?_
  (refine (then_normal (hK3 _ _ ?_)); clear hK3)
  refine st_if S (Ev.t rfl) (fun h3 => ?_) (fun h3 => ?_)
  refine wp_seq_k fun _ hK3 => ?_
  refine wp_region_lit ?_
  (refine st_y S (Yr.ys (ys_move (Ev.t rfl))) rfl ?_; clear S a w; intro a w S)
  (refine st_y S (Yr.ys (ys_assign (Ev.t rfl))) rfl ?_; clear S a w; intro a w S)
  refine st_nil ?_
  (refine (then_normal (hK3 _ _ ?_)); clear hK3)
  refine wp_ret ?_
  refine (in_ret (then_ret (then_ret (in_ret (then_ret ?_)))))
  refine st_ret S (results1 S Try.results85 (Rv.tmp rfl)) ?_
  rotate_left
  refine wp_skip ?_
  (refine (in_normal (then_normal (hK2 _ _ ?_))); clear hK2)
  refine wp_region_lit ?_
  (refine st_y S (Yr.ys (ys_addI (Ev.t rfl) Ev.c (fun _ => by unfold I64; omega))) rfl ?_; clear S a w; intro a w S)
  rw [rw_2] at S
  (refine st_y S (Yr.ys (ys_move (Ev.t rfl))) rfl ?_; clear S a w; intro a w S)
  refine st_nil ?_
  refine (then_normal ?_)
  rotate_left
  · exact ⟨by rw [orI, if_neg h2], S.wd.below⟩
  refine st_round ?_
  refine wp_seq_k fun _ hK2 => ?_
  refine wp_region_lit ?_
  (refine st_y S (Yr.ys (ys_F (by omega) (ys_lss (Ev.t rfl) (Ev.t rfl)))) rfl ?_; clear S a w; intro a w S)
  refine st_nil ?_
  (refine (then_normal (hK2 _ _ ?_)); clear hK2)
  refine wp_seq_k fun _ hK2 => ?_
  refine st_else S (Ev.t rfl) ?_
  refine wp_exit ?_
  (refine (then_exit (then_exit (in_here (then_normal (hK1 _ _ ?_))))); clear hK1)
  refine wp_seq_k fun _ hK1 => ?_
  refine wp_region_lit ?_
  (refine st_y S (Yr.ys (ys_move (Ev.t rfl))) rfl ?_; clear S a w; intro a w S)
  (refine st_y S (Yr.ys (ys_assign (Ev.t rfl))) rfl ?_; clear S a w; intro a w S)
  refine st_nil ?_
  (refine (then_normal (hK1 _ _ ?_)); clear hK1)
  refine wp_ret ?_
  refine st_ret S (results1 S Try.results85 (Rv.tmp rfl)) ?_
  exact ⟨by rw [orI, if_neg h2, Decidable.not_not.1 h3], S.wd.below⟩
theorem c84 (w0 : World) (x0 x1 y0 y1 : Int) :
    Calls Try.prog 84 #[.agg #[.int .u64 x0, .int .i64 x1], .agg #[.int .u64 y0, .int .i64 y1]] w0 fun e w' => e = .returned (.int .i64 (orI (cmpI x0 y0) (cmpI x1 y1))) ∧ Bel w0.heap.size w0 w' := by
  refine enter2 Try.func84 rfl Try.ntmps84 rfl fun a S => ?_
  refine wp_seq_k fun _ hK1 => ?_
  refine wp_region_lit ?_
  (refine st_m (op_box S (Ev.t rfl) rfl ?_); clear S a; intro g1 a w S)
  (refine st_m (op_box S (Ev.t rfl) rfl ?_); clear S a w; intro g2 a w S)
  (refine st_y S (Yr.ys (ys_assign Ev.c)) rfl ?_; clear S a w; intro a w S)
  refine st_nil ?_
  (refine (then_normal (hK1 _ _ ?_)); clear hK1)
  refine wp_seq_k fun _ hK1 => ?_
  (refine h_begin0 S (by kernel_rfl) ?_; clear S a w; intro a w S)
  (refine h_y (i := 0) S (by repeat (first | exact List.Sublist.refl _ | exact List.nil_sublist _ | refine .cons_cons _ ?_ | refine .cons _ ?_)) rfl (by kernel_rfl) (by kernel_rfl) (by kernel_rfl) (fun _ _ _ _ h => h) (ys_fieldN (FieldT.mk Try.underlying82 rfl Try.sizeOf53 rfl) (Ev.t rfl) (i' := 0) rfl) rfl ?_; clear S a w; intro a w S)
  (refine h_y (i := 1) S (by repeat (first | exact List.Sublist.refl _ | exact List.nil_sublist _ | refine .cons_cons _ ?_ | refine .cons _ ?_)) rfl (by kernel_rfl) (by kernel_rfl) (by kernel_rfl) (fun _ _ _ _ h => h) (ys_ld ⟨Try.isAgg53, Try.sizeOf53⟩ (Ev.t rfl) (k := 1) rfl rfl) rfl ?_; clear S a w; intro a w S)
  (refine h_y (i := 2) S (by repeat (first | exact List.Sublist.refl _ | exact List.nil_sublist _ | refine .cons_cons _ ?_ | refine .cons _ ?_)) rfl (by kernel_rfl) (by kernel_rfl) (by kernel_rfl) (fun _ _ _ _ h => h) (ys_fieldN (FieldT.mk Try.underlying82 rfl Try.sizeOf53 rfl) (Ev.t rfl) (i' := 0) rfl) rfl ?_; clear S a w; intro a w S)
  (refine h_y (i := 3) S (by repeat (first | exact List.Sublist.refl _ | exact List.nil_sublist _ | refine .cons_cons _ ?_ | refine .cons _ ?_)) rfl (by kernel_rfl) (by kernel_rfl) (by kernel_rfl) (fun _ _ _ _ h => h) (ys_ld ⟨Try.isAgg53, Try.sizeOf53⟩ (Ev.t rfl) (k := 0) rfl rfl) rfl ?_; clear S a w; intro a w S)
  (refine h_y (i := 5) S (by repeat (first | exact List.Sublist.refl _ | exact List.nil_sublist _ | refine .cons_cons _ ?_ | refine .cons _ ?_)) rfl (by kernel_rfl) (by kernel_rfl) (by kernel_rfl) (fun _ _ _ _ h => h) (ys_fieldN (FieldT.mk Try.underlying82 rfl Try.sizeOf3 rfl) (Ev.t rfl) (i' := 1) rfl) rfl ?_; clear S a w; intro a w S)
  (refine h_y (i := 6) S (by repeat (first | exact List.Sublist.refl _ | exact List.nil_sublist _ | refine .cons_cons _ ?_ | refine .cons _ ?_)) rfl (by kernel_rfl) (by kernel_rfl) (by kernel_rfl) (fun _ _ _ _ h => h) (ys_ld ⟨Try.isAgg3, Try.sizeOf3⟩ (Ev.t rfl) (k := 1) rfl rfl) rfl ?_; clear S a w; intro a w S)
  (refine h_y (i := 7) S (by repeat (first | exact List.Sublist.refl _ | exact List.nil_sublist _ | refine .cons_cons _ ?_ | refine .cons _ ?_)) rfl (by kernel_rfl) (by kernel_rfl) (by kernel_rfl) (fun _ _ _ _ h => h) (ys_fieldN (FieldT.mk Try.underlying82 rfl Try.sizeOf3 rfl) (Ev.t rfl) (i' := 1) rfl) rfl ?_; clear S a w; intro a w S)
  (refine h_y (i := 8) S (by repeat (first | exact List.Sublist.refl _ | exact List.nil_sublist _ | refine .cons_cons _ ?_ | refine .cons _ ?_)) rfl (by kernel_rfl) (by kernel_rfl) (by kernel_rfl) (fun _ _ _ _ h => h) (ys_ld ⟨Try.isAgg3, Try.sizeOf3⟩ (Ev.t rfl) (k := 0) rfl rfl) rfl ?_; clear S a w; intro a w S)
  (refine h_q (i := 4) S (by repeat (first | exact List.Sublist.refl _ | exact List.nil_sublist _ | refine .cons_cons _ ?_ | refine .cons _ ?_)) rfl (by kernel_rfl) (ys_call Try.call86 (EvL.cons (Ev.t rfl) (EvL.cons (Ev.t rfl) EvL.nil)) (fun hp w W => c86 _ _ _)) rfl ?_; clear S a w; intro a w S)
  (refine h_q (i := 9) S (by repeat (first | exact List.Sublist.refl _ | exact List.nil_sublist _ | refine .cons_cons _ ?_ | refine .cons _ ?_)) rfl (by kernel_rfl) (ys_call Try.call87 (EvL.cons (Ev.t rfl) (EvL.cons (Ev.t rfl) EvL.nil)) (fun hp w W => c87 _ _ _)) rfl ?_; clear S a w; intro a w S)
  (refine h_m (i := 10) rfl (by kernel_rfl) (op_bsliceZ (ps := [(0, Go.Operand.tmp 9), (1, Go.Operand.tmp 14)]) (us := [_, _]) S Try.underlying40 Try.sizeOf3 Try.zeroValue3 rfl rfl (EvL.cons (Ev.t rfl) (EvL.cons (Ev.t rfl) EvL.nil)) rfl rfl ?_); clear S a w; intro g3 a w S; refine h_on S _ (by repeat (first | exact List.Sublist.refl _ | exact List.nil_sublist _ | refine .cons_cons _ ?_ | refine .cons _ ?_)) (List.Sublist.refl _) ?_)
  (refine h_q (i := 11) S (by repeat (first | exact List.Sublist.refl _ | exact List.nil_sublist _ | refine .cons_cons _ ?_ | refine .cons _ ?_)) rfl (by kernel_rfl) (ys_call Try.call85 (EvL.cons (Ev.t rfl) EvL.nil) (fun hp w W => c85 _ _ _ _ (by exact Wd.cell W (k := 0) rfl rfl) (by exact Wd.cell W (k := 0) rfl rfl))) rfl ?_; clear S a w; intro a w S)
  (refine h_y (i := 12) S (by repeat (first | exact List.Sublist.refl _ | exact List.nil_sublist _ | refine .cons_cons _ ?_ | refine .cons _ ?_)) rfl (by kernel_rfl) (by kernel_rfl) (by kernel_rfl) (fun _ _ _ _ h => h) (ys_assign (Ev.t rfl)) rfl ?_; clear S a w; intro a w S)
  refine h_done (by kernel_rfl) ?_
  (refine (then_normal (hK1 _ _ ?_)); clear hK1)
  refine wp_ret ?_
  refine st_ret S (results1 S Try.results84 (Rv.tmp rfl)) ?_
  exact ⟨rfl, S.wd.below⟩
end Go.Proofs.Ytcglchdbddlnjaa.Tk
