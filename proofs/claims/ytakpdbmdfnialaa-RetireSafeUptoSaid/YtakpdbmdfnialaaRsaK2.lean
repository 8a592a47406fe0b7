/- Contracts and laws that the statement Rsa leans on, part 2. -/
import Derived.Test.YtakpdbmdfnialaaRsaK1
import Derived.Lib.SpaceUEq
import Derived.RangeFuncRecord
import Derived.OrdersIn
import Derived.TacticsIn
import Derived.WalkKit
import Derived.Below
import Derived.OrdersHeld
import Derived.Deep.Quiet
import Derived.Laws.StructEq
import Derived.Deep.MidRow
import Derived.Sort.Grow
import Derived.Shelf.GgSortFunc.InsertionK
import Derived.Shelf.SlSortCmp.Insertion
set_option linter.unusedVariables false
set_option linter.unusedSimpArgs false
set_option maxRecDepth 100000
set_option maxHeartbeats 4000000
namespace Go.Proofs.Ytakpdbmdfnialaa
open Go.Fw Go.Proofs Go.RowKit Go.Proofs.Try
section
variable {n : Nat} {w0 : World} {K : KL} {L : List Chunk} {b : Bool} {dst : Option Tmp} {ty : TypeId} {pos : String} {aft : Array Edge} {gd : Option (Nat × Bool)} {ts : Array TypeId}
theorem y108 {x y : Operand} {l m : List UInt8} (hx : Ev n b K x (.string (bs l))) (hy : Ev n b K y (.string (bs m))) : Yr Try.prog ⟨dst, .call ⟨.value (.func 108), #[x, y], ts⟩, ty, pos, aft, gd⟩ n K w0 L b (.int .i64 (cmpB l m)) :=
  ys_extern (F := Extern.BytealgCompare.compare) func108 (by kernel_rfl) (by kernel_rfl) (by kernel_rfl) (by kernel_rfl) (.cons hx (.cons hy .nil)) (fun w => by
    have h := Lib.run_compareString (P := Try.prog) (bs l) (bs m) w
    rw [cmpL_eq] at h
    exact h)
end
theorem c103 (w0 : World) (l m : List UInt8) : Calls Try.prog 103 #[.string (bs l), .string (bs m)] w0 fun e w' => e = .returned (.int .i64 (cmpB l m)) ∧ Bel w0.heap.size w0 w' := by
  refine enter2 func103 rfl ntmps103 rfl fun a S => sg S (.ac rfl <| .z) fun a w S => sg S (.mv rfl <| .mv rfl <| .yy (y108 (.t rfl) (.t rfl)) rfl <| .as rfl <| .z) fun a w S => wp_ret (st_ret S (results1 S results103 (Rv.tmp rfl)) ?_)
  exact ⟨rfl, S.wd.below⟩
theorem c97 (w0 : World) (l m : List UInt8) : Calls Try.prog 97 #[.string (bs l), .string (bs m)] w0 fun e w' => e = .returned (.int .i64 (cmpB l m)) ∧ Bel w0.heap.size w0 w' := by
  refine enter2 func97 rfl ntmps97 rfl fun a S => sg S (.ac rfl <| .z) fun a w S => sg S (.mv rfl <| .mv rfl <| .xx (ys_call call103 (.cons (.t rfl) (.cons (.t rfl) .nil)) (fun hp w W => c103 _ _ _)) rfl <| .as rfl <| .z) fun a w S => wp_ret (st_ret S (results1 S results97 (Rv.tmp rfl)) ?_)
  exact ⟨rfl, S.wd.below⟩
theorem c83 (w0 : World) (a b : Ent) (ha : mayD a.dot = true) (hb : mayD b.dot = true) : Calls Try.prog 83 #[.agg (Ent.enc a).toArray, .agg (Ent.enc b).toArray] w0 fun e w' => e = .returned (.int .i64 (ordE a b)) ∧ Bel w0.heap.size w0 w' := by
  obtain ⟨s, ⟨d1, d2, d3⟩, q, p⟩ := a
  obtain ⟨s', ⟨e1, e2, e3⟩, q', p'⟩ := b
  have hl := may_lim ha
  have hl' := may_lim hb
  dsimp only at hl hl'
  dsimp only [Ent.enc]
  unfold ordE orderD
  dsimp only
  have hc : cmpB s s' = if Op.bytesLess s s' = true then -1 else if s = s' then 0 else 1 := rfl
  have rw_1 : (0 : Int) + 1 = ((1 : Nat) : Int) := rfl
  have rw_2 : ((1 : Nat) : Int) + 1 = ((2 : Nat) : Int) := rfl
  have rw_3 : ((2 : Nat) : Int) + 1 = ((3 : Nat) : Int) := rfl
  generalize rw_c : cmpB s s' = c at *
  by_cases hc0 : c = 0
  rotate_left
  · have e : c = if Op.bytesLess s s' = true then -1 else if s = s' then (if d1 ≠ e1 then d1 - e1 else if d2 ≠ e2 then d2 - e2 else d3 - e3) else 1 := by
      rw [hc] at hc0 ⊢
      by_cases h1 : Op.bytesLess s s' = true
      · rw [if_pos h1, if_pos h1]
      · by_cases h2 : s = s'
        · rw [if_neg h1, if_pos h2] at hc0; exact absurd rfl hc0
        · rw [if_neg h1, if_neg h2, if_neg h1, if_neg h2]
    rw [← e]
    clear e hc
    refine enter2 func83 rfl ntmps83 rfl fun a S => wp_seq_k fun _ hK1 => wp_region_lit (st_m (op_box S (.t rfl) rfl fun g1 a w S => st_m (op_box S (.t rfl) rfl fun g2 a w S => run S (.ac rfl <| .z) fun a w S => st_nil (then_normal (hK1 _ _ (wp_seq_k fun _ hK1 => wp_region_lit (run S (.fa underlying69 sizeOf9 0 rfl rfl rfl <| .ld gt9 1 rfl rfl rfl <| .fa underlying69 sizeOf9 0 rfl rfl rfl <| .ld gt9 0 rfl rfl rfl <| .xx (ys_call call97 (.cons (.t rfl) (.cons (.t rfl) .nil)) (fun hp w W => c97 _ _ _)) rfl <| .z) fun a w S => ?_)))))))
    rw [rw_c] at S
    refine run S (.as rfl <| .z) fun a w S => st_nil (then_normal (hK1 _ _ (wp_seq_k fun _ hK1 => wp_seq_k fun _ hK2 => wp_region_lit (run S (.fa underlying69 sizeOf67 1 rfl rfl rfl <| .fa underlying67 sizeOf3 1 rfl rfl rfl <| .ld gt3 1 rfl rfl rfl <| .fa underlying69 sizeOf67 1 rfl rfl rfl <| .fa underlying67 sizeOf3 1 rfl rfl rfl <| .ld gt3 0 rfl rfl rfl <| .yy (ys_subI (.t rfl) (.t rfl) (fun _ => by unfold I64; omega)) rfl <| .fa underlying69 sizeOf67 1 rfl rfl rfl <| .fa underlying67 sizeOf3 2 rfl rfl rfl <| .ld gt3 1 rfl rfl rfl <| .fa underlying69 sizeOf67 1 rfl rfl rfl <| .fa underlying67 sizeOf3 2 rfl rfl rfl <| .ld gt3 0 rfl rfl rfl <| .yy (ys_subI (.t rfl) (.t rfl) (fun _ => by unfold I64; omega)) rfl <| .fa underlying69 sizeOf67 1 rfl rfl rfl <| .fa underlying67 sizeOf3 3 rfl rfl rfl <| .ld gt3 1 rfl rfl rfl <| .fa underlying69 sizeOf67 1 rfl rfl rfl <| .fa underlying67 sizeOf3 3 rfl rfl rfl <| .ld gt3 0 rfl rfl rfl <| .yy (ys_subI (.t rfl) (.t rfl) (fun _ => by unfold I64; omega)) rfl <| .z) fun a w S => st_m (op_bsliceZ (ps := [(0, Go.Operand.tmp 19), (1, Go.Operand.tmp 26), (2, Go.Operand.tmp 33)]) (us := [_, _, _]) S underlying127 sizeOf3 zeroValue3 rfl rfl (.cons (.t rfl) (.cons (.t rfl) (.cons (.t rfl) .nil))) rfl rfl fun g3 a w S => run S (.ln underlying127 rfl <| .mc rfl <| .z) fun a w S => st_nil (then_normal (hK2 _ _ ?_)))))))
    refine wp_block (st_rounds 4 (st_round (sg S (.lt (by omega) rfl rfl <| .z) fun a w S => wp_seq_k fun _ hK2 => st_then S (.t rfl) (wp_skip (then_normal (hK2 _ _ (wp_seq_k fun _ hK2 => wp_block (sg S (.yy (ys_ixS (j := 0) underlying127 sizeOf3 (.t rfl) (.t rfl) (fun _ => by omega)) rfl <| .ld gt3 0 rfl rfl rfl <| .as rfl <| .z) fun a w S => sg S (.mv rfl <| .yy (ys_F (by omega) (ys_eql (.t rfl) Ev.c)) rfl <| .z) fun a w S => st_else S (.t rfl) (wp_skip (in_normal (then_normal (hK2 _ _ (wp_region_lit (run S (.ad (by unfold I64; omega) rfl <| .z) fun a w S => ?_))))))))))))))
    rw [rw_1] at S
    refine run S (.mv rfl <| .z) fun a w S => st_nil (then_normal (st_round (sg S (.lt (by omega) rfl rfl <| .z) fun a w S => wp_seq_k fun _ hK2 => st_then S (.t rfl) (wp_skip (then_normal (hK2 _ _ (wp_seq_k fun _ hK2 => wp_block (sg S (.yy (ys_ixS (j := 1) underlying127 sizeOf3 (.t rfl) (.t rfl) (fun _ => by omega)) rfl <| .ld gt3 0 rfl rfl rfl <| .as rfl <| .z) fun a w S => sg S (.mv rfl <| .yy (ys_F (by omega) (ys_eql (.t rfl) Ev.c)) rfl <| .z) fun a w S => st_else S (.t rfl) (wp_skip (in_normal (then_normal (hK2 _ _ (wp_region_lit (run S (.ad (by unfold I64; omega) rfl <| .z) fun a w S => ?_))))))))))))))
    rw [rw_2] at S
    refine run S (.mv rfl <| .z) fun a w S => st_nil (then_normal (st_round (sg S (.lt (by omega) rfl rfl <| .z) fun a w S => wp_seq_k fun _ hK2 => st_then S (.t rfl) (wp_skip (then_normal (hK2 _ _ (wp_seq_k fun _ hK2 => wp_block (sg S (.yy (ys_ixS (j := 2) underlying127 sizeOf3 (.t rfl) (.t rfl) (fun _ => by omega)) rfl <| .ld gt3 0 rfl rfl rfl <| .as rfl <| .z) fun a w S => sg S (.mv rfl <| .yy (ys_F (by omega) (ys_eql (.t rfl) Ev.c)) rfl <| .z) fun a w S => st_else S (.t rfl) (wp_skip (in_normal (then_normal (hK2 _ _ (wp_region_lit (run S (.ad (by unfold I64; omega) rfl <| .z) fun a w S => ?_))))))))))))))
    rw [rw_3] at S
    refine run S (.mv rfl <| .z) fun a w S => st_nil (then_normal (st_round (sg S (.ge (by omega) rfl rfl <| .z) fun a w S => wp_seq_k fun _ hK2 => st_else S (.t rfl) (wp_exit (then_exit (then_exit (in_here (then_normal (hK1 _ _ (sg S (.mv rfl <| .as rfl <| .z) fun a w S => wp_ret (st_ret S (results1 S results83 (Rv.tmp rfl)) ?_)))))))))))
    exact ⟨rfl, S.wd.below⟩
  have hs : ¬ Op.bytesLess s s' = true ∧ s = s' := by
    rw [hc] at hc0
    by_cases h1 : Op.bytesLess s s' = true
    · rw [if_pos h1] at hc0; cases hc0
    · by_cases h2 : s = s'
      · exact ⟨h1, h2⟩
      · rw [if_neg h1, if_neg h2] at hc0; cases hc0
  rw [if_neg hs.1, if_pos hs.2]
  clear hs hc
  subst hc0
  by_cases h1 : d1 = e1
  rotate_left
  · rw [if_pos h1]
    refine enter2 func83 rfl ntmps83 rfl fun a S => wp_seq_k fun _ hK1 => wp_region_lit (st_m (op_box S (.t rfl) rfl fun g1 a w S => st_m (op_box S (.t rfl) rfl fun g2 a w S => run S (.ac rfl <| .z) fun a w S => st_nil (then_normal (hK1 _ _ (wp_seq_k fun _ hK1 => wp_region_lit (run S (.fa underlying69 sizeOf9 0 rfl rfl rfl <| .ld gt9 1 rfl rfl rfl <| .fa underlying69 sizeOf9 0 rfl rfl rfl <| .ld gt9 0 rfl rfl rfl <| .xx (ys_call call97 (.cons (.t rfl) (.cons (.t rfl) .nil)) (fun hp w W => c97 _ _ _)) rfl <| .z) fun a w S => ?_)))))))
    rw [rw_c] at S
    refine run S (.as rfl <| .z) fun a w S => st_nil (then_normal (hK1 _ _ (wp_seq_k fun _ hK1 => wp_seq_k fun _ hK2 => wp_region_lit (run S (.fa underlying69 sizeOf67 1 rfl rfl rfl <| .fa underlying67 sizeOf3 1 rfl rfl rfl <| .ld gt3 1 rfl rfl rfl <| .fa underlying69 sizeOf67 1 rfl rfl rfl <| .fa underlying67 sizeOf3 1 rfl rfl rfl <| .ld gt3 0 rfl rfl rfl <| .yy (ys_subI (.t rfl) (.t rfl) (fun _ => by unfold I64; omega)) rfl <| .fa underlying69 sizeOf67 1 rfl rfl rfl <| .fa underlying67 sizeOf3 2 rfl rfl rfl <| .ld gt3 1 rfl rfl rfl <| .fa underlying69 sizeOf67 1 rfl rfl rfl <| .fa underlying67 sizeOf3 2 rfl rfl rfl <| .ld gt3 0 rfl rfl rfl <| .yy (ys_subI (.t rfl) (.t rfl) (fun _ => by unfold I64; omega)) rfl <| .fa underlying69 sizeOf67 1 rfl rfl rfl <| .fa underlying67 sizeOf3 3 rfl rfl rfl <| .ld gt3 1 rfl rfl rfl <| .fa underlying69 sizeOf67 1 rfl rfl rfl <| .fa underlying67 sizeOf3 3 rfl rfl rfl <| .ld gt3 0 rfl rfl rfl <| .yy (ys_subI (.t rfl) (.t rfl) (fun _ => by unfold I64; omega)) rfl <| .z) fun a w S => st_m (op_bsliceZ (ps := [(0, Go.Operand.tmp 19), (1, Go.Operand.tmp 26), (2, Go.Operand.tmp 33)]) (us := [_, _, _]) S underlying127 sizeOf3 zeroValue3 rfl rfl (.cons (.t rfl) (.cons (.t rfl) (.cons (.t rfl) .nil))) rfl rfl fun g3 a w S => run S (.ln underlying127 rfl <| .mc rfl <| .z) fun a w S => st_nil (then_normal (hK2 _ _ ?_)))))))
    refine wp_block (st_rounds 4 (st_round (sg S (.lt (by omega) rfl rfl <| .z) fun a w S => wp_seq_k fun _ hK2 => st_then S (.t rfl) (wp_skip (then_normal (hK2 _ _ (wp_seq_k fun _ hK2 => wp_block (sg S (.yy (ys_ixS (j := 0) underlying127 sizeOf3 (.t rfl) (.t rfl) (fun _ => by omega)) rfl <| .ld gt3 0 rfl rfl rfl <| .as rfl <| .z) fun a w S => sg S (.mv rfl <| .yy (ys_T (by omega) (ys_eql (.t rfl) Ev.c)) rfl <| .z) fun a w S => st_then S (.t rfl) (wp_region_lit (run S (.mv rfl <| .as rfl <| .z) fun a w S => st_nil (in_normal (then_normal (hK2 _ _ (wp_region_lit (run S (.ad (by unfold I64; omega) rfl <| .z) fun a w S => ?_)))))))))))))))
    rw [rw_1] at S
    refine run S (.mv rfl <| .z) fun a w S => st_nil (then_normal (st_round (sg S (.lt (by omega) rfl rfl <| .z) fun a w S => wp_seq_k fun _ hK2 => st_then S (.t rfl) (wp_skip (then_normal (hK2 _ _ (wp_seq_k fun _ hK2 => wp_block (sg S (.yy (ys_ixS (j := 1) underlying127 sizeOf3 (.t rfl) (.t rfl) (fun _ => by omega)) rfl <| .ld gt3 0 rfl rfl rfl <| .as rfl <| .z) fun a w S => sg S (.mv rfl <| .yy (ys_F (by omega) (ys_eql (.t rfl) Ev.c)) rfl <| .z) fun a w S => st_else S (.t rfl) (wp_skip (in_normal (then_normal (hK2 _ _ (wp_region_lit (run S (.ad (by unfold I64; omega) rfl <| .z) fun a w S => ?_))))))))))))))
    rw [rw_2] at S
    refine run S (.mv rfl <| .z) fun a w S => st_nil (then_normal (st_round (sg S (.lt (by omega) rfl rfl <| .z) fun a w S => wp_seq_k fun _ hK2 => st_then S (.t rfl) (wp_skip (then_normal (hK2 _ _ (wp_seq_k fun _ hK2 => wp_block (sg S (.yy (ys_ixS (j := 2) underlying127 sizeOf3 (.t rfl) (.t rfl) (fun _ => by omega)) rfl <| .ld gt3 0 rfl rfl rfl <| .as rfl <| .z) fun a w S => sg S (.mv rfl <| .yy (ys_F (by omega) (ys_eql (.t rfl) Ev.c)) rfl <| .z) fun a w S => st_else S (.t rfl) (wp_skip (in_normal (then_normal (hK2 _ _ (wp_region_lit (run S (.ad (by unfold I64; omega) rfl <| .z) fun a w S => ?_))))))))))))))
    rw [rw_3] at S
    refine run S (.mv rfl <| .z) fun a w S => st_nil (then_normal (st_round (sg S (.ge (by omega) rfl rfl <| .z) fun a w S => wp_seq_k fun _ hK2 => st_else S (.t rfl) (wp_exit (then_exit (then_exit (in_here (then_normal (hK1 _ _ (sg S (.mv rfl <| .as rfl <| .z) fun a w S => wp_ret (st_ret S (results1 S results83 (Rv.tmp rfl)) ?_)))))))))))
    exact ⟨rfl, S.wd.below⟩
  rw [if_neg (by omega)]
  by_cases h2 : d2 = e2
  rotate_left
  · rw [if_pos h2]
    refine enter2 func83 rfl ntmps83 rfl fun a S => wp_seq_k fun _ hK1 => wp_region_lit (st_m (op_box S (.t rfl) rfl fun g1 a w S => st_m (op_box S (.t rfl) rfl fun g2 a w S => run S (.ac rfl <| .z) fun a w S => st_nil (then_normal (hK1 _ _ (wp_seq_k fun _ hK1 => wp_region_lit (run S (.fa underlying69 sizeOf9 0 rfl rfl rfl <| .ld gt9 1 rfl rfl rfl <| .fa underlying69 sizeOf9 0 rfl rfl rfl <| .ld gt9 0 rfl rfl rfl <| .xx (ys_call call97 (.cons (.t rfl) (.cons (.t rfl) .nil)) (fun hp w W => c97 _ _ _)) rfl <| .z) fun a w S => ?_)))))))
    rw [rw_c] at S
    refine run S (.as rfl <| .z) fun a w S => st_nil (then_normal (hK1 _ _ (wp_seq_k fun _ hK1 => wp_seq_k fun _ hK2 => wp_region_lit (run S (.fa underlying69 sizeOf67 1 rfl rfl rfl <| .fa underlying67 sizeOf3 1 rfl rfl rfl <| .ld gt3 1 rfl rfl rfl <| .fa underlying69 sizeOf67 1 rfl rfl rfl <| .fa underlying67 sizeOf3 1 rfl rfl rfl <| .ld gt3 0 rfl rfl rfl <| .yy (ys_subI (.t rfl) (.t rfl) (fun _ => by unfold I64; omega)) rfl <| .fa underlying69 sizeOf67 1 rfl rfl rfl <| .fa underlying67 sizeOf3 2 rfl rfl rfl <| .ld gt3 1 rfl rfl rfl <| .fa underlying69 sizeOf67 1 rfl rfl rfl <| .fa underlying67 sizeOf3 2 rfl rfl rfl <| .ld gt3 0 rfl rfl rfl <| .yy (ys_subI (.t rfl) (.t rfl) (fun _ => by unfold I64; omega)) rfl <| .fa underlying69 sizeOf67 1 rfl rfl rfl <| .fa underlying67 sizeOf3 3 rfl rfl rfl <| .ld gt3 1 rfl rfl rfl <| .fa underlying69 sizeOf67 1 rfl rfl rfl <| .fa underlying67 sizeOf3 3 rfl rfl rfl <| .ld gt3 0 rfl rfl rfl <| .yy (ys_subI (.t rfl) (.t rfl) (fun _ => by unfold I64; omega)) rfl <| .z) fun a w S => st_m (op_bsliceZ (ps := [(0, Go.Operand.tmp 19), (1, Go.Operand.tmp 26), (2, Go.Operand.tmp 33)]) (us := [_, _, _]) S underlying127 sizeOf3 zeroValue3 rfl rfl (.cons (.t rfl) (.cons (.t rfl) (.cons (.t rfl) .nil))) rfl rfl fun g3 a w S => run S (.ln underlying127 rfl <| .mc rfl <| .z) fun a w S => st_nil (then_normal (hK2 _ _ ?_)))))))
    refine wp_block (st_rounds 4 (st_round (sg S (.lt (by omega) rfl rfl <| .z) fun a w S => wp_seq_k fun _ hK2 => st_then S (.t rfl) (wp_skip (then_normal (hK2 _ _ (wp_seq_k fun _ hK2 => wp_block (sg S (.yy (ys_ixS (j := 0) underlying127 sizeOf3 (.t rfl) (.t rfl) (fun _ => by omega)) rfl <| .ld gt3 0 rfl rfl rfl <| .as rfl <| .z) fun a w S => sg S (.mv rfl <| .yy (ys_T (by omega) (ys_eql (.t rfl) Ev.c)) rfl <| .z) fun a w S => st_then S (.t rfl) (wp_region_lit (run S (.mv rfl <| .as rfl <| .z) fun a w S => st_nil (in_normal (then_normal (hK2 _ _ (wp_region_lit (run S (.ad (by unfold I64; omega) rfl <| .z) fun a w S => ?_)))))))))))))))
    rw [rw_1] at S
    refine run S (.mv rfl <| .z) fun a w S => st_nil (then_normal (st_round (sg S (.lt (by omega) rfl rfl <| .z) fun a w S => wp_seq_k fun _ hK2 => st_then S (.t rfl) (wp_skip (then_normal (hK2 _ _ (wp_seq_k fun _ hK2 => wp_block (sg S (.yy (ys_ixS (j := 1) underlying127 sizeOf3 (.t rfl) (.t rfl) (fun _ => by omega)) rfl <| .ld gt3 0 rfl rfl rfl <| .as rfl <| .z) fun a w S => sg S (.mv rfl <| .yy (ys_T (by omega) (ys_eql (.t rfl) Ev.c)) rfl <| .z) fun a w S => st_then S (.t rfl) (wp_region_lit (run S (.mv rfl <| .as rfl <| .z) fun a w S => st_nil (in_normal (then_normal (hK2 _ _ (wp_region_lit (run S (.ad (by unfold I64; omega) rfl <| .z) fun a w S => ?_)))))))))))))))
    rw [rw_2] at S
    refine run S (.mv rfl <| .z) fun a w S => st_nil (then_normal (st_round (sg S (.lt (by omega) rfl rfl <| .z) fun a w S => wp_seq_k fun _ hK2 => st_then S (.t rfl) (wp_skip (then_normal (hK2 _ _ (wp_seq_k fun _ hK2 => wp_block (sg S (.yy (ys_ixS (j := 2) underlying127 sizeOf3 (.t rfl) (.t rfl) (fun _ => by omega)) rfl <| .ld gt3 0 rfl rfl rfl <| .as rfl <| .z) fun a w S => sg S (.mv rfl <| .yy (ys_F (by omega) (ys_eql (.t rfl) Ev.c)) rfl <| .z) fun a w S => st_else S (.t rfl) (wp_skip (in_normal (then_normal (hK2 _ _ (wp_region_lit (run S (.ad (by unfold I64; omega) rfl <| .z) fun a w S => ?_))))))))))))))
    rw [rw_3] at S
    refine run S (.mv rfl <| .z) fun a w S => st_nil (then_normal (st_round (sg S (.ge (by omega) rfl rfl <| .z) fun a w S => wp_seq_k fun _ hK2 => st_else S (.t rfl) (wp_exit (then_exit (then_exit (in_here (then_normal (hK1 _ _ (sg S (.mv rfl <| .as rfl <| .z) fun a w S => wp_ret (st_ret S (results1 S results83 (Rv.tmp rfl)) ?_)))))))))))
    exact ⟨rfl, S.wd.below⟩
  · rw [if_neg (by omega)]
    refine enter2 func83 rfl ntmps83 rfl fun a S => wp_seq_k fun _ hK1 => wp_region_lit (st_m (op_box S (.t rfl) rfl fun g1 a w S => st_m (op_box S (.t rfl) rfl fun g2 a w S => run S (.ac rfl <| .z) fun a w S => st_nil (then_normal (hK1 _ _ (wp_seq_k fun _ hK1 => wp_region_lit (run S (.fa underlying69 sizeOf9 0 rfl rfl rfl <| .ld gt9 1 rfl rfl rfl <| .fa underlying69 sizeOf9 0 rfl rfl rfl <| .ld gt9 0 rfl rfl rfl <| .xx (ys_call call97 (.cons (.t rfl) (.cons (.t rfl) .nil)) (fun hp w W => c97 _ _ _)) rfl <| .z) fun a w S => ?_)))))))
    rw [rw_c] at S
    refine run S (.as rfl <| .z) fun a w S => st_nil (then_normal (hK1 _ _ (wp_seq_k fun _ hK1 => wp_seq_k fun _ hK2 => wp_region_lit (run S (.fa underlying69 sizeOf67 1 rfl rfl rfl <| .fa underlying67 sizeOf3 1 rfl rfl rfl <| .ld gt3 1 rfl rfl rfl <| .fa underlying69 sizeOf67 1 rfl rfl rfl <| .fa underlying67 sizeOf3 1 rfl rfl rfl <| .ld gt3 0 rfl rfl rfl <| .yy (ys_subI (.t rfl) (.t rfl) (fun _ => by unfold I64; omega)) rfl <| .fa underlying69 sizeOf67 1 rfl rfl rfl <| .fa underlying67 sizeOf3 2 rfl rfl rfl <| .ld gt3 1 rfl rfl rfl <| .fa underlying69 sizeOf67 1 rfl rfl rfl <| .fa underlying67 sizeOf3 2 rfl rfl rfl <| .ld gt3 0 rfl rfl rfl <| .yy (ys_subI (.t rfl) (.t rfl) (fun _ => by unfold I64; omega)) rfl <| .fa underlying69 sizeOf67 1 rfl rfl rfl <| .fa underlying67 sizeOf3 3 rfl rfl rfl <| .ld gt3 1 rfl rfl rfl <| .fa underlying69 sizeOf67 1 rfl rfl rfl <| .fa underlying67 sizeOf3 3 rfl rfl rfl <| .ld gt3 0 rfl rfl rfl <| .yy (ys_subI (.t rfl) (.t rfl) (fun _ => by unfold I64; omega)) rfl <| .z) fun a w S => st_m (op_bsliceZ (ps := [(0, Go.Operand.tmp 19), (1, Go.Operand.tmp 26), (2, Go.Operand.tmp 33)]) (us := [_, _, _]) S underlying127 sizeOf3 zeroValue3 rfl rfl (.cons (.t rfl) (.cons (.t rfl) (.cons (.t rfl) .nil))) rfl rfl fun g3 a w S => run S (.ln underlying127 rfl <| .mc rfl <| .z) fun a w S => st_nil (then_normal (hK2 _ _ ?_)))))))
    refine wp_block (st_rounds 4 (st_round (sg S (.lt (by omega) rfl rfl <| .z) fun a w S => wp_seq_k fun _ hK2 => st_then S (.t rfl) (wp_skip (then_normal (hK2 _ _ (wp_seq_k fun _ hK2 => wp_block (sg S (.yy (ys_ixS (j := 0) underlying127 sizeOf3 (.t rfl) (.t rfl) (fun _ => by omega)) rfl <| .ld gt3 0 rfl rfl rfl <| .as rfl <| .z) fun a w S => sg S (.mv rfl <| .yy (ys_T (by omega) (ys_eql (.t rfl) Ev.c)) rfl <| .z) fun a w S => st_then S (.t rfl) (wp_region_lit (run S (.mv rfl <| .as rfl <| .z) fun a w S => st_nil (in_normal (then_normal (hK2 _ _ (wp_region_lit (run S (.ad (by unfold I64; omega) rfl <| .z) fun a w S => ?_)))))))))))))))
    rw [rw_1] at S
    refine run S (.mv rfl <| .z) fun a w S => st_nil (then_normal (st_round (sg S (.lt (by omega) rfl rfl <| .z) fun a w S => wp_seq_k fun _ hK2 => st_then S (.t rfl) (wp_skip (then_normal (hK2 _ _ (wp_seq_k fun _ hK2 => wp_block (sg S (.yy (ys_ixS (j := 1) underlying127 sizeOf3 (.t rfl) (.t rfl) (fun _ => by omega)) rfl <| .ld gt3 0 rfl rfl rfl <| .as rfl <| .z) fun a w S => sg S (.mv rfl <| .yy (ys_T (by omega) (ys_eql (.t rfl) Ev.c)) rfl <| .z) fun a w S => st_then S (.t rfl) (wp_region_lit (run S (.mv rfl <| .as rfl <| .z) fun a w S => st_nil (in_normal (then_normal (hK2 _ _ (wp_region_lit (run S (.ad (by unfold I64; omega) rfl <| .z) fun a w S => ?_)))))))))))))))
    rw [rw_2] at S
    refine run S (.mv rfl <| .z) fun a w S => st_nil (then_normal (st_round (sg S (.lt (by omega) rfl rfl <| .z) fun a w S => wp_seq_k fun _ hK2 => st_then S (.t rfl) (wp_skip (then_normal (hK2 _ _ (wp_seq_k fun _ hK2 => wp_block (sg S (.yy (ys_ixS (j := 2) underlying127 sizeOf3 (.t rfl) (.t rfl) (fun _ => by omega)) rfl <| .ld gt3 0 rfl rfl rfl <| .as rfl <| .z) fun a w S => sg S (.mv rfl <| .yy (ys_T (by omega) (ys_eql (.t rfl) Ev.c)) rfl <| .z) fun a w S => st_then S (.t rfl) (wp_region_lit (run S (.mv rfl <| .as rfl <| .z) fun a w S => st_nil (in_normal (then_normal (hK2 _ _ (wp_region_lit (run S (.ad (by unfold I64; omega) rfl <| .z) fun a w S => ?_)))))))))))))))
    rw [rw_3] at S
    refine run S (.mv rfl <| .z) fun a w S => st_nil (then_normal (st_round (sg S (.ge (by omega) rfl rfl <| .z) fun a w S => wp_seq_k fun _ hK2 => st_else S (.t rfl) (wp_exit (then_exit (then_exit (in_here (then_normal (hK1 _ _ (sg S (.mv rfl <| .as rfl <| .z) fun a w S => wp_ret (st_ret S (results1 S results83 (Rv.tmp rfl)) ?_)))))))))))
    exact ⟨rfl, S.wd.below⟩
end Go.Proofs.Ytakpdbmdfnialaa
set_option linter.unusedVariables false
set_option linter.unusedSimpArgs false
namespace Go.Fw
open Go.RowKit
def otherR (r : Nat) : Bool := !((decide (97 ≤ r) && decide (r ≤ 122)) || (decide (65 ≤ r) && decide (r ≤ 90)) || (decide (48 ≤ r) && decide (r ≤ 57)) || decide (r = 45) || decide (r = 95) || decide (r = 46))
theorem other_char (b : UInt8) : otherR b.toNat = !charB b := rfl
theorem decode_big (l : List UInt8) (b : UInt8) (t : List UInt8) (h : l = b :: t) (hb : 128 ≤ b.toNat) : 128 ≤ (Lib.decodeL l).1 := by
  subst h
  rw [Lib.decodeL_N]
  have e : ((b :: t).getD 0 0).toNat = b.toNat := rfl
  rw [e]
  rcases Lib.decodeN_cases (b :: t).length b.toNat ((b :: t).getD 1 0).toNat ((b :: t).getD 2 0).toNat ((b :: t).getD 3 0).toNat with h | h | h | h | h
  · omega
  · rw [h.2.2.2.2]; exact h.2.2.2.1
  · rw [h.2.2.2.2.2]; have := h.2.2.2.2.1; dsimp only; omega
  · omega
  · rw [h]; decide
theorem other_big {r : Nat} (h : 128 ≤ r) : otherR r = true := by
  unfold otherR
  simp
  omega
theorem char_big {b : UInt8} (h : 128 ≤ b.toNat) : charB b = false := by
  unfold charB
  simp
  omega
def idxR (p : Nat → Bool) (s : List UInt8) : Nat → Nat → Int
  | 0, _ => -1
  | f + 1, pos => if pos < s.length then (if p (Utf8.decode (bs s) pos).1 = true then (pos : Int) else idxR p s f (pos + (Utf8.decode (bs s) pos).2)) else -1
theorem idx_name (s : List UInt8) : ∀ (f pos : Nat), s.length ≤ pos + f → (idxR otherR s f pos < 0 ↔ (s.drop pos).all charB = true)
  | 0, pos, h => by
    rw [List.drop_of_length_le (by omega)]
    simp [idxR]
  | f + 1, pos, h => by
    unfold idxR
    by_cases hp : pos < s.length
    · rw [if_pos hp]
      have hd := Lib.decodeL_drop (bs s) pos
      have hl : (bs s).data.toList = s := rfl
      rw [hl] at hd
      have hc : s.drop pos = s[pos] :: s.drop (pos + 1) := List.drop_eq_getElem_cons hp
      by_cases hb : (s[pos]).toNat < 128
      · rw [← hd, hc, Lib.decodeL_ascii _ _ hb]
        dsimp only
        rw [other_char, List.all_cons]
        by_cases hch : charB s[pos] = true
        · rw [hch, if_neg (by decide), idx_name s f (pos + 1) (by omega)]
          simp
        · rw [if_pos (by simpa using hch)]
          simp [hch]
      · have h2 := decode_big _ _ _ hc (by omega)
        rw [← hd, other_big h2, if_pos rfl, hc, List.all_cons, char_big (by omega)]
        simp
    · rw [if_neg hp, List.drop_of_length_le (by omega)]
      simp
theorem idxR_end {p : Nat → Bool} {s : List UInt8} {f pos : Nat} (h : s.length ≤ pos) : idxR p s f pos = -1 := by
  cases f <;> simp [idxR]
  omega
theorem name_idx (s : List UInt8) : decide (idxR otherR s s.length 0 < 0) = s.all charB := by
  have h := idx_name s s.length 0 (by omega)
  rw [Bool.eq_iff_iff, decide_eq_true_eq, h, List.drop_zero]
end Go.Fw
set_option linter.unusedVariables false
set_option linter.unusedSimpArgs false
set_option maxRecDepth 100000
set_option maxHeartbeats 4000000
namespace Go.Proofs.Ytakpdbmdfnialaa
open Go.Fw Go.Proofs Go.RowKit Go.Proofs.Try
section
variable {n : Nat} {w0 : World} {K : KL} {L : List Chunk} {b : Bool} {dst : Option Tmp} {ty : TypeId} {pos : String} {aft : Array Edge} {gd : Option (Nat × Bool)} {ts : Array TypeId}
theorem y95 {x : Operand} {p : Int} (hx : Ev n b K x (.int .u64 p)) : Yr Try.prog ⟨dst, .call ⟨.value (.func 95), #[x], ts⟩, ty, pos, aft, gd⟩ n K w0 L b (.float .f64 p.toNat) :=
  ys_extern (F := Extern.MathFloatBits.float64frombits) func95 (by kernel_rfl) (by kernel_rfl) (by kernel_rfl) (by kernel_rfl) (.cons hx .nil) (fun _ => rfl)
theorem y110 {x y : Operand} {l : List UInt8} {c : UInt8} (hx : Ev n b K x (.string (bs l))) (hy : Ev n b K y (.int .u8 (c.toNat : Int))) : Yr Try.prog ⟨dst, .call ⟨.value (.func 110), #[x, y], ts⟩, ty, pos, aft, gd⟩ n K w0 L b (.int .i64 (Lib.indexByte l c)) :=
  ys_extern (F := Extern.BytealgIndexByte.indexByte) func110 (by kernel_rfl) (by kernel_rfl) (by kernel_rfl) (by kernel_rfl) (.cons hx (.cons hy .nil)) (fun w => by
    have h := Lib.run_indexByteString (P := Try.prog) (bs l) (c.toNat : Int) w
    simpa using h)
end
theorem c81 (w0 : World) (p : UInt64) : Calls Try.prog 81 #[.int .u64 (p.toNat : Int)] w0 fun e w' => e = .returned (.bool (priceB p)) ∧ Bel w0.heap.size w0 w' := by
  have rw_s : ((p.toNat : Int)).toNat = p.toNat := Int.toNat_natCast _
  have rw_p := price_ge p
  refine enter1 func81 rfl ntmps81 rfl fun a S => sg S (.ac rfl <| .z) fun a w S => wp_seq_k fun _ hK1 => wp_region_lit (run S (.mv rfl <| .yy (y95 (.t rfl)) rfl <| .z) fun a w S => ?_)
  rw [rw_s] at S
  refine run S (.yy (ys_geqF (.t rfl) Ev.c) rfl <| .as rfl <| .z) fun a w S => st_nil (then_normal (hK1 _ _ (wp_ret (st_ret S (results1 S results81 (Rv.tmp rfl)) ?_))))
  exact ⟨by first | rfl | (rw [← price_ge]; rfl), S.wd.below⟩
end Go.Proofs.Ytakpdbmdfnialaa
set_option linter.unusedVariables false
set_option linter.unusedSimpArgs false
set_option maxRecDepth 100000
set_option maxHeartbeats 4000000
namespace Go.Proofs.Ytakpdbmdfnialaa
open Go.Fw Go.Proofs Go.RowKit Go.Proofs.Try
theorem c109 (w0 : World) (l : List UInt8) (c : UInt8) : Calls Try.prog 109 #[.string (bs l), .int .u8 (c.toNat : Int)] w0 fun e w' => e = .returned (.int .i64 (Lib.indexByte l c)) ∧ Bel w0.heap.size w0 w' := by
  refine enter2 func109 rfl ntmps109 rfl fun a S => sg S (.ac rfl <| .z) fun a w S => sg S (.mv rfl <| .mv rfl <| .yy (y110 (.t rfl) (.t rfl)) rfl <| .as rfl <| .z) fun a w S => wp_ret (st_ret S (results1 S results109 (Rv.tmp rfl)) ?_)
  exact ⟨rfl, S.wd.below⟩
theorem c104 (w0 : World) (l : List UInt8) (c : UInt8) : Calls Try.prog 104 #[.string (bs l), .int .u8 (c.toNat : Int)] w0 fun e w' => e = .returned (.int .i64 (Lib.indexByte l c)) ∧ Bel w0.heap.size w0 w' := by
  refine enter2 func104 rfl ntmps104 rfl fun a S => sg S (.ac rfl <| .z) fun a w S => sg S (.mv rfl <| .mv rfl <| .xx (ys_call call109 (.cons (.t rfl) (.cons (.t rfl) .nil)) (fun hp w W => c109 _ _ _)) rfl <| .as rfl <| .z) fun a w S => wp_ret (st_ret S (results1 S results104 (Rv.tmp rfl)) ?_)
  exact ⟨rfl, S.wd.below⟩
def validR (r : Nat) : Bool := decide (r < 55296) || (decide (57343 < r) && decide (r ≤ 1114111))
theorem c105 (w0 : World) (r : Nat) : Calls Try.prog 105 #[.int .i32 (r : Int)] w0 fun e w' => e = .returned (.bool (validR r)) ∧ Bel w0.heap.size w0 w' := by
  unfold validR
  by_cases h1 : r < 55296
  · refine enter1 func105 rfl ntmps105 rfl fun a S => sg S (.ac rfl <| .z) fun a w S => wp_seq_k fun _ hK1 => wp_block (sg S (.mv rfl <| .yy (ys_T (by omega) (ys_leq Ev.c (.t rfl))) rfl <| .mv rfl <| .gy rfl rfl (ys_move (.t rfl)) <| .gy rfl rfl (ys_T (by omega) (ys_lss (.t rfl) Ev.c)) <| .yy (ys_pickT (.t rfl) (.t rfl)) rfl <| .as rfl <| .z) fun a w S => st_then S (.t rfl) (sg S (.ac rfl <| .z) fun a w S => wp_ret (in_ret (then_ret (st_ret S (results1 S results105 (Rv.tmp rfl)) ?_)))))
    exact ⟨by rw [decide_eq_true h1]; rfl, S.wd.below⟩
  by_cases h2 : 57343 < r ∧ r ≤ 1114111
  · have rw_d : (decide (57343 < (r : Int)) && decide ((r : Int) ≤ 1114111)) = true := by simp; omega
    refine enter1 func105 rfl ntmps105 rfl fun a S => sg S (.ac rfl <| .z) fun a w S => wp_seq_k fun _ hK1 => wp_block (sg S (.mv rfl <| .yy (ys_T (by omega) (ys_leq Ev.c (.t rfl))) rfl <| .mv rfl <| .gy rfl rfl (ys_move (.t rfl)) <| .gy rfl rfl (ys_F (by omega) (ys_lss (.t rfl) Ev.c)) <| .yy (ys_pickT (.t rfl) (.t rfl)) rfl <| .as rfl <| .z) fun a w S => st_else S (.t rfl) (sg S (.mv rfl <| .yy (ys_T (by omega) (ys_lss Ev.c (.t rfl))) rfl <| .mv rfl <| .gy rfl rfl (ys_move (.t rfl)) <| .gy rfl rfl (ys_T (by omega) (ys_leq (.t rfl) Ev.c)) <| .yy (ys_pickT (.t rfl) (.t rfl)) rfl <| .as rfl <| .z) fun a w S => st_then S (.t rfl) (sg S (.ac rfl <| .z) fun a w S => wp_ret (in_ret (then_ret (st_ret S (results1 S results105 (Rv.tmp rfl)) ?_))))))
    exact ⟨by rw [decide_eq_true h2.1, decide_eq_true h2.2, decide_eq_false h1]; rfl, S.wd.below⟩
  · have rw_d : (decide (57343 < (r : Int)) && decide ((r : Int) ≤ 1114111)) = false := by simp; omega
    refine enter1 func105 rfl ntmps105 rfl fun a S => sg S (.ac rfl <| .z) fun a w S => wp_seq_k fun _ hK1 => wp_block (sg S (.mv rfl <| .yy (ys_T (by omega) (ys_leq Ev.c (.t rfl))) rfl <| .mv rfl <| .gy rfl rfl (ys_move (.t rfl)) <| .gy rfl rfl (ys_F (by omega) (ys_lss (.t rfl) Ev.c)) <| .yy (ys_pickT (.t rfl) (.t rfl)) rfl <| .as rfl <| .z) fun a w S => st_else S (.t rfl) (wp_seq_k fun _ hK2 => wp_region_lit (run S (.mv rfl <| .yy (ys_lss Ev.c (.t rfl)) rfl <| .mv rfl <| .z) fun a w S => st_yg S rfl rfl (Yr.ys (ys_move (.t rfl))) rfl fun a w S => st_yg S rfl rfl (Yr.ys (ys_leq (Ev.g rfl) Ev.c)) rfl fun a w S => run S (.yy (ys_and (.t rfl) (Ev.g rfl) Ev.c) rfl <| .z) fun a w S => ?_)))
    rw [rw_d] at S
    refine run S (.as rfl <| .z) fun a w S => st_nil (then_normal (hK2 _ _ (st_else S (.t rfl) (wp_skip (in_normal (then_normal (hK1 _ _ (sg S (.ac rfl <| .z) fun a w S => wp_ret (st_ret S (results1 S results105 (Rv.tmp rfl)) ?_)))))))))
    exact ⟨by rw [decide_eq_false h1, ← Bool.decide_and, decide_eq_false h2]; rfl, S.wd.below⟩
def inDash (r : Nat) : Int := if r < 128 then Lib.indexByte [45, 95, 46] (UInt8.ofNat r) else -1
theorem idx_high {c : UInt8} (h : 128 ≤ c.toNat) : ∀ l ∈ [[45, 95, 46], [95, 46], [46], ([] : List UInt8)], Lib.indexByte l c = -1 := by
  have h1 : (45 : UInt8) ≠ c := fun e => by subst e; exact absurd h (by decide)
  have h2 : (95 : UInt8) ≠ c := fun e => by subst e; exact absurd h (by decide)
  have h3 : (46 : UInt8) ≠ c := fun e => by subst e; exact absurd h (by decide)
  intro l hl
  simp only [List.mem_cons, List.not_mem_nil, or_false] at hl
  rcases hl with rfl | rfl | rfl | rfl <;> simp [Lib.indexByte, h1, h2, h3]
theorem dash_small : ∀ r : Fin 128, decide (0 ≤ Lib.indexByte [45, 95, 46] (UInt8.ofNat r)) = (decide ((r : Nat) = 45) || decide ((r : Nat) = 95) || decide ((r : Nat) = 46)) := by decide +kernel
theorem b8_nat {r : Nat} (h : r < 128) : (b8 (r : Int)) = UInt8.ofNat r := by
  rw [← UInt8.toNat_inj]
  have := wrap_u8 (r : Int)
  unfold b8
  simp
  omega
theorem rune_forms {p : Int} (h : 128 ≤ p) : (∃ x y, Utf8.encode p = bs [x, y] ∧ 128 ≤ y.toNat) ∨ (∃ x y z, Utf8.encode p = bs [x, y, z] ∧ 128 ≤ z.toNat) ∨ ∃ x y z u, Utf8.encode p = bs [x, y, z, u] := by
  obtain ⟨l, hl, h2, h4, hc⟩ := rune_long h
  rcases l with _ | ⟨x, _ | ⟨y, _ | ⟨z, _ | ⟨u, _ | ⟨v, l⟩⟩⟩⟩⟩
  · simp at h2
  · simp at h2
  · exact .inl ⟨x, y, hl, hc y (by simp)⟩
  · exact .inr (.inl ⟨x, y, z, hl, hc z (by simp)⟩)
  · exact .inr (.inr ⟨x, y, z, u, hl⟩)
  · simp at h4
theorem rune_a (w0 : World) (r : Nat) (h1 : r < 128) (c : UInt8) (rw_c : b8 (r : Int) = c) : Calls Try.prog 100 #[.string (bs [45, 95, 46]), .int .i32 (r : Int)] w0 fun e w' => e = .returned (.int .i64 (Lib.indexByte [45, 95, 46] c)) ∧ Bel w0.heap.size w0 w' := by
  refine enter2 func100 rfl ntmps100 rfl fun a S => sg S (.ac rfl <| .z) fun a w S => wp_block (sg S (.mv rfl <| .yy (ys_T (by omega) (ys_leq Ev.c (.t rfl))) rfl <| .mv rfl <| .gy rfl rfl (ys_move (.t rfl)) <| .gy rfl rfl (ys_T (by omega) (ys_lss (.t rfl) Ev.c)) <| .yy (ys_pickT (.t rfl) (.t rfl)) rfl <| .as rfl <| .z) fun a w S => st_then S (.t rfl) (wp_seq_k fun _ hK1 => wp_region_lit (run S (.mv rfl <| .mv rfl <| .yy (ys_cvB underlying21 underlying5 (.t rfl)) rfl <| .z) fun a w S => ?_)))
  rw [rw_c] at S
  refine run S (.xx (ys_call call104 (.cons (.t rfl) (.cons (.t rfl) .nil)) (fun hp w W => c104 _ _ _)) rfl <| .as rfl <| .z) fun a w S => st_nil (then_normal (hK1 _ _ (wp_ret (in_ret (st_ret S (results1 S results100 (Rv.tmp rfl)) ?_)))))
  exact ⟨rfl, S.wd.below⟩
theorem rune_b (w0 : World) (r : Nat) (h1 : ¬ r < 128) (h2 : r = 65533) : Calls Try.prog 100 #[.string (bs [45, 95, 46]), .int .i32 (r : Int)] w0 fun e w' => e = .returned (.int .i64 (-1)) ∧ Bel w0.heap.size w0 w' := by
  have rw_a0 : (Utf8.decode (bs [45, 95, 46]) 0).1 = 45 := by decide +kernel
  have rw_b0 : (Utf8.decode (bs [45, 95, 46]) 0).2 = 1 := by decide +kernel
  have rw_a1 : (Utf8.decode (bs [45, 95, 46]) 1).1 = 95 := by decide +kernel
  have rw_b1 : (Utf8.decode (bs [45, 95, 46]) 1).2 = 1 := by decide +kernel
  have rw_a2 : (Utf8.decode (bs [45, 95, 46]) 2).1 = 46 := by decide +kernel
  have rw_b2 : (Utf8.decode (bs [45, 95, 46]) 2).2 = 1 := by decide +kernel
  refine enter2 func100 rfl ntmps100 rfl fun a S => sg S (.ac rfl <| .z) fun a w S => wp_block (sg S (.mv rfl <| .yy (ys_T (by omega) (ys_leq Ev.c (.t rfl))) rfl <| .mv rfl <| .gy rfl rfl (ys_move (.t rfl)) <| .gy rfl rfl (ys_F (by omega) (ys_lss (.t rfl) Ev.c)) <| .yy (ys_pickT (.t rfl) (.t rfl)) rfl <| .as rfl <| .z) fun a w S => st_else S (.t rfl) (sg S (.mv rfl <| .yy (ys_T (by omega) (ys_eql (.t rfl) Ev.c)) rfl <| .as rfl <| .z) fun a w S => st_then S (.t rfl) (wp_seq_k fun _ hK1 => wp_seq_k fun _ hK2 => wp_region_lit (run S (.mv rfl <| .z) fun a w S => st_m (op_rangeS S underlying9 (.t rfl) rfl fun g1 a w S => st_nil (then_normal (hK2 _ _ (wp_block (st_rounds 4 (st_round (wp_seq_k fun _ hK2 => wp_region_lit (st_m (op_nextS S (.t rfl) (i := 0) rfl rfl (fun h => absurd h (by decide)) (fun _ => ?_))))))))))))))
  clear S a w
  intro a w S
  rw [rw_a0, rw_b0, Nat.zero_add] at S
  refine run S (.ex rfl rfl <| .z) fun a w S => st_nil (then_normal (hK2 _ _ (wp_seq_k fun _ hK2 => st_then S (.t rfl) (wp_skip (then_normal (hK2 _ _ (wp_block (sg S (.ex rfl rfl <| .ex rfl rfl <| .as rfl <| .as rfl <| .z) fun a w S => sg S (.mv rfl <| .yy (ys_F (by omega) (ys_eql (.t rfl) Ev.c)) rfl <| .z) fun a w S => st_else S (.t rfl) (wp_skip (in_normal (then_normal (st_round (wp_seq_k fun _ hK2 => wp_region_lit (st_m (op_nextS S (.t rfl) (i := 0) rfl rfl (fun h => absurd h (by decide)) (fun _ => ?_))))))))))))))))
  clear S a w
  intro a w S
  rw [rw_a1, rw_b1] at S
  refine run S (.ex rfl rfl <| .z) fun a w S => st_nil (then_normal (hK2 _ _ (wp_seq_k fun _ hK2 => st_then S (.t rfl) (wp_skip (then_normal (hK2 _ _ (wp_block (sg S (.ex rfl rfl <| .ex rfl rfl <| .as rfl <| .as rfl <| .z) fun a w S => sg S (.mv rfl <| .yy (ys_F (by omega) (ys_eql (.t rfl) Ev.c)) rfl <| .z) fun a w S => st_else S (.t rfl) (wp_skip (in_normal (then_normal (st_round (wp_seq_k fun _ hK2 => wp_region_lit (st_m (op_nextS S (.t rfl) (i := 0) rfl rfl (fun h => absurd h (by decide)) (fun _ => ?_))))))))))))))))
  clear S a w
  intro a w S
  rw [rw_a2, rw_b2] at S
  refine run S (.ex rfl rfl <| .z) fun a w S => st_nil (then_normal (hK2 _ _ (wp_seq_k fun _ hK2 => st_then S (.t rfl) (wp_skip (then_normal (hK2 _ _ (wp_block (sg S (.ex rfl rfl <| .ex rfl rfl <| .as rfl <| .as rfl <| .z) fun a w S => sg S (.mv rfl <| .yy (ys_F (by omega) (ys_eql (.t rfl) Ev.c)) rfl <| .z) fun a w S => st_else S (.t rfl) (wp_skip (in_normal (then_normal (st_round (wp_seq_k fun _ hK2 => wp_region_lit (st_m (op_nextS S (.t rfl) (i := 0) rfl rfl (fun _ => ?_) (fun h => absurd h (by decide)))))))))))))))))
  clear S a w
  intro a w S
  refine run S (.ex rfl rfl <| .z) fun a w S => st_nil (then_normal (hK2 _ _ (wp_seq_k fun _ hK2 => st_else S (.t rfl) (wp_exit (then_exit (then_exit (in_here (then_normal (hK1 _ _ (sg S (.ac rfl <| .z) fun a w S => wp_ret (in_ret (st_ret S (results1 S results100 (Rv.tmp rfl)) ?_))))))))))))
  exact ⟨rfl, S.wd.below⟩
theorem rune_c (w0 : World) (r : Nat) (hr : r ≤ 2147483647) (h1 : ¬ r < 128) (h2 : ¬ r = 65533) (rw_v : validR r = false) : Calls Try.prog 100 #[.string (bs [45, 95, 46]), .int .i32 (r : Int)] w0 fun e w' => e = .returned (.int .i64 (-1)) ∧ Bel w0.heap.size w0 w' := by
  refine enter2 func100 rfl ntmps100 rfl fun a S => sg S (.ac rfl <| .z) fun a w S => wp_block (sg S (.mv rfl <| .yy (ys_T (by omega) (ys_leq Ev.c (.t rfl))) rfl <| .mv rfl <| .gy rfl rfl (ys_move (.t rfl)) <| .gy rfl rfl (ys_F (by omega) (ys_lss (.t rfl) Ev.c)) <| .yy (ys_pickT (.t rfl) (.t rfl)) rfl <| .as rfl <| .z) fun a w S => st_else S (.t rfl) (sg S (.mv rfl <| .yy (ys_F (by omega) (ys_eql (.t rfl) Ev.c)) rfl <| .as rfl <| .z) fun a w S => st_else S (.t rfl) (wp_seq_k fun _ hK1 => wp_region_lit (run S (.mv rfl <| .xx (ys_call call105 (.cons (.t rfl) .nil) (fun hp w W => c105 _ _)) rfl <| .z) fun a w S => ?_))))
  rw [rw_v] at S
  refine run S (.nt rfl <| .as rfl <| .z) fun a w S => st_nil (then_normal (hK1 _ _ (st_then S (.t rfl) (sg S (.ac rfl <| .z) fun a w S => wp_ret (in_ret (st_ret S (results1 S results100 (Rv.tmp rfl)) ?_))))))
  exact ⟨rfl, S.wd.below⟩
theorem rune_d (w0 : World) (r : Nat) (hr : r ≤ 2147483647) (h1 : ¬ r < 128) (h2 : ¬ r = 65533) (rw_v : validR r = true) (x y : UInt8) (hl : Utf8.encode (r : Int) = bs [x, y]) (hy : 128 ≤ y.toNat) : Calls Try.prog 100 #[.string (bs [45, 95, 46]), .int .i32 (r : Int)] w0 fun e w' => e = .returned (.int .i64 (-1)) ∧ Bel w0.heap.size w0 w' := by
  have hs1 : ([45, 95, 46] : List UInt8)[1]? = some 95 := rfl
  have hs2 : ([45, 95, 46] : List UInt8)[2]? = some 46 := rfl
  have rw_l0 : (([45, 95, 46] : List UInt8).length : Int) = ((3 : Nat) : Int) := rfl
  have rw_k1 : (((95 : UInt8).toNat : Nat) : Int) = 95 := rfl
  have rw_k2 : (((46 : UInt8).toNat : Nat) : Int) = 46 := rfl
  have rw_d2 : List.drop 2 ([45, 95, 46] : List UInt8) = [46] := rfl
  have rw_d3 : List.drop 3 ([45, 95, 46] : List UInt8) = [] := rfl
  have hl1 : ([x, y] : List UInt8)[1]? = some y := rfl
  have rw_l : (([x, y] : List UInt8).length : Int) = 2 := rfl
  have rw_m : (2 : Int) - 1 = ((1 : Nat) : Int) := rfl
  have rw_n : ((1 : Nat) : Int) + 1 = ((2 : Nat) : Int) := rfl
  have rw_e := idx_high hy [46] (by simp)
  refine enter2 func100 rfl ntmps100 rfl fun a S => sg S (.ac rfl <| .z) fun a w S => wp_block (sg S (.mv rfl <| .yy (ys_T (by omega) (ys_leq Ev.c (.t rfl))) rfl <| .mv rfl <| .gy rfl rfl (ys_move (.t rfl)) <| .gy rfl rfl (ys_F (by omega) (ys_lss (.t rfl) Ev.c)) <| .yy (ys_pickT (.t rfl) (.t rfl)) rfl <| .as rfl <| .z) fun a w S => st_else S (.t rfl) (sg S (.mv rfl <| .yy (ys_F (by omega) (ys_eql (.t rfl) Ev.c)) rfl <| .as rfl <| .z) fun a w S => st_else S (.t rfl) (wp_seq_k fun _ hK1 => wp_region_lit (run S (.mv rfl <| .xx (ys_call call105 (.cons (.t rfl) .nil) (fun hp w W => c105 _ _)) rfl <| .z) fun a w S => ?_))))
  rw [rw_v] at S
  refine run S (.nt rfl <| .as rfl <| .z) fun a w S => st_nil (then_normal (hK1 _ _ (st_else S (.t rfl) (st_scope 1 (fun _ _ => False) rfl (sg S (.mv rfl <| .yy (ys_runeS _ underlying21 underlying9 (.t rfl) hl) rfl <| .as rfl <| .z) fun a w S => wp_seq_k fun _ hK1 => wp_region_lit (run S (.mv rfl <| .yy (ys_lenStr underlying9 (.t rfl)) rfl <| .z) fun a w S => ?_)) (fun a w h => h.elim)))))
  rw [rw_l] at S
  refine run S (.yy (ys_pred (.t rfl) Ev.c (by omega)) rfl <| .as rfl <| .z) fun a w S => st_nil (then_normal (hK1 _ _ (sg S (.mv rfl <| .as rfl <| .z) fun a w S => sg S (.ac rfl <| .z) fun a w S => wp_seq_k fun _ hK1 => wp_block (st_rounds 4 (st_round (wp_seq_k fun _ hK2 => wp_seq_k fun _ hK3 => wp_region_lit (run S (.mv rfl <| .mv rfl <| .yy (ys_lenStr underlying9 (.t rfl)) rfl <| .z) fun a w S => ?_)))))))
  rw [rw_l0] at S
  refine run S (.lt (by omega) rfl rfl <| .z) fun a w S => st_nil (then_normal (hK3 _ _ (st_then S (.t rfl) (wp_skip (then_normal (hK2 _ _ (wp_block (st_scope 0 (fun _ _ => False) rfl (wp_seq_k fun _ hK2 => wp_seq_k fun _ hK3 => st_quiet S (by kernel_rfl) (by kernel_rfl) fun a S => qrun S (.mv rfl <| .mv rfl <| .yy (ys_ixStr underlying9 (.t rfl) (.t rfl) (fun _ => by assumption)) rfl <| .z) fun a S => ?_) (fun a w h => h.elim)))))))))
  rw [rw_k1] at S
  refine qrun S (.mv rfl <| .mv rfl <| .yy (ys_ixStr underlying9 (.t rfl) (.t rfl) (fun _ => by assumption)) rfl <| .yy (ys_T (by omega) (ys_neq (.t rfl) (.t rfl))) rfl <| .z) fun a S => ?_
  (refine q_nil ?_; intro w W; replace S := St.mk S W; clear W)
  refine then_normal (hK3 _ _ (st_then S (.t rfl) (wp_seq_k fun _ hK3 => st_quiet S (by kernel_rfl) (by kernel_rfl) fun a S => qrun S (.mv rfl <| .mv rfl <| .ad (by unfold I64; omega) rfl <| .z) fun a S => ?_)))
  rw [rw_n] at S
  refine qrun S (.yy (ys_slStrLo underlying9 (.t rfl) (.t rfl) (fun _ => by first | omega | (simp; done) | (simp; omega))) rfl <| .z) fun a S => ?_
  rw [rw_d2] at S
  refine qrun S (.mv rfl <| .mv rfl <| .yy (ys_ixStr underlying9 (.t rfl) (.t rfl) (fun _ => by assumption)) rfl <| .xx (ys_call call104 (.cons (.t rfl) (.cons (.t rfl) .nil)) (fun hp w W => c104 _ _ _)) rfl <| .z) fun a S => ?_
  rw [rw_e] at S
  refine qrun S (.as rfl <| .z) fun a S => ?_
  (refine q_nil ?_; intro w W; replace S := St.mk S W; clear W)
  refine then_normal (hK3 _ _ (wp_seq_k fun _ hK3 => sg S (.mv rfl <| .yy (ys_T (by omega) (ys_lss (.t rfl) Ev.c)) rfl <| .z) fun a w S => st_then S (.t rfl) (sg S (.ac rfl <| .z) fun a w S => wp_ret (then_ret (then_ret ?_)))))
  refine jump_ret ?_
  refine in_ret (then_ret (in_ret (then_ret ?_)))
  refine jump_ret ?_
  refine in_ret (st_ret S (results1 S results100 (Rv.tmp rfl)) ?_)
  exact ⟨rfl, S.wd.below⟩
theorem rune_e (w0 : World) (r : Nat) (hr : r ≤ 2147483647) (h1 : ¬ r < 128) (h2 : ¬ r = 65533) (rw_v : validR r = true) (x y z : UInt8) (hl : Utf8.encode (r : Int) = bs [x, y, z]) (hy : 128 ≤ z.toNat) : Calls Try.prog 100 #[.string (bs [45, 95, 46]), .int .i32 (r : Int)] w0 fun e w' => e = .returned (.int .i64 (-1)) ∧ Bel w0.heap.size w0 w' := by
  have hs1 : ([45, 95, 46] : List UInt8)[1]? = some 95 := rfl
  have hs2 : ([45, 95, 46] : List UInt8)[2]? = some 46 := rfl
  have rw_l0 : (([45, 95, 46] : List UInt8).length : Int) = ((3 : Nat) : Int) := rfl
  have rw_k1 : (((95 : UInt8).toNat : Nat) : Int) = 95 := rfl
  have rw_k2 : (((46 : UInt8).toNat : Nat) : Int) = 46 := rfl
  have rw_d2 : List.drop 2 ([45, 95, 46] : List UInt8) = [46] := rfl
  have rw_d3 : List.drop 3 ([45, 95, 46] : List UInt8) = [] := rfl
  have hl1 : ([x, y, z] : List UInt8)[2]? = some z := rfl
  have rw_l : (([x, y, z] : List UInt8).length : Int) = ((3 : Nat) : Int) := rfl
  have rw_m : ((3 : Nat) : Int) - 1 = ((2 : Nat) : Int) := rfl
  have rw_n : ((2 : Nat) : Int) + 1 = ((3 : Nat) : Int) := rfl
  have rw_e := idx_high hy [] (by simp)
  refine enter2 func100 rfl ntmps100 rfl fun a S => sg S (.ac rfl <| .z) fun a w S => wp_block (sg S (.mv rfl <| .yy (ys_T (by omega) (ys_leq Ev.c (.t rfl))) rfl <| .mv rfl <| .gy rfl rfl (ys_move (.t rfl)) <| .gy rfl rfl (ys_F (by omega) (ys_lss (.t rfl) Ev.c)) <| .yy (ys_pickT (.t rfl) (.t rfl)) rfl <| .as rfl <| .z) fun a w S => st_else S (.t rfl) (sg S (.mv rfl <| .yy (ys_F (by omega) (ys_eql (.t rfl) Ev.c)) rfl <| .as rfl <| .z) fun a w S => st_else S (.t rfl) (wp_seq_k fun _ hK1 => wp_region_lit (run S (.mv rfl <| .xx (ys_call call105 (.cons (.t rfl) .nil) (fun hp w W => c105 _ _)) rfl <| .z) fun a w S => ?_))))
  rw [rw_v] at S
  refine run S (.nt rfl <| .as rfl <| .z) fun a w S => st_nil (then_normal (hK1 _ _ (st_else S (.t rfl) (st_scope 1 (fun _ _ => False) rfl (sg S (.mv rfl <| .yy (ys_runeS _ underlying21 underlying9 (.t rfl) hl) rfl <| .as rfl <| .z) fun a w S => wp_seq_k fun _ hK1 => wp_region_lit (run S (.mv rfl <| .yy (ys_lenStr underlying9 (.t rfl)) rfl <| .z) fun a w S => ?_)) (fun a w h => h.elim)))))
  rw [rw_l] at S
  refine run S (.yy (ys_pred (.t rfl) Ev.c (by omega)) rfl <| .as rfl <| .z) fun a w S => st_nil (then_normal (hK1 _ _ (sg S (.mv rfl <| .as rfl <| .z) fun a w S => sg S (.ac rfl <| .z) fun a w S => wp_seq_k fun _ hK1 => wp_block (st_rounds 4 (st_round (wp_seq_k fun _ hK2 => wp_seq_k fun _ hK3 => wp_region_lit (run S (.mv rfl <| .mv rfl <| .yy (ys_lenStr underlying9 (.t rfl)) rfl <| .z) fun a w S => ?_)))))))
  rw [rw_l0] at S
  refine run S (.lt (by omega) rfl rfl <| .z) fun a w S => st_nil (then_normal (hK3 _ _ (st_then S (.t rfl) (wp_skip (then_normal (hK2 _ _ (wp_block (st_scope 0 (fun _ _ => False) rfl (wp_seq_k fun _ hK2 => wp_seq_k fun _ hK3 => st_quiet S (by kernel_rfl) (by kernel_rfl) fun a S => qrun S (.mv rfl <| .mv rfl <| .yy (ys_ixStr underlying9 (.t rfl) (.t rfl) (fun _ => by assumption)) rfl <| .z) fun a S => ?_) (fun a w h => h.elim)))))))))
  rw [rw_k2] at S
  refine qrun S (.mv rfl <| .mv rfl <| .yy (ys_ixStr underlying9 (.t rfl) (.t rfl) (fun _ => by assumption)) rfl <| .yy (ys_T (by omega) (ys_neq (.t rfl) (.t rfl))) rfl <| .z) fun a S => ?_
  (refine q_nil ?_; intro w W; replace S := St.mk S W; clear W)
  refine then_normal (hK3 _ _ (st_then S (.t rfl) (wp_seq_k fun _ hK3 => st_quiet S (by kernel_rfl) (by kernel_rfl) fun a S => qrun S (.mv rfl <| .mv rfl <| .ad (by unfold I64; omega) rfl <| .z) fun a S => ?_)))
  rw [rw_n] at S
  refine qrun S (.yy (ys_slStrLo underlying9 (.t rfl) (.t rfl) (fun _ => by first | omega | (simp; done) | (simp; omega))) rfl <| .z) fun a S => ?_
  rw [rw_d3] at S
  refine qrun S (.mv rfl <| .mv rfl <| .yy (ys_ixStr underlying9 (.t rfl) (.t rfl) (fun _ => by assumption)) rfl <| .xx (ys_call call104 (.cons (.t rfl) (.cons (.t rfl) .nil)) (fun hp w W => c104 _ _ _)) rfl <| .z) fun a S => ?_
  rw [rw_e] at S
  refine qrun S (.as rfl <| .z) fun a S => ?_
  (refine q_nil ?_; intro w W; replace S := St.mk S W; clear W)
  refine then_normal (hK3 _ _ (wp_seq_k fun _ hK3 => sg S (.mv rfl <| .yy (ys_T (by omega) (ys_lss (.t rfl) Ev.c)) rfl <| .z) fun a w S => st_then S (.t rfl) (sg S (.ac rfl <| .z) fun a w S => wp_ret (then_ret (then_ret ?_)))))
  refine jump_ret ?_
  refine in_ret (then_ret (in_ret (then_ret ?_)))
  refine jump_ret ?_
  refine in_ret (st_ret S (results1 S results100 (Rv.tmp rfl)) ?_)
  exact ⟨rfl, S.wd.below⟩
theorem rune_g (w0 : World) (r : Nat) (hr : r ≤ 2147483647) (h1 : ¬ r < 128) (h2 : ¬ r = 65533) (rw_v : validR r = true) (x y z u : UInt8) (hl : Utf8.encode (r : Int) = bs [x, y, z, u]) : Calls Try.prog 100 #[.string (bs [45, 95, 46]), .int .i32 (r : Int)] w0 fun e w' => e = .returned (.int .i64 (-1)) ∧ Bel w0.heap.size w0 w' := by
  have hs1 : ([45, 95, 46] : List UInt8)[1]? = some 95 := rfl
  have hs2 : ([45, 95, 46] : List UInt8)[2]? = some 46 := rfl
  have rw_l0 : (([45, 95, 46] : List UInt8).length : Int) = ((3 : Nat) : Int) := rfl
  have rw_k1 : (((95 : UInt8).toNat : Nat) : Int) = 95 := rfl
  have rw_k2 : (((46 : UInt8).toNat : Nat) : Int) = 46 := rfl
  have rw_d2 : List.drop 2 ([45, 95, 46] : List UInt8) = [46] := rfl
  have rw_d3 : List.drop 3 ([45, 95, 46] : List UInt8) = [] := rfl
  have rw_l : (([x, y, z, u] : List UInt8).length : Int) = 4 := rfl
  have rw_m : (4 : Int) - 1 = 3 := rfl
  refine enter2 func100 rfl ntmps100 rfl fun a S => sg S (.ac rfl <| .z) fun a w S => wp_block (sg S (.mv rfl <| .yy (ys_T (by omega) (ys_leq Ev.c (.t rfl))) rfl <| .mv rfl <| .gy rfl rfl (ys_move (.t rfl)) <| .gy rfl rfl (ys_F (by omega) (ys_lss (.t rfl) Ev.c)) <| .yy (ys_pickT (.t rfl) (.t rfl)) rfl <| .as rfl <| .z) fun a w S => st_else S (.t rfl) (sg S (.mv rfl <| .yy (ys_F (by omega) (ys_eql (.t rfl) Ev.c)) rfl <| .as rfl <| .z) fun a w S => st_else S (.t rfl) (wp_seq_k fun _ hK1 => wp_region_lit (run S (.mv rfl <| .xx (ys_call call105 (.cons (.t rfl) .nil) (fun hp w W => c105 _ _)) rfl <| .z) fun a w S => ?_))))
  rw [rw_v] at S
  refine run S (.nt rfl <| .as rfl <| .z) fun a w S => st_nil (then_normal (hK1 _ _ (st_else S (.t rfl) (st_scope 1 (fun _ _ => False) rfl (sg S (.mv rfl <| .yy (ys_runeS _ underlying21 underlying9 (.t rfl) hl) rfl <| .as rfl <| .z) fun a w S => wp_seq_k fun _ hK1 => wp_region_lit (run S (.mv rfl <| .yy (ys_lenStr underlying9 (.t rfl)) rfl <| .z) fun a w S => ?_)) (fun a w h => h.elim)))))
  rw [rw_l] at S
  refine run S (.yy (ys_pred (.t rfl) Ev.c (by omega)) rfl <| .as rfl <| .z) fun a w S => st_nil (then_normal (hK1 _ _ (sg S (.mv rfl <| .as rfl <| .z) fun a w S => sg S (.ac rfl <| .z) fun a w S => wp_seq_k fun _ hK1 => wp_block (st_rounds 4 (st_round (wp_seq_k fun _ hK2 => wp_seq_k fun _ hK3 => wp_region_lit (run S (.mv rfl <| .mv rfl <| .yy (ys_lenStr underlying9 (.t rfl)) rfl <| .z) fun a w S => ?_)))))))
  rw [rw_l0] at S
  refine run S (.ge (by omega) rfl rfl <| .z) fun a w S => st_nil (then_normal (hK3 _ _ (st_else S (.t rfl) (wp_exit (then_exit (then_exit (in_here (then_normal (hK1 _ _ (wp_seq_k fun _ hK1 => sg S (.ac rfl <| .z) fun a w S => wp_ret (then_ret ?_)))))))))))
  refine jump_ret ?_
  refine in_ret (st_ret S (results1 S results100 (Rv.tmp rfl)) ?_)
  exact ⟨rfl, S.wd.below⟩
theorem c100 (w0 : World) (r : Nat) (hr : r ≤ 2147483647) : Calls Try.prog 100 #[.string (bs [45, 95, 46]), .int .i32 (r : Int)] w0 fun e w' => e = .returned (.int .i64 (inDash r)) ∧ Bel w0.heap.size w0 w' := by
  by_cases h1 : r < 128
  · have e : inDash r = Lib.indexByte [45, 95, 46] (b8 (r : Int)) := by unfold inDash; rw [if_pos h1, b8_nat h1]
    rw [e]
    exact rune_a w0 r h1 _ rfl
  have e : inDash r = -1 := by unfold inDash; rw [if_neg h1]
  rw [e]
  by_cases h2 : r = 65533
  · exact rune_b w0 r h1 h2
  cases hv : validR r with
  | false => exact rune_c w0 r hr h1 h2 hv
  | true =>
    rcases rune_forms (p := (r : Int)) (by omega) with ⟨x, y, hl, hy⟩ | ⟨x, y, z, hl, hy⟩ | ⟨x, y, z, u, hl⟩
    · exact rune_d w0 r hr h1 h2 hv x y hl hy
    · exact rune_e w0 r hr h1 h2 hv x y z hl hy
    · exact rune_g w0 r hr h1 h2 hv x y z u hl
theorem c93 (w0 : World) (r : Nat) (hr : r ≤ 2147483647) : Calls Try.prog 93 #[.string (bs [45, 95, 46]), .int .i32 (r : Int)] w0 fun e w' => e = .returned (.bool (decide (0 ≤ inDash r))) ∧ Bel w0.heap.size w0 w' := by
  refine enter2 func93 rfl ntmps93 rfl fun a S => sg S (.ac rfl <| .z) fun a w S => sg S (.mv rfl <| .mv rfl <| .xx (ys_call call100 (.cons (.t rfl) (.cons (.t rfl) .nil)) (fun hp w W => c100 _ _ (by assumption))) rfl <| .yy (ys_geq (.t rfl) Ev.c) rfl <| .as rfl <| .z) fun a w S => wp_ret (st_ret S (results1 S results93 (Rv.tmp rfl)) ?_)
  exact ⟨rfl, S.wd.below⟩
theorem c92 (w0 : World) (r : Nat) (hr : r ≤ 2147483647) : Calls Try.prog 92 #[.int .i32 (r : Int)] w0 fun e w' => e = .returned (.bool (otherR r)) ∧ Bel w0.heap.size w0 w' := by
  have key : decide (0 ≤ inDash r) = (decide (r = 45) || decide (r = 95) || decide (r = 46)) := by
    unfold inDash
    by_cases h : r < 128
    · rw [if_pos h]
      exact dash_small ⟨r, h⟩
    · rw [if_neg h, Eq.comm]
      simp
      omega
  refine enter1 func92 rfl ntmps92 rfl fun a S => sg S (.ac rfl <| .z) fun a w S => wp_seq_k fun _ hK1 => wp_region_lit (run S (.mv rfl <| .yy (ys_geq (.t rfl) Ev.c) rfl <| .mv rfl <| .z) fun a w S => st_yg S rfl rfl (Yr.ys (ys_move (.t rfl))) rfl fun a w S => st_yg S rfl rfl (Yr.ys (ys_leq (Ev.g rfl) Ev.c)) rfl fun a w S => run S (.yy (ys_and (.t rfl) (Ev.g rfl) Ev.c) rfl <| .mv rfl <| .z) fun a w S => st_yf S rfl rfl (Yr.ys (ys_move (.t rfl))) rfl fun a w S => st_yf S rfl rfl (Yr.ys (ys_geq (Ev.g rfl) Ev.c)) rfl fun a w S => st_yf S rfl rfl (Yr.ys (ys_move (Ev.g rfl))) rfl fun a w S => st_yg2 S rfl rfl (Yr.ys (ys_move (.t rfl))) rfl fun a w S => st_yg2 S rfl rfl (Yr.ys (ys_leq (Ev.g rfl) Ev.c)) rfl fun a w S => st_yf S rfl rfl (Yr.ys (ys_and2 (Ev.g rfl) (Ev.g rfl) Ev.c)) rfl fun a w S => run S (.yy (ys_or (.t rfl) Ev.c (Ev.g rfl)) rfl <| .mv rfl <| .z) fun a w S => st_yf S rfl rfl (Yr.ys (ys_move (.t rfl))) rfl fun a w S => st_yf S rfl rfl (Yr.ys (ys_geq (Ev.g rfl) Ev.c)) rfl fun a w S => st_yf S rfl rfl (Yr.ys (ys_move (Ev.g rfl))) rfl fun a w S => st_yg2 S rfl rfl (Yr.ys (ys_move (.t rfl))) rfl fun a w S => st_yg2 S rfl rfl (Yr.ys (ys_leq (Ev.g rfl) Ev.c)) rfl fun a w S => st_yf S rfl rfl (Yr.ys (ys_and2 (Ev.g rfl) (Ev.g rfl) Ev.c)) rfl fun a w S => run S (.yy (ys_or (.t rfl) Ev.c (Ev.g rfl)) rfl <| .mv rfl <| .z) fun a w S => ?_)
  refine st_yf S rfl rfl (Yr.ys (ys_move (.t rfl))) rfl fun a w S => st_yf S rfl rfl (ys_call call93 (.cons Ev.c (.cons (Ev.g rfl) .nil)) (fun hp w W => c93 _ _ (by assumption))) rfl fun a w S => run S (.yy (ys_or (.t rfl) Ev.c (Ev.g rfl)) rfl <| .nt rfl <| .as rfl <| .z) fun a w S => st_nil (then_normal (hK1 _ _ (wp_ret (st_ret S (results1 S results92 (Rv.tmp rfl)) ?_))))
  refine ⟨?_, S.wd.below⟩
  rw [key]
  unfold otherR
  congr 3
  have e1 : decide ((97 : Int) ≤ (r : Int)) = decide (97 ≤ r) := decide_eq_decide.2 (by omega)
  have e2 : decide ((r : Int) ≤ 122) = decide (r ≤ 122) := decide_eq_decide.2 (by omega)
  have e3 : decide ((65 : Int) ≤ (r : Int)) = decide (65 ≤ r) := decide_eq_decide.2 (by omega)
  have e4 : decide ((r : Int) ≤ 90) = decide (r ≤ 90) := decide_eq_decide.2 (by omega)
  have e5 : decide ((48 : Int) ≤ (r : Int)) = decide (48 ≤ r) := decide_eq_decide.2 (by omega)
  have e6 : decide ((r : Int) ≤ 57) = decide (r ≤ 57) := decide_eq_decide.2 (by omega)
  rw [e1, e2, e3, e4, e5, e6]
  simp only [Bool.or_assoc]
theorem c101 (w0 : World) (s : List UInt8) : Calls Try.prog 101 #[.string (bs s), .func (.func 92) #[] #[], .bool true] w0 fun e w' => e = .returned (.int .i64 (idxR otherR s s.length 0)) ∧ Bel w0.heap.size w0 w' := by
  refine enter3 func101 rfl ntmps101 rfl fun a S => sg S (.ac rfl <| .z) fun a w S => wp_seq_k fun _ hK1 => wp_seq_k fun _ hK2 => wp_region_lit (run S (.mv rfl <| .z) fun a w S => st_m (op_rangeS S underlying9 (.t rfl) rfl fun g1 a w S => st_nil (then_normal (hK2 _ _ (wp_block ?_)))))
  refine st_lpM S [7, 8] (X := Nat × Nat) (fun q => []) (fun q => [.blk g1 (.stringIter (bs s) q.1)])
    (fun q => idxR otherR s q.2 q.1 = idxR otherR s s.length 0 ∧ s.length ≤ q.1 + q.2) (fun q => s.length + 1 - q.1) (0, s.length) ⟨rfl, by simp⟩ ?_
  clear S
  rintro ⟨p, f⟩ a w ⟨h1, h2⟩ S
  dsimp only at h1 h2 S
  refine wp_seq_k fun _ hK2 => wp_region_lit ?_
  refine st_m (op_nextS S (.t rfl) (i := 0) rfl rfl (fun h => ?_) (fun h => ?_))
  · clear S a w
    intro a w S
    refine run S (.ex rfl rfl <| .z) fun a w S => st_nil (then_normal (hK2 _ _ (wp_seq_k fun _ hK2 => st_else S (.t rfl) (wp_exit (then_exit (then_exit (in_here (then_normal (hK1 _ _ (sg S (.ac rfl <| .z) fun a w S => wp_ret (st_ret S (results1 S results101 (Rv.tmp rfl)) ?_)))))))))))
    exact ⟨by rw [← h1, idxR_end h], S.wd.below⟩
  · clear S a w
    intro a w S
    have hw := Lib.width_pos (bs s) p
    have hru := Lib.rune_le (bs s) p
    obtain ⟨f', rfl⟩ : ∃ f', f = f' + 1 := ⟨f - 1, by omega⟩
    rw [idxR, if_pos h] at h1
    generalize (Utf8.decode (bs s) p).1 = R at *
    generalize (Utf8.decode (bs s) p).2 = W at *
    cases rw_o : otherR R with
    | true =>
      refine run S (.ex rfl rfl <| .z) fun a w S => st_nil (then_normal (hK2 _ _ (wp_seq_k fun _ hK2 => st_then S (.t rfl) (wp_skip (then_normal (hK2 _ _ (wp_block (sg S (.ex rfl rfl <| .ex rfl rfl <| .as rfl <| .as rfl <| .z) fun a w S => wp_seq_k fun _ hK2 => wp_region_lit (run S (.mv rfl <| .mv rfl <| .xx (ys_callV (.t rfl) call92 (.cons (.t rfl) .nil) (fun hp w W => c92 _ _ (by omega))) rfl <| .z) fun a w S => ?_)))))))))
      simp only [List.nil_append] at S
      rw [rw_o] at S
      refine run S (.mv rfl <| .yy (ys_eqlB underlying4 (.t rfl) (.t rfl)) rfl <| .z) fun a w S => st_nil (then_normal (hK2 _ _ (st_then S (.t rfl) (sg S (.mv rfl <| .as rfl <| .z) fun a w S => wp_ret (in_ret (then_ret (in_ret (then_ret (st_ret S (results1 S results101 (Rv.tmp rfl)) ?_)))))))))
      exact ⟨by rw [← h1, if_pos rw_o], S.wd.below⟩
    | false =>
      refine run S (.ex rfl rfl <| .z) fun a w S => st_nil (then_normal (hK2 _ _ (wp_seq_k fun _ hK2 => st_then S (.t rfl) (wp_skip (then_normal (hK2 _ _ (wp_block (sg S (.ex rfl rfl <| .ex rfl rfl <| .as rfl <| .as rfl <| .z) fun a w S => wp_seq_k fun _ hK2 => wp_region_lit (run S (.mv rfl <| .mv rfl <| .xx (ys_callV (.t rfl) call92 (.cons (.t rfl) .nil) (fun hp w W => c92 _ _ (by omega))) rfl <| .z) fun a w S => ?_)))))))))
      simp only [List.nil_append] at S
      rw [rw_o] at S
      refine run S (.mv rfl <| .yy (ys_eqlB underlying4 (.t rfl) (.t rfl)) rfl <| .z) fun a w S => st_nil (then_normal (hK2 _ _ (st_else S (.t rfl) (wp_skip (in_normal (then_normal ?_))))))
      exact ⟨(p + W, f'), ⟨by rw [← h1, if_neg (by simp [rw_o])], by dsimp only; omega⟩, by dsimp only; omega, S.pk⟩
theorem c94 (w0 : World) (s : List UInt8) : Calls Try.prog 94 #[.string (bs s), .func (.func 92) #[] #[]] w0 fun e w' => e = .returned (.int .i64 (idxR otherR s s.length 0)) ∧ Bel w0.heap.size w0 w' := by
  refine enter2 func94 rfl ntmps94 rfl fun a S => sg S (.ac rfl <| .z) fun a w S => sg S (.mv rfl <| .mv rfl <| .xx (ys_call call101 (.cons (.t rfl) (.cons (.t rfl) (.cons Ev.c .nil))) (fun hp w W => c101 _ _)) rfl <| .as rfl <| .z) fun a w S => wp_ret (st_ret S (results1 S results94 (Rv.tmp rfl)) ?_)
  exact ⟨rfl, S.wd.below⟩
theorem c80 (w0 : World) (s : List UInt8) : Calls Try.prog 80 #[.string (bs s)] w0 fun e w' => e = .returned (.bool (nameB s)) ∧ Bel w0.heap.size w0 w' := by
  refine enter1 func80 rfl ntmps80 rfl fun a S => sg S (.ac rfl <| .z) fun a w S => sg S (.yy (ys_assign Ev.f) rfl <| .z) fun a w S => wp_seq_k fun _ hK1 => wp_region_lit (run S (.mv rfl <| .yy (ys_neqStr (.t rfl) Ev.c) rfl <| .mv rfl <| .z) fun a w S => st_yg S rfl rfl (Yr.ys (ys_move (.t rfl))) rfl fun a w S => st_yg S rfl rfl (Yr.ys (ys_lenStr underlying9 (Ev.g rfl))) rfl fun a w S => st_yg S rfl rfl (Yr.ys (ys_leq (Ev.g rfl) Ev.c)) rfl fun a w S => run S (.yy (ys_and (.t rfl) (Ev.g rfl) Ev.c) rfl <| .mv rfl <| .z) fun a w S => st_yg S rfl rfl (Yr.ys (ys_move (.t rfl))) rfl fun a w S => st_yg S rfl rfl (Yr.ys (ys_move (.t rfl))) rfl fun a w S => st_yg S rfl rfl (ys_call call94 (.cons (Ev.g rfl) (.cons (Ev.g rfl) .nil)) (fun hp w W => c94 _ _)) rfl fun a w S => st_yg S rfl rfl (Yr.ys (ys_lss (Ev.g rfl) Ev.c)) rfl fun a w S => run S (.yy (ys_and (.t rfl) (Ev.g rfl) Ev.c) rfl <| .as rfl <| .z) fun a w S => st_nil (then_normal (hK1 _ _ (wp_ret (st_ret S (results1 S results80 (Rv.tmp rfl)) ?_)))))
  refine ⟨?_, S.wd.below⟩
  have h := name_idx s
  have e1 : decide ((s.length : Int) ≤ 32) = decide (s.length ≤ 32) := decide_eq_decide.2 (by omega)
  rw [h, e1]
  rfl
end Go.Proofs.Ytakpdbmdfnialaa
set_option linter.unusedVariables false
set_option linter.unusedSimpArgs false
namespace Go.Fw
open Go.Proofs Go.RowKit
section
variable {P : Program} {ops : Array Oper} {Q : Exit → Act → World → Prop} {a : Act} {w : World} {lp m : Nat}
theorem upon_round {o : Oper} {K : Act → World → Prop} {r : Result Next} (h : o.upon P a K Q r) : o.uponIn (Fence.wide.inRound lp) m P a K Q r := by
  cases r with
  | ok x w' =>
    cases x <;> simp only [Oper.upon, Oper.uponIn] at h ⊢ <;> first | exact h | skip
    · refine ⟨fun h => by simp [Fence.wide] at h, ?_⟩
      exact (callsIn_wide (n := m - 1)).2 h
    · refine ⟨fun h => by simp [Fence.wide] at h, fun c cs _ => ?_⟩
      obtain ⟨v, w', r, s⟩ := h c cs
      exact ⟨v, w', r, stepsIn_wide.2 s⟩
  | halt x w' => cases x <;> simp only [Oper.upon, Oper.uponIn] at h ⊢ <;> exact h
def noDefer (o : Oper) : Bool := match o.op with
  | .defer _ => false
  | _ => true
theorem wp_round {o : Oper} {K : Act → World → Prop} (hd : noDefer o = true) (h : o.wp P a w K Q) : o.wpIn (Fence.wide.inRound lp) m P a w K Q := by
  refine ⟨fun _ _ => trivial, ?_⟩
  rw [Fence.inRound_round, Oper.semAt_some lp _ _ (fun c hc => by unfold noDefer at hd; rw [hc] at hd; cases hd)]
  exact upon_round h
theorem wpOps_round (hnd : ops.all noDefer = true) (hlo : ¬ LetsOut Q) : ∀ (l : List Nat) (a : Act) (w : World), wpOps P ops Q l a w → wpOpsIn (Fence.wide.inRound lp) m P ops Q l a w
  | [], a, w, h => h
  | i :: rest, a, w, h => by
    unfold wpOps at h
    unfold wpOpsIn
    cases ho : ops[i]? with
    | none => rw [ho] at h; exact wpOps_round hnd hlo rest a w h
    | some o =>
      rw [ho] at h
      have hd : noDefer o = true := by
        obtain ⟨hi, e⟩ := Array.getElem?_eq_some_iff.1 ho
        exact e ▸ (Array.all_eq_true.1 hnd i hi)
      dsimp only at h ⊢
      split
      · rename_i hw
        rw [if_pos hw] at h
        rcases h with h | h
        · exact Oper.wpIn_mono (fun a w h => wpOps_round hnd hlo rest a w h) (wp_round hd h)
        · exact absurd h.2 hlo
      · rename_i hw
        rw [if_neg hw] at h
        exact ⟨fun _ _ => trivial, wpOps_round hnd hlo rest _ w h⟩
theorem lets_block {i : Nat} (h : ¬ LetsOut Q) : ¬ LetsOut (Exit.inBlock i Q) := fun ⟨a, w, h'⟩ => h ⟨a, w, h'⟩
theorem region_round {id : Nat} {l : List Oper} (hnd : l.toArray.all noDefer = true) (hlo : ¬ LetsOut Q) (h : wpList P l.toArray Q l a w) : (Code.region id l.toArray false).wpIn (Fence.wide.inRound lp) m P Q a w :=
  wpIn_region (wpOps_round hnd hlo _ _ _ (by rw [List.range_eq_range', ← Array.length_toList, wpOps_eq_wpList l.toArray.toList 0 (by simp)]; simpa using h))
end
section
variable {P : Program} {ops : Array Oper} {Q : Exit → Act → World → Prop} {md : Region.Mode} {S : World → Prop} {m : Nat}
theorem YieldsIf.wpOpI {i : Nat} {o : Oper} {v : Value} {a : Act} (hi : ops[i]? = some o) (hy : YieldsIf P ops S o v a)
    {K : Act → World → Prop} {w : World} (hS : S w) (h : K (a.put o.dst v) w) : wpOpIn Fence.wide m P ops Q i K a w := by
  unfold Go.wpOpIn
  simp only [hi]
  rcases hy with ⟨hw, hv⟩ | ⟨hw, rfl⟩
  · simp only [hw, if_true, Oper.wpIn]
    refine ⟨fun _ _ => trivial, ?_⟩
    rw [show Oper.semAt Fence.wide.round a.eval o = execOp a.eval o from rfl, hv w hS]
    exact h
  · simp only [hw, Bool.false_eq_true, if_false]; exact ⟨fun _ _ => trivial, h⟩
theorem wpOpI_put {j : Nat} {oi oj : Oper} {v : Value} (hj : ops[j]? = some oj) (hap : oi.apart ops oj = true)
    (hsi : ∀ cs b, oi.op ≠ .select cs b) (hsj : ∀ cs b, oj.op ≠ .select cs b)
    (hQ : ∀ c a w, Q (.panic c) (a.put oi.dst v) w → Q (.panic c) a w) {K : Act → World → Prop} {a : Act} {w : World}
    (hy : YieldsIf P ops S oi v a) (h : wpOpIn Fence.wide m P ops Q j K (a.put oi.dst v) w) :
    wpOpIn Fence.wide m P ops Q j (fun a' w' => YieldsIf P ops S oi v a' ∧ K (a'.put oi.dst v) w') a w := by
  obtain ⟨h1, h2, h3⟩ := Oper.apart_spec hap
  have keep : ∀ (a : Act), YieldsIf P ops S oi v a → ∀ u, YieldsIf P ops S oi v (a.put oj.dst u) := fun a hy u =>
    hy.of_same (execOp_put oi hsi a oj.dst u h3) (wanted_put oi a oj.dst u h3)
  have keepD : ∀ d, YieldsIf P ops S oi v { a with defers := d :: a.defers } := fun d => hy.of_same rfl rfl
  unfold wpOpIn at *
  simp only [hj] at *
  rw [wanted_put oj a oi.dst v h1] at h
  split
  · rename_i hw
    simp only [hw, if_true] at h
    refine ⟨fun _ _ => trivial, ?_⟩
    obtain ⟨_, h⟩ := h
    rw [show Oper.semAt Fence.wide.round (a.put oi.dst v).eval oj = execOp (a.put oi.dst v).eval oj from rfl, execOp_put oj hsj a oi.dst v h1] at h
    rw [show Oper.semAt Fence.wide.round a.eval oj = execOp a.eval oj from rfl]
    generalize (execOp a.eval oj).run P w = r at *
    cases r with
    | ok n w' =>
      cases n <;> simp only [Oper.uponIn] at h ⊢
      case value u => exact ⟨keep a hy u, by rw [← Act.put_comm a v u h2]; exact h⟩
      case skip => exact ⟨keep a hy _, by rw [← Act.put_comm a v undef h2]; exact h⟩
      case defer d =>
        refine ⟨keep _ (keepD d) _, ?_⟩
        rw [← Act.put_comm _ v undef h2, ← Act.put_defers]
        exact h
      case enter f args =>
        refine ⟨h.1, CallsIn.mono h.2 fun e w'' he => ?_⟩
        cases e with
        | returned u => exact ⟨keep a hy u, by rw [← Act.put_comm a v u h2]; exact he⟩
        | panicked c => exact hQ _ _ _ he
        | outgrown => exact he
      case row row args => exact ⟨h.1, RowsIn.mono h.2 fun u w'' he => ⟨keep a hy u, by rw [← Act.put_comm a v u h2]; exact he⟩⟩
      case round l f tmps assign body =>
        refine ⟨h.1, RoundIn.mono h.2 fun e w'' he => ?_⟩
        cases e with
        | returned u => exact ⟨keep a hy u, by rw [← Act.put_comm a v u h2]; exact he⟩
        | panicked c => exact hQ _ _ _ he
        | outgrown => exact he
    | halt x w' =>
      cases x <;> simp only [Oper.uponIn] at h ⊢
      case panic u => exact hQ _ _ _ h
  · rename_i hw
    simp only [hw] at h
    exact ⟨fun _ _ => trivial, keep a hy _, by rw [← Act.put_comm a v undef h2]; exact h.2⟩
def wpAnyI (m : Nat) (P : Program) (md : Region.Mode) (ops : Array Oper) (Q : Exit → Act → World → Prop) (S : World → Prop) : Nat → Array Bool → Act → World → Prop
  | 0, listed, a, w => Region.ready md ops listed = [] ∧ Q .normal a w
  | fuel + 1, listed, a, w =>
    (Region.ready md ops listed = [] → Q .normal a w) ∧
    ∀ i ∈ Region.ready md ops listed, wpOpIn Fence.wide m P ops Q i (fun a' w' => S w' ∧ wpAnyI m P md ops Q S fuel (listed.setIfInBounds i true) a' w') a w
theorem wpAny_of_I : ∀ (fuel : Nat) (listed : Array Bool) (a : Act) (w : World), wpAnyI m P md ops Q S fuel listed a w → wpAnyIn Fence.wide m P md ops Q fuel listed a w
  | 0, _, _, _, h => h
  | fuel + 1, _, _, _, h => ⟨h.1, fun i hi => wpOpIn_mono (fun a' w' h' => wpAny_of_I fuel _ a' w' h'.2) (h.2 i hi)⟩
theorem wpAnyI_first {i : Nat} {oi : Oper} {v : Value} (hi : ops[i]? = some oi) (hsel : ∀ (j : Nat) (o : Oper) cs b, ops[j]? = some o → o.op ≠ .select cs b)
    (hQ : ∀ c a w, Q (.panic c) (a.put oi.dst v) w → Q (.panic c) a w) :
    ∀ (fuel : Nat) (listed : Array Bool) (a : Act) (w : World),
      (∀ j oj, ops[j]? = some oj → j ≠ i → listed.getD j true = false → (∀ e ∈ oj.after, Region.binds md e = true → e.on ≠ i) → oi.apart ops oj = true) →
      i ∈ Region.ready md ops listed → YieldsIf P ops S oi v a → S w →
      wpAnyI m P md ops Q S fuel (listed.setIfInBounds i true) (a.put oi.dst v) w → wpAnyI m P md ops Q S (fuel + 1) listed a w := by
  intro fuel
  induction fuel with
  | zero =>
    intro listed a w _ hr hy hS H
    refine ⟨fun h => (by rw [h] at hr; cases hr), fun j hj => ?_⟩
    by_cases hji : j = i
    · subst hji; exact YieldsIf.wpOpI hi hy hS ⟨hS, H⟩
    · have := ready_mono hj hji
      rw [H.1] at this
      cases this
  | succ fuel ih =>
    intro listed a w hfree hr hy hS H
    refine ⟨fun h => (by rw [h] at hr; cases hr), fun j hj => ?_⟩
    by_cases hji : j = i
    · subst hji; exact YieldsIf.wpOpI hi hy hS ⟨hS, H⟩
    · have h1 := H.2 j (ready_mono hj hji)
      obtain ⟨hjun, oj, hoj, hall⟩ := mem_ready.1 hj
      have hnot : ∀ e ∈ oj.after, Region.binds md e = true → e.on ≠ i := fun e he hb heq => by
        have h1 := hall e he hb
        have h0 := (mem_ready.1 hr).1
        rw [heq] at h1
        rcases Nat.lt_or_ge i listed.size with h' | h'
        · simp [h'] at h0 h1; rw [h0] at h1; cases h1
        · simp [Array.getElem?_eq_none h'] at h1
      have h2 := wpOpI_put hoj (hfree j oj hoj hji hjun hnot) (fun cs b => hsel i oi cs b hi) (fun cs b => hsel j oj cs b hoj) hQ hy h1
      have hfree' : ∀ k ok, ops[k]? = some ok → k ≠ i → (listed.setIfInBounds j true).getD k true = false →
          (∀ e ∈ ok.after, Region.binds md e = true → e.on ≠ i) → oi.apart ops ok = true := fun k ok hk hki hun hno => by
        refine hfree k ok hk hki ?_ hno
        by_cases hjk : j = k
        · subst hjk; exact hjun
        · rw [getD_set_ne true hjk] at hun; exact hun
      refine wpOpIn_mono (fun a' w' h3 => ⟨h3.2.1, ih (listed.setIfInBounds j true) a' w' hfree' (ready_mono hr (Ne.symm hji)) h3.1 h3.2.1 ?_⟩) h2
      rw [Array.setIfInBounds_comm _ _ hji]
      exact h3.2.2
theorem wpAnyI_all {rs : List Nat} {fuel : Nat} {listed : Array Bool} {a : Act} {w : World} (hr : Region.ready md ops listed = rs) (hne : rs ≠ [])
    (h : ∀ i ∈ rs, wpOpIn Fence.wide m P ops Q i (fun a' w' => S w' ∧ wpAnyI m P md ops Q S fuel (listed.setIfInBounds i true) a' w') a w) : wpAnyI m P md ops Q S (fuel + 1) listed a w :=
  ⟨fun h0 => absurd (hr ▸ h0) hne, hr ▸ h⟩
theorem wpAnyI_done {listed : Array Bool} {a : Act} {w : World} (hr : Region.ready md ops listed = []) (h : Q .normal a w) :
    ∀ fuel, wpAnyI m P md ops Q S fuel listed a w
  | 0 => ⟨hr, h⟩
  | _ + 1 => ⟨fun _ => h, by rw [hr]; simp⟩
theorem region_yields {id : Nat} {a : Act} {w : World} (m : Nat) (S : World → Prop) (hm : P.follows .mixedOrders = true)
    (h : wpAnyI m P .any ops Q S ops.size (Array.replicate ops.size false) a { w with drawn := w.drawn + 1 }) : (Code.region id ops true).wp P Q a w :=
  wpIn_wide.1 (wpIn_region_any hm (wpAny_of_I _ _ _ _ h))
variable {n : Nat} {w0 : World} {K : KL} {L Lr : List Chunk} {a : Act} {w : World} {fuel i d : Nat} {listed : Array Bool} {op : Op} {ty : TypeId} {pos : String} {aft : Array Edge} {v : Value}
def Yielded (m : Nat) (P : Program) (l : Nat) (args : Array Value) (W : World) (R : Ending → World → Prop) : Prop :=
  ∃ fn tmps assign body, (Instr.yield l args).run P W = .ok (.round l fn tmps assign body) W ∧ RoundIn Fence.wide m P l fn tmps assign body W R
theorem i_y (S : St n w0 K L a w) (hsub : Lr.Sublist L) (hi : ops[i]? = some ⟨some d, op, ty, pos, aft, none⟩) (hs : Region.noSelect ops = true) (hf : Region.free md ops listed i = true) (hr : (Region.ready md ops listed).contains i = true)
    (hQ : ∀ v c a w, Q (.panic c) (a.put (some d) v) w → Q (.panic c) a w) (hy : Yr P ⟨some d, op, ty, pos, aft, none⟩ n K w0 Lr true v) (hd : Nat.blt d n = true)
    (next : ∀ a w, St n w0 ((d, true, v) :: K) L a w → wpAnyI m P md ops Q (Wd w0 Lr) fuel (listed.setIfInBounds i true) a w) : wpAnyI m P md ops Q (Wd w0 Lr) (fuel + 1) listed a w :=
  wpAnyI_first hi (Region.noSelect_spec hs) (hQ v) fuel listed a w (Region.free_spec hi hf) (by simpa using hr) (.inl ⟨rfl, fun w hw => hy a w rfl S.kn hw⟩) (S.wd.sub hsub) (next _ _ ⟨S.kn.put hd v, S.wd⟩)
theorem i_yield {x : Operand} {xs : List Operand} {ts : Array TypeId} {vs : List Value} {lp : Nat} (S : St n w0 K L a w) (hi : ops[i]? = some ⟨some d, .call ⟨.value x, xs.toArray, ts⟩, ty, pos, aft, none⟩) (hr : Region.ready md ops listed = [i]) (hd : Nat.blt d n = true)
    (hx : Ev n true K x (.func (.yield lp) #[] #[])) (hxs : EvL n true K xs vs)
    {R : World → Prop} (hY : Yielded (m - 1) P lp vs.toArray w fun e w' => e = .returned (.bool true) ∧ R w')
    (next : ∀ a w', R w' → Kn n ((d, true, .bool true) :: K) a → Wd w0 Lr w' ∧ wpAnyI m P md ops Q (Wd w0 Lr) fuel (listed.setIfInBounds i true) a w') : wpAnyI m P md ops Q (Wd w0 Lr) (fuel + 1) listed a w := by
  refine wpAnyI_all hr (by simp) fun k hk => ?_
  simp only [List.mem_singleton] at hk
  subst hk
  unfold wpOpIn
  simp only [hi, Region.wanted, if_true]
  refine ⟨fun _ _ => trivial, ?_⟩
  obtain ⟨fn, tmps, assign, body, hrun, hR⟩ := hY
  have e : (xs.toArray.map a.eval) = vs.toArray := by rw [List.map_toArray, hxs a rfl S.kn]
  have he : (Oper.semAt Fence.wide.round a.eval ⟨some d, .call ⟨.value x, xs.toArray, ts⟩, ty, pos, aft, none⟩).run P w = .ok (.round lp fn tmps assign body) w := by
    have e2 : ∀ o, Oper.semAt Fence.wide.round a.eval o = execOp a.eval o := fun _ => rfl
    rw [e2]
    simp only [execOp, resolve, e, hx a rfl S.kn]
    simp [Deferred.ofValue, invoke, hrun]
  rw [he]
  refine ⟨fun h => by simp [Fence.wide] at h, RoundIn.mono hR fun en w' ⟨h1, h2⟩ => ?_⟩
  subst h1
  exact next _ _ h2 (S.kn.put hd _)
end
section
variable {P : Program} {n : Nat} {w0 : World} {K : KL} {L : List Chunk} {a : Act} {w : World} {Q : Exit → Act → World → Prop}
abbrev recR (st : LoopState) (fn : FuncId) (tmps : Array Value) (ps : Array Tmp) (assign body : Code) (D : Nat) : Loop := { state := st, pending := none, fn, tmps, params := ps, assign, body, defers := D }
abbrev loopK (lp D : Nat) (r : Loop) (L : List Chunk) : List Chunk := .blk lp (.loop r) :: .blk D (.deferred (some [])) :: L
theorem st_range {x : Operand} {ps : Array Tmp} {assign body : Code} {gf : Nat} {lb : List Value} (m : Nat) (S : St n w0 K L a w) (hx : Ev n true K x (.func (.func gf) #[] lb.toArray)) (eg : ∀ args w, (callFunc gf args).run P w = .ok (.enter gf args) w)
    {R : Nat → World → Prop}
    (call : ∀ fn lp D W, Wd w0 (loopK lp D (recR .ready fn a.tmps ps assign body D) L) W → Calls P gf (.func (.yield lp) #[] #[] :: lb).toArray W fun e W' => (∃ v, e = .returned v) ∧ W'.heap[lp]? = some (.loop (recR .ready fn a.tmps ps assign body D)) ∧ R D (W'.putObj lp (.loop (recR .exhausted fn a.tmps ps assign body D))))
    (next : ∀ D W', R D W' → Q .normal { a with defers := [{ target := .collected D, args := #[] }] } W') : (Code.rangeFunc x ps assign body).wp P Q a w := by
  refine (wpIn_wide (n := m)).1 (wpIn_rangeFunc ?_)
  intro fn hfn
  have hg := hx a rfl S.kn
  have hd := S.kn.defers
  have W1 := (S.wd.alloc (.deferred (some []))).alloc (.loop (recR .ready fn a.tmps ps assign body w.heap.size))
  rw [World.size_alloc] at W1
  refine ⟨w.heap.size + 1, [{ target := .collected w.heap.size, args := #[] }], (w.alloc (.deferred (some []))).alloc (.loop (recR .ready fn a.tmps ps assign body w.heap.size)), { target := .fn (.func gf) lb.toArray, args := #[.func (.yield (w.heap.size + 1)) #[] #[]] }, (w.alloc (.deferred (some []))).alloc (.loop (recR .ready fn a.tmps ps assign body w.heap.size)), gf,
    #[.func (.yield (w.heap.size + 1)) #[] #[]] ++ lb.toArray, (w.alloc (.deferred (some []))).alloc (.loop (recR .ready fn a.tmps ps assign body w.heap.size)), run_enterLoop_outer _ _ _ _ _, ?_, fun _ _ => trivial, ?_, fun h => by simp [Fence.wide] at h, ?_⟩
  · simp only [resolve, hg]
    simp [go_sem]
  · simp [invoke, go_sem, eg]
  · have hc := call fn _ _ _ W1
    have e : (#[.func (.yield (w.heap.size + 1)) #[] #[]] ++ lb.toArray : Array Value) = (.func (.yield (w.heap.size + 1)) #[] #[] :: lb).toArray := by simp
    rw [e]
    refine callsIn_wide.2 (hc.mono fun en W2 ⟨⟨v, hv⟩, hl, hR⟩ => ?_)
    subst hv
    refine ⟨none, _, run_endLoop hl (by simp), ?_⟩
    have := next _ _ hR
    rw [hd]
    simpa using this
theorem yields_of {lp D : Nat} {fn : FuncId} {tmps : Array Value} {ps : Array Tmp} {assign body : Code} {args : List Value} {L : List Chunk} {w : World} {R : World → Prop} {m : Nat}
    (W : Wd w0 (loopK lp D (recR .ready fn tmps ps assign body D) L) w) (hps : args.length = ps.size) (ha : assign = .skip)
    (h : ∀ w1, Wd w0 (loopK lp D (recR .busy fn tmps ps assign body D) L) w1 → body.wpIn (Fence.wide.inRound lp) m P (fun e _ w' => e = .normal ∧ w'.heap[lp]? = some (.loop (recR .busy fn tmps ps assign body D)) ∧ R (w'.putObj lp (.loop (recR .ready fn tmps ps assign body D))))
      { tmps := (ps.zip args.toArray).foldl (fun t (p, v) => t.setIfInBounds p v) tmps, defers := [] } w1) :
    Yielded m P lp args.toArray w fun e w' => e = .returned (.bool true) ∧ R w' := by
  have hl := (W.get (k := 0) rfl).2
  have hy := run_yield (P := P) (args := args.toArray) hl (by simpa using hps)
  refine ⟨_, _, _, _, hy, roundIn_of_wpIn trivial ?_⟩
  rw [ha]
  refine wpIn_skip ⟨_, run_beginRound hl rfl, ?_⟩
  have W1 : Wd w0 (loopK lp D (recR .busy fn tmps ps assign body D) L) (w.putObj lp (.loop (recR .busy fn tmps ps assign body D))) := W.setBlk (k := 0) rfl
  refine wpIn_mono (h _ W1) fun e a w' ⟨he, hl', hR⟩ => ?_
  subst he
  exact ⟨_, _, run_endRound none hl', rfl, hR⟩
theorem enter_range {f : FuncId} {fn : Func} {c : Code} {args : List Value} {w : World} {R : Ending → World → Prop} (hf : P.funcs[f]? = some fn) (hb : fn.body = some c)
    {n : Nat} (hn : fn.ntmps = n) (hsz : Nat.ble args.length n = true) (h : ∀ a, St n w (argsK 0 args) [] a w → c.wp P (bodyPostM Fence.wide 1 P fn R) a w) : Calls P f args.toArray w R := by
  refine callsIn_wide.1 (callsIn_of_wp_marks (n := 1) hf hb trivial (wpIn_wide.2 (h _ ⟨⟨rfl, ?_, fun i g v hv => ?_⟩, Wd.start w⟩)))
  · have := Nat.le_of_ble_eq_true hsz
    simp [hn]; omega
  · obtain ⟨rfl, h1, h2⟩ := argsK_ok args 0 i g v hv
    have hi : i < args.length := (List.getElem?_eq_some_iff.1 h2).1
    simp at h2
    simp [Array.getElem?_append, hi, (List.getElem?_eq_some_iff.1 h2).2]
theorem leave_range {fn : Func} {R : Ending → World → Prop} {a : Act} {w : World} {D : Nat} {v : Value} (hd : a.defers = [{ target := .collected D, args := #[] }]) (hD : w.heap[D]? = some (.deferred (some [])))
    (hv : (results fn a.tmps).run P (w.putObj D (.deferred none)) = .ok v (w.putObj D (.deferred none))) (hR : R (.returned v) (w.putObj D (.deferred none))) : bodyPostM Fence.wide 1 P fn R .ret a w := by
  show LeavesInM Fence.wide 1 P fn a.tmps R a.defers .returning w
  rw [hd]
  refine ⟨by simp, .inl ⟨D, _, rfl, run_takeDeferred hD, ?_⟩⟩
  exact ⟨v, hv, hR⟩
theorem kn_round2 {n : Nat} {K : KL} {a : Act} {p q : Nat} {u v : Value} (hk : Kn n K a) (hp : Nat.blt p n = true) (hq : Nat.blt q n = true) :
    Kn n ((q, true, v) :: (p, true, u) :: K) { tmps := ((#[p, q] : Array Tmp).zip [u, v].toArray).foldl (fun t (p, v) => t.setIfInBounds p v) a.tmps, defers := [] } := by
  have h := (hk.put hp u).put hq v
  have e : ({ tmps := ((#[p, q] : Array Tmp).zip [u, v].toArray).foldl (fun t (p, v) => t.setIfInBounds p v) a.tmps, defers := [] } : Act) = (a.put (some p) u).put (some q) v := by
    simp [Act.put, hk.defers]
  rw [e]
  exact h
theorem yields2 {lp D : Nat} {fn : FuncId} {p q : Nat} {u v : Value} {body : Code} {w : World} {R : World → Prop} {m : Nat}
    (hk : Kn n K a) (W : Wd w0 (loopK lp D (recR .ready fn a.tmps #[p, q] .skip body D) L) w) (hp : Nat.blt p n = true) (hq : Nat.blt q n = true)
    (h : ∀ b w1, St n w0 ((q, true, v) :: (p, true, u) :: K) (loopK lp D (recR .busy fn a.tmps #[p, q] .skip body D) L) b w1 → body.wpIn (Fence.wide.inRound lp) m P (fun e _ w' => e = .normal ∧ w'.heap[lp]? = some (.loop (recR .busy fn a.tmps #[p, q] .skip body D)) ∧ R (w'.putObj lp (.loop (recR .ready fn a.tmps #[p, q] .skip body D)))) b w1) :
    Yielded m P lp [u, v].toArray w fun e w' => e = .returned (.bool true) ∧ R w' :=
  yields_of W rfl rfl fun w1 hw1 => h _ w1 ⟨kn_round2 hk hp hq, hw1⟩
theorem tail_range {fn : Func} {R : Ending → World → Prop} {D k d d2 id : Nat} {op : Op} {ty ty2 : TypeId} {pos pos2 : String} {aft aft2 : Array Edge} {v : Value} (S : St n w0 K L a w) (hk : L[k]? = some (.blk D (.deferred (some []))))
    (hy : Yr P ⟨some d, op, ty, pos, aft, none⟩ n K w0 L true v) (hd : Nat.blt d n = true) (hd2 : Nat.blt d2 n = true) (hr : fn.results = #[.tmp d2])
    (hR : ∀ W', Wd w0 (L.set k (.blk D (.deferred none))) W' → R (.returned v) W') :
    ((Code.region id [⟨some d, op, ty, pos, aft, none⟩, ⟨some d2, .assign (.tmp d), ty2, pos2, aft2, none⟩].toArray false).seq Code.ret).wp P (bodyPostM Fence.wide 1 P fn R) { a with defers := [{ target := .collected D, args := #[] }] } w := by
  have ea : ({ a with defers := [{ target := .collected D, args := #[] }] } : Act) = { a with defers := a.defers ++ [{ target := .collected D, args := #[] }] } := by rw [S.kn.defers]; rfl
  rw [ea]
  refine wp_seq_k fun _ hK => wp_region_lit ?_
  refine st_m (op_dfr (op_y S hy.ys hd ?_))
  intro a w S
  refine st_m (op_dfr (op_y S (Yr.ys (ys_assign (v := v) (Ev.t (by simp [look])))) hd2 ?_))
  intro a w S
  refine hK _ _ (wp_ret ?_)
  have hD := (S.wd.get hk).2
  refine leave_range (D := D) (v := v) (by rw [S.kn.defers]; rfl) hD ?_ (hR _ (S.wd.setBlk hk))
  have h2 := S.kn.slot d2 true v (by simp [look])
  simp [results_eq, hr, res1, h2]
end
end Go.Fw
set_option linter.unusedVariables false
set_option linter.unusedSimpArgs false
set_option maxRecDepth 100000
set_option maxHeartbeats 4000000
namespace Go.Fw
theorem run_step {s : List UInt8} {x : Ent} : ∀ {l : List Ent} {j : Nat}, j ≤ (runOf s l).length → l[j]? = some x → (x.item = s → j + 1 ≤ (runOf s l).length) ∧ (x.item ≠ s → j = (runOf s l).length)
  | [], j, _, h => by simp at h
  | e :: r, 0, _, h => by
    simp at h
    subst h
    constructor
    · intro h1
      rw [runOf, List.takeWhile_cons, if_pos (by simpa using h1)]
      simp
    · intro h1
      rw [runOf, List.takeWhile_cons, if_neg (by simpa using h1)]
      rfl
  | e :: r, j + 1, hj, h => by
    have he : e.item = s := by
      refine Decidable.byContradiction fun hne => ?_
      rw [runOf, List.takeWhile_cons, if_neg (by simpa using hne)] at hj
      simp at hj
    have hr : runOf s (e :: r) = e :: runOf s r := by rw [runOf, List.takeWhile_cons, if_pos (by simpa using he)]; rfl
    rw [hr, List.length_cons] at hj ⊢
    have := run_step (s := s) (l := r) (j := j) (by omega) (by simpa using h)
    exact ⟨fun h1 => by have := this.1 h1; omega, fun h1 => by have h3 := this.2 h1; omega⟩
theorem run_end {s : List UInt8} {l : List Ent} {j : Nat} (hj : j ≤ (runOf s l).length) (h : l.length ≤ j) : j = (runOf s l).length := by
  have := runOf_le s l
  omega
theorem run_take (s : List UInt8) (l : List Ent) : l.take (runOf s l).length = runOf s l := by
  have h := congrArg (List.take (runOf s l).length) (runOf_drop s l)
  rw [List.take_left' rfl] at h
  exact h.symm
end Go.Fw
namespace Go.Proofs.Ytakpdbmdfnialaa
open Go.Fw Go.Proofs Go.RowKit Go.Proofs.Try
theorem c84 (w0 : World) (v : Value) (l : List Ent) (h : Sl Ent.enc 6 w0 w0.heap.size v l) :
    Rets Try.prog 84 #[v] w0 fun u L => ∃ g, u = .func (.func 98) #[] #[.pointer (some ⟨g, 0, none⟩)] ∧ L = [.blk g (.cells #[v] 24)] := by
  obtain ⟨A, cap, rfl, _⟩ := h
  unfold Go.Fw.Rets
  refine enter1 func84 rfl ntmps84 rfl fun a S => wp_seq_k fun _ hK1 => wp_region_lit (st_m (op_box1 S (.t rfl) rfl rfl fun g1 a w S => run S (.ac rfl <| .z) fun a w S => st_nil (then_normal (hK1 _ _ (sg S (.yy (ys_mkFunc (.cons (.t rfl) .nil)) rfl <| .as rfl <| .z) fun a w S => wp_ret (st_ret S (results1 S results84 (Rv.tmp rfl)) ?_))))))
  exact ⟨_, _, rfl, S.wd, _, rfl, rfl⟩
theorem k98 {X : Type} (LX : X → List Chunk) (φ : List (List Ent) → X → Prop) {l : List Ent} {lp g : Nat} {w0 w : World} {x0 : X} {v : Value}
    (hl : Sl Ent.enc 6 w0 w0.heap.size v l) (W : Wd w0 (.blk g (.cells #[v] 24) :: LX x0) w) (h0 : φ [] x0)
    (hY : ∀ pre e r post x u sv W1, runsL l = pre ++ (e :: r) :: post → φ pre x → Sl Ent.enc 6 w0 w0.heap.size sv (e :: r) → Wd w0 (.blk g (.cells #[u] 24) :: LX x) W1 →
      Yielded 1 Try.prog lp [.string (bs e.item), sv].toArray W1 fun en W2 => en = .returned (.bool true) ∧ ∃ x', φ (pre ++ [e :: r]) x' ∧ Wd w0 (.blk g (.cells #[u] 24) :: LX x') W2) :
    Calls Try.prog 98 #[.func (.yield lp) #[] #[], .pointer (some ⟨g, 0, none⟩)] w fun en W' => (∃ r, en = .returned r) ∧ ∃ x u, φ (runsL l) x ∧ Wd w0 (.blk g (.cells #[u] 24) :: LX x) W' := by
  refine enterW2 W func98 rfl ntmps98 rfl fun a S => wp_block ?_
  refine st_lpM S [3] (X := List (List Ent) × List Ent × X × Value) (fun q => []) (fun q => .blk g (.cells #[q.2.2.2] 24) :: LX q.2.2.1)
    (fun q => runsL l = q.1 ++ runsL q.2.1 ∧ Sl Ent.enc 6 w0 w0.heap.size q.2.2.2 q.2.1 ∧ φ q.1 q.2.2.1) (fun q => q.2.1.length) ([], l, x0, v) ⟨rfl, hl, h0⟩ ?_
  clear S W h0 hl
  rintro ⟨pre, rest, x, u⟩ a w ⟨hr, hu, hφ⟩ S
  dsimp only at hr hu hφ S
  have hu0 := hu
  obtain ⟨A, cap, rfl, hl, hcap, hA⟩ := hu
  rcases rest with _ | ⟨e, r⟩
  · refine wp_seq_k fun _ hK1 => sg S (.ld gt24 0 rfl rfl rfl <| .ln underlying24 rfl <| .yy (ys_gtr (.t rfl) Ev.c) rfl <| .z) fun a w S => st_else S (.t rfl) (wp_exit (then_exit (then_exit (in_here (st_end S (results0 results98) ?_)))))
    rw [runs_nil, List.append_nil] at hr
    exact ⟨⟨_, rfl⟩, _, _, hr ▸ hφ, S.wd⟩
  · have hlen : (e :: r).length = r.length + 1 := rfl
    refine wp_seq_k fun _ hK1 => sg S (.ld gt24 0 rfl rfl rfl <| .ln underlying24 rfl <| .yy (ys_T (by omega) (ys_gtr (.t rfl) Ev.c)) rfl <| .z) fun a w S => st_then S (.t rfl) (wp_skip (then_normal (hK1 _ _ (wp_block (sg S (.ac rfl <| .z) fun a w S => wp_seq_k fun _ hK1 => wp_block ?_)))))
    refine st_lpM S [3] (X := Nat) (fun k => [(3, true, .int .i64 ((k + 1 : Nat) : Int))]) (fun _ => .blk g (.cells #[.slice A (e :: r).length cap] 24) :: LX x)
      (fun k => k ≤ (runOf e.item r).length) (fun k => r.length - k) 0 (Nat.zero_le _) ?_
    clear S
    intro k a w hk S
    have hrl := runOf_le e.item r
    obtain ⟨g0, o0, rfl, _, hc⟩ := hA (by simp)
    have hc0 := hc 0 e rfl
    by_cases hgo : ∃ y, r[k]? = some y ∧ y.item = e.item
    · obtain ⟨y, hy, hs⟩ := hgo
      have hlt : k < r.length := (List.getElem?_eq_some_iff.1 hy).1
      have hck := hc (k + 1) y (by simpa using hy)
      obtain ⟨h1, h2⟩ := run_step hk hy
      have h3 := h1 hs
      have rw_s : decide (y.item = e.item) = true := decide_eq_true hs
      refine wp_seq_k fun _ hK2 => wp_seq_k fun _ hK3 => st_quiet S (by kernel_rfl) (by kernel_rfl) fun a S => qrun S (.mv rfl <| .ld gt24 0 rfl rfl rfl <| .ln underlying24 rfl <| .lt (by omega) rfl rfl <| .mv rfl <| .gy rfl rfl (ys_ld ⟨isAgg24, sizeOf24⟩ (.t rfl) (k := 0) rfl rfl) <| .gy rfl rfl (ys_move (.t rfl)) <| .gy rfl rfl (ys_ixS underlying24 sizeOf69 (.t rfl) (.t rfl) (fun _ => by omega)) <| .gy rfl rfl (ys_field (FieldT.mk underlying69 rfl sizeOf9 rfl) (.t rfl)) <| .gy rfl rfl (ys_ldO ⟨isAgg9, sizeOf9⟩ (.t rfl) (fun _ => hck _ _ rfl)) <| .gy rfl rfl (ys_ld ⟨isAgg24, sizeOf24⟩ (.t rfl) (k := 0) rfl rfl) <| .gy rfl rfl (ys_ixS (j := 0) underlying24 sizeOf69 (.t rfl) Ev.c (fun _ => by omega)) <| .gy rfl rfl (ys_field (FieldT.mk underlying69 rfl sizeOf9 rfl) (.t rfl)) <| .gy rfl rfl (ys_ldO ⟨isAgg9, sizeOf9⟩ (.t rfl) (fun _ => hc0 _ _ rfl)) <| .gy rfl rfl (ys_eqlStr (.t rfl) (.t rfl)) <| .z) fun a S => ?_
      rw [rw_s] at S
      refine qrun S (.yy (ys_pickT (.t rfl) (.t rfl)) rfl <| .z) fun a S => ?_
      (refine q_nil ?_; intro w W; replace S := St.mk S W; clear W)
      refine then_normal (hK3 _ _ (st_then S (.t rfl) (wp_skip (then_normal (hK2 _ _ (wp_block (wp_region_lit (run S (.mv rfl <| .ad (by unfold I64; omega) rfl <| .as rfl <| .z) fun a w S => st_nil (in_normal (then_normal ?_))))))))))
      exact ⟨k + 1, h3, by omega, S.pk⟩
    have hke : k = (runOf e.item r).length := by
      by_cases hlt : k < r.length
      · obtain ⟨y, hy⟩ : ∃ y, r[k]? = some y := ⟨_, List.getElem?_eq_getElem hlt⟩
        exact (run_step hk hy).2 fun h => hgo ⟨y, hy, h⟩
      · exact run_end hk (by omega)
    have hgrp := hu0.sub 0 (k + 1) (by omega) (by omega)
    have hrest := hu0.drop_ (k + 1) (by omega)
    have e1 : ((e :: r).drop 0).take (k + 1 - 0) = e :: runOf e.item r := by
      rw [List.drop_zero, Nat.sub_zero, List.take_succ_cons, hke, run_take]
    have e2 : (e :: r).drop (k + 1) = r.drop (runOf e.item r).length := by rw [List.drop_succ_cons, hke]
    rw [e1] at hgrp
    rw [e2] at hrest
    rw [runs_cons] at hr
    have hdl : (r.drop (runOf e.item r).length).length = (e :: r).length - (k + 1) := by rw [List.length_drop]; omega
    rw [hdl] at hrest
    by_cases hlt : k < r.length
    · obtain ⟨y, hy⟩ : ∃ y, r[k]? = some y := ⟨_, List.getElem?_eq_getElem hlt⟩
      have hck := hc (k + 1) y (by simpa using hy)
      have hs : y.item ≠ e.item := fun h => hgo ⟨y, hy, h⟩
      have rw_s : decide (y.item = e.item) = false := decide_eq_false hs
      have e4 : (if cap = k + 1 then some (⟨g0, o0, none⟩ : Addr) else (some (⟨g0, o0, none⟩ : Addr)).map (·.add ((k + 1) * 6))) = some ⟨g0, o0 + (k + 1) * 6, none⟩ := by rw [if_neg (by omega)]; simp [Addr.add]
      rw [e4] at hrest
      refine wp_seq_k fun _ hK2 => wp_seq_k fun _ hK3 => st_quiet S (by kernel_rfl) (by kernel_rfl) fun a S => qrun S (.mv rfl <| .ld gt24 0 rfl rfl rfl <| .ln underlying24 rfl <| .lt (by omega) rfl rfl <| .mv rfl <| .gy rfl rfl (ys_ld ⟨isAgg24, sizeOf24⟩ (.t rfl) (k := 0) rfl rfl) <| .gy rfl rfl (ys_move (.t rfl)) <| .gy rfl rfl (ys_ixS underlying24 sizeOf69 (.t rfl) (.t rfl) (fun _ => by omega)) <| .gy rfl rfl (ys_field (FieldT.mk underlying69 rfl sizeOf9 rfl) (.t rfl)) <| .gy rfl rfl (ys_ldO ⟨isAgg9, sizeOf9⟩ (.t rfl) (fun _ => hck _ _ rfl)) <| .gy rfl rfl (ys_ld ⟨isAgg24, sizeOf24⟩ (.t rfl) (k := 0) rfl rfl) <| .gy rfl rfl (ys_ixS (j := 0) underlying24 sizeOf69 (.t rfl) Ev.c (fun _ => by omega)) <| .gy rfl rfl (ys_field (FieldT.mk underlying69 rfl sizeOf9 rfl) (.t rfl)) <| .gy rfl rfl (ys_ldO ⟨isAgg9, sizeOf9⟩ (.t rfl) (fun _ => hc0 _ _ rfl)) <| .gy rfl rfl (ys_eqlStr (.t rfl) (.t rfl)) <| .z) fun a S => ?_
      rw [rw_s] at S
      refine qrun S (.yy (ys_pickT (.t rfl) (.t rfl)) rfl <| .z) fun a S => ?_
      (refine q_nil ?_; intro w W; replace S := St.mk S W; clear W)
      refine then_normal (hK3 _ _ (st_else S (.t rfl) (wp_exit (then_exit (then_exit (in_here (then_normal (hK1 _ _ (wp_seq_k fun _ hK1 => wp_seq_k fun _ hK3 => ?_)))))))))
      replace S : St 38 w0 [(3, true, .int .i64 ((k + 1 : Nat) : Int)), (0, true, .func (.yield lp) #[] #[]), (1, true, .pointer (some ⟨g, 0, none⟩))] (.blk g (.cells #[.slice (some ⟨g0, o0, none⟩) (e :: r).length cap] 24) :: LX x) a w := S.pk
      refine region_yields 2 (Wd w0 [.blk g (.cells #[.slice (some ⟨g0, o0, none⟩) (e :: r).length cap] 24)]) (by kernel_rfl) ?_
      replace S := (⟨S.kn, S.wd.drew⟩ : St 38 w0 _ _ a { w with drawn := w.drawn + 1 })
      revert S
      generalize ({ w with drawn := w.drawn + 1 } : World) = wd
      intro S
      refine i_y (i := 0) S (by repeat (first | exact List.Sublist.refl _ | exact List.nil_sublist _ | refine .cons_cons _ ?_ | refine .cons _ ?_)) rfl (by kernel_rfl) (by kernel_rfl) (by kernel_rfl) (fun _ _ _ _ h => h) (ys_move (.t rfl)) rfl ?_
      clear S a; intro a w S
      refine i_y (i := 1) S (by repeat (first | exact List.Sublist.refl _ | exact List.nil_sublist _ | refine .cons_cons _ ?_ | refine .cons _ ?_)) rfl (by kernel_rfl) (by kernel_rfl) (by kernel_rfl) (fun _ _ _ _ h => h) (ys_ld ⟨isAgg24, sizeOf24⟩ (.t rfl) (k := 0) rfl rfl) rfl ?_
      clear S a w; intro a w S
      refine i_y (i := 2) S (by repeat (first | exact List.Sublist.refl _ | exact List.nil_sublist _ | refine .cons_cons _ ?_ | refine .cons _ ?_)) rfl (by kernel_rfl) (by kernel_rfl) (by kernel_rfl) (fun _ _ _ _ h => h) (ys_ixS (j := 0) underlying24 sizeOf69 (.t rfl) Ev.c (fun _ => by omega)) rfl ?_
      clear S a w; intro a w S
      refine i_y (i := 3) S (by repeat (first | exact List.Sublist.refl _ | exact List.nil_sublist _ | refine .cons_cons _ ?_ | refine .cons _ ?_)) rfl (by kernel_rfl) (by kernel_rfl) (by kernel_rfl) (fun _ _ _ _ h => h) (ys_field (FieldT.mk underlying69 rfl sizeOf9 rfl) (.t rfl)) rfl ?_
      clear S a w; intro a w S
      refine i_y (i := 4) S (by repeat (first | exact List.Sublist.refl _ | exact List.nil_sublist _ | refine .cons_cons _ ?_ | refine .cons _ ?_)) rfl (by kernel_rfl) (by kernel_rfl) (by kernel_rfl) (fun _ _ _ _ h => h) (ys_ldO ⟨isAgg9, sizeOf9⟩ (.t rfl) (fun _ => hc0 0 _ rfl)) rfl ?_
      clear S a w; intro a w S
      refine i_y (i := 5) S (by repeat (first | exact List.Sublist.refl _ | exact List.nil_sublist _ | refine .cons_cons _ ?_ | refine .cons _ ?_)) rfl (by kernel_rfl) (by kernel_rfl) (by kernel_rfl) (fun _ _ _ _ h => h) (ys_ld ⟨isAgg24, sizeOf24⟩ (.t rfl) (k := 0) rfl rfl) rfl ?_
      clear S a w; intro a w S
      refine i_y (i := 6) S (by repeat (first | exact List.Sublist.refl _ | exact List.nil_sublist _ | refine .cons_cons _ ?_ | refine .cons _ ?_)) rfl (by kernel_rfl) (by kernel_rfl) (by kernel_rfl) (fun _ _ _ _ h => h) (ys_move (.t rfl)) rfl ?_
      clear S a w; intro a w S
      refine i_y (i := 7) S (by repeat (first | exact List.Sublist.refl _ | exact List.nil_sublist _ | refine .cons_cons _ ?_ | refine .cons _ ?_)) rfl (by kernel_rfl) (by kernel_rfl) (by kernel_rfl) (fun _ _ _ _ h => h) (ys_slHi underlying24 sizeOf69 (.t rfl) (.t rfl) (fun _ => by omega)) rfl ?_
      clear S a w; intro a w S
      have hsv : Sl Ent.enc 6 w0 w0.heap.size (.slice (some ⟨g0, o0, none⟩) (k + 1) cap) (e :: runOf e.item r) := by
        have e3 : (if cap = 0 then some (⟨g0, o0, none⟩ : Addr) else (some (⟨g0, o0, none⟩ : Addr)).map (·.add (0 * 6))) = some ⟨g0, o0, none⟩ := by rw [if_neg (by omega)]; simp [Addr.add]
        rw [e3] at hgrp
        exact hgrp
      refine i_yield (i := 8) S rfl (by kernel_rfl) rfl (.t rfl) (.cons (.t rfl) (.cons (.t rfl) .nil)) (hY pre e (runOf e.item r) _ x _ _ _ hr hφ hsv (S.wd.picks (L' := .blk g (.cells #[.slice (some ⟨g0, o0, none⟩) (e :: r).length cap] 24) :: LX x) (by repeat (first | exact Picks.nil | (refine Picks.rest ?_; (repeat (first | exact List.Sublist.refl _ | refine List.Sublist.cons_cons _ ?_ | refine List.Sublist.cons _ ?_)); done) | refine Picks.take 0 rfl ?_ | refine Picks.take 1 rfl ?_ | refine Picks.take 2 rfl ?_ | refine Picks.take 3 rfl ?_ | refine Picks.take 4 rfl ?_ | refine Picks.take 5 rfl ?_ | refine Picks.take 6 rfl ?_ | refine Picks.take 7 rfl ?_ | refine Picks.take 8 rfl ?_ | refine Picks.take 9 rfl ?_ | refine Picks.take 10 rfl ?_ | refine Picks.take 11 rfl ?_)))) ?_
      rintro a1 w1 ⟨x', hφ', W'⟩ hk'
      refine ⟨W'.sub (by repeat (first | exact List.Sublist.refl _ | exact List.nil_sublist _ | refine .cons_cons _ ?_ | refine .cons _ ?_)), ?_⟩
      clear S
      have S : St 38 w0 _ _ a1 w1 := ⟨hk', W'⟩
      clear hk' W'
      refine i_y (i := 9) S (by repeat (first | exact List.Sublist.refl _ | exact List.nil_sublist _ | refine .cons_cons _ ?_ | refine .cons _ ?_)) rfl (by kernel_rfl) (by kernel_rfl) (by kernel_rfl) (fun _ _ _ _ h => h) (ys_not (.t rfl)) rfl ?_
      clear S a1 w1; intro a w S
      refine wpAnyI_done (by kernel_rfl) ?_ _
      refine then_normal (hK3 _ _ (st_else S (.t rfl) (wp_skip (then_normal (hK1 _ _ (wp_region_lit (run S (.ld gt24 0 rfl rfl rfl <| .mv rfl <| .yy (ys_slLoB underlying24 sizeOf69 (.t rfl) (.t rfl) (fun _ => by omega)) rfl <| .z) fun a w S => st_m (op_st S sizeOf24 (.t rfl) (.t rfl) (k := 0) rfl rfl (by simp) fun a w S => st_nil (in_normal (then_normal ?_))))))))))
      refine ⟨(pre ++ [e :: runOf e.item r], r.drop (runOf e.item r).length, x', _), ⟨?_, hrest, hφ'⟩, ?_, ?_⟩
      · rw [List.append_assoc]; exact hr
      · dsimp only; rw [List.length_drop]; omega
      · dsimp only
        exact S.pk
    · refine wp_seq_k fun _ hK2 => wp_seq_k fun _ hK3 => st_quiet S (by kernel_rfl) (by kernel_rfl) fun a S => qrun S (.mv rfl <| .ld gt24 0 rfl rfl rfl <| .ln underlying24 rfl <| .ge (by omega) rfl rfl <| .mv rfl <| .sk rfl rfl rfl <| .sk rfl rfl rfl <| .sk rfl rfl rfl <| .sk rfl rfl rfl <| .sk rfl rfl rfl <| .sk rfl rfl rfl <| .sk rfl rfl rfl <| .sk rfl rfl rfl <| .sk rfl rfl rfl <| .sk rfl rfl rfl <| .yy (ys_pickF (.t rfl) Ev.c) rfl <| .z) fun a S => ?_
      (refine q_nil ?_; intro w W; replace S := St.mk S W; clear W)
      refine then_normal (hK3 _ _ (st_else S (.t rfl) (wp_exit (then_exit (then_exit (in_here (then_normal (hK1 _ _ (wp_seq_k fun _ hK1 => wp_seq_k fun _ hK3 => ?_)))))))))
      replace S : St 38 w0 [(3, true, .int .i64 ((k + 1 : Nat) : Int)), (0, true, .func (.yield lp) #[] #[]), (1, true, .pointer (some ⟨g, 0, none⟩))] (.blk g (.cells #[.slice (some ⟨g0, o0, none⟩) (e :: r).length cap] 24) :: LX x) a w := S.pk
      refine region_yields 2 (Wd w0 [.blk g (.cells #[.slice (some ⟨g0, o0, none⟩) (e :: r).length cap] 24)]) (by kernel_rfl) ?_
      replace S := (⟨S.kn, S.wd.drew⟩ : St 38 w0 _ _ a { w with drawn := w.drawn + 1 })
      revert S
      generalize ({ w with drawn := w.drawn + 1 } : World) = wd
      intro S
      refine i_y (i := 0) S (by repeat (first | exact List.Sublist.refl _ | exact List.nil_sublist _ | refine .cons_cons _ ?_ | refine .cons _ ?_)) rfl (by kernel_rfl) (by kernel_rfl) (by kernel_rfl) (fun _ _ _ _ h => h) (ys_move (.t rfl)) rfl ?_
      clear S a; intro a w S
      refine i_y (i := 1) S (by repeat (first | exact List.Sublist.refl _ | exact List.nil_sublist _ | refine .cons_cons _ ?_ | refine .cons _ ?_)) rfl (by kernel_rfl) (by kernel_rfl) (by kernel_rfl) (fun _ _ _ _ h => h) (ys_ld ⟨isAgg24, sizeOf24⟩ (.t rfl) (k := 0) rfl rfl) rfl ?_
      clear S a w; intro a w S
      refine i_y (i := 2) S (by repeat (first | exact List.Sublist.refl _ | exact List.nil_sublist _ | refine .cons_cons _ ?_ | refine .cons _ ?_)) rfl (by kernel_rfl) (by kernel_rfl) (by kernel_rfl) (fun _ _ _ _ h => h) (ys_ixS (j := 0) underlying24 sizeOf69 (.t rfl) Ev.c (fun _ => by omega)) rfl ?_
      clear S a w; intro a w S
      refine i_y (i := 3) S (by repeat (first | exact List.Sublist.refl _ | exact List.nil_sublist _ | refine .cons_cons _ ?_ | refine .cons _ ?_)) rfl (by kernel_rfl) (by kernel_rfl) (by kernel_rfl) (fun _ _ _ _ h => h) (ys_field (FieldT.mk underlying69 rfl sizeOf9 rfl) (.t rfl)) rfl ?_
      clear S a w; intro a w S
      refine i_y (i := 4) S (by repeat (first | exact List.Sublist.refl _ | exact List.nil_sublist _ | refine .cons_cons _ ?_ | refine .cons _ ?_)) rfl (by kernel_rfl) (by kernel_rfl) (by kernel_rfl) (fun _ _ _ _ h => h) (ys_ldO ⟨isAgg9, sizeOf9⟩ (.t rfl) (fun _ => hc0 0 _ rfl)) rfl ?_
      clear S a w; intro a w S
      refine i_y (i := 5) S (by repeat (first | exact List.Sublist.refl _ | exact List.nil_sublist _ | refine .cons_cons _ ?_ | refine .cons _ ?_)) rfl (by kernel_rfl) (by kernel_rfl) (by kernel_rfl) (fun _ _ _ _ h => h) (ys_ld ⟨isAgg24, sizeOf24⟩ (.t rfl) (k := 0) rfl rfl) rfl ?_
      clear S a w; intro a w S
      refine i_y (i := 6) S (by repeat (first | exact List.Sublist.refl _ | exact List.nil_sublist _ | refine .cons_cons _ ?_ | refine .cons _ ?_)) rfl (by kernel_rfl) (by kernel_rfl) (by kernel_rfl) (fun _ _ _ _ h => h) (ys_move (.t rfl)) rfl ?_
      clear S a w; intro a w S
      refine i_y (i := 7) S (by repeat (first | exact List.Sublist.refl _ | exact List.nil_sublist _ | refine .cons_cons _ ?_ | refine .cons _ ?_)) rfl (by kernel_rfl) (by kernel_rfl) (by kernel_rfl) (fun _ _ _ _ h => h) (ys_slHi underlying24 sizeOf69 (.t rfl) (.t rfl) (fun _ => by omega)) rfl ?_
      clear S a w; intro a w S
      have hsv : Sl Ent.enc 6 w0 w0.heap.size (.slice (some ⟨g0, o0, none⟩) (k + 1) cap) (e :: runOf e.item r) := by
        have e3 : (if cap = 0 then some (⟨g0, o0, none⟩ : Addr) else (some (⟨g0, o0, none⟩ : Addr)).map (·.add (0 * 6))) = some ⟨g0, o0, none⟩ := by rw [if_neg (by omega)]; simp [Addr.add]
        rw [e3] at hgrp
        exact hgrp
      refine i_yield (i := 8) S rfl (by kernel_rfl) rfl (.t rfl) (.cons (.t rfl) (.cons (.t rfl) .nil)) (hY pre e (runOf e.item r) _ x _ _ _ hr hφ hsv (S.wd.picks (L' := .blk g (.cells #[.slice (some ⟨g0, o0, none⟩) (e :: r).length cap] 24) :: LX x) (by repeat (first | exact Picks.nil | (refine Picks.rest ?_; (repeat (first | exact List.Sublist.refl _ | refine List.Sublist.cons_cons _ ?_ | refine List.Sublist.cons _ ?_)); done) | refine Picks.take 0 rfl ?_ | refine Picks.take 1 rfl ?_ | refine Picks.take 2 rfl ?_ | refine Picks.take 3 rfl ?_ | refine Picks.take 4 rfl ?_ | refine Picks.take 5 rfl ?_ | refine Picks.take 6 rfl ?_ | refine Picks.take 7 rfl ?_ | refine Picks.take 8 rfl ?_ | refine Picks.take 9 rfl ?_ | refine Picks.take 10 rfl ?_ | refine Picks.take 11 rfl ?_)))) ?_
      rintro a1 w1 ⟨x', hφ', W'⟩ hk'
      refine ⟨W'.sub (by repeat (first | exact List.Sublist.refl _ | exact List.nil_sublist _ | refine .cons_cons _ ?_ | refine .cons _ ?_)), ?_⟩
      clear S
      have S : St 38 w0 _ _ a1 w1 := ⟨hk', W'⟩
      clear hk' W'
      refine i_y (i := 9) S (by repeat (first | exact List.Sublist.refl _ | exact List.nil_sublist _ | refine .cons_cons _ ?_ | refine .cons _ ?_)) rfl (by kernel_rfl) (by kernel_rfl) (by kernel_rfl) (fun _ _ _ _ h => h) (ys_not (.t rfl)) rfl ?_
      clear S a1 w1; intro a w S
      refine wpAnyI_done (by kernel_rfl) ?_ _
      refine then_normal (hK3 _ _ (st_else S (.t rfl) (wp_skip (then_normal (hK1 _ _ (wp_region_lit (run S (.ld gt24 0 rfl rfl rfl <| .mv rfl <| .yy (ys_slLo underlying24 sizeOf69 (.t rfl) (.t rfl) (fun _ => by first | omega | (simp; done) | (simp; omega))) rfl <| .z) fun a w S => st_m (op_st S sizeOf24 (.t rfl) (.t rfl) (k := 0) rfl rfl (by simp) fun a w S => st_nil (in_normal (then_normal ?_))))))))))
      refine ⟨(pre ++ [e :: runOf e.item r], r.drop (runOf e.item r).length, x', _), ⟨?_, hrest, hφ'⟩, ?_, ?_⟩
      · rw [List.append_assoc]; exact hr
      · dsimp only; rw [List.length_drop]; omega
      · dsimp only
        exact S.pk
theorem c59 (w0 : World) (v : Value) (l : List Ent) (h : Sl Ent.enc 6 w0 w0.heap.size v l) (hn : l.length ≤ 4194304) :
    Calls Try.prog 59 #[v] w0 fun e w' => e = .returned (.int .i64 (itemsN l : Int)) ∧ Bel w0.heap.size w0 w' := by
  refine enter_range (args := [v]) func59 rfl ntmps59 rfl fun a S => ?_
  dsimp only [argsK] at S
  have hit := items_runs l.length l (Nat.le_refl _)
  have hil := itemsFrom_le l none
  rw [show itemsFrom none l = itemsN l from rfl, hit] at hil
  refine sg S (.ac rfl <| .z) fun a w S => wp_seq_k fun _ hK1 => wp_region_lit (st_m (op_alloc S zeroValue3 (cs := _) rfl rfl fun g1 a w S => st_m (op_st S sizeOf3 (.t rfl) Ev.c (k := 0) rfl rfl (by simp) fun a w S => st_nil (then_normal (hK1 _ _ (wp_seq_k fun _ hK1 => wp_seq_k fun _ hK2 => wp_region_lit (run S (.mv rfl <| .z) fun a w S => ?_)))))))
  (refine st_m (op_calls S call84 (.cons (.t rfl) .nil) (c84 _ _ _ (by exact .old S.wd (by assumption))) rfl ?_); clear S a w; rintro _ _ ⟨g2, rfl, rfl⟩ a w S)
  refine st_nil (then_normal (hK2 _ _ (wp_block ?_)))
  replace S : St 11 w0 [(5, true, .func (.func 98) #[] #[.pointer (some ⟨g2, 0, none⟩)]), (3, true, .pointer (some ⟨g1, 0, none⟩))] [.blk g2 (.cells #[v] 24), .blk g1 (.cells #[.int .i64 0] 3)] a w := S.pk
  refine st_range 1 S (.t rfl) call98 (R := fun D W' => Wd w0 [.blk D (.deferred (some [])), .blk g1 (.cells #[.int .i64 ((runsL l).length : Int)] 3)] W') ?_ ?_
  · intro fn lp D W hW
    refine (k98 (X := Nat) (x0 := 0) (fun k => [.blk lp (.loop (recR .ready fn a.tmps _ _ _ D)), .blk D (.deferred (some [])), .blk g1 (.cells #[.int .i64 (k : Int)] 3)]) (fun pre k => k = pre.length) h (hW.pk) rfl ?_).mono ?_
    · intro pre e r post k u sv W1 hru hk hsv hW1
      subst hk
      have hlt : pre.length < (runsL l).length := by rw [hru, List.length_append, List.length_cons]; omega
      refine yields2 (L := [.blk g2 (.cells #[u] 24), .blk g1 (.cells #[.int .i64 (pre.length : Int)] 3)]) S.kn (hW1.pk) rfl rfl ?_
      clear S hW hW1
      intro b w1 S
      refine wpIn_block (region_round (by kernel_rfl) (lets_block fun ⟨a, w, h⟩ => by cases h.1) ?_)
      (refine st_y S (Yr.ys (ys_ld ⟨isAgg3, sizeOf3⟩ (.t rfl) (k := 3) rfl rfl)) rfl ?_; clear S; intro a w S)
      refine run S (.ad (by unfold I64; omega) rfl <| .z) fun a w S => st_m (op_st S sizeOf3 (.t rfl) (.t rfl) (k := 3) rfl rfl (by simp) fun a w S => st_nil (in_normal ?_))
      have e1 : (pre.length : Int) + 1 = ((pre.length + 1 : Nat) : Int) := by omega
      rw [e1] at S
      exact ⟨rfl, (S.wd.get (k := 0) rfl).2, pre.length + 1, by simp, (S.wd.setBlk (k := 0) rfl).pk⟩
    · rintro en W2 ⟨⟨r, rfl⟩, k, u, rfl, hW2⟩
      exact ⟨⟨_, rfl⟩, (hW2.get (k := 1) rfl).2, (hW2.setBlk (k := 1) rfl).pk⟩
  · intro D W' hR
    refine in_normal (then_normal (hK1 _ _ ?_))
    exact tail_range (⟨S.kn, hR⟩ : St 11 w0 _ _ a W') (k := 0) rfl (ys_ld ⟨isAgg3, sizeOf3⟩ (.t rfl) (k := 1) rfl rfl) rfl rfl results59 fun W'' hW'' => ⟨by rw [hit], hW''.below⟩
end Go.Proofs.Ytakpdbmdfnialaa
set_option linter.unusedVariables false
set_option linter.unusedSimpArgs false
set_option maxRecDepth 100000
namespace Go.Proofs.Ytakpdbmdfnialaa
open Go.Fw Go.Proofs Go.RowKit Go.Proofs.Try
theorem c61 (x y z : Int) (w0 : World) : Calls Try.prog 61 #[.agg #[.int .i64 x, .int .i64 y, .int .i64 z]] w0 fun e w' => e = .returned (.agg #[.int .i64 x, .int .i64 y]) ∧ Bel w0.heap.size w0 w' := by
  refine enter1 func61 rfl ntmps61 rfl fun a S => wp_seq_k fun _ hK1 => wp_region_lit (st_m (op_box S (.t rfl) rfl fun g1 a w S => st_m (op_alloc S zeroValue58 (cs := _) rfl rfl fun g2 a w S => st_nil (then_normal (hK1 _ _ (wp_seq_k fun _ hK1 => wp_region_lit (run S (.fa underlying67 sizeOf3 0 rfl rfl rfl <| .ld gt3 1 rfl rfl rfl <| .fa underlying67 sizeOf3 1 rfl rfl rfl <| .ld gt3 1 rfl rfl rfl <| .yy (ys_bld (ps := [(0, Go.Operand.tmp 4), (1, Go.Operand.tmp 6)]) (us := [_, _]) bld58 (.cons (.t rfl) (.cons (.t rfl) .nil)) rfl) rfl <| .z) fun a w S => st_m (op_stW S sizeOf58 (.t rfl) (.t rfl) (k := 0) rfl rfl rfl (by simp [Value.oneCell']) fun a w S => st_nil (then_normal (hK1 _ _ (wp_ret (st_ret S (results1 S results61 (Rv.cell (k := 0) ⟨isAgg58, sizeOf58⟩ rfl rfl rfl)) ?_))))))))))))
  exact ⟨rfl, S.wd.below⟩
theorem c78 (x y z : Int) (w0 : World) : Calls Try.prog 78 #[.agg #[.int .i64 x, .int .i64 y, .int .i64 z]] w0 fun e w' => e = .returned (.agg #[.int .i64 x, .int .i64 y, .int .i64 z]) ∧ Bel w0.heap.size w0 w' := by
  refine enter1 func78 rfl ntmps78 rfl fun a S => wp_seq_k fun _ hK1 => wp_region_lit (st_m (op_box S (.t rfl) rfl fun g1 a w S => st_m (op_alloc S zeroValue67 (cs := _) rfl rfl fun g2 a w S => st_nil (then_normal (hK1 _ _ (wp_seq_k fun _ hK1 => wp_region_lit (run S (.la gt23 1 rfl rfl rfl <| .z) fun a w S => st_m (op_stW S sizeOf67 (.t rfl) (.t rfl) (k := 0) rfl rfl rfl (by simp [Value.oneCell']) fun a w S => st_nil (then_normal (hK1 _ _ (wp_ret (st_ret S (results1 S results78 (Rv.cell (k := 0) ⟨isAgg67, sizeOf67⟩ rfl rfl rfl)) ?_))))))))))))
  exact ⟨rfl, S.wd.below⟩
theorem c60 (w0 : World) (v1 v2 : Value) (l : List Dot) (x y : Int) (h : Sl Dot.enc 3 w0 w0.heap.size v1 l) :
    Calls Try.prog 60 #[.agg #[v1, v2], .agg #[.int .i64 x, .int .i64 y]] w0 fun e w' => e = .returned (.int .i64 (markOf l x y)) ∧ Bel w0.heap.size w0 w' := by
  obtain ⟨A, cap, rfl, hl, hcap, hA⟩ := h
  refine enter2 func60 rfl ntmps60 rfl fun a S => wp_seq_k fun _ hK1 => wp_region_lit (st_m (op_box S (.t rfl) rfl fun g1 a w S => st_m (op_box S (.t rfl) rfl fun g2 a w S => run S (.ac rfl <| .z) fun a w S => st_nil (then_normal (hK1 _ _ (wp_seq_k fun _ hK1 => sg S (.fa underlying28 sizeOf25 0 rfl rfl rfl <| .ld gt25 1 rfl rfl rfl <| .ln underlying25 rfl <| .mc rfl <| .z) fun a w S => wp_block ?_))))))
  refine st_lpK S (X := Nat) (fun k => [(10, true, .int .i64 (k : Int))]) (fun _ L => L) (fun k => k ≤ l.length ∧ markOf (l.drop k) x y = markOf l x y) (fun k => l.length - k) 0 ⟨Nat.zero_le _, rfl⟩ ?_
  clear S
  intro k a w ⟨hk, hno⟩ S
  by_cases hlt : k < l.length
  · obtain ⟨g, o, m, rfl, hm, hd, hc⟩ := row_at hA hlt
    clear hA
    refine sg S (.lt (by omega) rfl rfl <| .z) fun a w S => wp_seq_k fun _ hK2 => st_then S (.t rfl) (wp_skip (then_normal (hK2 _ _ (wp_seq_k fun _ hK2 => wp_block (wp_seq_k fun _ hK3 => wp_region_lit (run S (.ix underlying25 sizeOf23 (by omega) rfl rfl <| .yy (ys_ldOA ⟨isAgg23, sizeOf23⟩ (.t rfl) (vs := [_, _, _]) rfl (fun _ => hc)) rfl <| .z) fun a w S => st_m (op_alloc S zeroValue23 (cs := _) rfl rfl fun g3 a w S => st_m (op_stW S sizeOf23 (.t rfl) (.t rfl) (k := 0) rfl rfl rfl (by simp [Value.oneCell']) fun a w S => st_nil (then_normal (hK3 _ _ (wp_seq_k fun _ hK3 => st_quiet S (by kernel_rfl) (by kernel_rfl) fun a S => qrun S (.la gt23 0 rfl rfl rfl <| .xx (ys_call call78 (.cons (.t rfl) .nil) (fun hp w W => c78 _ _ _ _)) rfl <| .xx (ys_call call61 (.cons (.t rfl) .nil) (fun hp w W => c61 _ _ _ _)) rfl <| .la gt58 1 rfl rfl rfl <| .yy (ys_eqA (.t rfl) (.t rfl) eq58) rfl <| .z) fun a S => ?_)))))))))))
    (refine q_nil ?_; intro w W; replace S := St.mk S W; clear W)
    refine then_normal (hK3 _ _ ?_)
    refine st_if S (.t rfl) (fun h1 => ?_) (fun h1 => ?_)
    refine sg S (.fa underlying23 sizeOf3 2 rfl rfl rfl <| .ld gt3 0 rfl rfl rfl <| .as rfl <| .z) fun a w S => wp_ret (in_ret (then_ret (then_ret (in_ret (then_ret (st_ret S (results1 S results60 (Rv.tmp rfl)) ?_))))))
    rotate_left
    refine wp_skip (in_normal (then_normal (hK2 _ _ (wp_region_lit (run S (.ad (by unfold I64; omega) rfl <| .mv rfl <| .z) fun a w S => st_nil (then_normal ?_))))))
    rotate_left
    · refine ⟨?_, S.wd.below⟩
      rw [← hno, hd, markOf, if_pos h1]
    · rw [hd, markOf, if_neg h1] at hno
      exact ⟨k + 1, ⟨by omega, hno⟩, by omega, S.wk⟩
  · refine sg S (.ge (by omega) rfl rfl <| .z) fun a w S => wp_seq_k fun _ hK2 => st_else S (.t rfl) (wp_exit (then_exit (then_exit (in_here (then_normal (hK1 _ _ (sg S (.ac rfl <| .z) fun a w S => wp_ret (st_ret S (results1 S results60 (Rv.tmp rfl)) ?_))))))))
    refine ⟨?_, S.wd.below⟩
    rw [← hno, List.drop_eq_nil_of_le (by omega)]; rfl
theorem c56 (w0 : World) (v1 : Value) (l : List Dot) (x y : Int) (h : Sl Dot.enc 3 w0 w0.heap.size v1 l) :
    Calls Try.prog 56 #[v1, .int .i64 x, .int .i64 y] w0 fun e w' => e = .returned (.int .i64 (markOf l x y)) ∧ Bel w0.heap.size w0 w' := by
  obtain ⟨A, cap, rfl, hl, hcap, hA⟩ := h
  refine enter3 func56 rfl ntmps56 rfl fun a S => sg S (.ac rfl <| .z) fun a w S => wp_seq_k fun _ hK1 => sg S (.mv rfl <| .ln underlying25 rfl <| .mc rfl <| .z) fun a w S => wp_block ?_
  refine st_lpK S (X := Nat) (fun k => [(11, true, .int .i64 (k : Int))]) (fun _ L => L) (fun k => k ≤ l.length ∧ markOf (l.drop k) x y = markOf l x y) (fun k => l.length - k) 0 ⟨Nat.zero_le _, rfl⟩ ?_
  clear S
  intro k a w ⟨hk, hno⟩ S
  by_cases hlt : k < l.length
  · obtain ⟨g, o, m, rfl, hm, hd, hc⟩ := row_at hA hlt
    clear hA
    refine sg S (.lt (by omega) rfl rfl <| .z) fun a w S => wp_seq_k fun _ hK2 => st_then S (.t rfl) (wp_skip (then_normal (hK2 _ _ (wp_seq_k fun _ hK2 => wp_block (wp_seq_k fun _ hK3 => wp_region_lit (run S (.ix underlying25 sizeOf23 (by omega) rfl rfl <| .yy (ys_ldOA ⟨isAgg23, sizeOf23⟩ (.t rfl) (vs := [_, _, _]) rfl (fun _ => hc)) rfl <| .z) fun a w S => st_m (op_alloc S zeroValue23 (cs := _) rfl rfl fun g1 a w S => st_m (op_stW S sizeOf23 (.t rfl) (.t rfl) (k := 0) rfl rfl rfl (by simp [Value.oneCell']) fun a w S => st_nil (then_normal (hK3 _ _ (wp_seq_k fun _ hK3 => wp_region_lit (run S (.fa underlying23 sizeOf3 0 rfl rfl rfl <| .ld gt3 0 rfl rfl rfl <| .mv rfl <| .yy (ys_eql (.t rfl) (.t rfl)) rfl <| .mv rfl <| .z) fun a w S => st_yg S rfl rfl (Yr.ys (ys_fieldN (FieldT.mk underlying23 rfl sizeOf3 rfl) (.t rfl) (i' := 1) rfl)) rfl fun a w S => st_yg S rfl rfl (Yr.ys (ys_ld ⟨isAgg3, sizeOf3⟩ (Ev.g rfl) (k := 0) rfl rfl)) rfl fun a w S => st_yg S rfl rfl (Yr.ys (ys_move (.t rfl))) rfl fun a w S => st_yg S rfl rfl (Yr.ys (ys_eql (Ev.g rfl) (Ev.g rfl))) rfl fun a w S => run S (.yy (ys_and (.t rfl) (Ev.g rfl) Ev.c) rfl <| .z) fun a w S => st_nil (then_normal (hK3 _ _ ?_))))))))))))))
    refine st_cond S (.t rfl) (fun h1 => ?_) (fun h1 => ?_)
    refine sg S (.fa underlying23 sizeOf3 2 rfl rfl rfl <| .ld gt3 0 rfl rfl rfl <| .as rfl <| .z) fun a w S => wp_ret (in_ret (then_ret (then_ret (in_ret (then_ret (st_ret S (results1 S results56 (Rv.tmp rfl)) ?_))))))
    rotate_left
    refine wp_skip (in_normal (then_normal (hK2 _ _ (wp_region_lit (run S (.ad (by unfold I64; omega) rfl <| .mv rfl <| .z) fun a w S => st_nil (then_normal ?_))))))
    rotate_left
    · refine ⟨?_, S.wd.below⟩
      rw [← hno, hd, markOf, if_pos (by simpa using h1)]
    · rw [hd, markOf, if_neg (by simpa using h1)] at hno
      exact ⟨k + 1, ⟨by omega, hno⟩, by omega, S.wk⟩
  · refine sg S (.ge (by omega) rfl rfl <| .z) fun a w S => wp_seq_k fun _ hK2 => st_else S (.t rfl) (wp_exit (then_exit (then_exit (in_here (then_normal (hK1 _ _ (sg S (.ac rfl <| .z) fun a w S => wp_ret (st_ret S (results1 S results56 (Rv.tmp rfl)) ?_))))))))
    refine ⟨?_, S.wd.below⟩
    rw [← hno, List.drop_eq_nil_of_le (by omega)]; rfl
theorem c102 (w0 : World) (v1 : Value) (l : List Dot) (x y z : Int) (h : Sl Dot.enc 3 w0 w0.heap.size v1 l) :
    Calls Try.prog 102 #[v1, .agg #[.int .i64 x, .int .i64 y, .int .i64 z]] w0 fun e w' => e = .returned (.int .i64 (idxFrom ⟨x, y, z⟩ 0 l)) ∧ Bel w0.heap.size w0 w' := by
  obtain ⟨A, cap, rfl, hl, hcap, hA⟩ := h
  refine enter2 func102 rfl ntmps102 rfl fun a S => wp_seq_k fun _ hK1 => wp_region_lit (st_m (op_box S (.t rfl) rfl fun g1 a w S => run S (.ac rfl <| .z) fun a w S => st_nil (then_normal (hK1 _ _ (wp_seq_k fun _ hK1 => sg S (.mv rfl <| .ln underlying26 rfl <| .mc rfl <| .z) fun a w S => wp_block ?_)))))
  refine st_lpK S (X := Nat) (fun k => [(8, true, .int .i64 (k : Int))]) (fun _ L => L) (fun k => k ≤ l.length ∧ idxFrom ⟨x, y, z⟩ k (l.drop k) = idxFrom ⟨x, y, z⟩ 0 l) (fun k => l.length - k) 0 ⟨Nat.zero_le _, rfl⟩ ?_
  clear S
  intro k a w ⟨hk, hno⟩ S
  by_cases hlt : k < l.length
  · obtain ⟨g, o, m, rfl, hm, hd, hc⟩ := row_at hA hlt
    clear hA
    refine sg S (.lt (by omega) rfl rfl <| .z) fun a w S => wp_seq_k fun _ hK2 => st_then S (.t rfl) (wp_skip (then_normal (hK2 _ _ (wp_seq_k fun _ hK2 => wp_block (sg S (.mv rfl <| .as rfl <| .z) fun a w S => wp_seq_k fun _ hK3 => st_quiet S (by kernel_rfl) (by kernel_rfl) fun a S => qrun S (.la gt67 0 rfl rfl rfl <| .mv rfl <| .mv rfl <| .ix underlying26 sizeOf67 (by omega) rfl rfl <| .yy (ys_ldOA ⟨isAgg67, sizeOf67⟩ (.t rfl) (vs := [_, _, _]) rfl (fun _ => hc)) rfl <| .yy (ys_eqA (.t rfl) (.t rfl) eq67) rfl <| .z) fun a S => ?_)))))
    (refine q_nil ?_; intro w W; replace S := St.mk S W; clear W)
    refine then_normal (hK3 _ _ ?_)
    refine st_if S (.t rfl) (fun h1 => ?_) (fun h1 => ?_)
    refine sg S (.mv rfl <| .as rfl <| .z) fun a w S => wp_ret (in_ret (then_ret (then_ret (in_ret (then_ret (st_ret S (results1 S results102 (Rv.tmp rfl)) ?_))))))
    rotate_left
    refine wp_skip (in_normal (then_normal (hK2 _ _ (wp_region_lit (run S (.ad (by unfold I64; omega) rfl <| .mv rfl <| .z) fun a w S => st_nil (then_normal ?_))))))
    rotate_left
    · refine ⟨?_, S.wd.below⟩
      obtain ⟨rfl, rfl, rfl⟩ := h1
      rw [← hno, hd, idxFrom, if_pos rfl]
    · rw [hd, idxFrom, if_neg (fun e => h1 (by cases e; exact ⟨rfl, rfl, rfl⟩))] at hno
      exact ⟨k + 1, ⟨by omega, hno⟩, by omega, S.wk⟩
  · refine sg S (.ge (by omega) rfl rfl <| .z) fun a w S => wp_seq_k fun _ hK2 => st_else S (.t rfl) (wp_exit (then_exit (then_exit (in_here (then_normal (hK1 _ _ (sg S (.ac rfl <| .z) fun a w S => wp_ret (st_ret S (results1 S results102 (Rv.tmp rfl)) ?_))))))))
    refine ⟨?_, S.wd.below⟩
    rw [← hno, List.drop_eq_nil_of_le (by omega)]; rfl
theorem c96 (w0 : World) (v1 : Value) (l : List Dot) (x y z : Int) (h : Sl Dot.enc 3 w0 w0.heap.size v1 l) :
    Calls Try.prog 96 #[v1, .agg #[.int .i64 x, .int .i64 y, .int .i64 z]] w0 fun e w' => e = .returned (.bool (decide ((⟨x, y, z⟩ : Dot) ∈ l))) ∧ Bel w0.heap.size w0 w' := by
  refine enter2 func96 rfl ntmps96 rfl fun a S => wp_seq_k fun _ hK1 => wp_region_lit (st_m (op_box S (.t rfl) rfl fun g1 a w S => run S (.ac rfl <| .z) fun a w S => st_nil (then_normal (hK1 _ _ (sg S (.mv rfl <| .la gt67 0 rfl rfl rfl <| .xx (ys_call call102 (.cons (.t rfl) (.cons (.t rfl) .nil)) (fun hp w W => c102 _ _ _ _ _ _ (by exact .old W (by assumption)))) rfl <| .yy (ys_geq (.t rfl) Ev.c) rfl <| .as rfl <| .z) fun a w S => wp_ret (st_ret S (results1 S results96 (Rv.tmp rfl)) ?_))))))
  refine ⟨?_, S.wd.below⟩
  rw [idx_mem]
theorem c82 (w0 : World) (v1 v2 : Value) (C : Ctx) (x y z : Int) (h : RdCtx w0 w0.heap.size v1 v2 C) :
    Calls Try.prog 82 #[.agg #[v1, v2], .agg #[.int .i64 x, .int .i64 y, .int .i64 z]] w0 fun e w' => e = .returned (.bool (C.covers ⟨x, y, z⟩)) ∧ Bel w0.heap.size w0 w' := by
  obtain ⟨⟨A, cap, rfl, hA⟩, ⟨A', cap', rfl, hA'⟩⟩ := h
  have h1 : Sl Dot.enc 3 w0 w0.heap.size (.slice A C.marks.length cap) C.marks := ⟨A, cap, rfl, hA⟩
  have h2 : Sl Dot.enc 3 w0 w0.heap.size (.slice A' C.cloud.length cap') C.cloud := ⟨A', cap', rfl, hA'⟩
  clear hA hA'
  refine enter2 func82 rfl ntmps82 rfl fun a S => wp_seq_k fun _ hK1 => wp_region_lit (st_m (op_box S (.t rfl) rfl fun g1 a w S => st_m (op_box S (.t rfl) rfl fun g2 a w S => run S (.ac rfl <| .z) fun a w S => st_nil (then_normal (hK1 _ _ (wp_seq_k fun _ hK1 => st_quiet S (by kernel_rfl) (by kernel_rfl) fun a S => qrun S (.fa underlying67 sizeOf3 2 rfl rfl rfl <| .ld gt3 0 rfl rfl rfl <| .yy (ys_geq (.t rfl) Ev.c) rfl <| .mv rfl <| .z) fun a S => q_yg S rfl rfl (Yr.ys (ys_fieldN (FieldT.mk underlying67 rfl sizeOf3 rfl) (.t rfl) (i' := 2) rfl)) rfl fun a S => q_yg S rfl rfl (Yr.ys (ys_ld ⟨isAgg3, sizeOf3⟩ (Ev.g rfl) (k := 0) rfl rfl)) rfl fun a S => q_yg S rfl rfl (Yr.ys (ys_ldA ⟨isAgg28, sizeOf28⟩ (.t rfl) (k := 1) rfl rfl)) rfl fun a S => q_yg S rfl rfl (Yr.ys (ys_ldA ⟨isAgg67, sizeOf67⟩ (.t rfl) (k := 0) rfl rfl)) rfl fun a S => q_yg S rfl rfl (ys_call call61 (.cons (Ev.g rfl) .nil) (fun hp w W => c61 _ _ _ _)) rfl fun a S => q_yg S rfl rfl (ys_call call60 (.cons (Ev.g rfl) (.cons (Ev.g rfl) .nil)) (fun hp w W => c60 _ _ _ _ _ _ (by exact .old W (by assumption)))) rfl fun a S => q_yg S rfl rfl (Yr.ys (ys_leq (Ev.g rfl) (Ev.g rfl))) rfl fun a S => q_yg S rfl rfl (Yr.ys (ys_move (Ev.g rfl))) rfl fun a S => q_yf2 S rfl rfl (Yr.ys (ys_fieldN (FieldT.mk underlying28 rfl sizeOf26 rfl) (.t rfl) (i' := 1) rfl)) rfl fun a S => ?_))))))
  refine q_yf2 S rfl rfl (Yr.ys (ys_ld ⟨isAgg26, sizeOf26⟩ (Ev.g rfl) (k := 1) rfl rfl)) rfl fun a S => q_yf2 S rfl rfl (Yr.ys (ys_ldA ⟨isAgg67, sizeOf67⟩ (.t rfl) (k := 0) rfl rfl)) rfl fun a S => q_yf2 S rfl rfl (ys_call call96 (.cons (Ev.g rfl) (.cons (Ev.g rfl) .nil)) (fun hp w W => c96 _ _ _ _ _ _ (by exact .old W (by assumption)))) rfl fun a S => q_yg S rfl rfl (Yr.ys (ys_or2 (Ev.g rfl) Ev.c (Ev.g rfl))) rfl fun a S => qrun S (.yy (ys_and (.t rfl) (Ev.g rfl) Ev.c) rfl <| .as rfl <| .z) fun a S => ?_
  (refine q_nil ?_; intro w W; replace S := St.mk S W; clear W)
  refine then_normal (hK1 _ _ (wp_ret (st_ret S (results1 S results82 (Rv.tmp rfl)) ?_)))
  exact ⟨rfl, S.wd.below⟩
theorem c23 (w0 : World) (v1 v2 : Value) (C : Ctx) (x y : Int) (h : RdCtx w0 w0.heap.size v1 v2 C) :
    Calls Try.prog 23 #[.agg #[v1, v2], .agg #[.int .i64 x, .int .i64 y]] w0 fun e w' => e = .returned (.int .i64 (C.top x y)) ∧ Bel w0.heap.size w0 w' := by
  obtain ⟨⟨A, cap, rfl, hA⟩, ⟨A', cap', rfl, hl, hcap, hA'⟩⟩ := h
  have h1 : Sl Dot.enc 3 w0 w0.heap.size (.slice A C.marks.length cap) C.marks := ⟨A, cap, rfl, hA⟩
  clear hA
  refine enter2 func23 rfl ntmps23 rfl fun a S => wp_seq_k fun _ hK1 => wp_region_lit (st_m (op_box S (.t rfl) rfl fun g1 a w S => st_m (op_box S (.t rfl) rfl fun g2 a w S => run S (.ac rfl <| .z) fun a w S => st_nil (then_normal (hK1 _ _ (sg S (.la gt28 1 rfl rfl rfl <| .la gt58 0 rfl rfl rfl <| .xx (ys_call call60 (.cons (.t rfl) (.cons (.t rfl) .nil)) (fun hp w W => c60 _ _ _ _ _ _ (by exact .old W (by assumption)))) rfl <| .as rfl <| .z) fun a w S => wp_seq_k fun _ hK1 => sg S (.fa underlying28 sizeOf26 1 rfl rfl rfl <| .ld gt26 1 rfl rfl rfl <| .ln underlying26 rfl <| .mc rfl <| .z) fun a w S => wp_block ?_))))))
  refine st_lpK S (X := Nat × Int) (fun x => [(14, true, .int .i64 (x.1 : Int)), (5, true, .int .i64 x.2)]) (fun _ L => L) (fun q => q.1 ≤ C.cloud.length ∧ topFrom q.2 x y (C.cloud.drop q.1) = C.top x y) (fun q => C.cloud.length - q.1) (0, markOf C.marks x y) ⟨Nat.zero_le _, rfl⟩ ?_
  clear S
  intro ⟨k, t⟩ a w ⟨hk, hno⟩ S
  dsimp only at hk hno S
  by_cases hlt : k < C.cloud.length
  · obtain ⟨g, o, m, rfl, hm, hd, hc⟩ := row_at hA' hlt
    clear hA'
    refine sg S (.lt (by omega) rfl rfl <| .z) fun a w S => wp_seq_k fun _ hK2 => st_then S (.t rfl) (wp_skip (then_normal (hK2 _ _ (wp_seq_k fun _ hK2 => wp_block (wp_seq_k fun _ hK3 => wp_region_lit (run S (.ix underlying26 sizeOf67 (by omega) rfl rfl <| .yy (ys_ldOA ⟨isAgg67, sizeOf67⟩ (.t rfl) (vs := [_, _, _]) rfl (fun _ => hc)) rfl <| .z) fun a w S => st_m (op_alloc S zeroValue67 (cs := _) rfl rfl fun g3 a w S => st_m (op_stW S sizeOf67 (.t rfl) (.t rfl) (k := 0) rfl rfl rfl (by simp [Value.oneCell']) fun a w S => st_nil (then_normal (hK3 _ _ (wp_seq_k fun _ hK3 => st_quiet S (by kernel_rfl) (by kernel_rfl) fun a S => qrun S (.la gt67 0 rfl rfl rfl <| .xx (ys_call call61 (.cons (.t rfl) .nil) (fun hp w W => c61 _ _ _ _)) rfl <| .la gt58 1 rfl rfl rfl <| .yy (ys_eqA (.t rfl) (.t rfl) eq58) rfl <| .z) fun a S => ?_)))))))))))
    (refine q_nil ?_; intro w W; replace S := St.mk S W; clear W)
    refine then_normal (hK3 _ _ ?_)
    refine st_if S (.t rfl) (fun h2 => ?_) (fun h2 => ?_)
    refine wp_region_lit (run S (.mv rfl <| .fa underlying67 sizeOf3 2 rfl rfl rfl <| .ld gt3 0 rfl rfl rfl <| .yy (ys_max (.t rfl) (.t rfl)) rfl <| .as rfl <| .z) fun a w S => st_nil (in_normal (then_normal (hK2 _ _ (wp_region_lit (run S (.ad (by unfold I64; omega) rfl <| .mv rfl <| .z) fun a w S => st_nil (then_normal ?_)))))))
    rotate_left
    refine wp_skip (in_normal (then_normal (hK2 _ _ (wp_region_lit (run S (.ad (by unfold I64; omega) rfl <| .mv rfl <| .z) fun a w S => st_nil (then_normal ?_))))))
    rotate_left
    · rw [hd, topFrom, if_pos h2] at hno
      exact ⟨(k + 1, max t m.count), ⟨by dsimp only; omega, hno⟩, by dsimp only; omega, S.wk⟩
    · rw [hd, topFrom, if_neg h2] at hno
      exact ⟨(k + 1, t), ⟨by dsimp only; omega, hno⟩, by dsimp only; omega, S.wk⟩
  · refine sg S (.ge (by omega) rfl rfl <| .z) fun a w S => wp_seq_k fun _ hK2 => st_else S (.t rfl) (wp_exit (then_exit (then_exit (in_here (then_normal (hK1 _ _ (sg S (.mv rfl <| .as rfl <| .z) fun a w S => wp_ret (st_ret S (results1 S results23 (Rv.tmp rfl)) ?_))))))))
    refine ⟨?_, S.wd.below⟩
    rw [← hno, List.drop_eq_nil_of_le (by omega)]; rfl
theorem c20 (w0 : World) (v1 v2 : Value) (C : Ctx) (x y : Int) (h : RdCtx w0 w0.heap.size v1 v2 C) :
    Calls Try.prog 20 #[.agg #[v1, v2], .agg #[.int .i64 x, .int .i64 y]] w0 fun e w' => e = .returned (.int .i64 (C.top x y)) ∧ Bel w0.heap.size w0 w' := by
  obtain ⟨⟨A, cap, rfl, hA⟩, ⟨A', cap', rfl, hl, hcap, hA'⟩⟩ := h
  have h1 : Sl Dot.enc 3 w0 w0.heap.size (.slice A C.marks.length cap) C.marks := ⟨A, cap, rfl, hA⟩
  clear hA
  refine enter2 func20 rfl ntmps20 rfl fun a S => wp_seq_k fun _ hK1 => wp_region_lit (st_m (op_box S (.t rfl) rfl fun g1 a w S => st_m (op_box S (.t rfl) rfl fun g2 a w S => run S (.ac rfl <| .z) fun a w S => st_nil (then_normal (hK1 _ _ (sg S (.fa underlying28 sizeOf25 0 rfl rfl rfl <| .ld gt25 1 rfl rfl rfl <| .fa underlying58 sizeOf3 0 rfl rfl rfl <| .ld gt3 0 rfl rfl rfl <| .fa underlying58 sizeOf3 1 rfl rfl rfl <| .ld gt3 0 rfl rfl rfl <| .xx (ys_call call56 (.cons (.t rfl) (.cons (.t rfl) (.cons (.t rfl) .nil))) (fun hp w W => c56 _ _ _ _ _ (by exact .old W (by assumption)))) rfl <| .as rfl <| .z) fun a w S => wp_seq_k fun _ hK1 => sg S (.fa underlying28 sizeOf26 1 rfl rfl rfl <| .ld gt26 1 rfl rfl rfl <| .ln underlying26 rfl <| .mc rfl <| .z) fun a w S => wp_block ?_))))))
  refine st_lpK S (X := Nat × Int) (fun x => [(18, true, .int .i64 (x.1 : Int)), (5, true, .int .i64 x.2)]) (fun _ L => L) (fun q => q.1 ≤ C.cloud.length ∧ topFrom q.2 x y (C.cloud.drop q.1) = C.top x y) (fun q => C.cloud.length - q.1) (0, markOf C.marks x y) ⟨Nat.zero_le _, rfl⟩ ?_
  clear S
  intro ⟨k, t⟩ a w ⟨hk, hno⟩ S
  dsimp only at hk hno S
  by_cases hlt : k < C.cloud.length
  · obtain ⟨g, o, m, rfl, hm, hd, hc⟩ := row_at hA' hlt
    clear hA'
    refine sg S (.lt (by omega) rfl rfl <| .z) fun a w S => wp_seq_k fun _ hK2 => st_then S (.t rfl) (wp_skip (then_normal (hK2 _ _ (wp_seq_k fun _ hK2 => wp_block (wp_seq_k fun _ hK3 => wp_region_lit (run S (.ix underlying26 sizeOf67 (by omega) rfl rfl <| .yy (ys_ldOA ⟨isAgg67, sizeOf67⟩ (.t rfl) (vs := [_, _, _]) rfl (fun _ => hc)) rfl <| .z) fun a w S => st_m (op_alloc S zeroValue67 (cs := _) rfl rfl fun g3 a w S => st_m (op_stW S sizeOf67 (.t rfl) (.t rfl) (k := 0) rfl rfl rfl (by simp [Value.oneCell']) fun a w S => st_nil (then_normal (hK3 _ _ (wp_seq_k fun _ hK3 => wp_region_lit (run S (.fa underlying67 sizeOf3 0 rfl rfl rfl <| .ld gt3 0 rfl rfl rfl <| .fa underlying58 sizeOf3 0 rfl rfl rfl <| .ld gt3 1 rfl rfl rfl <| .yy (ys_eql (.t rfl) (.t rfl)) rfl <| .mv rfl <| .z) fun a w S => st_yg S rfl rfl (Yr.ys (ys_fieldN (FieldT.mk underlying67 rfl sizeOf3 rfl) (.t rfl) (i' := 1) rfl)) rfl fun a w S => st_yg S rfl rfl (Yr.ys (ys_ld ⟨isAgg3, sizeOf3⟩ (Ev.g rfl) (k := 0) rfl rfl)) rfl fun a w S => st_yg S rfl rfl (Yr.ys (ys_fieldN (FieldT.mk underlying58 rfl sizeOf3 rfl) (.t rfl) (i' := 1) rfl)) rfl fun a w S => st_yg S rfl rfl (Yr.ys (ys_ld ⟨isAgg3, sizeOf3⟩ (Ev.g rfl) (k := 1) rfl rfl)) rfl fun a w S => st_yg S rfl rfl (Yr.ys (ys_eql (Ev.g rfl) (Ev.g rfl))) rfl fun a w S => ?_))))))))))))
    refine run S (.yy (ys_and (.t rfl) (Ev.g rfl) Ev.c) rfl <| .z) fun a w S => st_nil (then_normal (hK3 _ _ ?_))
    refine st_cond S (.t rfl) (fun h2 => ?_) (fun h2 => ?_)
    refine wp_region_lit (run S (.mv rfl <| .fa underlying67 sizeOf3 2 rfl rfl rfl <| .ld gt3 0 rfl rfl rfl <| .yy (ys_max (.t rfl) (.t rfl)) rfl <| .as rfl <| .z) fun a w S => st_nil (in_normal (then_normal (hK2 _ _ (wp_region_lit (run S (.ad (by unfold I64; omega) rfl <| .mv rfl <| .z) fun a w S => st_nil (then_normal ?_)))))))
    rotate_left
    refine wp_skip (in_normal (then_normal (hK2 _ _ (wp_region_lit (run S (.ad (by unfold I64; omega) rfl <| .mv rfl <| .z) fun a w S => st_nil (then_normal ?_))))))
    rotate_left
    · rw [hd, topFrom, if_pos (by simpa using h2)] at hno
      exact ⟨(k + 1, max t m.count), ⟨by dsimp only; omega, hno⟩, by dsimp only; omega, S.wk⟩
    · rw [hd, topFrom, if_neg (by simpa using h2)] at hno
      exact ⟨(k + 1, t), ⟨by dsimp only; omega, hno⟩, by dsimp only; omega, S.wk⟩
  · refine sg S (.ge (by omega) rfl rfl <| .z) fun a w S => wp_seq_k fun _ hK2 => st_else S (.t rfl) (wp_exit (then_exit (then_exit (in_here (then_normal (hK1 _ _ (sg S (.mv rfl <| .as rfl <| .z) fun a w S => wp_ret (st_ret S (results1 S results20 (Rv.tmp rfl)) ?_))))))))
    refine ⟨?_, S.wd.below⟩
    rw [← hno, List.drop_eq_nil_of_le (by omega)]; rfl
end Go.Proofs.Ytakpdbmdfnialaa
set_option linter.unusedVariables false
set_option linter.unusedSimpArgs false
set_option maxRecDepth 100000
namespace Go.Proofs.Ytakpdbmdfnialaa
open Go.Fw Go.Proofs Go.RowKit Go.Proofs.Try
theorem c62 (w0 : World) (v1 v2 : Value) (C : Ctx) (x y : Int) (h : RdCtx w0 w0.heap.size v1 v2 C) (hm : C.marks.length ≤ 1048576) (hcl : C.cloud.length ≤ 1048576) :
    Rets Try.prog 62 #[.agg #[v1, v2], .agg #[.int .i64 x, .int .i64 y]] w0 fun v L => ∃ A1 r1 A2 r2, v = .agg #[.slice A1 (keep x y C.marks).length r1, .slice A2 (keep x y C.cloud).length r2] ∧
      L = [rowOf 67 3 Dot.enc A2 r2 (keep x y C.cloud), rowOf 23 3 Dot.enc A1 r1 (keep x y C.marks)] := by
  obtain ⟨⟨A, cap, rfl, hl, hcap, hA⟩, ⟨A', cap', rfl, hl', hcap', hA'⟩⟩ := h
  unfold Go.Fw.Rets
  refine enter2 func62 rfl ntmps62 rfl fun a S => wp_seq_k fun _ hK1 => wp_region_lit (st_m (op_box S (.t rfl) rfl fun g1 a w S => st_m (op_box S (.t rfl) rfl fun g2 a w S => st_m (op_alloc S zeroValue28 (cs := _) rfl rfl fun g3 a w S => st_nil (then_normal (hK1 _ _ (wp_seq_k fun _ hK1 => wp_region_lit (st_m (op_alloc S zeroValue28 (cs := _) rfl rfl fun g4 a w S => st_nil (then_normal (hK1 _ _ (wp_seq_k fun _ hK1 => sg S (.fa underlying28 sizeOf25 0 rfl rfl rfl <| .ld gt25 3 rfl rfl rfl <| .ln underlying25 rfl <| .mc rfl <| .z) fun a w S => wp_block ?_))))))))))))
  refine st_lpK (S.nil_ 23 3 Dot.enc none) (X := Nat × Option Addr × Nat) (fun q => [(13, true, .int .i64 (q.1 : Int))])
    (fun q _ => [rowOf 23 3 Dot.enc q.2.1 q.2.2 (keep x y (C.marks.take q.1)), .blk g4 (.cells #[.slice q.2.1 (keep x y (C.marks.take q.1)).length q.2.2, .slice none 0 0] 28), .blk g3 (.cells #[.slice none 0 0, .slice none 0 0] 28), .blk g2 (.cells #[.int .i64 x, .int .i64 y] 58), .blk g1 (.cells #[.slice A C.marks.length cap, .slice A' C.cloud.length cap'] 28)])
    (fun q => q.1 ≤ C.marks.length) (fun q => C.marks.length - q.1) (0, none, 0) (Nat.zero_le _) ?_
  clear S
  intro ⟨k, B, cB⟩ a w hk S
  dsimp only at hk S
  have hln := keep_len x y C.marks k
  by_cases hlt : k < C.marks.length
  · obtain ⟨g, o, m, rfl, hmm, hd, hc⟩ := row_at hA hlt
    clear hA
    refine sg S (.lt (by omega) rfl rfl <| .z) fun a w S => wp_seq_k fun _ hK2 => st_then S (.t rfl) (wp_skip (then_normal (hK2 _ _ (wp_seq_k fun _ hK2 => wp_block (wp_seq_k fun _ hK3 => wp_region_lit (run S (.ix underlying25 sizeOf23 (by omega) rfl rfl <| .yy (ys_ldOA ⟨isAgg23, sizeOf23⟩ (.t rfl) (vs := [_, _, _]) rfl (fun _ => hc)) rfl <| .z) fun a w S => st_m (op_alloc S zeroValue23 (cs := _) rfl rfl fun g5 a w S => st_m (op_stW S sizeOf23 (.t rfl) (.t rfl) (k := 0) rfl rfl rfl (by simp [Value.oneCell']) fun a w S => st_nil (then_normal (hK3 _ _ (wp_seq_k fun _ hK3 => st_quiet S (by kernel_rfl) (by kernel_rfl) fun a S => qrun S (.la gt23 0 rfl rfl rfl <| .xx (ys_call call78 (.cons (.t rfl) .nil) (fun hp w W => c78 _ _ _ _)) rfl <| .xx (ys_call call61 (.cons (.t rfl) .nil) (fun hp w W => c61 _ _ _ _)) rfl <| .la gt58 4 rfl rfl rfl <| .yy (ys_neA (.t rfl) (.t rfl) eq58) rfl <| .z) fun a S => ?_)))))))))))
    (refine q_nil ?_; intro w W; replace S := St.mk S W; clear W)
    refine then_normal (hK3 _ _ ?_)
    refine st_cond S (.t rfl) (fun h1 => ?_) (fun h1 => ?_)
    refine wp_region_lit (run S (.fa underlying28 sizeOf25 0 rfl rfl rfl <| .ld gt25 2 rfl rfl rfl <| .la gt23 0 rfl rfl rfl <| .z) fun a w S => st_m (op_bslice1 S underlying25 inf23 rfl rfl rfl (.t rfl) rfl rfl rfl fun g6 a w S => st_m (op_push S underlying25 inf23 rfl (k := 2) (j := 0) rfl (.t rfl) (.t rfl) rfl rfl rfl rfl (by first | omega | (simp only [List.length_append, List.length_cons, List.length_nil]; omega)) rfl rfl rfl fun A1 cap1 a w S => run S (.fa underlying28 sizeOf25 0 rfl rfl rfl <| .z) fun a w S => st_m (op_st S sizeOf25 (.t rfl) (.t rfl) (k := 3) rfl rfl (by simp) fun a w S => st_nil (in_normal (then_normal (hK2 _ _ (wp_region_lit (run S (.ad (by unfold I64; omega) rfl <| .mv rfl <| .z) fun a w S => st_nil (then_normal ?_))))))))))
    rotate_left
    refine wp_skip (in_normal (then_normal (hK2 _ _ (wp_region_lit (run S (.ad (by unfold I64; omega) rfl <| .mv rfl <| .z) fun a w S => st_nil (then_normal ?_))))))
    rotate_left
    · rw [← keep_yes hmm (by simp at h1; omega)] at S
      exact ⟨(k + 1, A1, cap1), by dsimp only; omega, by dsimp only; omega, S.wk⟩
    · rw [← keep_no hmm (by simpa using h1)] at S
      exact ⟨(k + 1, B, cB), by dsimp only; omega, by dsimp only; omega, S.wk⟩
  · have hend : k = C.marks.length := by omega
    subst hend
    rw [List.take_length] at S
    refine sg S (.ge (by omega) rfl rfl <| .z) fun a w S => wp_seq_k fun _ hK2 => st_else S (.t rfl) (wp_exit (then_exit (then_exit (in_here (then_normal (hK1 _ _ (wp_seq_k fun _ hK1 => sg S (.fa underlying28 sizeOf26 1 rfl rfl rfl <| .ld gt26 4 rfl rfl rfl <| .ln underlying26 rfl <| .mc rfl <| .z) fun a w S => wp_block ?_)))))))
    refine st_lpK (S.nil_ 67 3 Dot.enc none) (X := Nat × Option Addr × Nat) (fun q => [(32, true, .int .i64 (q.1 : Int))])
      (fun q _ => [rowOf 67 3 Dot.enc q.2.1 q.2.2 (keep x y (C.cloud.take q.1)), rowOf 23 3 Dot.enc B cB (keep x y C.marks), .blk g4 (.cells #[.slice B (keep x y C.marks).length cB, .slice q.2.1 (keep x y (C.cloud.take q.1)).length q.2.2] 28), .blk g3 (.cells #[.slice none 0 0, .slice none 0 0] 28), .blk g2 (.cells #[.int .i64 x, .int .i64 y] 58), .blk g1 (.cells #[.slice A C.marks.length cap, .slice A' C.cloud.length cap'] 28)])
      (fun q => q.1 ≤ C.cloud.length) (fun q => C.cloud.length - q.1) (0, none, 0) (Nat.zero_le _) ?_
    clear S
    intro ⟨k, D, cD⟩ a w hk S
    dsimp only at hk S
    have hln := keep_len x y C.cloud k
    by_cases hlt : k < C.cloud.length
    · obtain ⟨g, o, m, rfl, hmm, hd, hc⟩ := row_at hA' hlt
      clear hA'
      refine sg S (.lt (by omega) rfl rfl <| .z) fun a w S => wp_seq_k fun _ hK3 => st_then S (.t rfl) (wp_skip (then_normal (hK3 _ _ (wp_seq_k fun _ hK3 => wp_block (wp_seq_k fun _ hK4 => wp_region_lit (run S (.ix underlying26 sizeOf67 (by omega) rfl rfl <| .yy (ys_ldOA ⟨isAgg67, sizeOf67⟩ (.t rfl) (vs := [_, _, _]) rfl (fun _ => hc)) rfl <| .z) fun a w S => st_m (op_alloc S zeroValue67 (cs := _) rfl rfl fun g5 a w S => st_m (op_stW S sizeOf67 (.t rfl) (.t rfl) (k := 0) rfl rfl rfl (by simp [Value.oneCell']) fun a w S => st_nil (then_normal (hK4 _ _ (wp_seq_k fun _ hK4 => st_quiet S (by kernel_rfl) (by kernel_rfl) fun a S => qrun S (.la gt67 0 rfl rfl rfl <| .xx (ys_call call61 (.cons (.t rfl) .nil) (fun hp w W => c61 _ _ _ _)) rfl <| .la gt58 5 rfl rfl rfl <| .yy (ys_neA (.t rfl) (.t rfl) eq58) rfl <| .z) fun a S => ?_)))))))))))
      (refine q_nil ?_; intro w W; replace S := St.mk S W; clear W)
      refine then_normal (hK4 _ _ ?_)
      refine st_cond S (.t rfl) (fun h1 => ?_) (fun h1 => ?_)
      refine wp_region_lit (run S (.fa underlying28 sizeOf26 1 rfl rfl rfl <| .ld gt26 3 rfl rfl rfl <| .la gt67 0 rfl rfl rfl <| .z) fun a w S => st_m (op_bslice1 S underlying26 inf67 rfl rfl rfl (.t rfl) rfl rfl rfl fun g6 a w S => st_m (op_push S underlying26 inf67 rfl (k := 2) (j := 0) rfl (.t rfl) (.t rfl) rfl rfl rfl rfl (by first | omega | (simp only [List.length_append, List.length_cons, List.length_nil]; omega)) rfl rfl rfl fun A1 cap1 a w S => run S (.fa underlying28 sizeOf26 1 rfl rfl rfl <| .z) fun a w S => st_m (op_st S sizeOf26 (.t rfl) (.t rfl) (k := 4) rfl rfl (by simp) fun a w S => st_nil (in_normal (then_normal (hK3 _ _ (wp_region_lit (run S (.ad (by unfold I64; omega) rfl <| .mv rfl <| .z) fun a w S => st_nil (then_normal ?_))))))))))
      rotate_left
      refine wp_skip (in_normal (then_normal (hK3 _ _ (wp_region_lit (run S (.ad (by unfold I64; omega) rfl <| .mv rfl <| .z) fun a w S => st_nil (then_normal ?_))))))
      rotate_left
      · rw [← keep_yes hmm (by simp at h1; omega)] at S
        exact ⟨(k + 1, A1, cap1), by dsimp only; omega, by dsimp only; omega, S.wk⟩
      · rw [← keep_no hmm (by simpa using h1)] at S
        exact ⟨(k + 1, D, cD), by dsimp only; omega, by dsimp only; omega, S.wk⟩
    · have hend : k = C.cloud.length := by omega
      subst hend
      rw [List.take_length] at S
      refine sg S (.ge (by omega) rfl rfl <| .z) fun a w S => wp_seq_k fun _ hK3 => st_else S (.t rfl) (wp_exit (then_exit (then_exit (in_here (then_normal (hK1 _ _ (wp_seq_k fun _ hK1 => wp_region_lit (run S (.la gt28 2 rfl rfl rfl <| .z) fun a w S => st_m (op_stW S sizeOf28 (.t rfl) (.t rfl) (k := 3) rfl rfl rfl (by simp [Value.oneCell']) fun a w S => st_nil (then_normal (hK1 _ _ (wp_ret (st_ret S (results1 S results62 (Rv.cell (k := 3) ⟨isAgg28, sizeOf28⟩ rfl rfl rfl)) ?_)))))))))))))
      exact ⟨_, _, rfl, S.wd.sub (by repeat (first | exact List.Sublist.refl _ | exact List.nil_sublist _ | refine .cons_cons _ ?_ | refine .cons _ ?_)), B, cB, D, cD, rfl, rfl⟩
end Go.Proofs.Ytakpdbmdfnialaa
set_option linter.unusedVariables false
set_option linter.unusedSimpArgs false
set_option maxRecDepth 100000
namespace Go.Proofs.Ytakpdbmdfnialaa
open Go.Fw Go.Proofs Go.RowKit Go.Proofs.Try
theorem c35 (w0 : World) (v v' : Value) (l l' : List Dot) (h : Sl Dot.enc 3 w0 w0.heap.size v l) (h' : Sl Dot.enc 3 w0 w0.heap.size v' l') :
    Calls Try.prog 35 #[v, v'] w0 fun e w' => e = .returned (.bool (decide (l = l'))) ∧ Bel w0.heap.size w0 w' := by
  obtain ⟨A, cap, rfl, hl, hcap, hA⟩ := h
  obtain ⟨A', cap', rfl, hl', hcap', hA'⟩ := h'
  refine enter2 func35 rfl ntmps35 rfl fun a S => sg S (.ac rfl <| .z) fun a w S => wp_seq_k fun _ hK1 => sg S (.mv rfl <| .ln underlying25 rfl <| .mv rfl <| .ln underlying25 rfl <| .yy (ys_neq (.t rfl) (.t rfl)) rfl <| .z) fun a w S => ?_
  refine st_if S (.t rfl) (fun h1 => ?_) (fun h1 => ?_)
  refine sg S (.ac rfl <| .z) fun a w S => wp_ret (then_ret (st_ret S (results1 S results35 (Rv.tmp rfl)) ?_))
  rotate_left
  refine wp_skip (then_normal (hK1 _ _ (wp_seq_k fun _ hK1 => sg S (.mv rfl <| .ln underlying25 rfl <| .mc rfl <| .z) fun a w S => wp_block ?_)))
  rotate_left
  · refine ⟨?_, S.wd.below⟩
    rw [decide_eq_false (fun e => h1 (by rw [e]))]
  · refine st_lpK S (X := Nat) (fun k => [(13, true, .int .i64 (k : Int))]) (fun _ L => L) (fun k => k ≤ l.length ∧ l.take k = l'.take k) (fun k => l.length - k) 0 ⟨Nat.zero_le _, rfl⟩ ?_
    clear S
    intro k a w ⟨hk, hno⟩ S
    by_cases hlt : k < l.length
    · obtain ⟨g, o, m, rfl, hmm, hd, hc⟩ := row_at hA hlt
      obtain ⟨g', o', m', rfl, hmm', hd', hc'⟩ := row_at hA' (show k < l'.length by omega)
      clear hA hA'
      refine sg S (.lt (by omega) rfl rfl <| .z) fun a w S => wp_seq_k fun _ hK2 => st_then S (.t rfl) (wp_skip (then_normal (hK2 _ _ (wp_seq_k fun _ hK2 => wp_block (sg S (.mv rfl <| .as rfl <| .z) fun a w S => wp_seq_k fun _ hK3 => st_quiet S (by kernel_rfl) (by kernel_rfl) fun a S => qrun S (.mv rfl <| .mv rfl <| .ix underlying25 sizeOf23 (by omega) rfl rfl <| .yy (ys_ldOA ⟨isAgg23, sizeOf23⟩ (.t rfl) (vs := [_, _, _]) rfl (fun _ => hc)) rfl <| .mv rfl <| .mv rfl <| .ix underlying25 sizeOf23 (by omega) rfl rfl <| .yy (ys_ldOA ⟨isAgg23, sizeOf23⟩ (.t rfl) (vs := [_, _, _]) rfl (fun _ => hc')) rfl <| .yy (ys_neA (.t rfl) (.t rfl) eq23) rfl <| .z) fun a S => ?_)))))
      (refine q_nil ?_; intro w W; replace S := St.mk S W; clear W)
      refine then_normal (hK3 _ _ ?_)
      refine st_cond S (.t rfl) (fun h2 => ?_) (fun h2 => ?_)
      refine sg S (.ac rfl <| .z) fun a w S => wp_ret (in_ret (then_ret (then_ret (in_ret (then_ret (st_ret S (results1 S results35 (Rv.tmp rfl)) ?_))))))
      rotate_left
      refine wp_skip (in_normal (then_normal (hK2 _ _ (wp_region_lit (run S (.ad (by unfold I64; omega) rfl <| .mv rfl <| .z) fun a w S => st_nil (then_normal ?_))))))
      rotate_left
      · refine ⟨?_, S.wd.below⟩
        rw [ne_at hmm hmm' (by rw [Dot.eq_iff]; simp at h2; omega)]
      · exact ⟨k + 1, ⟨by omega, take_step hno hmm hmm' (by rw [Dot.eq_iff]; simp at h2; omega)⟩, by omega, S.wk⟩
    · refine sg S (.ge (by omega) rfl rfl <| .z) fun a w S => wp_seq_k fun _ hK2 => st_else S (.t rfl) (wp_exit (then_exit (then_exit (in_here (then_normal (hK1 _ _ (sg S (.ac rfl <| .z) fun a w S => wp_ret (st_ret S (results1 S results35 (Rv.tmp rfl)) ?_))))))))
      refine ⟨?_, S.wd.below⟩
      rw [decide_eq_true]
      rw [List.take_of_length_le (by omega), List.take_of_length_le (by omega)] at hno
      exact hno
theorem c63 (w0 : World) (v v' : Value) (l l' : List Dot) (h : Sl Dot.enc 3 w0 w0.heap.size v l) (h' : Sl Dot.enc 3 w0 w0.heap.size v' l') :
    Calls Try.prog 63 #[v, v'] w0 fun e w' => e = .returned (.bool (decide (l = l'))) ∧ Bel w0.heap.size w0 w' := by
  obtain ⟨A, cap, rfl, hl, hcap, hA⟩ := h
  obtain ⟨A', cap', rfl, hl', hcap', hA'⟩ := h'
  refine enter2 func63 rfl ntmps63 rfl fun a S => sg S (.ac rfl <| .z) fun a w S => wp_seq_k fun _ hK1 => sg S (.mv rfl <| .ln underlying26 rfl <| .mv rfl <| .ln underlying26 rfl <| .yy (ys_neq (.t rfl) (.t rfl)) rfl <| .z) fun a w S => ?_
  refine st_if S (.t rfl) (fun h1 => ?_) (fun h1 => ?_)
  refine sg S (.ac rfl <| .z) fun a w S => wp_ret (then_ret (st_ret S (results1 S results63 (Rv.tmp rfl)) ?_))
  rotate_left
  refine wp_skip (then_normal (hK1 _ _ (wp_seq_k fun _ hK1 => sg S (.mv rfl <| .ln underlying26 rfl <| .mc rfl <| .z) fun a w S => wp_block ?_)))
  rotate_left
  · refine ⟨?_, S.wd.below⟩
    rw [decide_eq_false (fun e => h1 (by rw [e]))]
  · refine st_lpK S (X := Nat) (fun k => [(13, true, .int .i64 (k : Int))]) (fun _ L => L) (fun k => k ≤ l.length ∧ l.take k = l'.take k) (fun k => l.length - k) 0 ⟨Nat.zero_le _, rfl⟩ ?_
    clear S
    intro k a w ⟨hk, hno⟩ S
    by_cases hlt : k < l.length
    · obtain ⟨g, o, m, rfl, hmm, hd, hc⟩ := row_at hA hlt
      obtain ⟨g', o', m', rfl, hmm', hd', hc'⟩ := row_at hA' (show k < l'.length by omega)
      clear hA hA'
      refine sg S (.lt (by omega) rfl rfl <| .z) fun a w S => wp_seq_k fun _ hK2 => st_then S (.t rfl) (wp_skip (then_normal (hK2 _ _ (wp_seq_k fun _ hK2 => wp_block (sg S (.mv rfl <| .as rfl <| .z) fun a w S => wp_seq_k fun _ hK3 => st_quiet S (by kernel_rfl) (by kernel_rfl) fun a S => qrun S (.mv rfl <| .mv rfl <| .ix underlying26 sizeOf67 (by omega) rfl rfl <| .yy (ys_ldOA ⟨isAgg67, sizeOf67⟩ (.t rfl) (vs := [_, _, _]) rfl (fun _ => hc)) rfl <| .mv rfl <| .mv rfl <| .ix underlying26 sizeOf67 (by omega) rfl rfl <| .yy (ys_ldOA ⟨isAgg67, sizeOf67⟩ (.t rfl) (vs := [_, _, _]) rfl (fun _ => hc')) rfl <| .yy (ys_neA (.t rfl) (.t rfl) eq67) rfl <| .z) fun a S => ?_)))))
      (refine q_nil ?_; intro w W; replace S := St.mk S W; clear W)
      refine then_normal (hK3 _ _ ?_)
      refine st_cond S (.t rfl) (fun h2 => ?_) (fun h2 => ?_)
      refine sg S (.ac rfl <| .z) fun a w S => wp_ret (in_ret (then_ret (then_ret (in_ret (then_ret (st_ret S (results1 S results63 (Rv.tmp rfl)) ?_))))))
      rotate_left
      refine wp_skip (in_normal (then_normal (hK2 _ _ (wp_region_lit (run S (.ad (by unfold I64; omega) rfl <| .mv rfl <| .z) fun a w S => st_nil (then_normal ?_))))))
      rotate_left
      · refine ⟨?_, S.wd.below⟩
        rw [ne_at hmm hmm' (by rw [Dot.eq_iff]; simp at h2; omega)]
      · exact ⟨k + 1, ⟨by omega, take_step hno hmm hmm' (by rw [Dot.eq_iff]; simp at h2; omega)⟩, by omega, S.wk⟩
    · refine sg S (.ge (by omega) rfl rfl <| .z) fun a w S => wp_seq_k fun _ hK2 => st_else S (.t rfl) (wp_exit (then_exit (then_exit (in_here (then_normal (hK1 _ _ (sg S (.ac rfl <| .z) fun a w S => wp_ret (st_ret S (results1 S results63 (Rv.tmp rfl)) ?_))))))))
      refine ⟨?_, S.wd.below⟩
      rw [decide_eq_true]
      rw [List.take_of_length_le (by omega), List.take_of_length_le (by omega)] at hno
      exact hno
end Go.Proofs.Ytakpdbmdfnialaa
set_option linter.unusedVariables false
set_option linter.unusedSimpArgs false
set_option maxRecDepth 100000
set_option maxHeartbeats 4000000
namespace Go.Proofs.Ytakpdbmdfnialaa
open Go.Fw Go.Proofs Go.RowKit Go.Proofs.Try
theorem c41 (w0 : World) (p : UInt64) (hp : priceB p = true) : Calls Try.prog 41 #[.int .u64 (p.toNat : Int)] w0 fun e w' => e = .returned (.int .u64 (rankP p : Int)) ∧ Bel w0.heap.size w0 w' := by
  unfold rankP
  by_cases h : p.toNat = 9223372036854775808
  · refine enter1 func41 rfl ntmps41 rfl fun a S => sg S (.ac rfl <| .z) fun a w S => wp_seq_k fun _ hK1 => sg S (.mv rfl <| .yy (ys_T (by omega) (ys_eql (.t rfl) Ev.c)) rfl <| .z) fun a w S => st_then S (.t rfl) (sg S (.ac rfl <| .z) fun a w S => wp_ret (then_ret (st_ret S (results1 S results41 (Rv.tmp rfl)) ?_)))
    exact ⟨by rw [if_pos h]; rfl, S.wd.below⟩
  · have h2 : p.toNat ≤ 9218868437227405312 := by unfold priceB at hp; simp at hp; omega
    have rw_w : IntKind.u64.wrap ((p.toNat : Int) + 1) = ((p.toNat + 1 : Nat) : Int) := by rw [wrap_u64 (by omega) (by omega)]; omega
    refine enter1 func41 rfl ntmps41 rfl fun a S => sg S (.ac rfl <| .z) fun a w S => wp_seq_k fun _ hK1 => sg S (.mv rfl <| .yy (ys_F (by omega) (ys_eql (.t rfl) Ev.c)) rfl <| .z) fun a w S => st_else S (.t rfl) (wp_skip (then_normal (hK1 _ _ (wp_seq_k fun _ hK1 => wp_region_lit (run S (.mv rfl <| .yy (ys_add (.t rfl) Ev.c) rfl <| .z) fun a w S => ?_)))))
    rw [rw_w] at S
    refine run S (.as rfl <| .z) fun a w S => st_nil (then_normal (hK1 _ _ (wp_ret (st_ret S (results1 S results41 (Rv.tmp rfl)) ?_))))
    exact ⟨by rw [if_neg h], S.wd.below⟩
end Go.Proofs.Ytakpdbmdfnialaa
set_option linter.unusedVariables false
set_option linter.unusedSimpArgs false
set_option maxRecDepth 100000
set_option maxHeartbeats 4000000
namespace Go.Fw
theorem bs_iff {l m : List UInt8} : bs l = bs m ↔ l = m := ⟨fun h => by have := congrArg (fun b => b.data.toList) h; simpa [bs] using this, fun h => by rw [h]⟩
theorem ent_iff {x y : Ent} : x = y ↔ bs x.item = bs y.item ∧ x.dot.node = y.dot.node ∧ x.dot.life = y.dot.life ∧ x.dot.count = y.dot.count ∧ x.qty = y.qty ∧ (x.price.toNat : Int) = (y.price.toNat : Int) := by
  constructor
  · intro e; subst e; exact ⟨rfl, rfl, rfl, rfl, rfl, rfl⟩
  · rintro ⟨e1, e2, e3, e4, e5, e6⟩
    obtain ⟨s, ⟨a, b, c⟩, q, p⟩ := x
    obtain ⟨s', ⟨a', b', c'⟩, q', p'⟩ := y
    rw [bs_iff] at e1
    have e7 : p = p' := UInt64.toNat_inj.1 (by dsimp only at e6; omega)
    simp_all
theorem line_iff {x y : Line} : x = y ↔ bs x.item = bs y.item ∧ x.qty = y.qty ∧ (x.price.toNat : Int) = (y.price.toNat : Int) := by
  constructor
  · intro e; subst e; exact ⟨rfl, rfl, rfl⟩
  · rintro ⟨e1, e2, e3⟩
    obtain ⟨s, q, p⟩ := x
    obtain ⟨s', q', p'⟩ := y
    rw [bs_iff] at e1
    have e7 : p = p' := UInt64.toNat_inj.1 (by dsimp only at e3; omega)
    simp_all
theorem dot_iff3 {x y : Dot} : x = y ↔ x.node = y.node ∧ x.life = y.life ∧ x.count = y.count := ⟨fun e => by subst e; exact ⟨rfl, rfl, rfl⟩, fun ⟨e1, e2, e3⟩ => by cases x; cases y; simp_all⟩
theorem takeE_step {α : Type} {l l' : List α} {k : Nat} {x y : α} (h : l.take k = l'.take k) (hx : l[k]? = some x) (hy : l'[k]? = some y) (e : x = y) : l.take (k + 1) = l'.take (k + 1) := by
  rw [List.take_add_one, List.take_add_one, h, hx, hy, e]
theorem takeE_ne {α : Type} {l l' : List α} {k : Nat} {x y : α} (hx : l[k]? = some x) (hy : l'[k]? = some y) (h : x ≠ y) : l ≠ l' := fun e => by
  subst e
  rw [hx] at hy
  exact h (Option.some.inj hy)
end Go.Fw
namespace Go.Proofs.Ytakpdbmdfnialaa
open Go.Fw Go.Proofs Go.RowKit Go.Proofs.Try
theorem c36 (w0 : World) (v1 : Value) (l : List Ent) (h : Sl Ent.enc 6 w0 w0.heap.size v1 l) (hn : l.length ≤ 4194304) :
    Rets Try.prog 36 #[v1] w0 fun v L => ∃ A c, v = .slice A l.length c ∧ L = [rowOf 69 6 Ent.enc A c l] := by
  have h0 := h
  obtain ⟨A, cap, rfl, hl, hcap, hA⟩ := h
  unfold Go.Fw.Rets
  refine enter1 func36 rfl ntmps36 rfl fun a S => sg S (.ac rfl <| .z) fun a w S => wp_seq_k fun _ hK1 => sg S (.mv rfl <| .yy (ys_sNil underlying24 (.t rfl) Ev.c) rfl <| .z) fun a w S => ?_
  refine st_cond S (.t rfl) (fun h1 => ?_) (fun h1 => ?_)
  refine sg S (.ac rfl <| .z) fun a w S => wp_ret (then_ret (st_ret S (results1 S results36 (Rv.tmp rfl)) ?_))
  rotate_left
  refine wp_skip (then_normal (hK1 _ _ (wp_seq_k fun _ hK1 => wp_region_lit (st_m (op_bslice0 S underlying24 sizeOf69 rfl fun g1 a w S => run S (.mv rfl <| .z) fun a w S => st_m (op_extend _ (S.nil_ 69 _ Go.Fw.Ent.enc _) underlying24 underlying24 (.inr ⟨_, rfl⟩) inf69 rfl (k := 0) rfl (.t rfl) (.t rfl) (Src.sl (Sl.old S.wd h0) (by decide) Go.Fw.Ent.enc_len Go.Fw.Ent.enc_one) (by first | omega | (simp only [List.length_append, List.length_cons, List.length_nil]; omega) | (simp; omega)) rfl rfl rfl fun A1 cap1 a w S => ?_))))))
  simp only [List.nil_append] at S
  refine run S (.as rfl <| .z) fun a w S => st_nil (then_normal (hK1 _ _ (wp_ret (st_ret S (results1 S results36 (Rv.tmp rfl)) ?_))))
  rotate_left
  · have hnil : l = [] := by
      refine List.eq_nil_of_length_eq_zero (Decidable.byContradiction fun hne => ?_)
      obtain ⟨g, o, rfl, _⟩ := hA (by omega)
      cases h1
    subst hnil
    exact ⟨_, _, rfl, (S.nil_ 69 6 Ent.enc none).wd.sub (by repeat (first | exact List.Sublist.refl _ | exact List.nil_sublist _ | refine .cons_cons _ ?_ | refine .cons _ ?_)), none, 0, rfl, rfl⟩
  · try simp only [List.nil_append] at S ⊢
    exact ⟨_, _, rfl, S.wd.sub (by repeat (first | exact List.Sublist.refl _ | exact List.nil_sublist _ | refine .cons_cons _ ?_ | refine .cons _ ?_)), _, _, rfl, rfl⟩
theorem c25 (w0 : World) (v v' : Value) (l l' : List Ent) (h : Sl Ent.enc 6 w0 w0.heap.size v l) (h' : Sl Ent.enc 6 w0 w0.heap.size v' l') :
    Calls Try.prog 25 #[v, v'] w0 fun e w' => e = .returned (.bool (decide (l = l'))) ∧ Bel w0.heap.size w0 w' := by
  obtain ⟨A, cap, rfl, hl, hcap, hA⟩ := h
  obtain ⟨A', cap', rfl, hl', hcap', hA'⟩ := h'
  refine enter2 func25 rfl ntmps25 rfl fun a S => sg S (.ac rfl <| .z) fun a w S => wp_seq_k fun _ hK1 => sg S (.mv rfl <| .ln underlying24 rfl <| .mv rfl <| .ln underlying24 rfl <| .yy (ys_neq (.t rfl) (.t rfl)) rfl <| .z) fun a w S => ?_
  refine st_if S (.t rfl) (fun h1 => ?_) (fun h1 => ?_)
  refine sg S (.ac rfl <| .z) fun a w S => wp_ret (then_ret (st_ret S (results1 S results25 (Rv.tmp rfl)) ?_))
  rotate_left
  refine wp_skip (then_normal (hK1 _ _ (wp_seq_k fun _ hK1 => sg S (.mv rfl <| .ln underlying24 rfl <| .mc rfl <| .z) fun a w S => wp_block ?_)))
  rotate_left
  · refine ⟨?_, S.wd.below⟩
    rw [decide_eq_false (fun e => h1 (by rw [e]))]
  · refine st_lpK S (X := Nat) (fun k => [(13, true, .int .i64 (k : Int))]) (fun _ L => L) (fun k => k ≤ l.length ∧ l.take k = l'.take k) (fun k => l.length - k) 0 ⟨Nat.zero_le _, rfl⟩ ?_
    clear S
    intro k a w ⟨hk, hno⟩ S
    by_cases hlt : k < l.length
    · obtain ⟨g, o, m, rfl, hmm, hd, hc⟩ := row_at hA hlt
      obtain ⟨g', o', m', rfl, hmm', hd', hc'⟩ := row_at hA' (show k < l'.length by omega)
      clear hA hA'
      by_cases he : m = m'
      · have rw_e := decide_eq_true (ent_iff.1 he)
        refine sg S (.lt (by omega) rfl rfl <| .z) fun a w S => wp_seq_k fun _ hK2 => st_then S (.t rfl) (wp_skip (then_normal (hK2 _ _ (wp_seq_k fun _ hK2 => wp_block (sg S (.mv rfl <| .as rfl <| .z) fun a w S => wp_seq_k fun _ hK3 => st_quiet S (by kernel_rfl) (by kernel_rfl) fun a S => qrun S (.mv rfl <| .mv rfl <| .ix underlying24 sizeOf69 (by omega) rfl rfl <| .yy (ys_ldOA ⟨isAgg69, sizeOf69⟩ (.t rfl) (vs := [_, _, _, _, _, _]) rfl (fun _ => hc)) rfl <| .mv rfl <| .mv rfl <| .ix underlying24 sizeOf69 (by omega) rfl rfl <| .yy (ys_ldOA ⟨isAgg69, sizeOf69⟩ (.t rfl) (vs := [_, _, _, _, _, _]) rfl (fun _ => hc')) rfl <| .yy (ys_neA (.t rfl) (.t rfl) eq69) rfl <| .z) fun a S => ?_)))))
        rw [rw_e] at S
        (refine q_nil ?_; intro w W; replace S := St.mk S W; clear W)
        refine then_normal (hK3 _ _ (st_else S (.t rfl) (wp_skip (in_normal (then_normal (hK2 _ _ (wp_region_lit (run S (.ad (by unfold I64; omega) rfl <| .mv rfl <| .z) fun a w S => st_nil (then_normal ?_)))))))))
        exact ⟨k + 1, ⟨by omega, takeE_step hno hmm hmm' he⟩, by omega, S.wk⟩
      · have rw_e := decide_eq_false (fun h => he (ent_iff.2 h))
        refine sg S (.lt (by omega) rfl rfl <| .z) fun a w S => wp_seq_k fun _ hK2 => st_then S (.t rfl) (wp_skip (then_normal (hK2 _ _ (wp_seq_k fun _ hK2 => wp_block (sg S (.mv rfl <| .as rfl <| .z) fun a w S => wp_seq_k fun _ hK3 => st_quiet S (by kernel_rfl) (by kernel_rfl) fun a S => qrun S (.mv rfl <| .mv rfl <| .ix underlying24 sizeOf69 (by omega) rfl rfl <| .yy (ys_ldOA ⟨isAgg69, sizeOf69⟩ (.t rfl) (vs := [_, _, _, _, _, _]) rfl (fun _ => hc)) rfl <| .mv rfl <| .mv rfl <| .ix underlying24 sizeOf69 (by omega) rfl rfl <| .yy (ys_ldOA ⟨isAgg69, sizeOf69⟩ (.t rfl) (vs := [_, _, _, _, _, _]) rfl (fun _ => hc')) rfl <| .yy (ys_neA (.t rfl) (.t rfl) eq69) rfl <| .z) fun a S => ?_)))))
        rw [rw_e] at S
        (refine q_nil ?_; intro w W; replace S := St.mk S W; clear W)
        refine then_normal (hK3 _ _ (st_then S (.t rfl) (sg S (.ac rfl <| .z) fun a w S => wp_ret (in_ret (then_ret (then_ret (in_ret (then_ret (st_ret S (results1 S results25 (Rv.tmp rfl)) ?_)))))))))
        exact ⟨by rw [decide_eq_false (takeE_ne hmm hmm' he)], S.wd.below⟩
    · refine sg S (.ge (by omega) rfl rfl <| .z) fun a w S => wp_seq_k fun _ hK2 => st_else S (.t rfl) (wp_exit (then_exit (then_exit (in_here (then_normal (hK1 _ _ (sg S (.ac rfl <| .z) fun a w S => wp_ret (st_ret S (results1 S results25 (Rv.tmp rfl)) ?_))))))))
      refine ⟨?_, S.wd.below⟩
      rw [decide_eq_true]
      rw [List.take_of_length_le (by omega), List.take_of_length_le (by omega)] at hno
      exact hno
theorem c16 (w0 : World) (v v' : Value) (l l' : List Line) (h : Sl Line.enc 3 w0 w0.heap.size v l) (h' : Sl Line.enc 3 w0 w0.heap.size v' l') :
    Calls Try.prog 16 #[v, v'] w0 fun e w' => e = .returned (.bool (decide (l = l'))) ∧ Bel w0.heap.size w0 w' := by
  obtain ⟨A, cap, rfl, hl, hcap, hA⟩ := h
  obtain ⟨A', cap', rfl, hl', hcap', hA'⟩ := h'
  refine enter2 func16 rfl ntmps16 rfl fun a S => sg S (.ac rfl <| .z) fun a w S => wp_seq_k fun _ hK1 => sg S (.mv rfl <| .ln underlying51 rfl <| .mv rfl <| .ln underlying51 rfl <| .yy (ys_neq (.t rfl) (.t rfl)) rfl <| .z) fun a w S => ?_
  refine st_if S (.t rfl) (fun h1 => ?_) (fun h1 => ?_)
  refine sg S (.ac rfl <| .z) fun a w S => wp_ret (then_ret (st_ret S (results1 S results16 (Rv.tmp rfl)) ?_))
  rotate_left
  refine wp_skip (then_normal (hK1 _ _ (wp_seq_k fun _ hK1 => sg S (.mv rfl <| .ln underlying51 rfl <| .mc rfl <| .z) fun a w S => wp_block ?_)))
  rotate_left
  · refine ⟨?_, S.wd.below⟩
    rw [decide_eq_false (fun e => h1 (by rw [e]))]
  · refine st_lpK S (X := Nat) (fun k => [(13, true, .int .i64 (k : Int))]) (fun _ L => L) (fun k => k ≤ l.length ∧ l.take k = l'.take k) (fun k => l.length - k) 0 ⟨Nat.zero_le _, rfl⟩ ?_
    clear S
    intro k a w ⟨hk, hno⟩ S
    by_cases hlt : k < l.length
    · obtain ⟨g, o, m, rfl, hmm, hd, hc⟩ := row_at hA hlt
      obtain ⟨g', o', m', rfl, hmm', hd', hc'⟩ := row_at hA' (show k < l'.length by omega)
      clear hA hA'
      by_cases he : m = m'
      · have rw_e := decide_eq_true (line_iff.1 he)
        refine sg S (.lt (by omega) rfl rfl <| .z) fun a w S => wp_seq_k fun _ hK2 => st_then S (.t rfl) (wp_skip (then_normal (hK2 _ _ (wp_seq_k fun _ hK2 => wp_block (sg S (.mv rfl <| .as rfl <| .z) fun a w S => wp_seq_k fun _ hK3 => st_quiet S (by kernel_rfl) (by kernel_rfl) fun a S => qrun S (.mv rfl <| .mv rfl <| .ix underlying51 sizeOf54 (by omega) rfl rfl <| .yy (ys_ldOA ⟨isAgg54, sizeOf54⟩ (.t rfl) (vs := [_, _, _]) rfl (fun _ => hc)) rfl <| .mv rfl <| .mv rfl <| .ix underlying51 sizeOf54 (by omega) rfl rfl <| .yy (ys_ldOA ⟨isAgg54, sizeOf54⟩ (.t rfl) (vs := [_, _, _]) rfl (fun _ => hc')) rfl <| .yy (ys_neA (.t rfl) (.t rfl) eq54) rfl <| .z) fun a S => ?_)))))
        rw [rw_e] at S
        (refine q_nil ?_; intro w W; replace S := St.mk S W; clear W)
        refine then_normal (hK3 _ _ (st_else S (.t rfl) (wp_skip (in_normal (then_normal (hK2 _ _ (wp_region_lit (run S (.ad (by unfold I64; omega) rfl <| .mv rfl <| .z) fun a w S => st_nil (then_normal ?_)))))))))
        exact ⟨k + 1, ⟨by omega, takeE_step hno hmm hmm' he⟩, by omega, S.wk⟩
      · have rw_e := decide_eq_false (fun h => he (line_iff.2 h))
        refine sg S (.lt (by omega) rfl rfl <| .z) fun a w S => wp_seq_k fun _ hK2 => st_then S (.t rfl) (wp_skip (then_normal (hK2 _ _ (wp_seq_k fun _ hK2 => wp_block (sg S (.mv rfl <| .as rfl <| .z) fun a w S => wp_seq_k fun _ hK3 => st_quiet S (by kernel_rfl) (by kernel_rfl) fun a S => qrun S (.mv rfl <| .mv rfl <| .ix underlying51 sizeOf54 (by omega) rfl rfl <| .yy (ys_ldOA ⟨isAgg54, sizeOf54⟩ (.t rfl) (vs := [_, _, _]) rfl (fun _ => hc)) rfl <| .mv rfl <| .mv rfl <| .ix underlying51 sizeOf54 (by omega) rfl rfl <| .yy (ys_ldOA ⟨isAgg54, sizeOf54⟩ (.t rfl) (vs := [_, _, _]) rfl (fun _ => hc')) rfl <| .yy (ys_neA (.t rfl) (.t rfl) eq54) rfl <| .z) fun a S => ?_)))))
        rw [rw_e] at S
        (refine q_nil ?_; intro w W; replace S := St.mk S W; clear W)
        refine then_normal (hK3 _ _ (st_then S (.t rfl) (sg S (.ac rfl <| .z) fun a w S => wp_ret (in_ret (then_ret (then_ret (in_ret (then_ret (st_ret S (results1 S results16 (Rv.tmp rfl)) ?_)))))))))
        exact ⟨by rw [decide_eq_false (takeE_ne hmm hmm' he)], S.wd.below⟩
    · refine sg S (.ge (by omega) rfl rfl <| .z) fun a w S => wp_seq_k fun _ hK2 => st_else S (.t rfl) (wp_exit (then_exit (then_exit (in_here (then_normal (hK1 _ _ (sg S (.ac rfl <| .z) fun a w S => wp_ret (st_ret S (results1 S results16 (Rv.tmp rfl)) ?_))))))))
      refine ⟨?_, S.wd.below⟩
      rw [decide_eq_true]
      rw [List.take_of_length_le (by omega), List.take_of_length_le (by omega)] at hno
      exact hno
end Go.Proofs.Ytakpdbmdfnialaa
set_option linter.unusedVariables false
set_option linter.unusedSimpArgs false
set_option maxRecDepth 100000
set_option maxHeartbeats 4000000
namespace Go.Fw
theorem take_last {l : List Ent} {k : Nat} {p : Ent} (hp : l[k]? = some p) : (l.take (k + 1)).getLast? = some p := by
  rw [List.take_add_one, hp, Option.toList_some]
  simp
theorem ents_step {C : Ctx} {l : List Ent} {k : Nat} {x : Ent} (hx : l[k]? = some x) : entsE C (l.take k) (l.drop k) = if entE C (l.take k) x = 0 then entsE C (l.take (k + 1)) (l.drop (k + 1)) else entE C (l.take k) x := by
  have hlt : k < l.length := (List.getElem?_eq_some_iff.1 hx).1
  have e : l[k] = x := (List.getElem?_eq_some_iff.1 hx).2
  rw [List.drop_eq_getElem_cons hlt, e, entsE, List.take_add_one, hx, Option.toList_some]
theorem dup_at {l : List Ent} {k j : Nat} {y : Ent} (hj : j < k) (hy : l[j]? = some y) : y.dot ∈ (l.take k).map (·.dot) := by
  refine List.mem_map.2 ⟨y, List.mem_of_getElem? (i := j) ?_, rfl⟩
  rw [List.getElem?_take, if_pos hj, hy]
theorem dup_step {l : List Ent} {j : Nat} {y : Ent} {d : Dot} (hy : l[j]? = some y) (h : d ∉ (l.take j).map (·.dot)) (hne : y.dot ≠ d) : d ∉ (l.take (j + 1)).map (·.dot) := by
  rw [List.take_add_one, hy, Option.toList_some, List.map_append]
  intro hm
  rcases List.mem_append.1 hm with hm | hm
  · exact h hm
  · simp at hm
    exact hne hm.symm
end Go.Fw
namespace Go.Proofs.Ytakpdbmdfnialaa
open Go.Fw Go.Proofs Go.RowKit Go.Proofs.Try
end Go.Proofs.Ytakpdbmdfnialaa
set_option linter.unusedVariables false
set_option linter.unusedSimpArgs false
set_option maxRecDepth 100000
namespace Go.Proofs.Ytakpdbmdfnialaa
open Go.Fw Go.Proofs Go.RowKit Go.Proofs.Try
theorem c89 (w0 : World) (x : Int) : Calls Try.prog 89 #[.int .i64 x] w0 fun e w' => e = .returned (.bool (decide (0 ≤ x) && decide (x < 8))) ∧ Bel w0.heap.size w0 w' := by
  refine enter1 func89 rfl ntmps89 rfl fun a S => sg S (.ac rfl <| .z) fun a w S => wp_seq_k fun _ hK1 => wp_region_lit (run S (.mv rfl <| .yy (ys_geq (.t rfl) Ev.c) rfl <| .mv rfl <| .z) fun a w S => st_yg S rfl rfl (Yr.ys (ys_move (.t rfl))) rfl fun a w S => st_yg S rfl rfl (Yr.ys (ys_lss (Ev.g rfl) Ev.c)) rfl fun a w S => run S (.yy (ys_and (.t rfl) (Ev.g rfl) Ev.c) rfl <| .as rfl <| .z) fun a w S => st_nil (then_normal (hK1 _ _ (wp_ret (st_ret S (results1 S results89 (Rv.tmp rfl)) ?_)))))
  exact ⟨rfl, S.wd.below⟩
theorem c90 (w0 : World) (x : Int) : Calls Try.prog 90 #[.int .i64 x] w0 fun e w' => e = .returned (.bool (decide (1 ≤ x) && decide (x ≤ 1099511627776))) ∧ Bel w0.heap.size w0 w' := by
  refine enter1 func90 rfl ntmps90 rfl fun a S => sg S (.ac rfl <| .z) fun a w S => wp_seq_k fun _ hK1 => wp_region_lit (run S (.mv rfl <| .yy (ys_geq (.t rfl) Ev.c) rfl <| .mv rfl <| .z) fun a w S => st_yg S rfl rfl (Yr.ys (ys_move (.t rfl))) rfl fun a w S => st_yg S rfl rfl (Yr.ys (ys_leq (Ev.g rfl) Ev.c)) rfl fun a w S => run S (.yy (ys_and (.t rfl) (Ev.g rfl) Ev.c) rfl <| .as rfl <| .z) fun a w S => st_nil (then_normal (hK1 _ _ (wp_ret (st_ret S (results1 S results90 (Rv.tmp rfl)) ?_)))))
  exact ⟨rfl, S.wd.below⟩
theorem c91 (w0 : World) (x : Int) : Calls Try.prog 91 #[.int .i64 x] w0 fun e w' => e = .returned (.bool (decide (1 ≤ x) && decide (x ≤ 1099511627776))) ∧ Bel w0.heap.size w0 w' := by
  refine enter1 func91 rfl ntmps91 rfl fun a S => sg S (.ac rfl <| .z) fun a w S => wp_seq_k fun _ hK1 => wp_region_lit (run S (.mv rfl <| .yy (ys_geq (.t rfl) Ev.c) rfl <| .mv rfl <| .z) fun a w S => st_yg S rfl rfl (Yr.ys (ys_move (.t rfl))) rfl fun a w S => st_yg S rfl rfl (Yr.ys (ys_leq (Ev.g rfl) Ev.c)) rfl fun a w S => run S (.yy (ys_and (.t rfl) (Ev.g rfl) Ev.c) rfl <| .as rfl <| .z) fun a w S => st_nil (then_normal (hK1 _ _ (wp_ret (st_ret S (results1 S results91 (Rv.tmp rfl)) ?_)))))
  exact ⟨rfl, S.wd.below⟩
theorem c77 (w0 : World) (x y z : Int) (b : Bool) (hb : mayD ⟨x, y, z⟩ = b) :
    Calls Try.prog 77 #[.agg #[.int .i64 x, .int .i64 y, .int .i64 z]] w0 fun e w' => e = .returned (.bool b) ∧ Bel w0.heap.size w0 w' := by
  refine enter1 func77 rfl ntmps77 rfl fun a S => wp_seq_k fun _ hK1 => wp_region_lit (st_m (op_box S (.t rfl) rfl fun g1 a w S => run S (.ac rfl <| .z) fun a w S => st_nil (then_normal (hK1 _ _ (wp_seq_k fun _ hK1 => wp_region_lit (run S (.fa underlying67 sizeOf3 0 rfl rfl rfl <| .ld gt3 0 rfl rfl rfl <| .xx (ys_call call89 (.cons (.t rfl) .nil) (fun hp w W => c89 _ _)) rfl <| .mv rfl <| .z) fun a w S => st_yg S rfl rfl (Yr.ys (ys_fieldN (FieldT.mk underlying67 rfl sizeOf3 rfl) (.t rfl) (i' := 1) rfl)) rfl fun a w S => st_yg S rfl rfl (Yr.ys (ys_ld ⟨isAgg3, sizeOf3⟩ (Ev.g rfl) (k := 0) rfl rfl)) rfl fun a w S => st_yg S rfl rfl (ys_call call90 (.cons (Ev.g rfl) .nil) (fun hp w W => c90 _ _)) rfl fun a w S => run S (.yy (ys_and (.t rfl) (Ev.g rfl) Ev.c) rfl <| .mv rfl <| .z) fun a w S => st_yg S rfl rfl (Yr.ys (ys_fieldN (FieldT.mk underlying67 rfl sizeOf3 rfl) (.t rfl) (i' := 2) rfl)) rfl fun a w S => st_yg S rfl rfl (Yr.ys (ys_ld ⟨isAgg3, sizeOf3⟩ (Ev.g rfl) (k := 0) rfl rfl)) rfl fun a w S => st_yg S rfl rfl (ys_call call91 (.cons (Ev.g rfl) .nil) (fun hp w W => c91 _ _)) rfl fun a w S => run S (.yy (ys_and (.t rfl) (Ev.g rfl) Ev.c) rfl <| .as rfl <| .z) fun a w S => st_nil (then_normal (hK1 _ _ (wp_ret (st_ret S (results1 S results77 (Rv.tmp rfl)) ?_))))))))))
  refine ⟨?_, S.wd.below⟩
  subst hb
  simp [mayD, Bool.and_assoc]
theorem c79 (w0 : World) (x y z x' y' z' : Int) (h : (0 ≤ x ∧ x ≤ 1099511627776) ∧ (0 ≤ y ∧ y ≤ 1099511627776) ∧ 0 ≤ z ∧ z ≤ 1099511627776) (h' : (0 ≤ x' ∧ x' ≤ 1099511627776) ∧ (0 ≤ y' ∧ y' ≤ 1099511627776) ∧ 0 ≤ z' ∧ z' ≤ 1099511627776) :
    Calls Try.prog 79 #[.agg #[.int .i64 x, .int .i64 y, .int .i64 z], .agg #[.int .i64 x', .int .i64 y', .int .i64 z']] w0 fun e w' => e = .returned (.int .i64 (orderD ⟨x, y, z⟩ ⟨x', y', z'⟩)) ∧ Bel w0.heap.size w0 w' := by
  refine enter2 func79 rfl ntmps79 rfl fun a S => wp_seq_k fun _ hK1 => wp_region_lit (st_m (op_box S (.t rfl) rfl fun g1 a w S => st_m (op_box S (.t rfl) rfl fun g2 a w S => run S (.ac rfl <| .z) fun a w S => st_nil (then_normal (hK1 _ _ (wp_seq_k fun _ hK1 => wp_block (sg S (.fa underlying67 sizeOf3 0 rfl rfl rfl <| .ld gt3 1 rfl rfl rfl <| .fa underlying67 sizeOf3 0 rfl rfl rfl <| .ld gt3 0 rfl rfl rfl <| .yy (ys_neq (.t rfl) (.t rfl)) rfl <| .as rfl <| .z) fun a w S => ?_)))))))
  refine st_if S (.t rfl) (fun h1 => ?_) (fun h1 => ?_)
  refine sg S (.fa underlying67 sizeOf3 0 rfl rfl rfl <| .ld gt3 1 rfl rfl rfl <| .fa underlying67 sizeOf3 0 rfl rfl rfl <| .ld gt3 0 rfl rfl rfl <| .yy (ys_subI (.t rfl) (.t rfl) (fun _ => by unfold I64; omega)) rfl <| .as rfl <| .z) fun a w S => wp_ret (in_ret (then_ret (st_ret S (results1 S results79 (Rv.tmp rfl)) ?_)))
  rotate_left
  refine sg S (.fa underlying67 sizeOf3 1 rfl rfl rfl <| .ld gt3 1 rfl rfl rfl <| .fa underlying67 sizeOf3 1 rfl rfl rfl <| .ld gt3 0 rfl rfl rfl <| .yy (ys_neq (.t rfl) (.t rfl)) rfl <| .as rfl <| .z) fun a w S => ?_
  refine st_if S (.t rfl) (fun h2 => ?_) (fun h2 => ?_)
  refine sg S (.fa underlying67 sizeOf3 1 rfl rfl rfl <| .ld gt3 1 rfl rfl rfl <| .fa underlying67 sizeOf3 1 rfl rfl rfl <| .ld gt3 0 rfl rfl rfl <| .yy (ys_subI (.t rfl) (.t rfl) (fun _ => by unfold I64; omega)) rfl <| .as rfl <| .z) fun a w S => wp_ret (in_ret (then_ret (st_ret S (results1 S results79 (Rv.tmp rfl)) ?_)))
  rotate_left
  refine wp_skip (in_normal (then_normal (hK1 _ _ (sg S (.fa underlying67 sizeOf3 2 rfl rfl rfl <| .ld gt3 1 rfl rfl rfl <| .fa underlying67 sizeOf3 2 rfl rfl rfl <| .ld gt3 0 rfl rfl rfl <| .yy (ys_subI (.t rfl) (.t rfl) (fun _ => by unfold I64; omega)) rfl <| .as rfl <| .z) fun a w S => wp_ret (st_ret S (results1 S results79 (Rv.tmp rfl)) ?_)))))
  rotate_left
  all_goals refine ⟨?_, S.wd.below⟩
  all_goals simp_all [orderD]
theorem c57 (w0 : World) (v1 v2 : Value) (C : Ctx) (h : RdCtx w0 w0.heap.size v1 v2 C) :
    Calls Try.prog 57 #[.agg #[v1, v2]] w0 fun e w' => e = .returned (.bool (canL C)) ∧ Bel w0.heap.size w0 w' := by
  obtain ⟨⟨A, cap, rfl, hl, hcap, hA⟩, ⟨A', cap', rfl, hl', hcap', hA'⟩⟩ := h
  have hS : Sl Dot.enc 3 w0 w0.heap.size (.slice A C.marks.length cap) C.marks := ⟨A, cap, rfl, hl, hcap, hA⟩
  refine enter1 func57 rfl ntmps57 rfl fun a S => wp_seq_k fun _ hK1 => wp_region_lit (st_m (op_box S (.t rfl) rfl fun g1 a w S => run S (.ac rfl <| .z) fun a w S => st_nil (then_normal (hK1 _ _ (wp_seq_k fun _ hK1 => wp_seq_k fun _ hK2 => wp_region_lit (run S (.fa underlying28 sizeOf25 0 rfl rfl rfl <| .ld gt25 0 rfl rfl rfl <| .ln underlying25 rfl <| .yy (ys_gtr (.t rfl) Ev.c) rfl <| .mv rfl <| .z) fun a w S => st_yf S rfl rfl (Yr.ys (ys_fieldN (FieldT.mk underlying28 rfl sizeOf26 rfl) (.t rfl) (i' := 1) rfl)) rfl fun a w S => st_yf S rfl rfl (Yr.ys (ys_ld ⟨isAgg26, sizeOf26⟩ (Ev.g rfl) (k := 0) rfl rfl)) rfl fun a w S => st_yf S rfl rfl (Yr.ys (ys_lenS underlying26 (Ev.g rfl))) rfl fun a w S => st_yf S rfl rfl (Yr.ys (ys_gtr (Ev.g rfl) Ev.c)) rfl fun a w S => run S (.yy (ys_or (.t rfl) Ev.c (Ev.g rfl)) rfl <| .z) fun a w S => st_nil (then_normal (hK2 _ _ ?_))))))))
  refine st_cond S (.t rfl) (fun h1 => ?_) (fun h1 => ?_)
  refine sg S (.ac rfl <| .z) fun a w S => wp_ret (then_ret (st_ret S (results1 S results57 (Rv.tmp rfl)) ?_))
  rotate_left
  refine wp_skip (then_normal (hK1 _ _ (wp_seq_k fun _ hK1 => sg S (.fa underlying28 sizeOf25 0 rfl rfl rfl <| .ld gt25 0 rfl rfl rfl <| .ln underlying25 rfl <| .mc rfl <| .z) fun a w S => wp_block ?_)))
  rotate_left
  · exact ⟨by rw [canL_big (by simp at h1; omega)], S.wd.below⟩
  · have hbig : C.marks.length ≤ 64 ∧ C.cloud.length ≤ 64 := by simp at h1; omega
    refine st_lpK S (X := Nat) (fun k => [(21, true, .int .i64 (k : Int))]) (fun _ L => L) (fun k => k ≤ C.marks.length ∧ (∀ x ∈ C.marks.take k, mayD x = true) ∧ okM (prevD C.marks k) (C.marks.drop k) = okM none C.marks) (fun k => C.marks.length - k) 0 ⟨Nat.zero_le _, by simp, rfl⟩ ?_
    clear S h1
    intro k a w ⟨hk, hmy, hno⟩ S
    by_cases hlt : k < C.marks.length
    · obtain ⟨g, o, m, rfl, hmm, hd, hc⟩ := row_at hA hlt
      rw [hd, okM] at hno
      cases hb : mayD m with
      | false =>
        refine sg S (.lt (by omega) rfl rfl <| .z) fun a w S => wp_seq_k fun _ hK2 => st_then S (.t rfl) (wp_skip (then_normal (hK2 _ _ (wp_seq_k fun _ hK2 => wp_block (wp_seq_k fun _ hK3 => wp_region_lit (run S (.mv rfl <| .ix underlying25 sizeOf23 (by omega) rfl rfl <| .yy (ys_ldOA ⟨isAgg23, sizeOf23⟩ (.t rfl) (vs := [_, _, _]) rfl (fun _ => hc)) rfl <| .z) fun a w S => st_m (op_alloc S zeroValue23 (cs := _) rfl rfl fun g2 a w S => run S (.as rfl <| .z) fun a w S => st_m (op_stW S sizeOf23 (.t rfl) (.t rfl) (k := 0) rfl rfl rfl (by simp [Value.oneCell']) fun a w S => st_nil (then_normal (hK3 _ _ (wp_seq_k fun _ hK3 => sg S (.la gt23 0 rfl rfl rfl <| .xx (ys_call call78 (.cons (.t rfl) .nil) (fun hp w W => c78 _ _ _ _)) rfl <| .xx (ys_call call77 (.cons (.t rfl) .nil) (fun hp w W => c77 _ _ _ _ _ (by assumption))) rfl <| .nt rfl <| .z) fun a w S => st_then S (.t rfl) (sg S (.ac rfl <| .z) fun a w S => wp_ret (then_ret (in_ret (then_ret (then_ret (in_ret (then_ret (st_ret S (results1 S results57 (Rv.tmp rfl)) ?_)))))))))))))))))))
        exact ⟨by rw [canL_M (by rw [← hno, hb]; rfl)], S.wd.below⟩
      | true =>
        have hlm := may_lim hb
        rcases k with _ | k
        · refine sg S (.lt (by omega) rfl rfl <| .z) fun a w S => wp_seq_k fun _ hK2 => st_then S (.t rfl) (wp_skip (then_normal (hK2 _ _ (wp_seq_k fun _ hK2 => wp_block (wp_seq_k fun _ hK3 => wp_region_lit (run S (.mv rfl <| .yy (ys_ixS (j := 0) underlying25 sizeOf23 (.t rfl) (.t rfl) (fun _ => by omega)) rfl <| .yy (ys_ldOA ⟨isAgg23, sizeOf23⟩ (.t rfl) (vs := [_, _, _]) rfl (fun _ => hc)) rfl <| .z) fun a w S => st_m (op_alloc S zeroValue23 (cs := _) rfl rfl fun g2 a w S => run S (.as rfl <| .z) fun a w S => st_m (op_stW S sizeOf23 (.t rfl) (.t rfl) (k := 0) rfl rfl rfl (by simp [Value.oneCell']) fun a w S => st_nil (then_normal (hK3 _ _ (wp_seq_k fun _ hK3 => sg S (.la gt23 0 rfl rfl rfl <| .xx (ys_call call78 (.cons (.t rfl) .nil) (fun hp w W => c78 _ _ _ _)) rfl <| .xx (ys_call call77 (.cons (.t rfl) .nil) (fun hp w W => c77 _ _ _ _ _ (by assumption))) rfl <| .nt rfl <| .z) fun a w S => st_else S (.t rfl) (wp_skip (then_normal (hK3 _ _ (sg S (.mv rfl <| .yy (ys_F (by omega) (ys_gtr (.t rfl) Ev.c)) rfl <| .z) fun a w S => st_else S (.t rfl) (wp_skip (in_normal (then_normal (hK2 _ _ (wp_region_lit (run S (.ad (by unfold I64; omega) rfl <| .mv rfl <| .z) fun a w S => st_nil (then_normal ?_))))))))))))))))))))))
          exact ⟨0 + 1, ⟨by omega, all_step hmm hmy hb, by rw [prevD, hmm, ← hno, hb]; rfl⟩, by omega, S.wk⟩
        · obtain ⟨g', o', m', e', hmm', hd', hc'⟩ := row_at hA (show k < C.marks.length by omega)
          cases e'
          have hlm' := may_lim (hmy m' (by rw [List.take_add_one, hmm']; simp))
          have e : orderD m'.nl m.nl = orderD ⟨m'.node, m'.life, 0⟩ ⟨m.node, m.life, 0⟩ := rfl
          refine sg S (.lt (by omega) rfl rfl <| .z) fun a w S => wp_seq_k fun _ hK2 => st_then S (.t rfl) (wp_skip (then_normal (hK2 _ _ (wp_seq_k fun _ hK2 => wp_block (wp_seq_k fun _ hK3 => wp_region_lit (run S (.mv rfl <| .ix underlying25 sizeOf23 (by omega) rfl rfl <| .yy (ys_ldOA ⟨isAgg23, sizeOf23⟩ (.t rfl) (vs := [_, _, _]) rfl (fun _ => hc)) rfl <| .z) fun a w S => st_m (op_alloc S zeroValue23 (cs := _) rfl rfl fun g2 a w S => run S (.as rfl <| .z) fun a w S => st_m (op_stW S sizeOf23 (.t rfl) (.t rfl) (k := 0) rfl rfl rfl (by simp [Value.oneCell']) fun a w S => st_nil (then_normal (hK3 _ _ (wp_seq_k fun _ hK3 => sg S (.la gt23 0 rfl rfl rfl <| .xx (ys_call call78 (.cons (.t rfl) .nil) (fun hp w W => c78 _ _ _ _)) rfl <| .xx (ys_call call77 (.cons (.t rfl) .nil) (fun hp w W => c77 _ _ _ _ _ (by assumption))) rfl <| .nt rfl <| .z) fun a w S => st_else S (.t rfl) (wp_skip (then_normal (hK3 _ _ (sg S (.mv rfl <| .yy (ys_T (by omega) (ys_gtr (.t rfl) Ev.c)) rfl <| .z) fun a w S => st_then S (.t rfl) (wp_seq_k fun _ hK3 => wp_region_lit ?_))))))))))))))))
          refine run S (.fa underlying28 sizeOf25 0 rfl rfl rfl <| .ld gt25 1 rfl rfl rfl <| .mv rfl <| .yy (ys_pred (.t rfl) Ev.c (by omega)) rfl <| .ix underlying25 sizeOf23 (by omega) rfl rfl <| .yy (ys_ldOA ⟨isAgg23, sizeOf23⟩ (.t rfl) (vs := [_, _, _]) rfl (fun _ => hc')) rfl <| .z) fun a w S => st_m (op_alloc S zeroValue23 (cs := _) rfl rfl fun g3 a w S => st_m (op_stW S sizeOf23 (.t rfl) (.t rfl) (k := 0) rfl rfl rfl (by simp [Value.oneCell']) fun a w S => st_nil (then_normal (hK3 _ _ (sg S (.fa underlying23 sizeOf3 0 rfl rfl rfl <| .ld gt3 0 rfl rfl rfl <| .fa underlying23 sizeOf3 1 rfl rfl rfl <| .ld gt3 0 rfl rfl rfl <| .yy (ys_bld (ps := [(0, Go.Operand.tmp 39), (1, Go.Operand.tmp 41)]) (us := [_, _, _]) bld67 (.cons (.t rfl) (.cons (.t rfl) .nil)) rfl) rfl <| .fa underlying23 sizeOf3 0 rfl rfl rfl <| .ld gt3 1 rfl rfl rfl <| .fa underlying23 sizeOf3 1 rfl rfl rfl <| .ld gt3 1 rfl rfl rfl <| .yy (ys_bld (ps := [(0, Go.Operand.tmp 44), (1, Go.Operand.tmp 46)]) (us := [_, _, _]) bld67 (.cons (.t rfl) (.cons (.t rfl) .nil)) rfl) rfl <| .xx (ys_call call79 (.cons (.t rfl) (.cons (.t rfl) .nil)) (fun hp w W => c79 _ _ _ _ _ _ _ (by omega) (by omega))) rfl <| .yy (ys_geq (.t rfl) Ev.c) rfl <| .z) fun a w S => ?_)))))
          refine st_if S (.t rfl) (fun h1 => ?_) (fun h1 => ?_)
          refine sg S (.ac rfl <| .z) fun a w S => wp_ret (in_ret (then_ret (then_ret (in_ret (then_ret (st_ret S (results1 S results57 (Rv.tmp rfl)) ?_))))))
          rotate_left
          refine wp_skip (in_normal (then_normal (hK2 _ _ (wp_region_lit (run S (.ad (by unfold I64; omega) rfl <| .mv rfl <| .z) fun a w S => st_nil (then_normal ?_))))))
          rotate_left
          · exact ⟨by rw [canL_M (by rw [← hno, hb, prevD, hmm', gapM, decide_eq_false (by omega)]; rfl)], S.wd.below⟩
          · exact ⟨k + 1 + 1, ⟨by omega, all_step hmm hmy hb, by rw [prevD, hmm, ← hno, hb, prevD, hmm', gapM, decide_eq_true (by omega)]; rfl⟩, by omega, S.wk⟩
    · have hend : k = C.marks.length := by omega
      subst hend
      rw [List.take_length] at hmy
      rw [List.drop_length, okM] at hno
      have hM := hno.symm
      clear hno hk hlt
      refine sg S (.ge (by omega) rfl rfl <| .z) fun a w S => wp_seq_k fun _ hK2 => st_else S (.t rfl) (wp_exit (then_exit (then_exit (in_here (then_normal (hK1 _ _ (wp_seq_k fun _ hK1 => sg S (.fa underlying28 sizeOf26 1 rfl rfl rfl <| .ld gt26 0 rfl rfl rfl <| .ln underlying26 rfl <| .mc rfl <| .z) fun a w S => wp_block ?_)))))))
      refine st_lpK S (X := Nat) (fun k => [(54, true, .int .i64 (k : Int))]) (fun _ L => L) (fun k => k ≤ C.cloud.length ∧ (∀ x ∈ C.cloud.take k, mayD x = true) ∧ okC C.marks (prevD C.cloud k) (C.cloud.drop k) = okC C.marks none C.cloud) (fun k => C.cloud.length - k) 0 ⟨Nat.zero_le _, by simp, rfl⟩ ?_
      clear S
      intro k a w ⟨hk, hmy', hno⟩ S
      by_cases hlt : k < C.cloud.length
      · obtain ⟨g, o, m, rfl, hmm, hd, hc⟩ := row_at hA' hlt
        rw [hd, okC] at hno
        have hmk := markOf_may (x := m.node) (y := m.life) hmy
        cases hb : mayD m with
        | false =>
          refine sg S (.lt (by omega) rfl rfl <| .z) fun a w S => wp_seq_k fun _ hK3 => st_then S (.t rfl) (wp_skip (then_normal (hK3 _ _ (wp_seq_k fun _ hK3 => wp_block (wp_seq_k fun _ hK4 => wp_region_lit (run S (.mv rfl <| .ix underlying26 sizeOf67 (by omega) rfl rfl <| .yy (ys_ldOA ⟨isAgg67, sizeOf67⟩ (.t rfl) (vs := [_, _, _]) rfl (fun _ => hc)) rfl <| .z) fun a w S => st_m (op_alloc S zeroValue67 (cs := _) rfl rfl fun g2 a w S => run S (.as rfl <| .z) fun a w S => st_m (op_stW S sizeOf67 (.t rfl) (.t rfl) (k := 0) rfl rfl rfl (by simp [Value.oneCell']) fun a w S => st_nil (then_normal (hK4 _ _ (wp_seq_k fun _ hK4 => st_quiet S (by kernel_rfl) (by kernel_rfl) fun a S => qrun S (.la gt67 0 rfl rfl rfl <| .xx (ys_call call77 (.cons (.t rfl) .nil) (fun hp w W => c77 _ _ _ _ _ (by assumption))) rfl <| .nt rfl <| .mv rfl <| .sk rfl rfl rfl <| .sk rfl rfl rfl <| .sk rfl rfl rfl <| .s0 rfl rfl <| .s0 rfl rfl <| .s0 rfl rfl <| .s0 rfl rfl <| .s0 rfl rfl <| .s0 rfl rfl <| .s0 rfl rfl <| .s0 rfl rfl <| .s0 rfl rfl <| .sk rfl rfl rfl <| .yy (ys_pickT (.t rfl) Ev.c) rfl <| .mv rfl <| .sk rfl rfl rfl <| .sk rfl rfl rfl <| .sk rfl rfl rfl <| .sk rfl rfl rfl <| .sk rfl rfl rfl <| .sk rfl rfl rfl <| .sk rfl rfl rfl <| .sk rfl rfl rfl <| .yy (ys_pickT (.t rfl) Ev.c) rfl <| .z) fun a S => ?_)))))))))))
          (refine q_nil ?_; intro w W; replace S := St.mk S W; clear W)
          refine then_normal (hK4 _ _ (st_then S (.t rfl) (sg S (.ac rfl <| .z) fun a w S => wp_ret (in_ret (then_ret (then_ret (in_ret (then_ret (st_ret S (results1 S results57 (Rv.tmp rfl)) ?_)))))))))
          exact ⟨by rw [canL_C (by rw [← hno, hb]; rfl)], S.wd.below⟩
        | true =>
          have hlm := may_lim hb
          rcases k with _ | k
          · refine sg S (.lt (by omega) rfl rfl <| .z) fun a w S => wp_seq_k fun _ hK3 => st_then S (.t rfl) (wp_skip (then_normal (hK3 _ _ (wp_seq_k fun _ hK3 => wp_block (wp_seq_k fun _ hK4 => wp_region_lit (run S (.mv rfl <| .yy (ys_ixS (j := 0) underlying26 sizeOf67 (.t rfl) (.t rfl) (fun _ => by omega)) rfl <| .yy (ys_ldOA ⟨isAgg67, sizeOf67⟩ (.t rfl) (vs := [_, _, _]) rfl (fun _ => hc)) rfl <| .z) fun a w S => st_m (op_alloc S zeroValue67 (cs := _) rfl rfl fun g2 a w S => run S (.as rfl <| .z) fun a w S => st_m (op_stW S sizeOf67 (.t rfl) (.t rfl) (k := 0) rfl rfl rfl (by simp [Value.oneCell']) fun a w S => st_nil (then_normal (hK4 _ _ (wp_seq_k fun _ hK4 => st_quiet S (by kernel_rfl) (by kernel_rfl) fun a S => ?_)))))))))))
            refine qrun S (.la gt67 0 rfl rfl rfl <| .xx (ys_call call77 (.cons (.t rfl) .nil) (fun hp w W => c77 _ _ _ _ _ (by assumption))) rfl <| .nt rfl <| .mv rfl <| .gy rfl rfl (ys_move (.t rfl)) <| .gy rfl rfl (ys_F (by omega) (ys_gtr (.t rfl) Ev.c)) <| .gy rfl rfl (ys_move (.t rfl)) <| .sk rfl rfl rfl <| .sk rfl rfl rfl <| .sk rfl rfl rfl <| .sk rfl rfl rfl <| .sk rfl rfl rfl <| .sk rfl rfl rfl <| .sk rfl rfl rfl <| .sk rfl rfl rfl <| .sk rfl rfl rfl <| .gy rfl rfl (ys_pickF (.t rfl) Ev.c) <| .yy (ys_pickF (.t rfl) (.t rfl)) rfl <| .mv rfl <| .gy rfl rfl (ys_fieldN (FieldT.mk underlying67 rfl sizeOf3 rfl) (.t rfl) (i' := 2) rfl) <| .gy rfl rfl (ys_ld ⟨isAgg3, sizeOf3⟩ (.t rfl) (k := 0) rfl rfl) <| .gy rfl rfl (ys_ldA ⟨isAgg28, sizeOf28⟩ (.t rfl) (k := 1) rfl rfl) <| .gy rfl rfl (ys_ldA ⟨isAgg67, sizeOf67⟩ (.t rfl) (k := 0) rfl rfl) <| .gx rfl rfl (ys_call call61 (.cons (.t rfl) .nil) (fun hp w W => c61 _ _ _ _)) <| .gx rfl rfl (ys_call call60 (.cons (.t rfl) (.cons (.t rfl) .nil)) (fun hp w W => c60 _ _ _ _ _ _ (by exact .old W (by assumption)))) <| .gy rfl rfl (ys_addI (.t rfl) Ev.c (fun _ => by unfold I64; omega)) <| .gy rfl rfl (ys_leq (.t rfl) (.t rfl)) <| .yy (ys_pickF (.t rfl) (.t rfl)) rfl <| .z) fun a S => ?_
            (refine q_nil ?_; intro w W; replace S := St.mk S W; clear W)
            refine then_normal (hK4 _ _ ?_)
            refine st_if S (.t rfl) (fun h1 => ?_) (fun h1 => ?_)
            refine sg S (.ac rfl <| .z) fun a w S => wp_ret (in_ret (then_ret (then_ret (in_ret (then_ret (st_ret S (results1 S results57 (Rv.tmp rfl)) ?_))))))
            rotate_left
            refine wp_skip (in_normal (then_normal (hK3 _ _ (wp_region_lit (run S (.ad (by unfold I64; omega) rfl <| .mv rfl <| .z) fun a w S => st_nil (then_normal ?_))))))
            rotate_left
            · have hf : okC C.marks none C.cloud = false := by
                rw [← hno, Bool.eq_false_iff]
                intro hh
                simp [hb, prevD, gapC] at hh
                omega
              exact ⟨by rw [canL_C hf], S.wd.below⟩
            · exact ⟨0 + 1, ⟨by omega, all_step hmm hmy' hb, by rw [prevD, hmm, ← hno, hb, prevD, gapC, decide_eq_true (by omega)]; rfl⟩, by omega, S.wk⟩
          · obtain ⟨g', o', m', e', hmm', hd', hc'⟩ := row_at hA' (show k < C.cloud.length by omega)
            cases e'
            have hlm' := may_lim (hmy' m' (by rw [List.take_add_one, hmm']; simp))
            have e : orderD m' m = orderD ⟨m'.node, m'.life, m'.count⟩ ⟨m.node, m.life, m.count⟩ := rfl
            refine sg S (.lt (by omega) rfl rfl <| .z) fun a w S => wp_seq_k fun _ hK3 => st_then S (.t rfl) (wp_skip (then_normal (hK3 _ _ (wp_seq_k fun _ hK3 => wp_block (wp_seq_k fun _ hK4 => wp_region_lit (run S (.mv rfl <| .ix underlying26 sizeOf67 (by omega) rfl rfl <| .yy (ys_ldOA ⟨isAgg67, sizeOf67⟩ (.t rfl) (vs := [_, _, _]) rfl (fun _ => hc)) rfl <| .z) fun a w S => st_m (op_alloc S zeroValue67 (cs := _) rfl rfl fun g2 a w S => run S (.as rfl <| .z) fun a w S => st_m (op_stW S sizeOf67 (.t rfl) (.t rfl) (k := 0) rfl rfl rfl (by simp [Value.oneCell']) fun a w S => st_nil (then_normal (hK4 _ _ (wp_seq_k fun _ hK4 => st_quiet S (by kernel_rfl) (by kernel_rfl) fun a S => ?_)))))))))))
            refine qrun S (.la gt67 0 rfl rfl rfl <| .xx (ys_call call77 (.cons (.t rfl) .nil) (fun hp w W => c77 _ _ _ _ _ (by assumption))) rfl <| .nt rfl <| .mv rfl <| .gy rfl rfl (ys_move (.t rfl)) <| .gy rfl rfl (ys_T (by omega) (ys_gtr (.t rfl) Ev.c)) <| .gy rfl rfl (ys_move (.t rfl)) <| .gy rfl rfl (ys_fieldN (FieldT.mk underlying28 rfl sizeOf26 rfl) (.t rfl) (i' := 1) rfl) <| .gy rfl rfl (ys_ld ⟨isAgg26, sizeOf26⟩ (.t rfl) (k := 1) rfl rfl) <| .gy rfl rfl (ys_move (.t rfl)) <| .gy rfl rfl (ys_pred (.t rfl) Ev.c (by omega)) <| .gy rfl rfl (ys_ixS underlying26 sizeOf67 (.t rfl) (.t rfl) (fun _ => by omega)) <| .gy rfl rfl (ys_ldOA ⟨isAgg67, sizeOf67⟩ (.t rfl) (vs := [_, _, _]) rfl (fun _ => hc')) <| .gy rfl rfl (ys_ldA ⟨isAgg67, sizeOf67⟩ (.t rfl) (k := 0) rfl rfl) <| .gx rfl rfl (ys_call call79 (.cons (.t rfl) (.cons (.t rfl) .nil)) (fun hp w W => c79 _ _ _ _ _ _ _ (by omega) (by omega))) <| .gy rfl rfl (ys_geq (.t rfl) Ev.c) <| .gy rfl rfl (ys_pickT (.t rfl) (.t rfl)) <| .yy (ys_pickF (.t rfl) (.t rfl)) rfl <| .mv rfl <| .z) fun a S => q_yf S rfl rfl (Yr.ys (ys_fieldN (FieldT.mk underlying67 rfl sizeOf3 rfl) (.t rfl) (i' := 2) rfl)) rfl fun a S => q_yf S rfl rfl (Yr.ys (ys_ld ⟨isAgg3, sizeOf3⟩ (Ev.g rfl) (k := 0) rfl rfl)) rfl fun a S => q_yf S rfl rfl (Yr.ys (ys_ldA ⟨isAgg28, sizeOf28⟩ (.t rfl) (k := 1) rfl rfl)) rfl fun a S => ?_
            refine q_yf S rfl rfl (Yr.ys (ys_ldA ⟨isAgg67, sizeOf67⟩ (.t rfl) (k := 0) rfl rfl)) rfl fun a S => q_yf S rfl rfl (ys_call call61 (.cons (Ev.g rfl) .nil) (fun hp w W => c61 _ _ _ _)) rfl fun a S => q_yf S rfl rfl (ys_call call60 (.cons (Ev.g rfl) (.cons (Ev.g rfl) .nil)) (fun hp w W => c60 _ _ _ _ _ _ (by exact .old W (by assumption)))) rfl fun a S => q_yf S rfl rfl (Yr.ys (ys_addI (Ev.g rfl) Ev.c (fun _ => by unfold I64; omega))) rfl fun a S => q_yf S rfl rfl (Yr.ys (ys_leq (Ev.g rfl) (Ev.g rfl))) rfl fun a S => qrun S (.yy (ys_or (.t rfl) Ev.c (Ev.g rfl)) rfl <| .z) fun a S => ?_
            (refine q_nil ?_; intro w W; replace S := St.mk S W; clear W)
            refine then_normal (hK4 _ _ ?_)
            refine st_cond S (.t rfl) (fun h1 => ?_) (fun h1 => ?_)
            refine sg S (.ac rfl <| .z) fun a w S => wp_ret (in_ret (then_ret (then_ret (in_ret (then_ret (st_ret S (results1 S results57 (Rv.tmp rfl)) ?_))))))
            rotate_left
            refine wp_skip (in_normal (then_normal (hK3 _ _ (wp_region_lit (run S (.ad (by unfold I64; omega) rfl <| .mv rfl <| .z) fun a w S => st_nil (then_normal ?_))))))
            rotate_left
            · have hf : okC C.marks none C.cloud = false := by
                rw [← hno, Bool.eq_false_iff]
                intro hh
                simp [hb, prevD, hmm', gapC] at hh h1
                omega
              exact ⟨by rw [canL_C hf], S.wd.below⟩
            · simp at h1
              exact ⟨k + 1 + 1, ⟨by omega, all_step hmm hmy' hb, by rw [prevD, hmm, ← hno, hb, prevD, hmm', gapC, decide_eq_true (by omega), decide_eq_true (by omega)]; rfl⟩, by omega, S.wk⟩
      · have hend : k = C.cloud.length := by omega
        subst hend
        rw [List.drop_length, okC] at hno
        refine sg S (.ge (by omega) rfl rfl <| .z) fun a w S => wp_seq_k fun _ hK3 => st_else S (.t rfl) (wp_exit (then_exit (then_exit (in_here (then_normal (hK1 _ _ (sg S (.ac rfl <| .z) fun a w S => wp_ret (st_ret S (results1 S results57 (Rv.tmp rfl)) ?_))))))))
        exact ⟨by rw [canL_yes hbig hM hno.symm], S.wd.below⟩
end Go.Proofs.Ytakpdbmdfnialaa
namespace Go.Fw
theorem Dot.enc_len (x : Dot) : (Dot.enc x).length = 3 := rfl
theorem Dot.enc_one (x : Dot) : ∀ u ∈ Dot.enc x, u.oneCell' = true := fun u hu => by simp [Dot.enc] at hu; rcases hu with rfl | rfl | rfl <;> rfl
end Go.Fw
set_option linter.unusedVariables false
set_option linter.unusedSimpArgs false
set_option maxRecDepth 100000
namespace Go.Proofs.Ytakpdbmdfnialaa
open Go.Fw Go.Proofs Go.RowKit Go.Proofs.Try
theorem c70 (w0 : World) (v1 : Value) (l : List Dot) (h : Sl Dot.enc 3 w0 w0.heap.size v1 l) (hn : l.length ≤ 4194304) :
    Rets Try.prog 70 #[v1] w0 fun v L => ∃ A c, v = .slice A l.length c ∧ L = [rowOf 67 3 Dot.enc A c l] := by
  have h0 := h
  obtain ⟨A, cap, rfl, hl, hcap, hA⟩ := h
  unfold Go.Fw.Rets
  refine enter1 func70 rfl ntmps70 rfl fun a S => sg S (.ac rfl <| .z) fun a w S => wp_seq_k fun _ hK1 => sg S (.mv rfl <| .yy (ys_sNil underlying26 (.t rfl) Ev.c) rfl <| .z) fun a w S => ?_
  refine st_cond S (.t rfl) (fun h1 => ?_) (fun h1 => ?_)
  refine sg S (.ac rfl <| .z) fun a w S => wp_ret (then_ret (st_ret S (results1 S results70 (Rv.tmp rfl)) ?_))
  rotate_left
  refine wp_skip (then_normal (hK1 _ _ (wp_seq_k fun _ hK1 => wp_region_lit (st_m (op_bslice0 S underlying26 sizeOf67 rfl fun g1 a w S => run S (.mv rfl <| .z) fun a w S => st_m (op_extend _ (S.nil_ 67 _ Go.Fw.Dot.enc _) underlying26 underlying26 (.inr ⟨_, rfl⟩) inf67 rfl (k := 0) rfl (.t rfl) (.t rfl) (Src.sl (Sl.old S.wd h0) (by decide) Go.Fw.Dot.enc_len Go.Fw.Dot.enc_one) (by first | omega | (simp only [List.length_append, List.length_cons, List.length_nil]; omega) | (simp; omega)) rfl rfl rfl fun A1 cap1 a w S => ?_))))))
  simp only [List.nil_append] at S
  refine run S (.as rfl <| .z) fun a w S => st_nil (then_normal (hK1 _ _ (wp_ret (st_ret S (results1 S results70 (Rv.tmp rfl)) ?_))))
  rotate_left
  · have hnil : l = [] := by
      refine List.eq_nil_of_length_eq_zero (Decidable.byContradiction fun hne => ?_)
      obtain ⟨g, o, rfl, _⟩ := hA (by omega)
      cases h1
    subst hnil
    exact ⟨_, _, rfl, (S.nil_ 67 3 Dot.enc none).wd.sub (by repeat (first | exact List.Sublist.refl _ | exact List.nil_sublist _ | refine .cons_cons _ ?_ | refine .cons _ ?_)), none, 0, rfl, rfl⟩
  · try simp only [List.nil_append] at S ⊢
    exact ⟨_, _, rfl, S.wd.sub (by repeat (first | exact List.Sublist.refl _ | exact List.nil_sublist _ | refine .cons_cons _ ?_ | refine .cons _ ?_)), _, _, rfl, rfl⟩
end Go.Proofs.Ytakpdbmdfnialaa
set_option linter.unusedVariables false
set_option linter.unusedSimpArgs false
set_option maxRecDepth 100000
namespace Go.Proofs.Ytakpdbmdfnialaa
open Go.Fw Go.Proofs Go.RowKit Go.Proofs.Try
instance (a b : Dot) : Decidable (ltM a b) := inferInstanceAs (Decidable (_ ∨ _))
end Go.Proofs.Ytakpdbmdfnialaa
set_option linter.unusedVariables false
set_option linter.unusedSimpArgs false
namespace Go.Ft
open Go.RowKit
abbrev KL := List (Nat × Bool × Value)
def look : KL → Nat → Option (Bool × Value)
  | [], _ => none
  | (j, v) :: r, i => bif Nat.beq i j then some v else look r i
structure Kn (n : Nat) (K : KL) (a : Act) : Prop where
  defers : a.defers = []
  size : a.tmps.size = n
  slot : ∀ i g v, look K i = some (g, v) → a.tmps[i]? = some (bif g then v else undef)
def Ev (n : Nat) (b : Bool) (K : KL) (x : Operand) (v : Value) : Prop := ∀ a, b = true → Kn n K a → a.eval x = v
section kn
variable {n : Nat} {K : KL} {a : Act} {b : Bool}
theorem Ev.t {t : Nat} {v : Value} (h : look K t = some (true, v)) : Ev n b K (.tmp t) v := fun a _ hk => by
  simp [Act.eval, hk.slot t true v h]
theorem Ev.g {t : Nat} {v : Value} (h : look K t = some (b, v)) : Ev n b K (.tmp t) v := fun a hb hk => by
  simp [Act.eval, hk.slot t b v h, hb]
theorem Ev.c {v : Value} : Ev n b K (.const v) v := fun _ _ _ => rfl
theorem Ev.f {f : Nat} : Ev n b K (.func f) (.func (.func f) #[] #[]) := fun _ _ _ => rfl
def Fits (sn : List Nat) (K : KL) : KL → Prop
  | [] => True
  | (i, g, v) :: r => (List.elem i sn = true ∨ look K i = some (g, v)) ∧ Fits (i :: sn) K r
theorem Fits.look {K : KL} : ∀ {K' : KL} {sn : List Nat}, Fits sn K K' → ∀ i v, List.elem i sn = false → Ft.look K' i = some v → Ft.look K i = some v
  | [], _, _, i, v, _, h => by simp [Ft.look] at h
  | (j, g, u) :: r, sn, hf, i, v, hn, h => by
    obtain ⟨h1, h2⟩ := hf
    unfold Ft.look at h
    by_cases hi : i = j
    · subst hi
      simp only [Nat.beq_refl, cond_true, Option.some.injEq] at h
      rw [← h]
      rcases h1 with h1 | h1
      · rw [h1] at hn; cases hn
      · exact h1
    · have : Nat.beq i j = false := by simpa [Nat.beq_eq_true_eq, ← Bool.not_eq_true] using hi
      simp only [this, cond_false] at h
      refine Fits.look h2 i v ?_ h
      have hne : (i == j) = false := by simpa using hi
      simp only [List.elem, hne]
      exact hn
end kn
abbrev Dle (a b : Nat) : Prop := a ≤ b
theorem Dle.succ (a : Nat) : Dle a (a + 1) := by unfold Dle; omega
structure Bel (B : Nat) (w w' : World) : Prop extends Below B w w' where
  drawn : Dle w.drawn w'.drawn
section bel
variable {B B' : Nat} {a b c : World}
theorem Bel.refl (B : Nat) (w : World) : Bel B w w := ⟨Below.refl B w, Nat.le_refl _⟩
theorem Bel.trans (h : Bel B a b) (k : Bel B b c) : Bel B a c := ⟨h.toBelow.trans k.toBelow, Nat.le_trans h.drawn k.drawn⟩
theorem Bel.mono (h : Bel B a b) (hB : B' ≤ B) : Bel B' a b := ⟨h.toBelow.mono hB, h.drawn⟩
theorem Bel.drew (h : Bel B a b) : Bel B a b.drew := ⟨h.toBelow.drew, Nat.le_trans h.drawn (Dle.succ _)⟩
end bel
structure Turned (S : Nat → Prop) (w w' : World) : Prop where
  os : w'.os = w.os
  tape : w'.tape = w.tape
  output : w'.output = w.output
  size : w.heap.size ≤ w'.heap.size
  block : ∀ k, k < w.heap.size → ¬ S k → w'.heap[k]? = w.heap[k]?
  drawn : Dle w.drawn w'.drawn
theorem Turned.mono {S S' : Nat → Prop} {w w' : World} (h : Turned S w w') (hS : ∀ k, S k → S' k) : Turned S' w w' :=
  ⟨h.os, h.tape, h.output, h.size, fun k hk hn => h.block k hk fun e => hn (hS k e), h.drawn⟩
def Owns (w : World) (B : Nat) (e size : Nat) (A : Option Addr) (n cap : Nat) (xs : List Value) : Prop :=
  xs.length = n * size ∧ ((n = 0 ∧ cap = 0) ∨ ∃ g cur, A = some ⟨g, 0, none⟩ ∧ 0 < cap ∧ B ≤ g ∧ w.heap[g]? = some (.cells cur e (0, 0)) ∧ n ≤ cap ∧ cap ≤ maxLen ∧ cur.size = cap * size ∧ cur.toList.take (n * size) = xs)
inductive Chunk where
  | blk (b : Nat) (o : Obj)
  | row (e size : Nat) (A : Option Addr) (n cap : Nat) (xs : List Value)
  | ice (w1 : World) (bs : List Nat)
def Chunk.holds (B : Nat) (w : World) : Chunk → Prop
  | .blk b o => B ≤ b ∧ w.heap[b]? = some o
  | .row e size A n cap xs => Owns w B e size A n cap xs
  | .ice w1 bs => ∀ b ∈ bs, B ≤ b ∧ b < w.heap.size ∧ w.heap[b]? = w1.heap[b]?
def Chunk.own : Chunk → Nat → Prop
  | .blk b _ => fun x => x = b
  | .row _ _ A _ cap _ => fun x => cap ≠ 0 ∧ A.map (·.block) = some x
  | .ice _ bs => fun x => x ∈ bs
def Chunk.apart (c d : Chunk) : Prop := ∀ b, c.own b → ¬ d.own b
theorem Chunk.holds.lt {B : Nat} {w : World} {c : Chunk} (h : c.holds B w) {b : Nat} (hb : c.own b) : B ≤ b ∧ b < w.heap.size := by
  cases c with
  | blk b' o =>
    obtain ⟨h1, h2⟩ := h
    simp only [Chunk.own] at hb
    subst hb
    exact ⟨h1, (Array.getElem?_eq_some_iff.1 h2).1⟩
  | row e size A n cap xs =>
    obtain ⟨h0, hb⟩ := hb
    rcases h.2 with ⟨_, hc⟩ | ⟨g, cur, rfl, hp, hB, hg, _⟩
    · exact absurd hc h0
    · simp only [Option.map_some, Option.some.injEq] at hb
      subst hb
      exact ⟨hB, (Array.getElem?_eq_some_iff.1 hg).1⟩
  | ice w1 bs => exact ⟨(h b hb).1, (h b hb).2.1⟩
theorem Chunk.holds.keep {B : Nat} {w w' : World} {c : Chunk} (h : c.holds B w) (hs : w.heap.size ≤ w'.heap.size) (hk : ∀ b, c.own b → w'.heap[b]? = w.heap[b]?) : c.holds B w' := by
  cases c with
  | blk b o => exact ⟨h.1, (hk b rfl).trans h.2⟩
  | row e size A n cap xs =>
    refine ⟨h.1, ?_⟩
    rcases h.2 with hn | ⟨g, cur, rfl, hp, hb, hgg, rest⟩
    · exact .inl hn
    · exact .inr ⟨g, cur, rfl, hp, hb, (hk g ⟨Nat.pos_iff_ne_zero.1 hp, rfl⟩).trans hgg, rest⟩
  | ice w1 bs => exact fun b hb => ⟨(h b hb).1, Nat.lt_of_lt_of_le (h b hb).2.1 hs, (hk b hb).trans (h b hb).2.2⟩
theorem Chunk.holds.mono {B B' : Nat} {w : World} {c : Chunk} (h : c.holds B w) (hB : B' ≤ B) : c.holds B' w := by
  cases c with
  | blk b o => exact ⟨Nat.le_trans hB h.1, h.2⟩
  | row e size A n cap xs =>
    refine ⟨h.1, ?_⟩
    rcases h.2 with hn | ⟨g, cur, rfl, hp, hb, rest⟩
    · exact .inl hn
    · exact .inr ⟨g, cur, rfl, hp, Nat.le_trans hB hb, rest⟩
  | ice w1 bs => exact fun b hb => ⟨Nat.le_trans hB (h b hb).1, (h b hb).2⟩
structure Wd (w0 : World) (L : List Chunk) (w : World) : Prop where
  below : Bel w0.heap.size w0 w
  all : ∀ c ∈ L, c.holds w0.heap.size w
  apart : L.Pairwise Chunk.apart
section wd
variable {w0 : World} {L : List Chunk} {w w' : World}
theorem Wd.get (h : Wd w0 L w) {k : Nat} {c : Chunk} (hk : L[k]? = some c) : c.holds w0.heap.size w := h.all c (List.mem_of_getElem? hk)
theorem Wd.step (h : Wd w0 L w) (hb : Bel w.heap.size w w') : Wd w0 L w' :=
  ⟨h.below.trans (hb.mono h.below.size), fun c hc => (h.all c hc).keep hb.size fun b hbk => hb.block b ((h.all c hc).lt hbk).2, h.apart⟩
theorem Wd.drew (h : Wd w0 L w) : Wd w0 L w.drew := h.step (Bel.refl _ _).drew
end wd
section code
variable {P : Program} {Q : Exit → Act → World → Prop} {n : Nat} {w0 : World} {K : KL} {L : List Chunk} {a : Act} {w : World}
section enters
variable {f : FuncId} {fn : Func} {c : Code} {R : Ending → World → Prop} {v0 v1 v2 v3 v4 v5 v6 v7 v8 : Value}
end enters
def Ys (P : Program) (o : Oper) (n : Nat) (K : KL) (w0 : World) (L : List Chunk) (b : Bool) (v : Value) : Prop :=
  ∀ a w, b = true → Kn n K a → Wd w0 L w → Oper.quietUpon P (Wd w0 L) w v ((execOp a.eval o).run P w)
def Yr (P : Program) (o : Oper) (n : Nat) (K : KL) (w0 : World) (L : List Chunk) (b : Bool) (v : Value) : Prop :=
  ∀ a w, b = true → Kn n K a → Wd w0 L w → (execOp a.eval o).run P w = .ok (.value v) w
theorem Yr.ys {o : Oper} {b : Bool} {v : Value} (h : Yr P o n K w0 L b v) : Ys P o n K w0 L b v := fun a w hb hk hw => by
  rw [h a w hb hk hw]; exact ⟨rfl, rfl⟩
section list
variable {ops : Array Oper} {rest : List Oper} {op : Op} {ty : TypeId} {pos : String} {aft : Array Edge} {v : Value} {d t j : Nat} {p : Bool}
variable {Z : Act → Prop} {C : World → Prop}
end list
section held
variable {ops : Array Oper} {Lr : List Chunk} {fuel i : Nat} {listed : Array Bool} {op : Op} {ty : TypeId} {pos : String} {aft : Array Edge} {gd : Option (Nat × Bool)} {v : Value} {d t j : Nat} {p : Bool} {md : Region.Mode}
end held
end code
end Go.Ft
set_option linter.unusedVariables false
set_option linter.unusedSimpArgs false
namespace Go.Ft
open Go.RowKit
section ops
variable {P : Program} {n : Nat} {w0 : World} {K : KL} {L : List Chunk} {b : Bool} {dst : Option Tmp} {ty : TypeId} {pos : String} {aft : Array Edge} {gd : Option (Nat × Bool)}
def Many (P : Program) (t : TypeId) (k : Nat) : Prop := (∀ w, (isAgg t).run P w = .ok true w) ∧ ∀ w, (sizeOf t).run P w = .ok k w
def nth : List Value → Nat → Option Value
  | [], _ => none
  | v :: _, 0 => some v
  | _ :: r, i + 1 => nth r i
theorem nth_eq : ∀ (cs : List Value) (i : Nat), nth cs i = cs[i]?
  | [], i => by simp [nth]
  | v :: r, 0 => by simp [nth]
  | v :: r, i + 1 => by simp [nth, nth_eq r i]
def upto : List Value → Nat → Option (List Value)
  | _, 0 => some []
  | [], _ + 1 => none
  | v :: r, k + 1 => match upto r k with
    | some l => some (v :: l)
    | none => none
def cellsAt : List Value → Nat → Nat → Option (List Value)
  | cs, 0, k => upto cs k
  | [], _ + 1, _ => none
  | _ :: r, i + 1, k => cellsAt r i k
theorem upto_eq : ∀ {cs : List Value} {k : Nat} {vs : List Value}, upto cs k = some vs → vs.length = k ∧ vs = cs.take k
  | cs, 0, vs, h => by cases cs <;> simp [upto] at h <;> simp [h]
  | [], k + 1, vs, h => by simp [upto] at h
  | v :: r, k + 1, vs, h => by
    unfold upto at h
    split at h
    · rename_i l hl
      obtain ⟨h1, h2⟩ := upto_eq hl
      simp only [Option.some.injEq] at h
      subst h
      exact ⟨by simp [h1], by simp [← h2]⟩
    · cases h
theorem cellsAt_eq : ∀ {cs : List Value} {i k : Nat} {vs : List Value}, cellsAt cs i k = some vs → vs.length = k ∧ vs = (cs.drop i).take k
  | cs, 0, k, vs, h => by cases cs <;> exact upto_eq h
  | [], i + 1, k, vs, h => by simp [cellsAt] at h
  | v :: r, i + 1, k, vs, h => by simpa using cellsAt_eq (cs := r) (i := i) h
theorem run_load_many {t : TypeId} {k : Nat} (h1 : Many P t k) {w : World} {ad : Addr} {vs : List Value} (hl : vs.length = k) (hc : ∀ j u, vs[j]? = some u → w.cell? (ad.add j) = some u) :
    (loadVar t ad).run P w = .ok (.agg vs.toArray) w := by
  have h := run_loadCells_list (P := P) w ad vs hc
  rw [hl] at h
  simp [loadVar, Sem.run_bind, h1.1, h1.2, h]
theorem Owns.cell {w : World} {B e size n cap g : Nat} {xs : List Value} (h : Owns w B e size (some ⟨g, 0, none⟩) n cap xs) {j : Nat} {u : Value} (hj : xs[j]? = some u) : w.cell? ⟨g, j, none⟩ = some u := by
  rcases h.2 with ⟨h0, _⟩ | ⟨g', cur, hA, _, _, hg, _, _, _, ht⟩
  · have h1 := h.1
    rw [h0] at h1
    have : xs = [] := List.eq_nil_of_length_eq_zero (by simpa using h1)
    subst this; simp at hj
  · simp only [Option.some.injEq, Addr.mk.injEq] at hA
    obtain ⟨rfl, _, _⟩ := hA
    rw [cell_of_row w _ j cur e (0, 0) hg]
    rw [← ht, List.getElem?_take] at hj
    split at hj
    · simpa using hj
    · cases hj
def FieldT (P : Program) (s : TypeId) (f o : Nat) : Prop := ∀ w ad, (Instr.fieldAt s (.pointer (some ad)) f).run P w = .ok (.pointer (some (ad.add o))) w
theorem FieldT.mk {s f : Nat} {fs : Array Field} {nm : String} {tt o : Nat} {em : Bool} {tg pp : String} {bo : Nat} {m : Nat} (hu : P.underlying s = some (.struct fs)) (hf : fs[f]? = some ⟨nm, tt, o, em, tg, pp, bo⟩) (hz : ∀ w, (sizeOf tt).run P w = .ok m w) (hm : Nat.blt 0 m = true) : FieldT P s f o := fun w ad => by
  have hm' : m ≠ 0 := by have := Nat.le_of_ble_eq_true hm; omega
  simp [Instr.fieldAt, run_underlying hu, hf, Instr.sureAddr, fieldPlace, hz, hm']
section cmp
variable {t t' : TypeId} {x y : Operand} {k : IntKind} {p q : Int} (hx : Ev n b K x (.int k p)) (hy : Ev n b K y (.int k q))
include hx hy
end cmp
def EqT (P : Program) (t : TypeId) (vs us : List Value) (r : Bool) : Prop :=
  ∀ w, (eqGuard .eql t (.tmp 0) (.tmp 0) (.agg vs.toArray) (.agg us.toArray)).run P w = .ok () w ∧ (Op.equalIn 10000 t (.agg vs.toArray) (.agg us.toArray)).run P w = .ok r w
def lay (cs : List Value) : Nat → List Value → List Value
  | _, [] => cs
  | i, v :: vs => lay (cs.set i v) (i + 1) vs
def fillL (places : Nat → Option (Nat × Nat)) (zs : List Value) : List (Nat × Value) → Option (List Value)
  | [] => some zs
  | (i, v) :: rest => match places i with
    | none => none
    | some (off, size) => bif Nat.beq v.cells.toList.length size && Nat.ble (off + size) zs.length then fillL places (lay zs off v.cells.toList) rest else none
theorem foldl_lay : ∀ (vs : List Value) (off j : Nat) (zs : List Value), (vs.zipIdx j).foldl (fun cs (x : Value × Nat) => cs.setIfInBounds (off + x.2) x.1) zs.toArray = (lay zs (off + j) vs).toArray
  | [], off, j, zs => rfl
  | v :: vs, off, j, zs => by
    simp only [List.zipIdx_cons, List.foldl_cons, lay]
    rw [List.setIfInBounds_toArray, foldl_lay vs off (j + 1)]
    rfl
theorem fill_of : ∀ {places : Nat → Option (Nat × Nat)} {parts : List (Nat × Value)} {zs us : List Value}, fillL places zs parts = some us → Instr.fill places zs.toArray parts = some us.toArray
  | places, [], zs, us, h => by simp [fillL] at h; simp [Instr.fill, h]
  | places, (i, v) :: rest, zs, us, h => by
    unfold fillL at h
    unfold Instr.fill
    split at h
    · cases h
    · rename_i off size hp
      simp only [hp]
      cases hc : (Nat.beq v.cells.toList.length size && Nat.ble (off + size) zs.length) with
      | false => rw [hc] at h; simp at h
      | true =>
        rw [hc] at h
        simp only [cond_true] at h
        simp only [Bool.and_eq_true, Nat.ble_eq] at hc
        obtain ⟨h1, h2⟩ := hc
        have h1' : v.cells.size = size := by simpa using h1
        have h3 : (decide (v.cells.size ≠ size) || decide (off + v.cells.size > zs.toArray.size)) = false := by
          simp [h1']; omega
        have h4 : v.cells.zipIdx.foldl (fun cs (x : Value × Nat) => cs.setIfInBounds (off + x.2) x.1) zs.toArray = (lay zs off v.cells.toList).toArray := by
          have := foldl_lay v.cells.toList off 0 zs
          rw [← Array.foldl_toList, Array.toList_zipIdx]
          simpa using this
        rw [if_neg (by rw [h3]; simp)]
        have h5 := fill_of (places := places) (parts := rest) h
        rw [← h4] at h5
        exact h5
def BuildT (P : Program) (t : TypeId) (zs : List Value) (places : List (Nat × Nat)) : Prop :=
  (∃ z, (∀ w, (zeroValue t).run P w = .ok z w) ∧ z.cells = zs.toArray) ∧ ∃ fs, P.underlying t = some (.struct fs) ∧ ∀ w, (fs.mapM (fun f => do pure (f.offset, ← sizeOf f.type)) : Sem (Array (Nat × Nat))).run P w = .ok places.toArray w
theorem BuildT.run {t : TypeId} {zs : List Value} {places : List (Nat × Nat)} (h : BuildT P t zs places) {parts : List (Nat × Value)} {us : List Value} (hf : fillL (places[·]?) zs parts = some us) (w : World) : (Instr.build t parts.toArray).run P w = .ok (.agg us.toArray) w := by
  obtain ⟨⟨z, hz, hc⟩, fs, hu, hm⟩ := h
  have h1 : Instr.fill (fun x => places[x]?) zs.toArray parts = some us.toArray := fill_of hf
  simp only [Instr.build, Sem.run_bind, hz, Result.andThen_ok, run_underlying hu, hm, hc]
  simp [h1]
end ops
section movers
variable {P : Program} {n : Nat} {w0 : World} {K : KL} {L : List Chunk} {ty : TypeId} {pos : String} {aft : Array Edge} {gd : Option (Nat × Bool)} {a : Act} {w : World} {Z : Act → World → Prop} {Q : Exit → Act → World → Prop} {d : Nat}
end movers
section ends
variable {P : Program} {n : Nat} {w0 : World} {K : KL} {L : List Chunk} {a : Act} {w : World} {fn : Func} {R : Ending → World → Prop} {t : Nat} {v : Value}
def res1 (tmps : Array Value) (r : ResultVar) : Sem Value := match r with
  | .tmp t => pure (tmps.getD t undef)
  | .cell a t => do loadVar t (← asAddr (tmps.getD a undef))
def Rv (P : Program) (n : Nat) (w0 : World) (K : KL) (L : List Chunk) (r : ResultVar) (v : Value) : Prop :=
  ∀ a w, Kn n K a → Wd w0 L w → (res1 a.tmps r).run P w = .ok v w
theorem Rv.tmp (h : look K t = some (true, v)) : Rv P n w0 K L (.tmp t) v := fun a w hk _ => by
  simp [res1, hk.slot t true v h]
theorem Rv.cell {ty m : Nat} {g k : Nat} {cs : List Value} {e : TypeId} {fr : Nat × Nat} (h1 : Many P ty m) (h : look K t = some (true, .pointer (some ⟨g, 0, none⟩))) (hk : L[k]? = some (.blk g (.cells cs.toArray e fr))) (hm : cs.length = m) :
    Rv P n w0 K L (.cell t ty) (.agg cs.toArray) := fun a w hkn hw => by
  have hg := (hw.get hk).2
  have h2 := run_load_many (P := P) (ad := ⟨g, 0, none⟩) h1 hm (w := w) (fun j u hj => by
    rw [Addr.add_mid, cell_of_row w g (0 + j) _ e fr hg]; simpa using hj)
  simp [res1, hkn.slot t true _ h, asAddr, h2]
end ends
end Go.Ft
namespace Go.Ft
open Go.RowKit
section exits
variable {K : Act → World → Prop} {Q : Exit → Act → World → Prop} {a : Act} {w : World} {i j : Nat}
end exits
def Sl {α : Type} (enc : α → List Value) (size : Nat) (w : World) (B : Nat) (v : Value) (l : List α) : Prop :=
  ∃ A cap, v = .slice A l.length cap ∧ l.length ≤ cap ∧ cap ≤ 9223372036854775807 ∧
    (0 < l.length → ∃ g o, A = some ⟨g, o, none⟩ ∧ g < B ∧ ∀ k x, l[k]? = some x → ∀ j u, (enc x)[j]? = some u → w.cell? ⟨g, o + k * size + j, none⟩ = some u)
section sl
variable {α : Type} {enc : α → List Value} {size : Nat} {w w' w0 : World} {B B' : Nat} {v : Value} {l : List α} {L : List Chunk}
theorem Sl.keep (h : Sl enc size w B v l) (hk : Below B w w') : Sl enc size w' B v l := by
  obtain ⟨A, cap, rfl, h1, h2, h3⟩ := h
  refine ⟨A, cap, rfl, h1, h2, fun hl => ?_⟩
  obtain ⟨g, o, hA, hg, hc⟩ := h3 hl
  exact ⟨g, o, hA, hg, fun k x hx j u hu => (hk.cell (p := ⟨g, o + k * size + j, none⟩) hg).trans (hc k x hx j u hu)⟩
theorem Sl.mono (h : Sl enc size w B v l) (hB : B ≤ B') : Sl enc size w B' v l := by
  obtain ⟨A, cap, rfl, h1, h2, h3⟩ := h
  refine ⟨A, cap, rfl, h1, h2, fun hl => ?_⟩
  obtain ⟨g, o, hA, hg, hc⟩ := h3 hl
  exact ⟨g, o, hA, by omega, hc⟩
end sl
end Go.Ft
set_option linter.unusedVariables false
set_option linter.unusedSimpArgs false
namespace Go.Ft
open Go.RowKit
def InfoT (P : Program) (e : TypeId) (z : Value) (size bytes : Nat) : Prop := (P.info? e).map (fun i => (i.zero, i.size, i.bytes)) = some (some z, size, bytes)
theorem InfoT.parts {P : Program} {e : TypeId} {z : Value} {size bytes : Nat} (h : InfoT P e z size bytes) : ∃ i, P.info? e = some i ∧ i.zero = some z ∧ i.size = size ∧ i.bytes = bytes := by
  unfold InfoT at h
  cases hi : P.info? e with
  | none => rw [hi] at h; simp at h
  | some i => rw [hi] at h; simp at h; exact ⟨i, rfl, h⟩
structure Src (P : Program) (w : World) (size : Nat) (x : Value) (m : Nat) (news : List Value) : Prop where
  len : ∀ W, (Builtin.lenOf x).run P W = .ok m W
  here : (Builtin.firstCells size m x).run P w = .ok news.toArray w
  drew : (Builtin.firstCells size m x).run P w.drew = .ok news.toArray w.drew
  length : news.length = m * size
  one : ∀ u ∈ news, u.oneCell' = true
section src
variable {P : Program} {w : World} {size m : Nat} {news : List Value}
theorem Src.at_ {g o c : Nat} (hl : news.length = m * size) (h1 : ∀ u ∈ news, u.oneCell' = true) (h : ∀ j u, news[j]? = some u → w.cell? ⟨g, o + j, none⟩ = some u) : Src P w size (.slice (some ⟨g, o, none⟩) m c) m news :=
  ⟨fun W => by simp [Builtin.lenOf],
   run_firstCells_some (P := P) w size m ⟨g, o, none⟩ m c news hl (fun j u hj => by rw [Addr.add_mid]; exact h j u hj),
   run_firstCells_some (P := P) w.drew size m ⟨g, o, none⟩ m c news hl (fun j u hj => by rw [Addr.add_mid]; exact h j u hj), hl, h1⟩
theorem Src.none_ {A : Option Addr} {c : Nat} : Src P w size (.slice A 0 c) 0 [] := by
  cases A with
  | none => exact ⟨fun W => by simp [Builtin.lenOf], by simp [Builtin.firstCells], by simp [Builtin.firstCells], by simp, by simp⟩
  | some a => exact ⟨fun W => by simp [Builtin.lenOf], by simp [Builtin.firstCells, loadCells, loadCellsFrom], by simp [Builtin.firstCells, loadCells, loadCellsFrom], by simp, by simp⟩
theorem Src.blk {L : List Chunk} {w0 : World} (hw : Wd w0 L w) {k g c : Nat} {e : TypeId} {fr : Nat × Nat} (hk : L[k]? = some (.blk g (.cells news.toArray e fr))) (hl : news.length = m * size) (h1 : ∀ u ∈ news, u.oneCell' = true) : Src P w size (.slice (some ⟨g, 0, none⟩) m c) m news :=
  Src.at_ hl h1 (fun j u hj => by rw [cell_of_row w g (0 + j) _ e fr (hw.get hk).2]; simpa using hj)
theorem Src.row {L : List Chunk} {w0 : World} (hw : Wd w0 L w) {k e cap c : Nat} {A : Option Addr} (hk : L[k]? = some (.row e size A m cap news)) (h1 : ∀ u ∈ news, u.oneCell' = true) : Src P w size (.slice A m c) m news := by
  have h := hw.get hk
  rcases h.2 with ⟨rfl, _⟩ | ⟨g, cur, rfl, _⟩
  · have : news = [] := List.eq_nil_of_length_eq_zero (by simpa using h.1)
    subst this
    exact Src.none_
  · exact Src.at_ h.1 h1 (fun j u hj => by rw [Nat.zero_add]; exact Owns.cell h hj)
end src
section app
variable {P : Program} {w : World}
end app
end Go.Ft
set_option linter.unusedVariables false
set_option linter.unusedSimpArgs false
namespace Go.Ft
open Go.RowKit
section ldw
variable {P : Program} {n : Nat} {w0 : World} {K : KL} {L : List Chunk} {b : Bool} {dst : Option Tmp} {ty : TypeId} {pos : String} {aft : Array Edge} {gd : Option (Nat × Bool)}
end ldw
section movers
variable {P : Program} {n : Nat} {w0 : World} {K : KL} {L : List Chunk} {ty : TypeId} {pos : String} {aft : Array Edge} {gd : Option (Nat × Bool)} {a : Act} {w : World} {Z : Act → World → Prop} {Q : Exit → Act → World → Prop} {d : Nat}
end movers
section ops
variable {P : Program} {n : Nat} {w0 : World} {K : KL} {L : List Chunk} {b : Bool} {dst : Option Tmp} {ty : TypeId} {pos : String} {aft : Array Edge} {gd : Option (Nat × Bool)}
end ops
section eq
variable {P : Program}
def FEq (P : Program) (k : Nat) (xs ys : List Value) (fs : List Field) (r : Bool) : Prop := ∀ d w, (Op.eqFields (d + k) xs.toArray ys.toArray fs).run P w = .ok r w
section fields
variable {xs ys : List Value} {nm : String} {tt o : Nat} {em : Bool} {tg pp : String} {bo : Nat} {fs : List Field} {r : Bool} {k : Nat}
theorem FEq.int {ik ik' : IntKind} {p q : Int} (hn : (nm != "_") = true) (ht : P.underlying tt = some (.int ik')) (ha : ∀ w, (isAgg tt).run P w = .ok false w) (hx : nth xs o = some (.int ik p)) (hy : nth ys o = some (.int ik q)) (h : FEq P (k + 1) xs ys fs r) :
    FEq P (k + 1) xs ys (⟨nm, tt, o, em, tg, pp, bo⟩ :: fs) (decide (p = q) && r) := fun d w => by
  have hn' : nm ≠ "_" := by simpa using hn
  rw [nth_eq] at hx hy
  have hpq : (p == q) = decide (p = q) := rfl
  have hh := run_equalIn_int (P := P) w (d + k) tt ik ik' p q ht
  rw [Nat.add_assoc] at hh
  simp only [Op.eqFields, ne_eq, hn', not_false_eq_true, if_true, Sem.run_bind, part, ha, Result.andThen_ok]
  simp [hx, hy, hh, hpq]
  by_cases e : p = q <;> simp [e, h d w]
theorem FEq.agg {fs' : List Field} {m : Nat} {us vs : List Value} {r' : Bool} (hn : (nm != "_") = true) (ht : P.underlying tt = some (.struct fs'.toArray)) (hp : P.stoodInHeld tt = false) (ha : ∀ w, (isAgg tt).run P w = .ok true w) (hz : ∀ w, (sizeOf tt).run P w = .ok m w) (hx : cellsAt xs o m = some us) (hy : cellsAt ys o m = some vs)
    (h' : FEq P k us vs fs' r') (h : FEq P (k + 1) xs ys fs r) : FEq P (k + 1) xs ys (⟨nm, tt, o, em, tg, pp, bo⟩ :: fs) (r' && r) := fun d w => by
  have hn' : nm ≠ "_" := by simpa using hn
  have e1 : xs.toArray.extract o (o + m) = us.toArray := by
    rw [(cellsAt_eq hx).2]; simp [List.extract_eq_take_drop, List.extract_toArray]
  have e2 : ys.toArray.extract o (o + m) = vs.toArray := by
    rw [(cellsAt_eq hy).2]; simp [List.extract_eq_take_drop, List.extract_toArray]
  have hh := run_equalIn_struct (P := P) w (d + k) tt us.toArray vs.toArray (by simp [Program.fieldsOf, ht]) hp
  rw [Nat.add_assoc] at hh
  have hf := h' d w
  simp only [Op.eqFields, ne_eq, hn', not_false_eq_true, if_true, Sem.run_bind, part, ha, hz, Result.andThen_ok, Sem.run_pure, e1, e2, hh, Program.fieldsOf, ht, hf]
  cases r' <;> simp [h d w]
end fields
theorem EqT.mk {t k d : Nat} {fs : List Field} {xs ys : List Value} {r r' : Bool} (hu : P.underlying t = some (.struct fs.toArray)) (hs : P.stoodInHeld t = false) (hg : P.eqGuardType P.depth t = false) (hk : d + k = 9999) (h : FEq P k xs ys fs r) (hr : r = r') : EqT P t xs ys r' := fun w => by
  subst hr
  refine ⟨by simp [eqGuard, hg], ?_⟩
  rw [run_equalIn_struct w 9999 t _ _ (by simp [Program.fieldsOf, hu]) hs]
  simp only [Program.fieldsOf, hu]
  rw [← hk]
  exact h d w
end eq
end Go.Ft
set_option linter.unusedVariables false
set_option linter.unusedSimpArgs false
namespace Go.Ft
open Go.RowKit
structure Dot where
  node : Int
  life : Int
  count : Int
deriving DecidableEq
abbrev Dot.enc (d : Dot) : List Value := [.int .i64 d.node, .int .i64 d.life, .int .i64 d.count]
structure Ctx where
  marks : List Dot
  cloud : List Dot
deriving DecidableEq
def markOf : List Dot → Int → Int → Int
  | [], _, _ => 0
  | m :: r, x, y => if m.node = x ∧ m.life = y then m.count else markOf r x y
def keep (x y : Int) (l : List Dot) : List Dot := l.filter fun d => !decide (d.node = x ∧ d.life = y)
def mayD (d : Dot) : Bool := decide (0 ≤ d.node ∧ d.node < 8 ∧ 1 ≤ d.life ∧ d.life ≤ 1099511627776 ∧ 1 ≤ d.count ∧ d.count ≤ 1099511627776)
def belowD (a b : Dot) : Bool := if a.node ≠ b.node then decide (a.node < b.node) else if a.life ≠ b.life then decide (a.life < b.life) else decide (a.count < b.count)
end Go.Ft
set_option linter.unusedVariables false
set_option linter.unusedSimpArgs false
namespace Go.Fw
open Go.RowKit Go.Sort Go.Proofs Go.Shelf
section
variable {w0 w w' : World} {L : List Chunk}
variable {α : Type} [Inhabited α] {enc : α → List Value} {size : Nat}
theorem flatK_list (he : ∀ x, (enc x).length = size) (hs : 0 < size) (l : List α) : (flatK enc size l.toArray).toList = l.flatMap enc := by
  have hl := flat_len he l
  apply List.ext_getElem?
  intro i
  by_cases hi : i < l.length * size
  · have hd : i / size < l.length := (Nat.div_lt_iff_lt_mul hs).2 hi
    have hx : l[i / size]? = some l[i / size] := by simp
    rw [flat_get he hs l i _ hx]
    have hm : i % size < (enc l[i / size]).length := by rw [he]; exact Nat.mod_lt _ hs
    rw [List.getElem?_eq_getElem hm]
    simp only [flatK, Array.getElem?_toList, Array.getElem?_map]
    rw [Array.getElem?_range, if_pos (by simpa using hi)]
    simp [hd, hm]
  · rw [List.getElem?_eq_none (by simp; omega), List.getElem?_eq_none (by omega)]
theorem Wd.sorted (W : Wd w0 L w) (he : ∀ x, (enc x).length = size) (hs : 0 < size) {k e cap g : Nat} {l l' : List α} (hk : L[k]? = some (rowOf e size enc (some ⟨g, 0, none⟩) cap l)) (hc : cap ≠ 0) (hl : l'.length = l.length) (m : Nat) (os : Array Obj) :
    Wd w0 (L.set k (rowOf e size enc (some ⟨g, 0, none⟩) cap l')) (sortWorldK enc size w g 0 m l'.toArray os) := by
  have h := W.get hk
  have hlt := (h.lt (b := g) ⟨hc, rfl⟩).2
  rcases h.2 with ⟨_, h0⟩ | ⟨g', cur, hA, hp, hB, hg, hn, hm, hcs, ht⟩
  · exact absurd h0 hc
  · simp only [Option.some.injEq, Addr.mk.injEq, and_true] at hA
    subst hA
    have hheap : ∀ j, j < w.heap.size → (sortWorldK enc size w g 0 m l'.toArray os).heap[j]? = if g = j then some (.cells (putCells id 0 (flatK enc size l'.toArray) cur) e (0, 0)) else w.heap[j]? := fun j hj => by
      unfold sortWorldK putRowK putRow mapBlock grow Go.Sort.ahead
      simp only
      rw [Array.getElem?_append_left (by simpa using hj), Array.getElem?_modify]
      split
      · rename_i e1
        subst e1
        rw [hg]
        rfl
      · rfl
    have hcl : (l'.flatMap enc).length = l'.length * size := flat_len he l'
    refine W.change hk ⟨rfl, rfl, rfl, by simp [sortWorldK, putRowK, putRow, mapBlock, grow, Go.Sort.ahead], fun j hj hne => ?_, by simp [sortWorldK, putRowK, putRow, mapBlock, grow, Go.Sort.ahead]⟩ ⟨by rw [flat_len he], .inr ⟨g, _, rfl, hp, hB, by rw [hheap g hlt, if_pos rfl], by rw [hl]; exact hn, hm, by simp [putCells, hcs], ?_⟩⟩ fun b hb => .inl hb
    · rw [hheap j hj, if_neg (fun e1 => hne ⟨hc, by simp [e1]⟩)]
    · have hF := flatK_list he hs l'
      have hle : l'.length * size ≤ cur.size := by rw [hcs, hl]; exact Nat.mul_le_mul_right _ hn
      apply List.ext_getElem?
      intro i
      rw [List.getElem?_take]
      split
      · rename_i hi
        rw [Array.getElem?_toList, putCells, Array.getElem?_mapIdx]
        have hF2 : (flatK enc size l'.toArray)[i]? = (l'.flatMap enc)[i]? := by rw [← hF, Array.getElem?_toList]
        rw [Array.getElem?_eq_getElem (by omega)]
        have hsz : i < (flatK enc size l'.toArray).size := by simp; omega
        simp only [Option.map_some, id_eq, Nat.zero_le, Nat.zero_add, true_and, Nat.sub_zero]
        rw [if_pos hsz, ← hF2, Array.getElem?_eq_getElem hsz, getElem!_pos _ i hsz]
      · rename_i hi
        rw [List.getElem?_eq_none (by omega)]
end
end Go.Fw
set_option linter.unusedVariables false
set_option linter.unusedSimpArgs false
set_option maxRecDepth 100000
namespace Go.Proofs.Ytakpdbmdfnialaa
open Go.Fw Go.Proofs Go.RowKit Go.Sort Go.Proofs.Try
abbrev MDot := {d : Dot // mayD d = true}
instance : Inhabited MDot := ⟨⟨⟨0, 1, 1⟩, rfl⟩⟩
abbrev MDot.enc (d : MDot) : List Value := Dot.enc d.1
end Go.Proofs.Ytakpdbmdfnialaa
set_option linter.unusedVariables false
set_option linter.unusedSimpArgs false
set_option maxRecDepth 100000
set_option maxHeartbeats 4000000
namespace Go.Fw
theorem cov_may {C : Ctx} {d : Dot} (hC : canL C = true) (h : C.covers d = true) : mayD d = true := by
  have hN := can_nf hC
  obtain ⟨h1, h2⟩ := (covers_iff C d).1 h
  rcases h2 with h2 | h2
  · have hm := hN.mayM _ (markOf_pos (x := d.node) (y := d.life) (l := C.marks) (by omega))
    have := may_lim hm
    unfold mayD
    simp only [decide_eq_true_eq]
    dsimp only at this
    omega
  · exact hN.mayC _ h2
end Go.Fw
namespace Go.Proofs.Ytakpdbmdfnialaa
open Go.Fw Go.Proofs Go.RowKit Go.Proofs.Try
theorem c58 (w0 : World) (v1 v2 v3 : Value) (l : List Ent) (C : Ctx) (k : Nat) (x : Ent) (h : Sl Ent.enc 6 w0 w0.heap.size v1 l) (hr : RdCtx w0 w0.heap.size v2 v3 C) (hx : l[k]? = some x) (hC : canL C = true) (hp : ∀ y ∈ l.take k, C.covers y.dot = true) (hk64 : k ≤ 64) :
    Calls Try.prog 58 #[.agg #[v1, v2, v3], .int .i64 (k : Int)] w0 fun e w' => e = .returned (.int .i64 (entE C (l.take k) x)) ∧ Bel w0.heap.size w0 w' := by
  have hs := h
  obtain ⟨A, cap, rfl, hl, hcap, hA⟩ := h
  have hlt : k < l.length := (List.getElem?_eq_some_iff.1 hx).1
  obtain ⟨g, o, x', rfl, hx', hd, hc⟩ := row_at hA hlt
  rw [hx] at hx'
  cases hx'
  cases rw_n : nameB x.item with
  | false =>
    have he : entE C (l.take k) x = 6 := by unfold entE; rw [if_pos rw_n]
    rw [he]
    refine enter2 func58 rfl ntmps58 rfl fun a S => wp_seq_k fun _ hK1 => wp_region_lit (st_m (op_box S (.t rfl) rfl fun g1 a w S => run S (.ac rfl <| .z) fun a w S => st_nil (then_normal (hK1 _ _ (wp_seq_k fun _ hK1 => wp_region_lit (run S (.fa underlying30 sizeOf24 0 rfl rfl rfl <| .ld gt24 0 rfl rfl rfl <| .mv rfl <| .ix underlying24 sizeOf69 (by omega) rfl rfl <| .yy (ys_ldOA ⟨isAgg69, sizeOf69⟩ (.t rfl) (vs := [_, _, _, _, _, _]) rfl (fun _ => hc)) rfl <| .z) fun a w S => st_m (op_alloc S zeroValue69 (cs := _) rfl rfl fun g2 a w S => st_m (op_stW S sizeOf69 (.t rfl) (.t rfl) (k := 0) rfl rfl rfl (by simp [Value.oneCell']) fun a w S => st_nil (then_normal (hK1 _ _ (wp_seq_k fun _ hK1 => wp_block (wp_seq_k fun _ hK2 => wp_region_lit (run S (.fa underlying69 sizeOf9 0 rfl rfl rfl <| .ld gt9 0 rfl rfl rfl <| .xx (ys_call call80 (.cons (.t rfl) .nil) (fun hp w W => c80 _ _)) rfl <| .z) fun a w S => ?_)))))))))))))
    rw [rw_n] at S
    refine run S (.nt rfl <| .as rfl <| .z) fun a w S => st_nil (then_normal (hK2 _ _ (st_then S (.t rfl) (sg S (.ac rfl <| .z) fun a w S => wp_ret (in_ret (then_ret (st_ret S (results1 S results58 (Rv.tmp rfl)) ?_)))))))
    exact ⟨rfl, S.wd.below⟩
  | true =>
  by_cases hq : x.qty < 1 ∨ 1000000 < x.qty
  · have he : entE C (l.take k) x = 52 := by unfold entE; rw [if_neg (by simp [rw_n]), if_pos hq]
    rw [he]
    have rw_q : (decide (x.qty < 1) || decide (1000000 < x.qty)) = true := by simp; omega
    refine enter2 func58 rfl ntmps58 rfl fun a S => wp_seq_k fun _ hK1 => wp_region_lit (st_m (op_box S (.t rfl) rfl fun g1 a w S => run S (.ac rfl <| .z) fun a w S => st_nil (then_normal (hK1 _ _ (wp_seq_k fun _ hK1 => wp_region_lit (run S (.fa underlying30 sizeOf24 0 rfl rfl rfl <| .ld gt24 0 rfl rfl rfl <| .mv rfl <| .ix underlying24 sizeOf69 (by omega) rfl rfl <| .yy (ys_ldOA ⟨isAgg69, sizeOf69⟩ (.t rfl) (vs := [_, _, _, _, _, _]) rfl (fun _ => hc)) rfl <| .z) fun a w S => st_m (op_alloc S zeroValue69 (cs := _) rfl rfl fun g2 a w S => st_m (op_stW S sizeOf69 (.t rfl) (.t rfl) (k := 0) rfl rfl rfl (by simp [Value.oneCell']) fun a w S => st_nil (then_normal (hK1 _ _ (wp_seq_k fun _ hK1 => wp_block (wp_seq_k fun _ hK2 => wp_region_lit (run S (.fa underlying69 sizeOf9 0 rfl rfl rfl <| .ld gt9 0 rfl rfl rfl <| .xx (ys_call call80 (.cons (.t rfl) .nil) (fun hp w W => c80 _ _)) rfl <| .z) fun a w S => ?_)))))))))))))
    rw [rw_n] at S
    refine run S (.nt rfl <| .as rfl <| .z) fun a w S => st_nil (then_normal (hK2 _ _ (st_else S (.t rfl) (wp_seq_k fun _ hK2 => wp_region_lit (run S (.fa underlying69 sizeOf3 4 rfl rfl rfl <| .ld gt3 0 rfl rfl rfl <| .yy (ys_lss (.t rfl) Ev.c) rfl <| .mv rfl <| .z) fun a w S => st_yf S rfl rfl (Yr.ys (ys_fieldN (FieldT.mk underlying69 rfl sizeOf3 rfl) (.t rfl) (i' := 4) rfl)) rfl fun a w S => st_yf S rfl rfl (Yr.ys (ys_ld ⟨isAgg3, sizeOf3⟩ (Ev.g rfl) (k := 0) rfl rfl)) rfl fun a w S => st_yf S rfl rfl (Yr.ys (ys_gtr (Ev.g rfl) Ev.c)) rfl fun a w S => run S (.yy (ys_or (.t rfl) Ev.c (Ev.g rfl)) rfl <| .z) fun a w S => ?_)))))
    rw [rw_q] at S
    refine run S (.as rfl <| .z) fun a w S => st_nil (then_normal (hK2 _ _ (st_then S (.t rfl) (sg S (.ac rfl <| .z) fun a w S => wp_ret (in_ret (then_ret (st_ret S (results1 S results58 (Rv.tmp rfl)) ?_)))))))
    exact ⟨rfl, S.wd.below⟩
  have rw_q : (decide (x.qty < 1) || decide (1000000 < x.qty)) = false := by simp; omega
  cases rw_p : priceB x.price with
  | false =>
    have he : entE C (l.take k) x = 53 := by unfold entE; rw [if_neg (by simp [rw_n]), if_neg hq, if_pos rw_p]
    rw [he]
    refine enter2 func58 rfl ntmps58 rfl fun a S => wp_seq_k fun _ hK1 => wp_region_lit (st_m (op_box S (.t rfl) rfl fun g1 a w S => run S (.ac rfl <| .z) fun a w S => st_nil (then_normal (hK1 _ _ (wp_seq_k fun _ hK1 => wp_region_lit (run S (.fa underlying30 sizeOf24 0 rfl rfl rfl <| .ld gt24 0 rfl rfl rfl <| .mv rfl <| .ix underlying24 sizeOf69 (by omega) rfl rfl <| .yy (ys_ldOA ⟨isAgg69, sizeOf69⟩ (.t rfl) (vs := [_, _, _, _, _, _]) rfl (fun _ => hc)) rfl <| .z) fun a w S => st_m (op_alloc S zeroValue69 (cs := _) rfl rfl fun g2 a w S => st_m (op_stW S sizeOf69 (.t rfl) (.t rfl) (k := 0) rfl rfl rfl (by simp [Value.oneCell']) fun a w S => st_nil (then_normal (hK1 _ _ (wp_seq_k fun _ hK1 => wp_block (wp_seq_k fun _ hK2 => wp_region_lit (run S (.fa underlying69 sizeOf9 0 rfl rfl rfl <| .ld gt9 0 rfl rfl rfl <| .xx (ys_call call80 (.cons (.t rfl) .nil) (fun hp w W => c80 _ _)) rfl <| .z) fun a w S => ?_)))))))))))))
    rw [rw_n] at S
    refine run S (.nt rfl <| .as rfl <| .z) fun a w S => st_nil (then_normal (hK2 _ _ (st_else S (.t rfl) (sg S (.fa underlying69 sizeOf3 4 rfl rfl rfl <| .ld gt3 0 rfl rfl rfl <| .yy (ys_F (by omega) (ys_lss (.t rfl) Ev.c)) rfl <| .mv rfl <| .gy rfl rfl (ys_fieldN (FieldT.mk underlying69 rfl sizeOf3 rfl) (.t rfl) (i' := 4) rfl) <| .gy rfl rfl (ys_ld ⟨isAgg3, sizeOf3⟩ (.t rfl) (k := 0) rfl rfl) <| .gy rfl rfl (ys_F (by omega) (ys_gtr (.t rfl) Ev.c)) <| .yy (ys_pickF (.t rfl) (.t rfl)) rfl <| .as rfl <| .z) fun a w S => st_else S (.t rfl) (wp_seq_k fun _ hK2 => wp_region_lit (run S (.fa underlying69 sizeOf52 5 rfl rfl rfl <| .ld gt52 0 rfl rfl rfl <| .xx (ys_call call81 (.cons (.t rfl) .nil) (fun hp w W => c81 _ _)) rfl <| .z) fun a w S => ?_))))))
    rw [rw_p] at S
    refine run S (.nt rfl <| .as rfl <| .z) fun a w S => st_nil (then_normal (hK2 _ _ (st_then S (.t rfl) (sg S (.ac rfl <| .z) fun a w S => wp_ret (in_ret (then_ret (st_ret S (results1 S results58 (Rv.tmp rfl)) ?_)))))))
    exact ⟨rfl, S.wd.below⟩
  | true =>
  have he0 : entE C (l.take k) x = if C.covers x.dot = false ∨ backE (l.take k).getLast? x = true then 50 else if x.dot ∈ (l.take k).map (·.dot) then 50 else 0 := by unfold entE; rw [if_neg (by simp [rw_n]), if_neg hq, if_neg (by simp [rw_p])]
  cases rw_c : C.covers x.dot with
  | false =>
    rw [if_pos (.inl rw_c)] at he0
    rw [he0]
    have rw_c2 : C.covers ⟨x.dot.node, x.dot.life, x.dot.count⟩ = false := rw_c
    refine enter2 func58 rfl ntmps58 rfl fun a S => wp_seq_k fun _ hK1 => wp_region_lit (st_m (op_box S (.t rfl) rfl fun g1 a w S => run S (.ac rfl <| .z) fun a w S => st_nil (then_normal (hK1 _ _ (wp_seq_k fun _ hK1 => wp_region_lit (run S (.fa underlying30 sizeOf24 0 rfl rfl rfl <| .ld gt24 0 rfl rfl rfl <| .mv rfl <| .ix underlying24 sizeOf69 (by omega) rfl rfl <| .yy (ys_ldOA ⟨isAgg69, sizeOf69⟩ (.t rfl) (vs := [_, _, _, _, _, _]) rfl (fun _ => hc)) rfl <| .z) fun a w S => st_m (op_alloc S zeroValue69 (cs := _) rfl rfl fun g2 a w S => st_m (op_stW S sizeOf69 (.t rfl) (.t rfl) (k := 0) rfl rfl rfl (by simp [Value.oneCell']) fun a w S => st_nil (then_normal (hK1 _ _ (wp_seq_k fun _ hK1 => wp_block (wp_seq_k fun _ hK2 => wp_region_lit (run S (.fa underlying69 sizeOf9 0 rfl rfl rfl <| .ld gt9 0 rfl rfl rfl <| .xx (ys_call call80 (.cons (.t rfl) .nil) (fun hp w W => c80 _ _)) rfl <| .z) fun a w S => ?_)))))))))))))
    rw [rw_n] at S
    refine run S (.nt rfl <| .as rfl <| .z) fun a w S => st_nil (then_normal (hK2 _ _ (st_else S (.t rfl) (sg S (.fa underlying69 sizeOf3 4 rfl rfl rfl <| .ld gt3 0 rfl rfl rfl <| .yy (ys_F (by omega) (ys_lss (.t rfl) Ev.c)) rfl <| .mv rfl <| .gy rfl rfl (ys_fieldN (FieldT.mk underlying69 rfl sizeOf3 rfl) (.t rfl) (i' := 4) rfl) <| .gy rfl rfl (ys_ld ⟨isAgg3, sizeOf3⟩ (.t rfl) (k := 0) rfl rfl) <| .gy rfl rfl (ys_F (by omega) (ys_gtr (.t rfl) Ev.c)) <| .yy (ys_pickF (.t rfl) (.t rfl)) rfl <| .as rfl <| .z) fun a w S => st_else S (.t rfl) (wp_seq_k fun _ hK2 => wp_region_lit (run S (.fa underlying69 sizeOf52 5 rfl rfl rfl <| .ld gt52 0 rfl rfl rfl <| .xx (ys_call call81 (.cons (.t rfl) .nil) (fun hp w W => c81 _ _)) rfl <| .z) fun a w S => ?_))))))
    rw [rw_p] at S
    refine run S (.nt rfl <| .as rfl <| .z) fun a w S => st_nil (then_normal (hK2 _ _ (st_else S (.t rfl) (wp_seq_k fun _ hK2 => st_quiet S (by kernel_rfl) (by kernel_rfl) fun a S => qrun S (.fa underlying30 sizeOf28 1 rfl rfl rfl <| .la gt28 1 rfl rfl rfl <| .fa underlying69 sizeOf67 1 rfl rfl rfl <| .la gt67 0 rfl rfl rfl <| .xx (ys_call call82 (.cons (.t rfl) (.cons (.t rfl) .nil)) (fun hp w W => c82 _ _ _ _ _ _ _ (by exact .old W (by assumption)))) rfl <| .z) fun a S => ?_))))
    rw [rw_c] at S
    refine qrun S (.nt rfl <| .mv rfl <| .sk rfl rfl rfl <| .sk rfl rfl rfl <| .sk rfl rfl rfl <| .s0 rfl rfl <| .s0 rfl rfl <| .s0 rfl rfl <| .s0 rfl rfl <| .s0 rfl rfl <| .s0 rfl rfl <| .s0 rfl rfl <| .s0 rfl rfl <| .s0 rfl rfl <| .sk rfl rfl rfl <| .yy (ys_pickT (.t rfl) Ev.c) rfl <| .as rfl <| .z) fun a S => ?_
    (refine q_nil ?_; intro w W; replace S := St.mk S W; clear W)
    refine then_normal (hK2 _ _ (st_then S (.t rfl) (sg S (.ac rfl <| .z) fun a w S => wp_ret (in_ret (then_ret (st_ret S (results1 S results58 (Rv.tmp rfl)) ?_))))))
    exact ⟨rfl, S.wd.below⟩
  | true =>
  have rw_c2 : C.covers ⟨x.dot.node, x.dot.life, x.dot.count⟩ = true := rw_c
  rcases k with _ | k
  · have hnb : ¬ (C.covers x.dot = false ∨ backE (l.take 0).getLast? x = true) := by simp [rw_c, backE]
    refine enter2 func58 rfl ntmps58 rfl fun a S => wp_seq_k fun _ hK1 => wp_region_lit (st_m (op_box S (.t rfl) rfl fun g1 a w S => run S (.ac rfl <| .z) fun a w S => st_nil (then_normal (hK1 _ _ (wp_seq_k fun _ hK1 => wp_region_lit (run S (.fa underlying30 sizeOf24 0 rfl rfl rfl <| .ld gt24 0 rfl rfl rfl <| .mv rfl <| .yy (ys_ixS (j := 0) underlying24 sizeOf69 (.t rfl) (.t rfl) (fun _ => by omega)) rfl <| .yy (ys_ldOA ⟨isAgg69, sizeOf69⟩ (.t rfl) (vs := [_, _, _, _, _, _]) rfl (fun _ => hc)) rfl <| .z) fun a w S => st_m (op_alloc S zeroValue69 (cs := _) rfl rfl fun g2 a w S => st_m (op_stW S sizeOf69 (.t rfl) (.t rfl) (k := 0) rfl rfl rfl (by simp [Value.oneCell']) fun a w S => st_nil (then_normal (hK1 _ _ (wp_seq_k fun _ hK1 => wp_block (wp_seq_k fun _ hK2 => wp_region_lit (run S (.fa underlying69 sizeOf9 0 rfl rfl rfl <| .ld gt9 0 rfl rfl rfl <| .xx (ys_call call80 (.cons (.t rfl) .nil) (fun hp w W => c80 _ _)) rfl <| .z) fun a w S => ?_)))))))))))))
    rw [rw_n] at S
    refine run S (.nt rfl <| .as rfl <| .z) fun a w S => st_nil (then_normal (hK2 _ _ (st_else S (.t rfl) (sg S (.fa underlying69 sizeOf3 4 rfl rfl rfl <| .ld gt3 0 rfl rfl rfl <| .yy (ys_F (by omega) (ys_lss (.t rfl) Ev.c)) rfl <| .mv rfl <| .gy rfl rfl (ys_fieldN (FieldT.mk underlying69 rfl sizeOf3 rfl) (.t rfl) (i' := 4) rfl) <| .gy rfl rfl (ys_ld ⟨isAgg3, sizeOf3⟩ (.t rfl) (k := 0) rfl rfl) <| .gy rfl rfl (ys_F (by omega) (ys_gtr (.t rfl) Ev.c)) <| .yy (ys_pickF (.t rfl) (.t rfl)) rfl <| .as rfl <| .z) fun a w S => st_else S (.t rfl) (wp_seq_k fun _ hK2 => wp_region_lit (run S (.fa underlying69 sizeOf52 5 rfl rfl rfl <| .ld gt52 0 rfl rfl rfl <| .xx (ys_call call81 (.cons (.t rfl) .nil) (fun hp w W => c81 _ _)) rfl <| .z) fun a w S => ?_))))))
    rw [rw_p] at S
    refine run S (.nt rfl <| .as rfl <| .z) fun a w S => st_nil (then_normal (hK2 _ _ (st_else S (.t rfl) (wp_seq_k fun _ hK2 => st_quiet S (by kernel_rfl) (by kernel_rfl) fun a S => qrun S (.fa underlying30 sizeOf28 1 rfl rfl rfl <| .la gt28 1 rfl rfl rfl <| .fa underlying69 sizeOf67 1 rfl rfl rfl <| .la gt67 0 rfl rfl rfl <| .xx (ys_call call82 (.cons (.t rfl) (.cons (.t rfl) .nil)) (fun hp w W => c82 _ _ _ _ _ _ _ (by exact .old W (by assumption)))) rfl <| .z) fun a S => ?_))))
    rw [rw_c] at S
    refine qrun S (.nt rfl <| .mv rfl <| .gy rfl rfl (ys_move (.t rfl)) <| .gy rfl rfl (ys_F (by omega) (ys_gtr (.t rfl) Ev.c)) <| .gy rfl rfl (ys_move (.t rfl)) <| .sk rfl rfl rfl <| .sk rfl rfl rfl <| .sk rfl rfl rfl <| .sk rfl rfl rfl <| .sk rfl rfl rfl <| .sk rfl rfl rfl <| .sk rfl rfl rfl <| .sk rfl rfl rfl <| .sk rfl rfl rfl <| .gy rfl rfl (ys_pickF (.t rfl) Ev.c) <| .yy (ys_pickF (.t rfl) (.t rfl)) rfl <| .as rfl <| .z) fun a S => ?_
    (refine q_nil ?_; intro w W; replace S := St.mk S W; clear W)
    refine then_normal (hK2 _ _ (st_else S (.t rfl) (wp_skip (in_normal (then_normal (hK1 _ _ (wp_seq_k fun _ hK1 => sg S (.fa underlying30 sizeOf24 0 rfl rfl rfl <| .ld gt24 1 rfl rfl rfl <| .mv rfl <| .yy (ys_slHi underlying24 sizeOf69 (.t rfl) (.t rfl) (fun _ => by first | omega | (simp; done) | (simp; omega))) rfl <| .ln underlying24 rfl <| .mc rfl <| .z) fun a w S => wp_block ?_)))))))
    refine st_lpM S [7, 59] (X := Nat) (fun j => [(59, true, .int .i64 (j : Int))]) (fun _ => [.blk g2 (.cells (Ent.enc x).toArray 69), .blk g1 (.cells #[.slice (some ⟨g, o, none⟩) l.length cap, v2, v3] 30)])
      (fun j => j ≤ 0 ∧ x.dot ∉ (l.take j).map (·.dot)) (fun j => 0 - j) 0 ⟨Nat.zero_le _, by simp⟩ ?_
    clear S
    intro j a w ⟨hj, hdup⟩ S
    by_cases hjk : j < 0
    · obtain ⟨g3, o3, y, e3, hy, hdy, hcy⟩ := row_at hA (show j < l.length by omega)
      cases e3
      by_cases he : y.dot = x.dot
      · have hin : x.dot ∈ (l.take (0)).map (·.dot) := he ▸ dup_at hjk hy
        rw [if_neg hnb, if_pos hin] at he0
        rw [he0]
        have rw_e := decide_eq_true (dot_iff3.1 he)
        refine sg S (.lt (by omega) rfl rfl <| .z) fun a w S => wp_seq_k fun _ hK2 => st_then S (.t rfl) (wp_skip (then_normal (hK2 _ _ (wp_seq_k fun _ hK2 => wp_block (wp_seq_k fun _ hK3 => wp_region_lit (run S (.ix underlying24 sizeOf69 (by omega) rfl rfl <| .yy (ys_ldOA ⟨isAgg69, sizeOf69⟩ (.t rfl) (vs := [_, _, _, _, _, _]) rfl (fun _ => hcy)) rfl <| .z) fun a w S => st_m (op_alloc S zeroValue69 (cs := _) rfl rfl fun g3 a w S => st_m (op_stW S sizeOf69 (.t rfl) (.t rfl) (k := 0) rfl rfl rfl (by simp [Value.oneCell']) fun a w S => st_nil (then_normal (hK3 _ _ (wp_seq_k fun _ hK3 => wp_region_lit (run S (.fa underlying69 sizeOf67 1 rfl rfl rfl <| .la gt67 0 rfl rfl rfl <| .fa underlying69 sizeOf67 1 rfl rfl rfl <| .la gt67 1 rfl rfl rfl <| .yy (ys_eqA (.t rfl) (.t rfl) eq67) rfl <| .z) fun a w S => ?_))))))))))))
        rw [rw_e] at S
        refine st_nil (then_normal (hK3 _ _ (st_then S (.t rfl) (sg S (.ac rfl <| .z) fun a w S => wp_ret (in_ret (then_ret (then_ret (in_ret (then_ret (st_ret S (results1 S results58 (Rv.tmp rfl)) ?_))))))))))
        exact ⟨rfl, S.wd.below⟩
      · have rw_e := decide_eq_false (fun h => he (dot_iff3.2 h))
        refine sg S (.lt (by omega) rfl rfl <| .z) fun a w S => wp_seq_k fun _ hK2 => st_then S (.t rfl) (wp_skip (then_normal (hK2 _ _ (wp_seq_k fun _ hK2 => wp_block (wp_seq_k fun _ hK3 => wp_region_lit (run S (.ix underlying24 sizeOf69 (by omega) rfl rfl <| .yy (ys_ldOA ⟨isAgg69, sizeOf69⟩ (.t rfl) (vs := [_, _, _, _, _, _]) rfl (fun _ => hcy)) rfl <| .z) fun a w S => st_m (op_alloc S zeroValue69 (cs := _) rfl rfl fun g3 a w S => st_m (op_stW S sizeOf69 (.t rfl) (.t rfl) (k := 0) rfl rfl rfl (by simp [Value.oneCell']) fun a w S => st_nil (then_normal (hK3 _ _ (wp_seq_k fun _ hK3 => wp_region_lit (run S (.fa underlying69 sizeOf67 1 rfl rfl rfl <| .la gt67 0 rfl rfl rfl <| .fa underlying69 sizeOf67 1 rfl rfl rfl <| .la gt67 1 rfl rfl rfl <| .yy (ys_eqA (.t rfl) (.t rfl) eq67) rfl <| .z) fun a w S => ?_))))))))))))
        rw [rw_e] at S
        refine st_nil (then_normal (hK3 _ _ (st_else S (.t rfl) (wp_skip (in_normal (then_normal (hK2 _ _ (wp_region_lit (run S (.ad (by unfold I64; omega) rfl <| .mv rfl <| .z) fun a w S => st_nil (then_normal ?_))))))))))
        exact ⟨j + 1, ⟨by omega, dup_step hy hdup he⟩, by omega, S.pk⟩
    · obtain rfl : j = 0 := by omega
      rw [if_neg hnb, if_neg hdup] at he0
      refine sg S (.ge (by omega) rfl rfl <| .z) fun a w S => wp_seq_k fun _ hK2 => st_else S (.t rfl) (wp_exit (then_exit (then_exit (in_here (then_normal (hK1 _ _ (sg S (.ac rfl <| .z) fun a w S => wp_ret (st_ret S (results1 S results58 (Rv.tmp rfl)) ?_))))))))
      exact ⟨by rw [he0], S.wd.below⟩
  obtain ⟨g4, o4, p, e4, hp4, hdp, hcp⟩ := row_at hA (show k < l.length by omega)
  cases e4
  rw [take_last hp4] at he0
  have hmp : mayD p.dot = true := cov_may hC (hp p (List.mem_of_getElem? (i := k) (by rw [List.getElem?_take, if_pos (by omega), hp4])))
  have hmx : mayD x.dot = true := cov_may hC rw_c
  by_cases hlt2 : ltE p x
  · have hnb : ¬ (C.covers x.dot = false ∨ backE (some p) x = true) := by simp [rw_c, backE, hlt2]
    have rw_l : decide (0 ≤ ordE p x) = false := decide_eq_false (by have := (ordE_iff p x).2 hlt2; omega)
    refine enter2 func58 rfl ntmps58 rfl fun a S => wp_seq_k fun _ hK1 => wp_region_lit (st_m (op_box S (.t rfl) rfl fun g1 a w S => run S (.ac rfl <| .z) fun a w S => st_nil (then_normal (hK1 _ _ (wp_seq_k fun _ hK1 => wp_region_lit (run S (.fa underlying30 sizeOf24 0 rfl rfl rfl <| .ld gt24 0 rfl rfl rfl <| .mv rfl <| .ix underlying24 sizeOf69 (by omega) rfl rfl <| .yy (ys_ldOA ⟨isAgg69, sizeOf69⟩ (.t rfl) (vs := [_, _, _, _, _, _]) rfl (fun _ => hc)) rfl <| .z) fun a w S => st_m (op_alloc S zeroValue69 (cs := _) rfl rfl fun g2 a w S => st_m (op_stW S sizeOf69 (.t rfl) (.t rfl) (k := 0) rfl rfl rfl (by simp [Value.oneCell']) fun a w S => st_nil (then_normal (hK1 _ _ (wp_seq_k fun _ hK1 => wp_block (wp_seq_k fun _ hK2 => wp_region_lit (run S (.fa underlying69 sizeOf9 0 rfl rfl rfl <| .ld gt9 0 rfl rfl rfl <| .xx (ys_call call80 (.cons (.t rfl) .nil) (fun hp w W => c80 _ _)) rfl <| .z) fun a w S => ?_)))))))))))))
    rw [rw_n] at S
    refine run S (.nt rfl <| .as rfl <| .z) fun a w S => st_nil (then_normal (hK2 _ _ (st_else S (.t rfl) (sg S (.fa underlying69 sizeOf3 4 rfl rfl rfl <| .ld gt3 0 rfl rfl rfl <| .yy (ys_F (by omega) (ys_lss (.t rfl) Ev.c)) rfl <| .mv rfl <| .gy rfl rfl (ys_fieldN (FieldT.mk underlying69 rfl sizeOf3 rfl) (.t rfl) (i' := 4) rfl) <| .gy rfl rfl (ys_ld ⟨isAgg3, sizeOf3⟩ (.t rfl) (k := 0) rfl rfl) <| .gy rfl rfl (ys_F (by omega) (ys_gtr (.t rfl) Ev.c)) <| .yy (ys_pickF (.t rfl) (.t rfl)) rfl <| .as rfl <| .z) fun a w S => st_else S (.t rfl) (wp_seq_k fun _ hK2 => wp_region_lit (run S (.fa underlying69 sizeOf52 5 rfl rfl rfl <| .ld gt52 0 rfl rfl rfl <| .xx (ys_call call81 (.cons (.t rfl) .nil) (fun hp w W => c81 _ _)) rfl <| .z) fun a w S => ?_))))))
    rw [rw_p] at S
    refine run S (.nt rfl <| .as rfl <| .z) fun a w S => st_nil (then_normal (hK2 _ _ (st_else S (.t rfl) (wp_seq_k fun _ hK2 => st_quiet S (by kernel_rfl) (by kernel_rfl) fun a S => qrun S (.fa underlying30 sizeOf28 1 rfl rfl rfl <| .la gt28 1 rfl rfl rfl <| .fa underlying69 sizeOf67 1 rfl rfl rfl <| .la gt67 0 rfl rfl rfl <| .xx (ys_call call82 (.cons (.t rfl) (.cons (.t rfl) .nil)) (fun hp w W => c82 _ _ _ _ _ _ _ (by exact .old W (by assumption)))) rfl <| .z) fun a S => ?_))))
    rw [rw_c] at S
    refine qrun S (.nt rfl <| .mv rfl <| .gy rfl rfl (ys_move (.t rfl)) <| .gy rfl rfl (ys_T (by omega) (ys_gtr (.t rfl) Ev.c)) <| .gy rfl rfl (ys_move (.t rfl)) <| .gy rfl rfl (ys_fieldN (FieldT.mk underlying30 rfl sizeOf24 rfl) (.t rfl) (i' := 0) rfl) <| .gy rfl rfl (ys_ld ⟨isAgg24, sizeOf24⟩ (.t rfl) (k := 1) rfl rfl) <| .gy rfl rfl (ys_move (.t rfl)) <| .gy rfl rfl (ys_pred (.t rfl) Ev.c (by omega)) <| .gy rfl rfl (ys_ixS underlying24 sizeOf69 (.t rfl) (.t rfl) (fun _ => by omega)) <| .gy rfl rfl (ys_ldOA ⟨isAgg69, sizeOf69⟩ (.t rfl) (vs := [_, _, _, _, _, _]) rfl (fun _ => hcp)) <| .gy rfl rfl (ys_ldA ⟨isAgg69, sizeOf69⟩ (.t rfl) (k := 0) rfl rfl) <| .gx rfl rfl (ys_call call83 (.cons (.t rfl) (.cons (.t rfl) .nil)) (fun hp w W => c83 _ _ _ (by assumption) (by assumption))) <| .gy rfl rfl (ys_geq (.t rfl) Ev.c) <| .z) fun a S => ?_
    rw [rw_l] at S
    refine qrun S (.gy rfl rfl (ys_pickT (.t rfl) (.t rfl)) <| .yy (ys_pickF (.t rfl) (.t rfl)) rfl <| .as rfl <| .z) fun a S => ?_
    (refine q_nil ?_; intro w W; replace S := St.mk S W; clear W)
    refine then_normal (hK2 _ _ (st_else S (.t rfl) (wp_skip (in_normal (then_normal (hK1 _ _ (wp_seq_k fun _ hK1 => sg S (.fa underlying30 sizeOf24 0 rfl rfl rfl <| .ld gt24 1 rfl rfl rfl <| .mv rfl <| .yy (ys_slHi underlying24 sizeOf69 (.t rfl) (.t rfl) (fun _ => by first | omega | (simp; done) | (simp; omega))) rfl <| .ln underlying24 rfl <| .mc rfl <| .z) fun a w S => wp_block ?_)))))))
    refine st_lpM S [7, 59] (X := Nat) (fun j => [(59, true, .int .i64 (j : Int))]) (fun _ => [.blk g2 (.cells (Ent.enc x).toArray 69), .blk g1 (.cells #[.slice (some ⟨g, o, none⟩) l.length cap, v2, v3] 30)])
      (fun j => j ≤ (k + 1) ∧ x.dot ∉ (l.take j).map (·.dot)) (fun j => (k + 1) - j) 0 ⟨Nat.zero_le _, by simp⟩ ?_
    clear S
    intro j a w ⟨hj, hdup⟩ S
    by_cases hjk : j < (k + 1)
    · obtain ⟨g3, o3, y, e3, hy, hdy, hcy⟩ := row_at hA (show j < l.length by omega)
      cases e3
      by_cases he : y.dot = x.dot
      · have hin : x.dot ∈ (l.take ((k + 1))).map (·.dot) := he ▸ dup_at hjk hy
        rw [if_neg hnb, if_pos hin] at he0
        rw [he0]
        have rw_e := decide_eq_true (dot_iff3.1 he)
        refine sg S (.lt (by omega) rfl rfl <| .z) fun a w S => wp_seq_k fun _ hK2 => st_then S (.t rfl) (wp_skip (then_normal (hK2 _ _ (wp_seq_k fun _ hK2 => wp_block (wp_seq_k fun _ hK3 => wp_region_lit (run S (.ix underlying24 sizeOf69 (by omega) rfl rfl <| .yy (ys_ldOA ⟨isAgg69, sizeOf69⟩ (.t rfl) (vs := [_, _, _, _, _, _]) rfl (fun _ => hcy)) rfl <| .z) fun a w S => st_m (op_alloc S zeroValue69 (cs := _) rfl rfl fun g3 a w S => st_m (op_stW S sizeOf69 (.t rfl) (.t rfl) (k := 0) rfl rfl rfl (by simp [Value.oneCell']) fun a w S => st_nil (then_normal (hK3 _ _ (wp_seq_k fun _ hK3 => wp_region_lit (run S (.fa underlying69 sizeOf67 1 rfl rfl rfl <| .la gt67 0 rfl rfl rfl <| .fa underlying69 sizeOf67 1 rfl rfl rfl <| .la gt67 1 rfl rfl rfl <| .yy (ys_eqA (.t rfl) (.t rfl) eq67) rfl <| .z) fun a w S => ?_))))))))))))
        rw [rw_e] at S
        refine st_nil (then_normal (hK3 _ _ (st_then S (.t rfl) (sg S (.ac rfl <| .z) fun a w S => wp_ret (in_ret (then_ret (then_ret (in_ret (then_ret (st_ret S (results1 S results58 (Rv.tmp rfl)) ?_))))))))))
        exact ⟨rfl, S.wd.below⟩
      · have rw_e := decide_eq_false (fun h => he (dot_iff3.2 h))
        refine sg S (.lt (by omega) rfl rfl <| .z) fun a w S => wp_seq_k fun _ hK2 => st_then S (.t rfl) (wp_skip (then_normal (hK2 _ _ (wp_seq_k fun _ hK2 => wp_block (wp_seq_k fun _ hK3 => wp_region_lit (run S (.ix underlying24 sizeOf69 (by omega) rfl rfl <| .yy (ys_ldOA ⟨isAgg69, sizeOf69⟩ (.t rfl) (vs := [_, _, _, _, _, _]) rfl (fun _ => hcy)) rfl <| .z) fun a w S => st_m (op_alloc S zeroValue69 (cs := _) rfl rfl fun g3 a w S => st_m (op_stW S sizeOf69 (.t rfl) (.t rfl) (k := 0) rfl rfl rfl (by simp [Value.oneCell']) fun a w S => st_nil (then_normal (hK3 _ _ (wp_seq_k fun _ hK3 => wp_region_lit (run S (.fa underlying69 sizeOf67 1 rfl rfl rfl <| .la gt67 0 rfl rfl rfl <| .fa underlying69 sizeOf67 1 rfl rfl rfl <| .la gt67 1 rfl rfl rfl <| .yy (ys_eqA (.t rfl) (.t rfl) eq67) rfl <| .z) fun a w S => ?_))))))))))))
        rw [rw_e] at S
        refine st_nil (then_normal (hK3 _ _ (st_else S (.t rfl) (wp_skip (in_normal (then_normal (hK2 _ _ (wp_region_lit (run S (.ad (by unfold I64; omega) rfl <| .mv rfl <| .z) fun a w S => st_nil (then_normal ?_))))))))))
        exact ⟨j + 1, ⟨by omega, dup_step hy hdup he⟩, by omega, S.pk⟩
    · obtain rfl : j = (k + 1) := by omega
      rw [if_neg hnb, if_neg hdup] at he0
      refine sg S (.ge (by omega) rfl rfl <| .z) fun a w S => wp_seq_k fun _ hK2 => st_else S (.t rfl) (wp_exit (then_exit (then_exit (in_here (then_normal (hK1 _ _ (sg S (.ac rfl <| .z) fun a w S => wp_ret (st_ret S (results1 S results58 (Rv.tmp rfl)) ?_))))))))
      exact ⟨by rw [he0], S.wd.below⟩
  · rw [if_pos (.inr (by simp [backE, hlt2]))] at he0
    rw [he0]
    have rw_l : decide (0 ≤ ordE p x) = true := decide_eq_true (by have : ¬ ordE p x < 0 := fun h => hlt2 ((ordE_iff p x).1 h); omega)
    refine enter2 func58 rfl ntmps58 rfl fun a S => wp_seq_k fun _ hK1 => wp_region_lit (st_m (op_box S (.t rfl) rfl fun g1 a w S => run S (.ac rfl <| .z) fun a w S => st_nil (then_normal (hK1 _ _ (wp_seq_k fun _ hK1 => wp_region_lit (run S (.fa underlying30 sizeOf24 0 rfl rfl rfl <| .ld gt24 0 rfl rfl rfl <| .mv rfl <| .ix underlying24 sizeOf69 (by omega) rfl rfl <| .yy (ys_ldOA ⟨isAgg69, sizeOf69⟩ (.t rfl) (vs := [_, _, _, _, _, _]) rfl (fun _ => hc)) rfl <| .z) fun a w S => st_m (op_alloc S zeroValue69 (cs := _) rfl rfl fun g2 a w S => st_m (op_stW S sizeOf69 (.t rfl) (.t rfl) (k := 0) rfl rfl rfl (by simp [Value.oneCell']) fun a w S => st_nil (then_normal (hK1 _ _ (wp_seq_k fun _ hK1 => wp_block (wp_seq_k fun _ hK2 => wp_region_lit (run S (.fa underlying69 sizeOf9 0 rfl rfl rfl <| .ld gt9 0 rfl rfl rfl <| .xx (ys_call call80 (.cons (.t rfl) .nil) (fun hp w W => c80 _ _)) rfl <| .z) fun a w S => ?_)))))))))))))
    rw [rw_n] at S
    refine run S (.nt rfl <| .as rfl <| .z) fun a w S => st_nil (then_normal (hK2 _ _ (st_else S (.t rfl) (sg S (.fa underlying69 sizeOf3 4 rfl rfl rfl <| .ld gt3 0 rfl rfl rfl <| .yy (ys_F (by omega) (ys_lss (.t rfl) Ev.c)) rfl <| .mv rfl <| .gy rfl rfl (ys_fieldN (FieldT.mk underlying69 rfl sizeOf3 rfl) (.t rfl) (i' := 4) rfl) <| .gy rfl rfl (ys_ld ⟨isAgg3, sizeOf3⟩ (.t rfl) (k := 0) rfl rfl) <| .gy rfl rfl (ys_F (by omega) (ys_gtr (.t rfl) Ev.c)) <| .yy (ys_pickF (.t rfl) (.t rfl)) rfl <| .as rfl <| .z) fun a w S => st_else S (.t rfl) (wp_seq_k fun _ hK2 => wp_region_lit (run S (.fa underlying69 sizeOf52 5 rfl rfl rfl <| .ld gt52 0 rfl rfl rfl <| .xx (ys_call call81 (.cons (.t rfl) .nil) (fun hp w W => c81 _ _)) rfl <| .z) fun a w S => ?_))))))
    rw [rw_p] at S
    refine run S (.nt rfl <| .as rfl <| .z) fun a w S => st_nil (then_normal (hK2 _ _ (st_else S (.t rfl) (wp_seq_k fun _ hK2 => st_quiet S (by kernel_rfl) (by kernel_rfl) fun a S => qrun S (.fa underlying30 sizeOf28 1 rfl rfl rfl <| .la gt28 1 rfl rfl rfl <| .fa underlying69 sizeOf67 1 rfl rfl rfl <| .la gt67 0 rfl rfl rfl <| .xx (ys_call call82 (.cons (.t rfl) (.cons (.t rfl) .nil)) (fun hp w W => c82 _ _ _ _ _ _ _ (by exact .old W (by assumption)))) rfl <| .z) fun a S => ?_))))
    rw [rw_c] at S
    refine qrun S (.nt rfl <| .mv rfl <| .gy rfl rfl (ys_move (.t rfl)) <| .gy rfl rfl (ys_T (by omega) (ys_gtr (.t rfl) Ev.c)) <| .gy rfl rfl (ys_move (.t rfl)) <| .gy rfl rfl (ys_fieldN (FieldT.mk underlying30 rfl sizeOf24 rfl) (.t rfl) (i' := 0) rfl) <| .gy rfl rfl (ys_ld ⟨isAgg24, sizeOf24⟩ (.t rfl) (k := 1) rfl rfl) <| .gy rfl rfl (ys_move (.t rfl)) <| .gy rfl rfl (ys_pred (.t rfl) Ev.c (by omega)) <| .gy rfl rfl (ys_ixS underlying24 sizeOf69 (.t rfl) (.t rfl) (fun _ => by omega)) <| .gy rfl rfl (ys_ldOA ⟨isAgg69, sizeOf69⟩ (.t rfl) (vs := [_, _, _, _, _, _]) rfl (fun _ => hcp)) <| .gy rfl rfl (ys_ldA ⟨isAgg69, sizeOf69⟩ (.t rfl) (k := 0) rfl rfl) <| .gx rfl rfl (ys_call call83 (.cons (.t rfl) (.cons (.t rfl) .nil)) (fun hp w W => c83 _ _ _ (by assumption) (by assumption))) <| .gy rfl rfl (ys_geq (.t rfl) Ev.c) <| .z) fun a S => ?_
    rw [rw_l] at S
    refine qrun S (.gy rfl rfl (ys_pickT (.t rfl) (.t rfl)) <| .yy (ys_pickF (.t rfl) (.t rfl)) rfl <| .as rfl <| .z) fun a S => ?_
    (refine q_nil ?_; intro w W; replace S := St.mk S W; clear W)
    refine then_normal (hK2 _ _ (st_then S (.t rfl) (sg S (.ac rfl <| .z) fun a w S => wp_ret (in_ret (then_ret (st_ret S (results1 S results58 (Rv.tmp rfl)) ?_))))))
    exact ⟨rfl, S.wd.below⟩
theorem c22 (w0 : World) (v1 v2 v3 : Value) (c : Cart) (h : Sl Ent.enc 6 w0 w0.heap.size v1 c.ents) (hr : RdCtx w0 w0.heap.size v2 v3 c.ctx) :
    Calls Try.prog 22 #[.agg #[v1, v2, v3]] w0 fun e w' => e = .returned (.int .i64 (canE c)) ∧ Bel w0.heap.size w0 w' := by
  obtain ⟨l, C⟩ := c
  dsimp only at h hr
  have hs := h
  obtain ⟨A, cap, rfl, hl, hcap, hA⟩ := h
  unfold canE
  dsimp only
  cases rw_C : canL C with
  | false =>
    refine enter1 func22 rfl ntmps22 rfl fun a S => wp_seq_k fun _ hK1 => wp_region_lit (st_m (op_box S (.t rfl) rfl fun g1 a w S => run S (.ac rfl <| .z) fun a w S => st_nil (then_normal (hK1 _ _ (wp_seq_k fun _ hK1 => wp_block (wp_seq_k fun _ hK2 => wp_region_lit (run S (.fa underlying30 sizeOf28 1 rfl rfl rfl <| .la gt28 0 rfl rfl rfl <| .xx (ys_call call57 (.cons (.t rfl) .nil) (fun hp w W => c57 _ _ _ _ (by exact .old W (by assumption)))) rfl <| .z) fun a w S => ?_)))))))
    rw [rw_C] at S
    refine run S (.nt rfl <| .as rfl <| .z) fun a w S => st_nil (then_normal (hK2 _ _ (st_then S (.t rfl) (sg S (.ac rfl <| .z) fun a w S => wp_ret (in_ret (then_ret (st_ret S (results1 S results22 (Rv.tmp rfl)) ?_)))))))
    exact ⟨rfl, S.wd.below⟩
  | true =>
  rw [if_neg (by simp)]
  by_cases hbig : 64 < l.length
  · refine enter1 func22 rfl ntmps22 rfl fun a S => wp_seq_k fun _ hK1 => wp_region_lit (st_m (op_box S (.t rfl) rfl fun g1 a w S => run S (.ac rfl <| .z) fun a w S => st_nil (then_normal (hK1 _ _ (wp_seq_k fun _ hK1 => wp_block (wp_seq_k fun _ hK2 => wp_region_lit (run S (.fa underlying30 sizeOf28 1 rfl rfl rfl <| .la gt28 0 rfl rfl rfl <| .xx (ys_call call57 (.cons (.t rfl) .nil) (fun hp w W => c57 _ _ _ _ (by exact .old W (by assumption)))) rfl <| .z) fun a w S => ?_)))))))
    rw [rw_C] at S
    refine run S (.nt rfl <| .as rfl <| .z) fun a w S => st_nil (then_normal (hK2 _ _ (st_else S (.t rfl) (sg S (.fa underlying30 sizeOf24 0 rfl rfl rfl <| .ld gt24 0 rfl rfl rfl <| .ln underlying24 rfl <| .yy (ys_T (by omega) (ys_gtr (.t rfl) Ev.c)) rfl <| .as rfl <| .z) fun a w S => st_then S (.t rfl) (sg S (.ac rfl <| .z) fun a w S => wp_ret (in_ret (then_ret (st_ret S (results1 S results22 (Rv.tmp rfl)) ?_))))))))
    exact ⟨by rw [if_pos hbig], S.wd.below⟩
  rw [if_neg hbig]
  refine enter1 func22 rfl ntmps22 rfl fun a S => wp_seq_k fun _ hK1 => wp_region_lit (st_m (op_box S (.t rfl) rfl fun g1 a w S => run S (.ac rfl <| .z) fun a w S => st_nil (then_normal (hK1 _ _ (wp_seq_k fun _ hK1 => wp_block (wp_seq_k fun _ hK2 => wp_region_lit (run S (.fa underlying30 sizeOf28 1 rfl rfl rfl <| .la gt28 0 rfl rfl rfl <| .xx (ys_call call57 (.cons (.t rfl) .nil) (fun hp w W => c57 _ _ _ _ (by exact .old W (by assumption)))) rfl <| .z) fun a w S => ?_)))))))
  rw [rw_C] at S
  refine run S (.nt rfl <| .as rfl <| .z) fun a w S => st_nil (then_normal (hK2 _ _ (st_else S (.t rfl) (sg S (.fa underlying30 sizeOf24 0 rfl rfl rfl <| .ld gt24 0 rfl rfl rfl <| .ln underlying24 rfl <| .yy (ys_F (by omega) (ys_gtr (.t rfl) Ev.c)) rfl <| .as rfl <| .z) fun a w S => st_else S (.t rfl) (wp_skip (in_normal (then_normal (hK1 _ _ (wp_seq_k fun _ hK1 => sg S (.fa underlying30 sizeOf24 0 rfl rfl rfl <| .ld gt24 0 rfl rfl rfl <| .ln underlying24 rfl <| .mc rfl <| .z) fun a w S => wp_block ?_)))))))))
  refine st_lpM S [3, 4, 18] (X := Nat) (fun k => [(18, true, .int .i64 (k : Int))]) (fun _ => [.blk g1 (.cells #[.slice A l.length cap, v2, v3] 30)])
    (fun k => k ≤ l.length ∧ (∀ y ∈ l.take k, C.covers y.dot = true) ∧ entsE C (l.take k) (l.drop k) = entsE C [] l) (fun k => l.length - k) 0 ⟨Nat.zero_le _, by simp, rfl⟩ ?_
  clear S
  intro k a w ⟨hk, hcov, hno⟩ S
  by_cases hlt : k < l.length
  rotate_left
  · obtain rfl : k = l.length := by omega
    rw [List.drop_length, entsE] at hno
    by_cases hi : 32 < itemsN l
    · refine sg S (.ge (by omega) rfl rfl <| .z) fun a w S => wp_seq_k fun _ hK2 => st_else S (.t rfl) (wp_exit (then_exit (then_exit (in_here (then_normal (hK1 _ _ (wp_seq_k fun _ hK1 => sg S (.fa underlying30 sizeOf24 0 rfl rfl rfl <| .ld gt24 0 rfl rfl rfl <| .xx (ys_call call59 (.cons (.t rfl) .nil) (fun hp w W => c59 _ _ _ (by exact .old W (by assumption)) (by omega))) rfl <| .yy (ys_T (by omega) (ys_gtr (.t rfl) Ev.c)) rfl <| .z) fun a w S => st_then S (.t rfl) (sg S (.ac rfl <| .z) fun a w S => wp_ret (then_ret (st_ret S (results1 S results22 (Rv.tmp rfl)) ?_))))))))))
      exact ⟨by rw [if_pos hno.symm, if_pos hi], S.wd.below⟩
    · refine sg S (.ge (by omega) rfl rfl <| .z) fun a w S => wp_seq_k fun _ hK2 => st_else S (.t rfl) (wp_exit (then_exit (then_exit (in_here (then_normal (hK1 _ _ (wp_seq_k fun _ hK1 => sg S (.fa underlying30 sizeOf24 0 rfl rfl rfl <| .ld gt24 0 rfl rfl rfl <| .xx (ys_call call59 (.cons (.t rfl) .nil) (fun hp w W => c59 _ _ _ (by exact .old W (by assumption)) (by omega))) rfl <| .yy (ys_F (by omega) (ys_gtr (.t rfl) Ev.c)) rfl <| .z) fun a w S => st_else S (.t rfl) (wp_skip (then_normal (hK1 _ _ (sg S (.ac rfl <| .z) fun a w S => wp_ret (st_ret S (results1 S results22 (Rv.tmp rfl)) ?_))))))))))))
      exact ⟨by rw [if_pos hno.symm, if_neg hi], S.wd.below⟩
  obtain ⟨x, hx⟩ : ∃ x, l[k]? = some x := ⟨_, List.getElem?_eq_getElem hlt⟩
  have hst := ents_step (C := C) hx
  rw [hno] at hst
  by_cases he : entE C (l.take k) x = 0
  · have hcx := (entE_ok.1 he).1.cov
    rw [if_pos he] at hst
    have rw_e := he
    refine sg S (.lt (by omega) rfl rfl <| .z) fun a w S => wp_seq_k fun _ hK2 => st_then S (.t rfl) (wp_skip (then_normal (hK2 _ _ (wp_seq_k fun _ hK2 => wp_block (sg S (.mv rfl <| .as rfl <| .z) fun a w S => wp_seq_k fun _ hK3 => wp_region_lit (run S (.la gt30 0 rfl rfl rfl <| .mv rfl <| .xx (ys_call call58 (.cons (.t rfl) (.cons (.t rfl) .nil)) (fun hp w W => c58 _ _ _ _ _ _ _ _ (by exact .old W (by assumption)) (by exact .old W (by assumption)) (by assumption) (by assumption) (by assumption) (by omega))) rfl <| .z) fun a w S => ?_))))))
    rw [rw_e] at S
    refine run S (.as rfl <| .z) fun a w S => st_nil (then_normal (hK3 _ _ (sg S (.mv rfl <| .yy (ys_F (by omega) (ys_neq (.t rfl) Ev.c)) rfl <| .z) fun a w S => st_else S (.t rfl) (wp_skip (in_normal (then_normal (hK2 _ _ (wp_region_lit (run S (.ad (by unfold I64; omega) rfl <| .mv rfl <| .z) fun a w S => st_nil (then_normal ?_))))))))))
    refine ⟨k + 1, ⟨by omega, fun y hy => ?_, hst.symm⟩, by omega, S.pk⟩
    rw [List.take_add_one, hx, Option.toList_some] at hy
    rcases List.mem_append.1 hy with hy | hy
    · exact hcov y hy
    · simp at hy; exact hy ▸ hcx
  · rw [if_neg he] at hst
    refine sg S (.lt (by omega) rfl rfl <| .z) fun a w S => wp_seq_k fun _ hK2 => st_then S (.t rfl) (wp_skip (then_normal (hK2 _ _ (wp_seq_k fun _ hK2 => wp_block (sg S (.mv rfl <| .as rfl <| .z) fun a w S => sg S (.la gt30 0 rfl rfl rfl <| .mv rfl <| .xx (ys_call call58 (.cons (.t rfl) (.cons (.t rfl) .nil)) (fun hp w W => c58 _ _ _ _ _ _ _ _ (by exact .old W (by assumption)) (by exact .old W (by assumption)) (by assumption) (by assumption) (by assumption) (by omega))) rfl <| .as rfl <| .z) fun a w S => sg S (.mv rfl <| .yy (ys_T (by omega) (ys_neq (.t rfl) Ev.c)) rfl <| .z) fun a w S => st_then S (.t rfl) (sg S (.mv rfl <| .as rfl <| .z) fun a w S => wp_ret (in_ret (then_ret (then_ret (in_ret (then_ret (st_ret S (results1 S results22 (Rv.tmp rfl)) ?_))))))))))))
    exact ⟨by rw [hst, if_neg he], S.wd.below⟩
end Go.Proofs.Ytakpdbmdfnialaa
set_option linter.unusedVariables false
set_option linter.unusedSimpArgs false
set_option maxRecDepth 100000
set_option maxHeartbeats 4000000
namespace Go.Fw
abbrev Upd.enc (u : Upd) (v1 v2 v3 : Value) : List Value := [.string (bs u.key), .int .i64 u.dot.node, .int .i64 u.dot.life, .int .i64 u.dot.count, .string (bs u.item), .int .i64 u.qty, .int .u64 (u.price.toNat : Int), v1, v2, v3]
theorem can_ctx {c : Cart} (h : canE c = 0) : canL c.ctx = true := ((canE_ok c).1 h).ctx
end Go.Fw
namespace Go.Proofs.Ytakpdbmdfnialaa
open Go.Fw Go.Proofs Go.RowKit Go.Proofs.Try
theorem sl_y1 {w0 w : World} {L : List Chunk} {k g : Nat} {t : TypeId} {fr : Nat × Nat} {x y z : Int} (W : Wd w0 L w) (hk : L[k]? = some (.blk g (.cells #[.int .i64 x, .int .i64 y, .int .i64 z] t fr))) : Sl Dot.enc 3 w w.heap.size (.slice (some ⟨g, 0, none⟩) 1 1) [⟨x, y, z⟩] := by
  refine ⟨some ⟨g, 0, none⟩, 1, rfl, by simp, by simp, fun _ => ⟨g, 0, rfl, ((W.get hk).lt (b := g) rfl).2, fun i d hd j u hj => ?_⟩⟩
  have h2 := (W.get hk).2
  rcases i with _ | i
  · simp at hd
    subst hd
    rw [cell_of_row w g (0 + 0 * 3 + j) _ t fr h2]
    simpa [Dot.enc] using hj
  · simp at hd
end Go.Proofs.Ytakpdbmdfnialaa
set_option linter.unusedVariables false
set_option linter.unusedSimpArgs false
set_option maxRecDepth 100000
namespace Go.Proofs.Ytakpdbmdfnialaa
open Go.Fw Go.Proofs Go.RowKit Go.ChangeShapes Go.WideShapes Go.ChangeAt Go.Deep Go.Joins Go.Proofs.Try
section
variable {H : Type} {enc : TypeId × Value → H} {w : World}
theorem Rdr.dot {t : TypeId} {i1 i2 i3 : TypeId} {k : IntKind} {f1 f2 f3 : Field} (ht : Try.prog.underlying t = some (.struct #[f1, f2, f3])) (ho : offs Try.prog [f1, f2, f3] 0 (Try.prog.cellsOf t) = true) (h1 : Try.prog.underlying f1.type = some (.int .i64)) (h2 : Try.prog.underlying f2.type = some (.int .i64)) (h3 : Try.prog.underlying f3.type = some (.int .i64)) :
    Rdr enc Try.prog w t fun cs _ => ∃ d : Dot, cs = Dot.enc d ∧ True := by
  refine (Rdr.struct ht ho (.cons (Rdr.int h1) (.cons (Rdr.int h2) (.cons (Rdr.int h3) .nil)))).mono ?_
  rintro cs b ⟨_, _, rfl, ⟨_, _, x, rfl, _⟩, _, _, rfl, ⟨_, _, y, rfl, _⟩, _, _, rfl, ⟨_, _, z, rfl, _⟩, rfl⟩
  exact ⟨⟨x, y, z⟩, rfl, trivial⟩
theorem rdDot : Rdr enc Try.prog w 67 fun cs _ => ∃ d : Dot, cs = Dot.enc d ∧ True := Rdr.dot (i1 := 0) (i2 := 0) (i3 := 0) (k := .i64) underlying67 (by kernel_rfl) underlying3 underlying3 underlying3
theorem rdMark : Rdr enc Try.prog w 23 fun cs _ => ∃ d : Dot, cs = Dot.enc d ∧ True := Rdr.dot (i1 := 0) (i2 := 0) (i3 := 0) (k := .i64) underlying23 (by kernel_rfl) underlying3 underlying3 underlying3
theorem u64_wf {n : Int} (h : (Lit.int .u64 n).wf = true) : ∃ p : UInt64, n = (p.toNat : Int) := by
  simp only [Lit.wf, IntKind.min, IntKind.max, IntKind.signed, IntKind.bits, Bool.and_eq_true, decide_eq_true_eq, Bool.false_eq_true, if_false] at h
  have h2 : n.toNat < 18446744073709551616 := by omega
  refine ⟨UInt64.ofNat n.toNat, ?_⟩
  rw [UInt64.toNat_ofNat', Nat.mod_eq_of_lt h2]
  omega
theorem rdEnt : Rdr enc Try.prog w 69 fun cs b => ∃ x : Ent, cs = Ent.enc x ∧ x.item.length ≤ b := by
  refine (Rdr.struct underlying69 (by kernel_rfl) (.cons (Rdr.str underlying9) (.cons rdDot (.cons (Rdr.int underlying3) (.cons (Rdr.int underlying52) .nil))))).mono ?_
  rintro cs b ⟨_, _, rfl, ⟨_, hb, s, rfl, hs⟩, _, _, rfl, ⟨_, _, d, rfl, _⟩, _, _, rfl, ⟨_, _, q, rfl, _⟩, _, _, rfl, ⟨_, _, n, rfl, hn⟩, rfl⟩
  obtain ⟨p, rfl⟩ := u64_wf hn
  exact ⟨⟨s, d, q, p⟩, rfl, by dsimp only; omega⟩
theorem rdCtx : Rdr enc Try.prog w 28 fun cs b => ∃ v2 v3 C, cs = [v2, v3] ∧ RdCtx w w.heap.size v2 v3 C ∧ C.marks.length + 1 ≤ b ∧ C.cloud.length + 1 ≤ b := by
  refine (Rdr.struct underlying28 (by kernel_rfl) (.cons (Rdr.slice (k := 3) underlying25 (by kernel_rfl) rfl (fun _ => rfl) rdMark) (.cons (Rdr.slice (k := 3) underlying26 (by kernel_rfl) rfl (fun _ => rfl) rdDot) .nil))).mono ?_
  rintro cs b ⟨_, _, rfl, ⟨_, hb, v, m, rfl, hm, hm1, _⟩, _, _, rfl, ⟨_, hb', v', d, rfl, hd, hd1, _⟩, rfl⟩
  exact ⟨v, v', ⟨m, d⟩, rfl, ⟨hm, hd⟩, by dsimp only; omega, by dsimp only; omega⟩
structure RdCart (w : World) (v1 v2 v3 : Value) (X : Cart) (b : Nat) : Prop where
  ents : Sl Ent.enc 6 w w.heap.size v1 X.ents
  ctx : RdCtx w w.heap.size v2 v3 X.ctx
  l1 : X.ents.length + 1 ≤ b
  l2 : X.ctx.marks.length + 1 ≤ b
  l3 : X.ctx.cloud.length + 1 ≤ b
  items : ∀ x ∈ X.ents, x.item.length ≤ b
theorem rdCart : Rdr enc Try.prog w 30 fun cs b => ∃ v1 v2 v3 X, cs = [v1, v2, v3] ∧ RdCart w v1 v2 v3 X b := by
  refine (Rdr.struct underlying30 (by kernel_rfl) (.cons (Rdr.slice (k := 6) underlying24 (by kernel_rfl) rfl (fun _ => rfl) rdEnt) (.cons rdCtx .nil))).mono ?_
  rintro cs b ⟨_, _, rfl, ⟨_, hb, v, l, rfl, hl, hl1, hli⟩, _, _, rfl, ⟨_, hb', v2, v3, C, rfl, hC, h1, h2⟩, rfl⟩
  exact ⟨v, v2, v3, ⟨l, C⟩, rfl, hl, hC, by dsimp only; omega, by dsimp only; omega, by dsimp only; omega, fun x hx => by obtain ⟨b', h3, h4⟩ := hli x hx; omega⟩
end
end Go.Proofs.Ytakpdbmdfnialaa
set_option linter.unusedVariables false
set_option linter.unusedSimpArgs false
namespace Go.Fw
open Go.RowKit
structure Play where
  st : List Cart
  up : List Upd
  ct : List Int
def Play.start : Play := ⟨[], [], List.replicate 8 0⟩
end Go.Fw
set_option linter.unusedVariables false
set_option linter.unusedSimpArgs false
namespace Go.Fw
open Go.RowKit
theorem items_tri (p : Option (List UInt8)) (a : List UInt8) (l : List Ent) : itemsFrom p l ≤ (if p = some a then 0 else 1) + itemsFrom (some a) l := by
  cases l with
  | nil => simp [itemsFrom]
  | cons e r =>
    rw [itemsFrom, itemsFrom]
    by_cases h1 : p = some a
    · rw [h1]; omega
    · rw [if_neg h1]; split <;> omega
theorem items_sub {s l : List Ent} (h : s.Sublist l) : ∀ p, itemsFrom p s ≤ itemsFrom p l := by
  induction h with
  | slnil => exact fun _ => Nat.le_refl _
  | cons a _ ih => intro p; rw [itemsFrom]; exact Nat.le_trans (items_tri p a.item _) (Nat.add_le_add_left (ih _) _)
  | cons_cons a _ ih => intro p; rw [itemsFrom, itemsFrom]; exact Nat.add_le_add_left (ih _) _
theorem prune_ok {c : Cart} (h : CartOk c) (p q : Int) : CartOk (pruneK c p q) := by
  refine ⟨prune_can (can_nf h.ctx) (can_len h.ctx).1 (can_len h.ctx).2 p q, Nat.le_trans (List.length_filter_le _ _) h.len, fun e he => ?_, h.order.filter _, ?_, ?_⟩
  · obtain ⟨h1, h2⟩ := List.mem_filter.1 he
    obtain ⟨k1, k2, k3, k4⟩ := h.each e h1
    refine ⟨k1, k2, k3, ?_⟩
    show (c.ctx.prune p q).covers e.dot = true
    rw [prune_covers, k4]
    exact h2
  · exact (List.Sublist.map _ (List.filter_sublist ..)).nodup h.dots
  · exact Nat.le_trans (items_sub (List.filter_sublist ..) none) h.items
end Go.Fw
set_option linter.unusedVariables false
set_option linter.unusedSimpArgs false
namespace Go.Fw
open Go.RowKit
structure Gon where
  key : List UInt8
  dt : Dot
deriving DecidableEq
abbrev Gon.enc (x : Gon) : List Value := [.string (bs x.key), .int .i64 x.dt.node, .int .i64 x.dt.life, .int .i64 x.dt.count]
theorem Gon.enc_len (x : Gon) : (Gon.enc x).length = 4 := rfl
theorem Gon.enc_one (x : Gon) : ∀ u ∈ Gon.enc x, u.oneCell' = true := fun u hu => by simp [Gon.enc] at hu; rcases hu with rfl | rfl | rfl | rfl <;> rfl
theorem Gon.mkEnc {s : List UInt8} {x y z : Int} : [Value.string (bs s), .int .i64 x, .int .i64 y, .int .i64 z] = Gon.enc ⟨s, ⟨x, y, z⟩⟩ := rfl
def ltG (a b : Gon) : Prop := Op.bytesLess a.key b.key = true ∨ (a.key = b.key ∧ ltM a.dt b.dt)
def sameG (a b : Gon) : Prop := a.key = b.key ∧ a.dt.node = b.dt.node ∧ a.dt.life = b.dt.life
instance (a b : Gon) : Decidable (ltG a b) := by unfold ltG ltM; infer_instance
instance (a b : Gon) : Decidable (sameG a b) := by unfold sameG; infer_instance
theorem ltM_irr (a : Dot) : ¬ ltM a a := by unfold ltM; omega
theorem ltG_irr (a : Gon) : ¬ ltG a a := by
  rintro (h | ⟨_, h⟩)
  · rw [less_irr] at h; cases h
  · exact ltM_irr _ h
theorem ltG_trans {a b c : Gon} (h : ltG a b) (h' : ltG b c) : ltG a c := by
  rcases h with h | ⟨e, h⟩
  · rcases h' with h' | ⟨e', h'⟩
    · exact .inl (less_trans h h')
    · exact .inl (by rw [← e']; exact h)
  · rcases h' with h' | ⟨e', h'⟩
    · exact .inl (by rw [e]; exact h')
    · exact .inr ⟨e.trans e', ltM_trans h h'⟩
theorem ltG_asymm {a b : Gon} (h : ltG a b) : ¬ ltG b a := fun h' => ltG_irr _ (ltG_trans h h')
theorem ltG_total {a b : Gon} (h : ¬ sameG a b) : ltG a b ∨ ltG b a := by
  by_cases e : a.key = b.key
  · have hn : ¬ (a.dt.node = b.dt.node ∧ a.dt.life = b.dt.life) := fun h' => h ⟨e, h'⟩
    have : ltM a.dt b.dt ∨ ltM b.dt a.dt := by unfold ltM; omega
    rcases this with h | h
    · exact .inl (.inr ⟨e, h⟩)
    · exact .inr (.inr ⟨e.symm, h⟩)
  · rcases less_total e with h | h
    · exact .inl (.inl h)
    · exact .inr (.inl h)
theorem ltG_not_same {a b : Gon} (h : ltG a b) : ¬ sameG a b := by
  rintro ⟨h1, h2, h3⟩
  rcases h with h | ⟨_, h⟩
  · exact less_ne h h1
  · unfold ltM at h; omega
theorem sameG_symm {a b : Gon} (h : sameG a b) : sameG b a := ⟨h.1.symm, h.2.1.symm, h.2.2.symm⟩
def ordG (a b : Gon) : Int := if ltG a b then -1 else if sameG a b then 0 else 1
theorem ordG_lt {a b : Gon} : ordG a b < 0 ↔ ltG a b := by
  unfold ordG
  by_cases h : ltG a b
  · simp [h]
  · rw [if_neg h]; split <;> simp [h]
theorem ordG_eq {a b : Gon} : ordG a b = 0 ↔ sameG a b := by
  unfold ordG
  by_cases h : ltG a b
  · simp [h, ltG_not_same h]
  · rw [if_neg h]; split <;> simp_all
def insG (e : Gon) : List Gon → List Gon
  | [] => [e]
  | x :: r => if ltG e x then e :: x :: r else x :: insG e r
theorem insG_mem {e x : Gon} : ∀ {l : List Gon}, x ∈ insG e l ↔ x = e ∨ x ∈ l
  | [] => by simp [insG]
  | y :: r => by
    rw [insG]
    split
    · simp
    · rw [List.mem_cons, insG_mem, List.mem_cons]
      constructor
      · rintro (h | h | h) <;> simp [h]
      · rintro (h | h | h) <;> simp [h]
theorem insG_len (e : Gon) : ∀ (l : List Gon), (insG e l).length = l.length + 1
  | [] => rfl
  | x :: r => by
    rw [insG]
    split
    · rfl
    · rw [List.length_cons, insG_len e r]; rfl
theorem insG_sorted {e : Gon} : ∀ {l : List Gon}, l.Pairwise ltG → (∀ x ∈ l, ¬ sameG x e) → (insG e l).Pairwise ltG
  | [], _, _ => List.pairwise_singleton ..
  | x :: r, h, hn => by
    rw [List.pairwise_cons] at h
    rw [insG]
    split
    · rename_i he
      refine List.Pairwise.cons (fun y hy => ?_) (List.Pairwise.cons h.1 h.2)
      rcases List.mem_cons.1 hy with rfl | hy
      · exact he
      · exact ltG_trans he (h.1 y hy)
    · rename_i he
      refine List.Pairwise.cons (fun y hy => ?_) (insG_sorted h.2 fun y hy => hn y (by simp [hy]))
      rcases insG_mem.1 hy with rfl | hy
      · exact (ltG_total (hn x (by simp))).resolve_right he
      · exact h.1 y hy
def posG (l : List Gon) (e : Gon) : Nat := (l.takeWhile fun x => decide (ltG x e)).length
theorem posG_le (l : List Gon) (e : Gon) : posG l e ≤ l.length := (List.takeWhile_sublist _).length_le
theorem posG_lt {e : Gon} : ∀ {l : List Gon}, l.Pairwise ltG → ∀ (k : Nat) (x : Gon), l[k]? = some x → (ltG x e ↔ k < posG l e)
  | [], _, k, x, h => by simp at h
  | y :: r, hs, k, x, h => by
    rw [List.pairwise_cons] at hs
    unfold posG
    by_cases hy : ltG y e
    · rw [List.takeWhile_cons, if_pos (by simpa using hy), List.length_cons]
      cases k with
      | zero => simp at h; subst h; simp [hy]
      | succ k =>
        have ih := posG_lt (e := e) hs.2 k x (by simpa using h)
        unfold posG at ih
        rw [ih]; omega
    · rw [List.takeWhile_cons, if_neg (by simpa using hy)]
      cases k with
      | zero => simp at h; subst h; simp [hy]
      | succ k =>
        have hx : x ∈ r := List.mem_of_getElem? (by simpa using h)
        simp only [List.length_nil, Nat.not_lt_zero, iff_false]
        exact fun h' => hy (ltG_trans (hs.1 x hx) h')
def hasG (l : List Gon) (e : Gon) : Bool := match l[posG l e]? with
  | some x => decide (sameG x e)
  | none => false
theorem any_hasG {e : Gon} : ∀ {l : List Gon}, l.Pairwise ltG → hasG l e = l.any fun x => decide (sameG x e)
  | [], _ => rfl
  | y :: r, hs => by
    have hs' := List.pairwise_cons.1 hs
    have ih := any_hasG (e := e) hs'.2
    rw [List.any_cons]
    by_cases hy : ltG y e
    · have e1 : posG (y :: r) e = posG r e + 1 := by unfold posG; rw [List.takeWhile_cons, if_pos (by simpa using hy)]; rfl
      have e2 : hasG (y :: r) e = hasG r e := by unfold hasG; rw [e1]; rfl
      rw [e2, ih, decide_eq_false (ltG_not_same hy), Bool.false_or]
    · have e1 : posG (y :: r) e = 0 := by unfold posG; rw [List.takeWhile_cons, if_neg (by simpa using hy)]; rfl
      have e2 : hasG (y :: r) e = decide (sameG y e) := by unfold hasG; rw [e1]; rfl
      rw [e2]
      by_cases hq : sameG y e
      · simp [hq]
      · rw [decide_eq_false hq, Bool.false_or, eq_comm, List.any_eq_false]
        intro x hx h
        have h := of_decide_eq_true h
        have hlt := hs'.1 x hx
        rcases ltG_total hq with h1 | h1
        · exact hy h1
        · exact ltG_not_same (ltG_trans h1 hlt) (sameG_symm h)
theorem insG_at {e : Gon} : ∀ {l : List Gon}, l.Pairwise ltG → hasG l e = false → insG e l = l.take (posG l e) ++ e :: l.drop (posG l e)
  | [], _, _ => by simp [insG, posG]
  | y :: r, hs, hn => by
    have hs' := List.pairwise_cons.1 hs
    by_cases hy : ltG y e
    · have e1 : posG (y :: r) e = posG r e + 1 := by unfold posG; rw [List.takeWhile_cons, if_pos (by simpa using hy)]; rfl
      have e2 : hasG (y :: r) e = hasG r e := by unfold hasG; rw [e1]; rfl
      rw [insG, if_neg (ltG_asymm hy), insG_at hs'.2 (e2.symm.trans hn), e1]
      rfl
    · have e1 : posG (y :: r) e = 0 := by unfold posG; rw [List.takeWhile_cons, if_neg (by simpa using hy)]; rfl
      have e2 : hasG (y :: r) e = decide (sameG y e) := by unfold hasG; rw [e1]; rfl
      have hq : ¬ sameG y e := by rw [e2] at hn; simpa using hn
      rw [insG, if_pos ((ltG_total hq).resolve_left hy), e1]
      rfl
def putG (l : List Gon) (k : List UInt8) (m : Dot) : List Gon × Int :=
  if mayD m = false then (l, 1) else if nameB k = false then (l, 6) else if (l.any fun x => decide (sameG x ⟨k, m⟩)) = true then (l, 61) else (insG ⟨k, m⟩ l, 0)
structure TabOk (l : List Gon) : Prop where
  sorted : l.Pairwise ltG
  may : ∀ x ∈ l, mayD x.dt = true
theorem tab_nil : TabOk [] := ⟨List.Pairwise.nil, fun x h => by cases h⟩
theorem putG_ok {l : List Gon} (h : TabOk l) (k : List UInt8) (m : Dot) : TabOk (putG l k m).1 := by
  unfold putG
  split
  · exact h
  split
  · exact h
  split
  · exact h
  · rename_i h1 h2 h3
    refine ⟨insG_sorted h.sorted fun x hx hs => h3 (List.any_eq_true.2 ⟨x, hx, decide_eq_true hs⟩), fun x hx => ?_⟩
    rcases insG_mem.1 hx with rfl | hx
    · simpa using h1
    · exact h.may x hx
theorem putG_len (l : List Gon) (k : List UInt8) (m : Dot) : (putG l k m).1.length ≤ l.length + 1 := by
  unfold putG
  split
  · simp
  split
  · simp
  split
  · simp
  · simp [insG_len]
def marksG (l : List Gon) (k : List UInt8) : List Dot := (l.filter fun x => decide (x.key = k)).map (·.dt)
theorem marksG_len (l : List Gon) (k : List UInt8) : (marksG l k).length ≤ l.length := by
  unfold marksG
  rw [List.length_map]
  exact List.length_filter_le _ _
def overG (C : Ctx) (m : Dot) : Bool := decide (m.count < C.top m.node m.life)
def pruneL (ms : List Dot) (c : Cart) : Cart := ms.foldl (fun c m => pruneK c m.node m.life) c
def cleanG (ms : List Dot) (c : Cart) : Cart × Int :=
  if canE c = 0 then (if (ms.any (overG c.ctx)) = true then (Cart.zero, 50) else (pruneL ms c, 0)) else (Cart.zero, canE c)
def readyG (l : List Cart) (p q : Int) : Dot × Int :=
  if mayD ⟨p, q, 1⟩ = false then (⟨0, 0, 0⟩, 1) else
  match l.find? (fun c => decide (canE c ≠ 0)) with
  | some c => (⟨0, 0, 0⟩, canE c)
  | none => match l with
    | [] => (⟨0, 0, 0⟩, 200)
    | c :: r => if (r.all fun x => decide (c = x)) = false then (⟨0, 0, 0⟩, 200) else if livesK c p q = true then (⟨0, 0, 0⟩, 201) else if c.ctx.top p q = 0 then (⟨0, 0, 0⟩, 62)
      else if (c.ctx.cloud.any fun d => decide (d.node = p ∧ d.life = q)) = true then (⟨0, 0, 0⟩, 202) else (⟨p, q, c.ctx.top p q⟩, 0)
end Go.Fw
set_option linter.unusedVariables false
set_option linter.unusedSimpArgs false
namespace Go.Fw
open Go.RowKit
def inA (ms : List Dot) (p q : Int) : Bool := ms.any fun m => decide (m.node = p ∧ m.life = q)
theorem inA_cons (m : Dot) (r : List Dot) (p q : Int) : inA (m :: r) p q = (decide (p = m.node ∧ q = m.life) || inA r p q) := by
  unfold inA
  rw [List.any_cons]
  congr 1
  exact decide_eq_decide.2 ⟨fun h => ⟨h.1.symm, h.2.symm⟩, fun h => ⟨h.1.symm, h.2.symm⟩⟩
theorem filter_two {α : Type} (f g h : α → Bool) (l : List α) (e : ∀ x, h x = (f x && g x)) : (l.filter f).filter g = l.filter h := by
  rw [List.filter_filter]
  exact List.filter_congr fun x _ => by rw [e, Bool.and_comm]
theorem pruneL_eq : ∀ (ms : List Dot) (c : Cart), pruneL ms c = ⟨c.ents.filter fun x => !inA ms x.dot.node x.dot.life, ⟨c.ctx.marks.filter fun d => !inA ms d.node d.life, c.ctx.cloud.filter fun d => !inA ms d.node d.life⟩⟩
  | [], c => by
    show c = _
    have e : ∀ {α : Type} (l : List α), l.filter (fun _ => true) = l := fun l => List.filter_eq_self.2 fun _ _ => rfl
    simp [inA, e]
  | m :: r, c => by
    show pruneL r (pruneK c m.node m.life) = _
    rw [pruneL_eq r]
    show (⟨(keepE m.node m.life c.ents).filter _, ⟨(keep m.node m.life c.ctx.marks).filter _, (keep m.node m.life c.ctx.cloud).filter _⟩⟩ : Cart) = _
    unfold keepE keep
    rw [filter_two _ _ (fun x : Ent => !inA (m :: r) x.dot.node x.dot.life) _ fun x => by rw [inA_cons, Bool.not_or],
      filter_two _ _ (fun x : Dot => !inA (m :: r) x.node x.life) _ fun x => by rw [inA_cons, Bool.not_or],
      filter_two _ _ (fun x : Dot => !inA (m :: r) x.node x.life) _ fun x => by rw [inA_cons, Bool.not_or]]
theorem pruneL_covers : ∀ (ms : List Dot) (c : Cart) (d : Dot), (pruneL ms c).ctx.covers d = (c.ctx.covers d && !inA ms d.node d.life)
  | [], c, d => by simp [pruneL, inA]
  | m :: r, c, d => by
    show (pruneL r (pruneK c m.node m.life)).ctx.covers d = _
    rw [pruneL_covers r, inA_cons]
    show ((c.ctx.prune m.node m.life).covers d && _) = _
    rw [prune_covers, Bool.not_or, Bool.and_assoc]
theorem pruneL_ok : ∀ (ms : List Dot) {c : Cart}, CartOk c → CartOk (pruneL ms c)
  | [], _, h => h
  | m :: r, _, h => pruneL_ok r (prune_ok h m.node m.life)
theorem prune_none {c : Cart} (h : CartOk c) (q : Int) : pruneK c (-1) q = c := by
  have hn := can_nf h.ctx
  have hx : ∀ d, c.ctx.covers d = true → ¬ d.node = -1 := fun d hd e => by
    rw [covers_iff] at hd
    obtain ⟨h1, h2 | h2⟩ := hd
    · have := markOf_pos (l := c.ctx.marks) (x := d.node) (y := d.life) (by omega)
      have := hn.mayM _ this
      simp [mayD] at this; omega
    · have := hn.mayC _ h2
      simp [mayD] at this; omega
  obtain ⟨l, m, d⟩ := c
  unfold pruneK keepE Ctx.prune keep
  dsimp only
  congr 1
  · rw [List.filter_eq_self]
    intro x hx'
    have := hx x.dot (ok_cov h hx')
    rw [decide_eq_false (fun h' => this h'.1)]; rfl
  · congr 1
    · rw [List.filter_eq_self]
      intro x hx'
      have := hn.mayM _ hx'
      rw [decide_eq_false (fun h' => by have := h'.1; simp [mayD] at *; omega)]; rfl
    · rw [List.filter_eq_self]
      intro x hx'
      have := hn.mayC _ hx'
      rw [decide_eq_false (fun h' => by have := h'.1; simp [mayD] at *; omega)]; rfl
theorem topFrom_le {x y k : Int} : ∀ (l : List Dot) (n : Int), topFrom n x y l ≤ k ↔ n ≤ k ∧ ∀ d ∈ l, d.node = x → d.life = y → d.count ≤ k
  | [], n => by simp [topFrom]
  | d :: r, n => by
    rw [topFrom, topFrom_le r]
    by_cases h : d.node = x ∧ d.life = y
    · rw [if_pos h]
      constructor
      · rintro ⟨h1, h2⟩
        refine ⟨by omega, fun e he e1 e2 => ?_⟩
        rcases List.mem_cons.1 he with rfl | he
        · omega
        · exact h2 e he e1 e2
      · rintro ⟨h1, h2⟩
        have := h2 d (by simp) h.1 h.2
        exact ⟨by omega, fun e he e1 e2 => h2 e (by simp [he]) e1 e2⟩
    · rw [if_neg h]
      constructor
      · rintro ⟨h1, h2⟩
        refine ⟨h1, fun e he e1 e2 => ?_⟩
        rcases List.mem_cons.1 he with rfl | he
        · exact absurd ⟨e1, e2⟩ h
        · exact h2 e he e1 e2
      · rintro ⟨h1, h2⟩
        exact ⟨h1, fun e he e1 e2 => h2 e (by simp [he]) e1 e2⟩
theorem top_le {C : Ctx} (h : Nf C) {p q n : Int} (hn : 0 ≤ n) : C.top p q ≤ n ↔ ∀ d, C.covers d = true → d.node = p → d.life = q → d.count ≤ n := by
  unfold Ctx.top
  rw [topFrom_le]
  constructor
  · rintro ⟨h1, h2⟩ d hd rfl rfl
    rw [covers_iff] at hd
    obtain ⟨h3, h4 | h4⟩ := hd
    · omega
    · exact h2 d h4 rfl rfl
  · intro h1
    refine ⟨?_, fun d hd e1 e2 => h1 d ((covers_iff _ _).2 ⟨?_, .inr hd⟩) e1 e2⟩
    · rcases Int.lt_or_le 0 (markOf C.marks p q) with hp | hp
      · exact h1 ⟨p, q, markOf C.marks p q⟩ ((covers_iff _ _).2 ⟨by dsimp only; omega, .inl (by dsimp only; omega)⟩) rfl rfl
      · omega
    · have := h.mayC d hd
      simp [mayD] at this; omega
theorem top_nonneg {C : Ctx} (h : Nf C) (p q : Int) : 0 ≤ C.top p q := by
  have h1 := (topFrom_le (x := p) (y := q) (k := C.top p q) C.cloud (markOf C.marks p q)).1 (Int.le_refl _)
  have := (markOf_may (x := p) (y := q) h.mayM).1
  omega
theorem top_lim {C : Ctx} (h : Nf C) (p q : Int) : C.top p q ≤ 1099511627776 := by
  rw [top_le h (by omega)]
  intro d hd _ _
  rw [covers_iff] at hd
  obtain ⟨h3, h4 | h4⟩ := hd
  · have := (markOf_may (x := d.node) (y := d.life) h.mayM).2
    omega
  · have := h.mayC d h4
    simp [mayD] at this; omega
theorem top_gone {ms : List Dot} {c : Cart} (h : CartOk c) {p q : Int} (hi : inA ms p q = true) : (pruneL ms c).ctx.top p q = 0 := by
  have h1 := can_nf (pruneL_ok ms h).ctx
  have h2 : (pruneL ms c).ctx.top p q ≤ 0 := by
    rw [top_le h1 (Int.le_refl _)]
    intro d hd e1 e2
    rw [pruneL_covers, e1, e2, hi] at hd
    simp at hd
  have := top_nonneg h1 p q
  omega
theorem clean_of {ms : List Dot} {c : Cart} (h : CartOk c) (ho : ms.any (overG c.ctx) = false) : cleanG ms c = (pruneL ms c, 0) := by
  unfold cleanG
  rw [if_pos ((canE_ok c).2 h), if_neg (by rw [ho]; simp)]
theorem clean_reads {ms : List Dot} {c : Cart} (h : ms.any (fun m => livesK c m.node m.life) = false) : (pruneL ms c).ents = c.ents := by
  rw [pruneL_eq]
  dsimp only
  rw [List.filter_eq_self]
  intro x hx
  rw [Bool.not_eq_true', ← Bool.not_eq_true]
  intro hi
  obtain ⟨m, hm, hd⟩ := List.any_eq_true.1 hi
  rw [List.any_eq_false] at h
  refine h m hm (List.any_eq_true.2 ⟨x, hx, ?_⟩)
  simp at hd ⊢
  exact ⟨hd.1.symm, hd.2.symm⟩
theorem ready_ok {l : List Cart} {p q : Int} (h : (readyG l p q).2 = 0) : ∃ c, l ≠ [] ∧ (∀ x ∈ l, x = c) ∧ CartOk c ∧ livesK c p q = false ∧ (readyG l p q).1 = ⟨p, q, c.ctx.top p q⟩ ∧ mayD ⟨p, q, c.ctx.top p q⟩ = true := by
  unfold readyG at h ⊢
  by_cases h1 : mayD ⟨p, q, 1⟩ = false
  · rw [if_pos h1] at h; cases h
  rw [if_neg h1] at h ⊢
  cases hf : l.find? (fun c => decide (canE c ≠ 0)) with
  | some c =>
    rw [hf] at h
    have := List.find?_some hf
    simp at this
    exact absurd h this
  | none =>
    rw [hf] at h
    dsimp only at h ⊢
    have hall : ∀ x ∈ l, canE x = 0 := by
      rw [List.find?_eq_none] at hf
      intro x hx
      have := hf x hx
      simpa using this
    cases l with
    | nil => cases h
    | cons c r =>
      dsimp only at h ⊢
      by_cases h2 : (r.all fun x => decide (c = x)) = false
      · rw [if_pos h2] at h; cases h
      rw [if_neg h2] at h ⊢
      by_cases h3 : livesK c p q = true
      · rw [if_pos h3] at h; cases h
      rw [if_neg h3] at h ⊢
      by_cases h4 : c.ctx.top p q = 0
      · rw [if_pos h4] at h; cases h
      rw [if_neg h4] at h ⊢
      by_cases h5 : (c.ctx.cloud.any fun d => decide (d.node = p ∧ d.life = q)) = true
      · rw [if_pos h5] at h; cases h
      rw [if_neg h5]
      have hok := (canE_ok c).1 (hall c (by simp))
      refine ⟨c, by simp, fun x hx => ?_, hok, by simpa using h3, rfl, ?_⟩
      · rcases List.mem_cons.1 hx with rfl | hx
        · rfl
        · simp at h2
          exact (h2 x hx).symm
      · have k1 := top_nonneg (can_nf hok.ctx) p q
        have k2 := top_lim (can_nf hok.ctx) p q
        simp [mayD] at h1 ⊢
        omega
theorem ready_zero {l : List Cart} {p q : Int} (h : (readyG l p q).2 ≠ 0) : (readyG l p q).1 = ⟨0, 0, 0⟩ := by
  unfold readyG at h ⊢
  split
  · rfl
  · rename_i h1
    rw [if_neg h1] at h
    split
    · rfl
    · rename_i hf
      rw [hf] at h
      cases l with
      | nil => rfl
      | cons c r =>
        dsimp only at h ⊢
        split; · rfl
        split; · rfl
        split; · rfl
        split; · rfl
        · rename_i h2 h3 h4 h5
          rw [if_neg h2, if_neg h3, if_neg h4, if_neg h5] at h
          exact absurd rfl h
theorem no_gap {C : Ctx} (h : Nf C) {p q : Int} (ht : C.top p q ≠ 0) : decide ((⟨p, q, C.top p q⟩ : Dot) ∈ C.marks) = !(C.cloud.any fun d => decide (d.node = p ∧ d.life = q)) := by
  rw [Bool.eq_iff_iff, decide_eq_true_eq, Bool.not_eq_true', List.any_eq_false]
  constructor
  · intro hm d hd he
    have he := of_decide_eq_true he
    have hg := h.gap d hd
    rw [he.1, he.2] at hg
    have hmk : markOf C.marks p q = C.top p q := by
      have hs := h.marks
      generalize C.top p q = t at hm
      clear ht hg
      revert hm hs
      generalize C.marks = l
      induction l with
      | nil => intro _ hm; cases hm
      | cons x r ih =>
        intro hs hm
        rw [List.pairwise_cons] at hs
        rw [markOf]
        rcases List.mem_cons.1 hm with rfl | hm
        · rw [if_pos ⟨rfl, rfl⟩]
        · have := hs.1 _ hm
          rw [if_neg (by unfold ltM at this; dsimp only at this; omega)]
          exact ih hs.2 hm
    have := (topFrom_le (x := p) (y := q) (k := C.top p q) C.cloud (markOf C.marks p q)).1 (Int.le_refl _)
    have := this.2 d hd he.1 he.2
    omega
  · intro hn
    have ht2 : C.top p q = markOf C.marks p q := by
      have h1 := (topFrom_le (x := p) (y := q) (k := C.top p q) C.cloud (markOf C.marks p q)).1 (Int.le_refl _)
      have h2 : C.top p q ≤ markOf C.marks p q := (topFrom_le C.cloud _).2 ⟨Int.le_refl _, fun d hd e1 e2 => absurd (decide_eq_true ⟨e1, e2⟩) (hn d hd)⟩
      omega
    have hp := top_nonneg h p q
    rw [ht2] at ht hp ⊢
    exact markOf_pos (by omega)
end Go.Fw
