/- Contracts and laws that the statement Ore leans on, part 3. -/
import Derived.Test.YtfblmkocmnbdcaaGreatOreK2
import Derived.WalkKit
import Derived.Below
import Derived.OrdersHeld
import Derived.Deep.Quiet
import Derived.Laws.StructEq
import Derived.Deep.MidRow
import Derived.Sort.Grow
import Derived.ScopeJumps
import Derived.LoopN
set_option linter.unusedVariables false
set_option linter.unusedSimpArgs false
set_option maxRecDepth 100000
set_option maxHeartbeats 4000000
namespace Go.Fw
theorem can_covers {C : Ctx} (h : canL C = true) (d : Dot) : C.coversR d = C.covers d := (covers_eq (fun m hm => by
  have := may_lim ((can_nf h).mayC m hm)
  omega) d).symm
theorem items_step {l : List Ent} {k : Nat} {x : Ent} (hx : l[k]? = some x) : itemsN (l.take (k + 1)) = itemsN (l.take k) + if (l.take k).getLast?.map (·.item) = some x.item then 0 else 1 := by
  rw [List.take_add_one, hx, Option.toList_some]
  unfold itemsN
  rw [items_snoc]
  simp
theorem take_last {l : List Ent} {k : Nat} {p : Ent} (hp : l[k]? = some p) : (l.take (k + 1)).getLast? = some p := by
  rw [List.take_add_one, hp, Option.toList_some]
  simp
theorem ents_step {C : Ctx} {l : List Ent} {k : Nat} {x : Ent} (hx : l[k]? = some x) : entsE C (l.take k) (l.drop k) = if entE C (l.take k) x = 0 then entsE C (l.take (k + 1)) (l.drop (k + 1)) else entE C (l.take k) x := by
  have hlt : k < l.length := (List.getElem?_eq_some_iff.1 hx).1
  have e : l[k] = x := (List.getElem?_eq_some_iff.1 hx).2
  rw [List.drop_eq_getElem_cons hlt, e, entsE, List.take_add_one, hx, Option.toList_some]
theorem dup_at {l : List Ent} {k j : Nat} {y : Ent} (hj : j < k) (hy : l[j]? = some y) : y.dot ∈ (l.take k).map (·.dot) := by
  refine List.mem_map.2 ⟨y, List.mem_of_getElem? (i := j) ?_, rfl⟩
  rw [List.getElem?_take, if_pos hj, hy]
theorem dup_step {l : List Ent} {j : Nat} {y : Ent} {d : Dot} (hy : l[j]? = some y) (h : d ∉ (l.take j).map (·.dot)) (hne : y.dot ≠ d) : d ∉ (l.take (j + 1)).map (·.dot) := by
  rw [List.take_add_one, hy, Option.toList_some, List.map_append]
  intro hm
  rcases List.mem_append.1 hm with hm | hm
  · exact h hm
  · simp at hm
    exact hne hm.symm
end Go.Fw
namespace Go.Proofs.YtfblmkocmnbdcaaGreat
open Go.Fw Go.Proofs Go.RowKit Go.Proofs.Tryz
theorem c131 (w0 : World) (v : Value) (l : List Ent) (h : Sl Ent.enc 6 w0 w0.heap.size v l) (hn : l.length ≤ 4194304) :
    Calls Tryz.prog 131 #[v] w0 fun e w' => e = .returned (.int .i64 (itemsN l : Int)) ∧ Bel w0.heap.size w0 w' := by
  obtain ⟨A, cap, rfl, hl, hcap, hA⟩ := h
  refine enter1 func131 rfl ntmps131 rfl fun a S => sg S (.ac rfl <| .z) fun a w S => sg S (.ac rfl <| .z) fun a w S => wp_seq_k fun _ hK1 => sg S (.mv rfl <| .ln underlying33 rfl <| .mc rfl <| .z) fun a w S => wp_block ?_
  refine st_lpM S [3, 4, 5, 8] (X := Nat) (fun k => [(3, true, .int .i64 (itemsN (l.take k) : Int)), (8, true, .int .i64 (k : Int))]) (fun _ => []) (fun k => k ≤ l.length) (fun k => l.length - k) 0 (Nat.zero_le _) ?_
  clear S
  intro k a w hk S
  by_cases hlt : k < l.length
  · obtain ⟨g, o, x, rfl, hx, hd, hc⟩ := row_at hA hlt
    have hst := items_step hx
    have hle := itemsFrom_le (l.take k) none
    rw [show itemsFrom none (l.take k) = itemsN (l.take k) from rfl, List.length_take] at hle
    rcases k with _ | k
    · have rw_1 : ((itemsN (l.take 0) : Nat) : Int) + 1 = ((itemsN (l.take 1) : Nat) : Int) := by rw [hst]; simp
      refine sg S (.lt (by omega) rfl rfl <| .z) fun a w S => wp_seq_k fun _ hK2 => st_then S (.t rfl) (wp_skip (then_normal (hK2 _ _ (wp_seq_k fun _ hK2 => wp_block (wp_seq_k fun _ hK3 => wp_region_lit (run S (.mv rfl <| .yy (ys_ixS (j := 0) underlying33 sizeOf71 (.t rfl) (.t rfl) (fun _ => by omega)) rfl <| .yy (ys_ldOA ⟨isAgg71, sizeOf71⟩ (.t rfl) (vs := [_, _, _, _, _, _]) rfl (fun _ => hc)) rfl <| .z) fun a w S => st_m (op_alloc S zeroValue71 (cs := _) rfl rfl fun g1 a w S => run S (.as rfl <| .z) fun a w S => st_m (op_stW S sizeOf71 (.t rfl) (.t rfl) (k := 0) rfl rfl rfl (by simp [Value.oneCell']) fun a w S => st_nil (then_normal (hK3 _ _ (wp_seq_k fun _ hK3 => st_quiet S (by kernel_rfl) (by kernel_rfl) fun a S => qrun S (.mv rfl <| .yy (ys_T (by omega) (ys_eql (.t rfl) Ev.c)) rfl <| .mv rfl <| .sk rfl rfl rfl <| .sk rfl rfl rfl <| .sk rfl rfl rfl <| .sk rfl rfl rfl <| .sk rfl rfl rfl <| .sk rfl rfl rfl <| .sk rfl rfl rfl <| .sk rfl rfl rfl <| .sk rfl rfl rfl <| .yy (ys_pickT (.t rfl) Ev.c) rfl <| .z) fun a S => ?_)))))))))))
      (refine q_nil ?_; intro w W; replace S := St.mk S W; clear W)
      refine then_normal (hK3 _ _ (st_then S (.t rfl) (wp_region_lit (run S (.mv rfl <| .ad (by unfold I64; omega) rfl <| .z) fun a w S => ?_))))
      rw [rw_1] at S
      refine run S (.as rfl <| .z) fun a w S => st_nil (in_normal (then_normal (hK2 _ _ (wp_region_lit (run S (.ad (by unfold I64; omega) rfl <| .mv rfl <| .z) fun a w S => st_nil (then_normal ?_))))))
      exact ⟨0 + 1, by omega, by omega, S.pk⟩
    · obtain ⟨g', o', p, e', hp, hd', hc'⟩ := row_at hA (show k < l.length by omega)
      cases e'
      rw [take_last hp] at hst
      clear hA
      by_cases he : p.item = x.item
      · rw [if_pos (by simp [he])] at hst
        have rw_e : decide (p.item ≠ x.item) = false := decide_eq_false (fun h => h he)
        refine sg S (.lt (by omega) rfl rfl <| .z) fun a w S => wp_seq_k fun _ hK2 => st_then S (.t rfl) (wp_skip (then_normal (hK2 _ _ (wp_seq_k fun _ hK2 => wp_block (wp_seq_k fun _ hK3 => wp_region_lit (run S (.mv rfl <| .ix underlying33 sizeOf71 (by omega) rfl rfl <| .yy (ys_ldOA ⟨isAgg71, sizeOf71⟩ (.t rfl) (vs := [_, _, _, _, _, _]) rfl (fun _ => hc)) rfl <| .z) fun a w S => st_m (op_alloc S zeroValue71 (cs := _) rfl rfl fun g1 a w S => run S (.as rfl <| .z) fun a w S => st_m (op_stW S sizeOf71 (.t rfl) (.t rfl) (k := 0) rfl rfl rfl (by simp [Value.oneCell']) fun a w S => st_nil (then_normal (hK3 _ _ (wp_seq_k fun _ hK3 => st_quiet S (by kernel_rfl) (by kernel_rfl) fun a S => ?_)))))))))))
        refine qrun S (.mv rfl <| .yy (ys_F (by omega) (ys_eql (.t rfl) Ev.c)) rfl <| .mv rfl <| .gy rfl rfl (ys_move (.t rfl)) <| .gy rfl rfl (ys_move (.t rfl)) <| .gy rfl rfl (ys_pred (.t rfl) Ev.c (by omega)) <| .gy rfl rfl (ys_ixS underlying33 sizeOf71 (.t rfl) (.t rfl) (fun _ => by omega)) <| .gy rfl rfl (ys_field (FieldT.mk underlying71 rfl sizeOf9 rfl) (.t rfl)) <| .gy rfl rfl (ys_ldO ⟨isAgg9, sizeOf9⟩ (.t rfl) (fun _ => hc' _ _ rfl)) <| .gy rfl rfl (ys_fieldN (FieldT.mk underlying71 rfl sizeOf9 rfl) (.t rfl) (i' := 0) rfl) <| .gy rfl rfl (ys_ld ⟨isAgg9, sizeOf9⟩ (.t rfl) (k := 0) rfl rfl) <| .gy rfl rfl (ys_neqStr (.t rfl) (.t rfl)) <| .z) fun a S => ?_
        rw [rw_e] at S
        refine qrun S (.yy (ys_pickF (.t rfl) (.t rfl)) rfl <| .z) fun a S => ?_
        (refine q_nil ?_; intro w W; replace S := St.mk S W; clear W)
        refine then_normal (hK3 _ _ (st_else S (.t rfl) (wp_skip (in_normal (then_normal (hK2 _ _ (wp_region_lit (run S (.ad (by unfold I64; omega) rfl <| .mv rfl <| .z) fun a w S => st_nil (then_normal ?_)))))))))
        rw [← show itemsN (l.take (k + 1 + 1)) = itemsN (l.take (k + 1)) by rw [hst]; rfl] at S
        exact ⟨k + 1 + 1, by omega, by omega, S.pk⟩
      · rw [if_neg (by simp [he])] at hst
        have rw_e : decide (p.item ≠ x.item) = true := decide_eq_true he
        have rw_1 : ((itemsN (l.take (k + 1)) : Nat) : Int) + 1 = ((itemsN (l.take (k + 1 + 1)) : Nat) : Int) := by rw [hst]; omega
        refine sg S (.lt (by omega) rfl rfl <| .z) fun a w S => wp_seq_k fun _ hK2 => st_then S (.t rfl) (wp_skip (then_normal (hK2 _ _ (wp_seq_k fun _ hK2 => wp_block (wp_seq_k fun _ hK3 => wp_region_lit (run S (.mv rfl <| .ix underlying33 sizeOf71 (by omega) rfl rfl <| .yy (ys_ldOA ⟨isAgg71, sizeOf71⟩ (.t rfl) (vs := [_, _, _, _, _, _]) rfl (fun _ => hc)) rfl <| .z) fun a w S => st_m (op_alloc S zeroValue71 (cs := _) rfl rfl fun g1 a w S => run S (.as rfl <| .z) fun a w S => st_m (op_stW S sizeOf71 (.t rfl) (.t rfl) (k := 0) rfl rfl rfl (by simp [Value.oneCell']) fun a w S => st_nil (then_normal (hK3 _ _ (wp_seq_k fun _ hK3 => st_quiet S (by kernel_rfl) (by kernel_rfl) fun a S => ?_)))))))))))
        refine qrun S (.mv rfl <| .yy (ys_F (by omega) (ys_eql (.t rfl) Ev.c)) rfl <| .mv rfl <| .gy rfl rfl (ys_move (.t rfl)) <| .gy rfl rfl (ys_move (.t rfl)) <| .gy rfl rfl (ys_pred (.t rfl) Ev.c (by omega)) <| .gy rfl rfl (ys_ixS underlying33 sizeOf71 (.t rfl) (.t rfl) (fun _ => by omega)) <| .gy rfl rfl (ys_field (FieldT.mk underlying71 rfl sizeOf9 rfl) (.t rfl)) <| .gy rfl rfl (ys_ldO ⟨isAgg9, sizeOf9⟩ (.t rfl) (fun _ => hc' _ _ rfl)) <| .gy rfl rfl (ys_fieldN (FieldT.mk underlying71 rfl sizeOf9 rfl) (.t rfl) (i' := 0) rfl) <| .gy rfl rfl (ys_ld ⟨isAgg9, sizeOf9⟩ (.t rfl) (k := 0) rfl rfl) <| .gy rfl rfl (ys_neqStr (.t rfl) (.t rfl)) <| .z) fun a S => ?_
        rw [rw_e] at S
        refine qrun S (.yy (ys_pickF (.t rfl) (.t rfl)) rfl <| .z) fun a S => ?_
        (refine q_nil ?_; intro w W; replace S := St.mk S W; clear W)
        refine then_normal (hK3 _ _ (st_then S (.t rfl) (wp_region_lit (run S (.mv rfl <| .ad (by unfold I64; omega) rfl <| .z) fun a w S => ?_))))
        rw [rw_1] at S
        refine run S (.as rfl <| .z) fun a w S => st_nil (in_normal (then_normal (hK2 _ _ (wp_region_lit (run S (.ad (by unfold I64; omega) rfl <| .mv rfl <| .z) fun a w S => st_nil (then_normal ?_))))))
        exact ⟨k + 1 + 1, by omega, by omega, S.pk⟩
  · obtain rfl : k = l.length := by omega
    rw [List.take_length] at S
    refine sg S (.ge (by omega) rfl rfl <| .z) fun a w S => wp_seq_k fun _ hK2 => st_else S (.t rfl) (wp_exit (then_exit (then_exit (in_here (then_normal (hK1 _ _ (sg S (.mv rfl <| .as rfl <| .z) fun a w S => wp_ret (st_ret S (results1 S results131 (Rv.tmp rfl)) ?_))))))))
    exact ⟨rfl, S.wd.below⟩
theorem c66 (w0 : World) (v1 v2 v3 : Value) (c : Cart) (h : Sl Ent.enc 6 w0 w0.heap.size v1 c.ents) (hr : RdCtx w0 w0.heap.size v2 v3 c.ctx) :
    Calls Tryz.prog 66 #[.agg #[v1, v2, v3]] w0 fun e w' => e = .returned (.int .i64 (canE c)) ∧ Bel w0.heap.size w0 w' := by
  obtain ⟨l, C⟩ := c
  dsimp only at h hr
  have hs := h
  obtain ⟨A, cap, rfl, hl, hcap, hA⟩ := h
  unfold canE
  dsimp only
  cases rw_C : canL C with
  | false =>
    refine enter1 func66 rfl ntmps66 rfl fun a S => wp_seq_k fun _ hK1 => wp_region_lit (st_m (op_box S (.t rfl) rfl fun g1 a w S => run S (.ac rfl <| .z) fun a w S => st_nil (then_normal (hK1 _ _ (wp_seq_k fun _ hK1 => wp_seq_k fun _ hK2 => wp_region_lit (run S (.fa underlying39 sizeOf37 1 rfl rfl rfl <| .la gt37 0 rfl rfl rfl <| .xx (ys_call call126 (.cons (.t rfl) .nil) (fun hp w W => c126 _ _ _ _ (by exact .old W (by assumption)))) rfl <| .z) fun a w S => ?_))))))
    rw [rw_C] at S
    refine run S (.nt rfl <| .z) fun a w S => st_nil (then_normal (hK2 _ _ (st_then S (.t rfl) (sg S (.ac rfl <| .z) fun a w S => wp_ret (then_ret (st_ret S (results1 S results66 (Rv.tmp rfl)) ?_))))))
    exact ⟨rfl, S.wd.below⟩
  | true =>
  rw [if_neg (by simp)]
  by_cases hbig : 64 < l.length
  · refine enter1 func66 rfl ntmps66 rfl fun a S => wp_seq_k fun _ hK1 => wp_region_lit (st_m (op_box S (.t rfl) rfl fun g1 a w S => run S (.ac rfl <| .z) fun a w S => st_nil (then_normal (hK1 _ _ (wp_seq_k fun _ hK1 => wp_seq_k fun _ hK2 => wp_region_lit (run S (.fa underlying39 sizeOf37 1 rfl rfl rfl <| .la gt37 0 rfl rfl rfl <| .xx (ys_call call126 (.cons (.t rfl) .nil) (fun hp w W => c126 _ _ _ _ (by exact .old W (by assumption)))) rfl <| .z) fun a w S => ?_))))))
    rw [rw_C] at S
    refine run S (.nt rfl <| .z) fun a w S => st_nil (then_normal (hK2 _ _ (st_else S (.t rfl) (wp_skip (then_normal (hK1 _ _ (wp_seq_k fun _ hK1 => sg S (.fa underlying39 sizeOf33 0 rfl rfl rfl <| .ld gt33 0 rfl rfl rfl <| .ln underlying33 rfl <| .yy (ys_T (by omega) (ys_gtr (.t rfl) Ev.c)) rfl <| .z) fun a w S => st_then S (.t rfl) (sg S (.ac rfl <| .z) fun a w S => wp_ret (then_ret (st_ret S (results1 S results66 (Rv.tmp rfl)) ?_))))))))))
    exact ⟨by rw [if_pos hbig], S.wd.below⟩
  rw [if_neg hbig]
  have rw_cov := can_covers rw_C
  refine enter1 func66 rfl ntmps66 rfl fun a S => wp_seq_k fun _ hK1 => wp_region_lit (st_m (op_box S (.t rfl) rfl fun g1 a w S => run S (.ac rfl <| .z) fun a w S => st_nil (then_normal (hK1 _ _ (wp_seq_k fun _ hK1 => wp_seq_k fun _ hK2 => wp_region_lit (run S (.fa underlying39 sizeOf37 1 rfl rfl rfl <| .la gt37 0 rfl rfl rfl <| .xx (ys_call call126 (.cons (.t rfl) .nil) (fun hp w W => c126 _ _ _ _ (by exact .old W (by assumption)))) rfl <| .z) fun a w S => ?_))))))
  rw [rw_C] at S
  refine run S (.nt rfl <| .z) fun a w S => st_nil (then_normal (hK2 _ _ (st_else S (.t rfl) (wp_skip (then_normal (hK1 _ _ (wp_seq_k fun _ hK1 => sg S (.fa underlying39 sizeOf33 0 rfl rfl rfl <| .ld gt33 0 rfl rfl rfl <| .ln underlying33 rfl <| .yy (ys_F (by omega) (ys_gtr (.t rfl) Ev.c)) rfl <| .z) fun a w S => st_else S (.t rfl) (wp_skip (then_normal (hK1 _ _ (wp_seq_k fun _ hK1 => sg S (.fa underlying39 sizeOf33 0 rfl rfl rfl <| .ld gt33 0 rfl rfl rfl <| .ln underlying33 rfl <| .mc rfl <| .z) fun a w S => wp_block ?_)))))))))))
  refine st_lpM S [3, 4, 6, 18] (X := Nat) (fun k => [(18, true, .int .i64 (k : Int))]) (fun _ => [.blk g1 (.cells #[.slice A l.length cap, v2, v3] 39)])
    (fun k => k ≤ l.length ∧ entsE C (l.take k) (l.drop k) = entsE C [] l) (fun k => l.length - k) 0 ⟨Nat.zero_le _, rfl⟩ ?_
  clear S
  intro k a w ⟨hk, hno⟩ S
  by_cases hlt : k < l.length
  rotate_left
  · obtain rfl : k = l.length := by omega
    rw [List.drop_length, entsE] at hno
    by_cases hi : 32 < itemsN l
    · refine sg S (.ge (by omega) rfl rfl <| .z) fun a w S => wp_seq_k fun _ hK2 => st_else S (.t rfl) (wp_exit (then_exit (then_exit (in_here (then_normal (hK1 _ _ (wp_seq_k fun _ hK1 => sg S (.fa underlying39 sizeOf33 0 rfl rfl rfl <| .ld gt33 0 rfl rfl rfl <| .xx (ys_call call131 (.cons (.t rfl) .nil) (fun hp w W => c131 _ _ _ (by exact .old W (by assumption)) (by omega))) rfl <| .yy (ys_T (by omega) (ys_gtr (.t rfl) Ev.c)) rfl <| .z) fun a w S => st_then S (.t rfl) (sg S (.ac rfl <| .z) fun a w S => wp_ret (then_ret (st_ret S (results1 S results66 (Rv.tmp rfl)) ?_))))))))))
      exact ⟨by rw [if_pos hno.symm, if_pos hi], S.wd.below⟩
    · refine sg S (.ge (by omega) rfl rfl <| .z) fun a w S => wp_seq_k fun _ hK2 => st_else S (.t rfl) (wp_exit (then_exit (then_exit (in_here (then_normal (hK1 _ _ (wp_seq_k fun _ hK1 => sg S (.fa underlying39 sizeOf33 0 rfl rfl rfl <| .ld gt33 0 rfl rfl rfl <| .xx (ys_call call131 (.cons (.t rfl) .nil) (fun hp w W => c131 _ _ _ (by exact .old W (by assumption)) (by omega))) rfl <| .yy (ys_F (by omega) (ys_gtr (.t rfl) Ev.c)) rfl <| .z) fun a w S => st_else S (.t rfl) (wp_skip (then_normal (hK1 _ _ (sg S (.ac rfl <| .z) fun a w S => wp_ret (st_ret S (results1 S results66 (Rv.tmp rfl)) ?_))))))))))))
      exact ⟨by rw [if_pos hno.symm, if_neg hi], S.wd.below⟩
  obtain ⟨g, o, x, rfl, hx, hd, hc⟩ := row_at hA hlt
  have hst := ents_step (C := C) hx
  rw [hno] at hst
  have bad : entE C (l.take k) x ≠ 0 → (if entsE C [] l = 0 then (if 32 < itemsN l then (51 : Int) else 0) else entsE C [] l) = entE C (l.take k) x := fun h => by
    rw [if_neg h] at hst
    rw [hst, if_neg h]
  cases rw_n : nameB x.item with
  | false =>
    have he : entE C (l.take k) x = 6 := by unfold entE; rw [if_pos rw_n]
    rw [bad (by rw [he]; decide), he]
    refine sg S (.lt (by omega) rfl rfl <| .z) fun a w S => wp_seq_k fun _ hK2 => st_then S (.t rfl) (wp_skip (then_normal (hK2 _ _ (wp_seq_k fun _ hK2 => wp_block (wp_seq_k fun _ hK3 => wp_region_lit (run S (.mv rfl <| .ix underlying33 sizeOf71 (by omega) rfl rfl <| .yy (ys_ldOA ⟨isAgg71, sizeOf71⟩ (.t rfl) (vs := [_, _, _, _, _, _]) rfl (fun _ => hc)) rfl <| .z) fun a w S => st_m (op_alloc S zeroValue71 (cs := _) rfl rfl fun g2 a w S => run S (.as rfl <| .z) fun a w S => st_m (op_stW S sizeOf71 (.t rfl) (.t rfl) (k := 0) rfl rfl rfl (by simp [Value.oneCell']) fun a w S => st_nil (then_normal (hK3 _ _ (wp_seq_k fun _ hK3 => wp_block (wp_seq_k fun _ hK4 => wp_region_lit (run S (.fa underlying71 sizeOf9 0 rfl rfl rfl <| .ld gt9 0 rfl rfl rfl <| .xx (ys_call call127 (.cons (.t rfl) .nil) (fun hp w W => c127 _ _)) rfl <| .z) fun a w S => ?_)))))))))))))
    rw [rw_n] at S
    refine run S (.nt rfl <| .as rfl <| .z) fun a w S => st_nil (then_normal (hK4 _ _ (st_then S (.t rfl) (sg S (.ac rfl <| .z) fun a w S => wp_ret (in_ret (then_ret (in_ret (then_ret (then_ret (in_ret (then_ret (st_ret S (results1 S results66 (Rv.tmp rfl)) ?_))))))))))))
    exact ⟨rfl, S.wd.below⟩
  | true =>
  by_cases hq : x.qty < 1 ∨ 1000000 < x.qty
  · have he : entE C (l.take k) x = 52 := by unfold entE; rw [if_neg (by simp [rw_n]), if_pos hq]
    rw [bad (by rw [he]; decide), he]
    have rw_q : (decide (1 ≤ x.qty) && decide (x.qty ≤ 1000000)) = false := by simp; omega
    refine sg S (.lt (by omega) rfl rfl <| .z) fun a w S => wp_seq_k fun _ hK2 => st_then S (.t rfl) (wp_skip (then_normal (hK2 _ _ (wp_seq_k fun _ hK2 => wp_block (wp_seq_k fun _ hK3 => wp_region_lit (run S (.mv rfl <| .ix underlying33 sizeOf71 (by omega) rfl rfl <| .yy (ys_ldOA ⟨isAgg71, sizeOf71⟩ (.t rfl) (vs := [_, _, _, _, _, _]) rfl (fun _ => hc)) rfl <| .z) fun a w S => st_m (op_alloc S zeroValue71 (cs := _) rfl rfl fun g2 a w S => run S (.as rfl <| .z) fun a w S => st_m (op_stW S sizeOf71 (.t rfl) (.t rfl) (k := 0) rfl rfl rfl (by simp [Value.oneCell']) fun a w S => st_nil (then_normal (hK3 _ _ (wp_seq_k fun _ hK3 => wp_block (wp_seq_k fun _ hK4 => wp_region_lit (run S (.fa underlying71 sizeOf9 0 rfl rfl rfl <| .ld gt9 0 rfl rfl rfl <| .xx (ys_call call127 (.cons (.t rfl) .nil) (fun hp w W => c127 _ _)) rfl <| .z) fun a w S => ?_)))))))))))))
    rw [rw_n] at S
    refine run S (.nt rfl <| .as rfl <| .z) fun a w S => st_nil (then_normal (hK4 _ _ (st_else S (.t rfl) (wp_seq_k fun _ hK4 => wp_region_lit (run S (.fa underlying71 sizeOf3 4 rfl rfl rfl <| .ld gt3 0 rfl rfl rfl <| .xx (ys_call call128 (.cons (.t rfl) (.cons Ev.c .nil)) (fun hp w W => c128 _ _ _)) rfl <| .z) fun a w S => ?_)))))
    rw [rw_q] at S
    refine run S (.nt rfl <| .as rfl <| .z) fun a w S => st_nil (then_normal (hK4 _ _ (st_then S (.t rfl) (sg S (.ac rfl <| .z) fun a w S => wp_ret (in_ret (then_ret (in_ret (then_ret (then_ret (in_ret (then_ret (st_ret S (results1 S results66 (Rv.tmp rfl)) ?_))))))))))))
    exact ⟨rfl, S.wd.below⟩
  have rw_q : (decide (1 ≤ x.qty) && decide (x.qty ≤ 1000000)) = true := by simp; omega
  cases rw_p : priceB x.price with
  | false =>
    have he : entE C (l.take k) x = 53 := by unfold entE; rw [if_neg (by simp [rw_n]), if_neg hq, if_pos rw_p]
    rw [bad (by rw [he]; decide), he]
    refine sg S (.lt (by omega) rfl rfl <| .z) fun a w S => wp_seq_k fun _ hK2 => st_then S (.t rfl) (wp_skip (then_normal (hK2 _ _ (wp_seq_k fun _ hK2 => wp_block (wp_seq_k fun _ hK3 => wp_region_lit (run S (.mv rfl <| .ix underlying33 sizeOf71 (by omega) rfl rfl <| .yy (ys_ldOA ⟨isAgg71, sizeOf71⟩ (.t rfl) (vs := [_, _, _, _, _, _]) rfl (fun _ => hc)) rfl <| .z) fun a w S => st_m (op_alloc S zeroValue71 (cs := _) rfl rfl fun g2 a w S => run S (.as rfl <| .z) fun a w S => st_m (op_stW S sizeOf71 (.t rfl) (.t rfl) (k := 0) rfl rfl rfl (by simp [Value.oneCell']) fun a w S => st_nil (then_normal (hK3 _ _ (wp_seq_k fun _ hK3 => wp_block (wp_seq_k fun _ hK4 => wp_region_lit (run S (.fa underlying71 sizeOf9 0 rfl rfl rfl <| .ld gt9 0 rfl rfl rfl <| .xx (ys_call call127 (.cons (.t rfl) .nil) (fun hp w W => c127 _ _)) rfl <| .z) fun a w S => ?_)))))))))))))
    rw [rw_n] at S
    refine run S (.nt rfl <| .as rfl <| .z) fun a w S => st_nil (then_normal (hK4 _ _ (st_else S (.t rfl) (wp_seq_k fun _ hK4 => wp_region_lit (run S (.fa underlying71 sizeOf3 4 rfl rfl rfl <| .ld gt3 0 rfl rfl rfl <| .xx (ys_call call128 (.cons (.t rfl) (.cons Ev.c .nil)) (fun hp w W => c128 _ _ _)) rfl <| .z) fun a w S => ?_)))))
    rw [rw_q] at S
    refine run S (.nt rfl <| .as rfl <| .z) fun a w S => st_nil (then_normal (hK4 _ _ (st_else S (.t rfl) (wp_seq_k fun _ hK4 => wp_region_lit (run S (.fa underlying71 sizeOf27 5 rfl rfl rfl <| .ld gt27 0 rfl rfl rfl <| .xx (ys_call call129 (.cons (.t rfl) .nil) (fun hp w W => c129 _ _)) rfl <| .z) fun a w S => ?_)))))
    rw [rw_p] at S
    refine run S (.nt rfl <| .as rfl <| .z) fun a w S => st_nil (then_normal (hK4 _ _ (st_then S (.t rfl) (sg S (.ac rfl <| .z) fun a w S => wp_ret (in_ret (then_ret (in_ret (then_ret (then_ret (in_ret (then_ret (st_ret S (results1 S results66 (Rv.tmp rfl)) ?_))))))))))))
    exact ⟨rfl, S.wd.below⟩
  | true =>
  have he0 : entE C (l.take k) x = if C.covers x.dot = false ∨ backE (l.take k).getLast? x = true then 50 else if x.dot ∈ (l.take k).map (·.dot) then 50 else 0 := by unfold entE; rw [if_neg (by simp [rw_n]), if_neg hq, if_neg (by simp [rw_p])]
  cases rw_c : C.covers x.dot with
  | false =>
    rw [if_pos (.inl rw_c)] at he0
    rw [bad (by rw [he0]; decide), he0]
    have rw_c2 : C.covers ⟨x.dot.node, x.dot.life, x.dot.count⟩ = false := rw_c
    refine sg S (.lt (by omega) rfl rfl <| .z) fun a w S => wp_seq_k fun _ hK2 => st_then S (.t rfl) (wp_skip (then_normal (hK2 _ _ (wp_seq_k fun _ hK2 => wp_block (wp_seq_k fun _ hK3 => wp_region_lit (run S (.mv rfl <| .ix underlying33 sizeOf71 (by omega) rfl rfl <| .yy (ys_ldOA ⟨isAgg71, sizeOf71⟩ (.t rfl) (vs := [_, _, _, _, _, _]) rfl (fun _ => hc)) rfl <| .z) fun a w S => st_m (op_alloc S zeroValue71 (cs := _) rfl rfl fun g2 a w S => run S (.as rfl <| .z) fun a w S => st_m (op_stW S sizeOf71 (.t rfl) (.t rfl) (k := 0) rfl rfl rfl (by simp [Value.oneCell']) fun a w S => st_nil (then_normal (hK3 _ _ (wp_seq_k fun _ hK3 => wp_block (wp_seq_k fun _ hK4 => wp_region_lit (run S (.fa underlying71 sizeOf9 0 rfl rfl rfl <| .ld gt9 0 rfl rfl rfl <| .xx (ys_call call127 (.cons (.t rfl) .nil) (fun hp w W => c127 _ _)) rfl <| .z) fun a w S => ?_)))))))))))))
    rw [rw_n] at S
    refine run S (.nt rfl <| .as rfl <| .z) fun a w S => st_nil (then_normal (hK4 _ _ (st_else S (.t rfl) (wp_seq_k fun _ hK4 => wp_region_lit (run S (.fa underlying71 sizeOf3 4 rfl rfl rfl <| .ld gt3 0 rfl rfl rfl <| .xx (ys_call call128 (.cons (.t rfl) (.cons Ev.c .nil)) (fun hp w W => c128 _ _ _)) rfl <| .z) fun a w S => ?_)))))
    rw [rw_q] at S
    refine run S (.nt rfl <| .as rfl <| .z) fun a w S => st_nil (then_normal (hK4 _ _ (st_else S (.t rfl) (wp_seq_k fun _ hK4 => wp_region_lit (run S (.fa underlying71 sizeOf27 5 rfl rfl rfl <| .ld gt27 0 rfl rfl rfl <| .xx (ys_call call129 (.cons (.t rfl) .nil) (fun hp w W => c129 _ _)) rfl <| .z) fun a w S => ?_)))))
    rw [rw_p] at S
    refine run S (.nt rfl <| .as rfl <| .z) fun a w S => st_nil (then_normal (hK4 _ _ (st_else S (.t rfl) (wp_seq_k fun _ hK4 => st_quiet S (by kernel_rfl) (by kernel_rfl) fun a S => qrun S (.fa underlying39 sizeOf37 1 rfl rfl rfl <| .la gt37 1 rfl rfl rfl <| .fa underlying71 sizeOf58 1 rfl rfl rfl <| .la gt58 0 rfl rfl rfl <| .xx (ys_call call37 (.cons (.t rfl) (.cons (.t rfl) .nil)) (fun hp w W => c37 _ _ _ _ _ _ _ (by exact .old W (by assumption)))) rfl <| .z) fun a S => ?_))))
    rw [rw_cov] at S
    rw [rw_c] at S
    refine qrun S (.nt rfl <| .mv rfl <| .sk rfl rfl rfl <| .sk rfl rfl rfl <| .sk rfl rfl rfl <| .s0 rfl rfl <| .s0 rfl rfl <| .s0 rfl rfl <| .s0 rfl rfl <| .s0 rfl rfl <| .s0 rfl rfl <| .s0 rfl rfl <| .s0 rfl rfl <| .s0 rfl rfl <| .sk rfl rfl rfl <| .yy (ys_pickT (.t rfl) Ev.c) rfl <| .as rfl <| .z) fun a S => ?_
    (refine q_nil ?_; intro w W; replace S := St.mk S W; clear W)
    refine then_normal (hK4 _ _ (st_then S (.t rfl) (sg S (.ac rfl <| .z) fun a w S => wp_ret (in_ret (then_ret (in_ret (then_ret (then_ret (in_ret (then_ret (st_ret S (results1 S results66 (Rv.tmp rfl)) ?_)))))))))))
    exact ⟨rfl, S.wd.below⟩
  | true =>
  have rw_c2 : C.covers ⟨x.dot.node, x.dot.life, x.dot.count⟩ = true := rw_c
  rcases k with _ | k
  · have hnb : ¬ (C.covers x.dot = false ∨ backE (l.take 0).getLast? x = true) := by simp [rw_c, backE]
    refine sg S (.lt (by omega) rfl rfl <| .z) fun a w S => wp_seq_k fun _ hK2 => st_then S (.t rfl) (wp_skip (then_normal (hK2 _ _ (wp_seq_k fun _ hK2 => wp_block (wp_seq_k fun _ hK3 => wp_region_lit (run S (.mv rfl <| .yy (ys_ixS (j := 0) underlying33 sizeOf71 (.t rfl) (.t rfl) (fun _ => by omega)) rfl <| .yy (ys_ldOA ⟨isAgg71, sizeOf71⟩ (.t rfl) (vs := [_, _, _, _, _, _]) rfl (fun _ => hc)) rfl <| .z) fun a w S => st_m (op_alloc S zeroValue71 (cs := _) rfl rfl fun g2 a w S => run S (.as rfl <| .z) fun a w S => st_m (op_stW S sizeOf71 (.t rfl) (.t rfl) (k := 0) rfl rfl rfl (by simp [Value.oneCell']) fun a w S => st_nil (then_normal (hK3 _ _ (wp_seq_k fun _ hK3 => wp_block (wp_seq_k fun _ hK4 => wp_region_lit (run S (.fa underlying71 sizeOf9 0 rfl rfl rfl <| .ld gt9 0 rfl rfl rfl <| .xx (ys_call call127 (.cons (.t rfl) .nil) (fun hp w W => c127 _ _)) rfl <| .z) fun a w S => ?_)))))))))))))
    rw [rw_n] at S
    refine run S (.nt rfl <| .as rfl <| .z) fun a w S => st_nil (then_normal (hK4 _ _ (st_else S (.t rfl) (wp_seq_k fun _ hK4 => wp_region_lit (run S (.fa underlying71 sizeOf3 4 rfl rfl rfl <| .ld gt3 0 rfl rfl rfl <| .xx (ys_call call128 (.cons (.t rfl) (.cons Ev.c .nil)) (fun hp w W => c128 _ _ _)) rfl <| .z) fun a w S => ?_)))))
    rw [rw_q] at S
    refine run S (.nt rfl <| .as rfl <| .z) fun a w S => st_nil (then_normal (hK4 _ _ (st_else S (.t rfl) (wp_seq_k fun _ hK4 => wp_region_lit (run S (.fa underlying71 sizeOf27 5 rfl rfl rfl <| .ld gt27 0 rfl rfl rfl <| .xx (ys_call call129 (.cons (.t rfl) .nil) (fun hp w W => c129 _ _)) rfl <| .z) fun a w S => ?_)))))
    rw [rw_p] at S
    refine run S (.nt rfl <| .as rfl <| .z) fun a w S => st_nil (then_normal (hK4 _ _ (st_else S (.t rfl) (wp_seq_k fun _ hK4 => st_quiet S (by kernel_rfl) (by kernel_rfl) fun a S => qrun S (.fa underlying39 sizeOf37 1 rfl rfl rfl <| .la gt37 1 rfl rfl rfl <| .fa underlying71 sizeOf58 1 rfl rfl rfl <| .la gt58 0 rfl rfl rfl <| .xx (ys_call call37 (.cons (.t rfl) (.cons (.t rfl) .nil)) (fun hp w W => c37 _ _ _ _ _ _ _ (by exact .old W (by assumption)))) rfl <| .z) fun a S => ?_))))
    rw [rw_cov] at S
    rw [rw_c] at S
    refine qrun S (.nt rfl <| .mv rfl <| .gy rfl rfl (ys_move (.t rfl)) <| .gy rfl rfl (ys_F (by omega) (ys_gtr (.t rfl) Ev.c)) <| .gy rfl rfl (ys_move (.t rfl)) <| .sk rfl rfl rfl <| .sk rfl rfl rfl <| .sk rfl rfl rfl <| .sk rfl rfl rfl <| .sk rfl rfl rfl <| .sk rfl rfl rfl <| .sk rfl rfl rfl <| .sk rfl rfl rfl <| .sk rfl rfl rfl <| .gy rfl rfl (ys_pickF (.t rfl) Ev.c) <| .yy (ys_pickF (.t rfl) (.t rfl)) rfl <| .as rfl <| .z) fun a S => ?_
    (refine q_nil ?_; intro w W; replace S := St.mk S W; clear W)
    refine then_normal (hK4 _ _ (st_else S (.t rfl) (wp_skip (in_normal (then_normal (hK3 _ _ (sg S (.fa underlying39 sizeOf33 0 rfl rfl rfl <| .ld gt33 1 rfl rfl rfl <| .mv rfl <| .yy (ys_slHi underlying33 sizeOf71 (.t rfl) (.t rfl) (fun _ => by first | omega | (simp; done) | (simp; omega))) rfl <| .ln underlying33 rfl <| .mc rfl <| .z) fun a w S => wp_block ?_)))))))
    refine st_lpM S [6, 65] (X := Nat) (fun j => [(65, true, .int .i64 (j : Int))]) (fun _ => [.blk g2 (.cells (Ent.enc x).toArray 71), .blk g1 (.cells #[.slice (some ⟨g, o, none⟩) l.length cap, v2, v3] 39)])
      (fun j => j ≤ 0 ∧ x.dot ∉ (l.take j).map (·.dot)) (fun j => 0 - j) 0 ⟨Nat.zero_le _, by simp⟩ ?_
    clear S
    intro j a w ⟨hj, hdup⟩ S
    by_cases hjk : j < 0
    · obtain ⟨g3, o3, y, e3, hy, hdy, hcy⟩ := row_at hA (show j < l.length by omega)
      cases e3
      by_cases he : y.dot = x.dot
      · have hin : x.dot ∈ (l.take (0)).map (·.dot) := he ▸ dup_at hjk hy
        rw [if_neg hnb, if_pos hin] at he0
        rw [bad (by rw [he0]; decide), he0]
        have rw_e := decide_eq_true (dot_iff3.1 he)
        refine sg S (.lt (by omega) rfl rfl <| .z) fun a w S => wp_seq_k fun _ hK3 => st_then S (.t rfl) (wp_skip (then_normal (hK3 _ _ (wp_seq_k fun _ hK3 => wp_block (wp_seq_k fun _ hK4 => wp_region_lit (run S (.ix underlying33 sizeOf71 (by omega) rfl rfl <| .yy (ys_ldOA ⟨isAgg71, sizeOf71⟩ (.t rfl) (vs := [_, _, _, _, _, _]) rfl (fun _ => hcy)) rfl <| .z) fun a w S => st_m (op_alloc S zeroValue71 (cs := _) rfl rfl fun g3 a w S => st_m (op_stW S sizeOf71 (.t rfl) (.t rfl) (k := 0) rfl rfl rfl (by simp [Value.oneCell']) fun a w S => st_nil (then_normal (hK4 _ _ (wp_seq_k fun _ hK4 => wp_region_lit (run S (.fa underlying71 sizeOf58 1 rfl rfl rfl <| .la gt58 0 rfl rfl rfl <| .fa underlying71 sizeOf58 1 rfl rfl rfl <| .la gt58 1 rfl rfl rfl <| .yy (ys_eqA (.t rfl) (.t rfl) eq58) rfl <| .z) fun a w S => ?_))))))))))))
        rw [rw_e] at S
        refine st_nil (then_normal (hK4 _ _ (st_then S (.t rfl) (sg S (.ac rfl <| .z) fun a w S => wp_ret (in_ret (then_ret (then_ret (in_ret (in_ret (then_ret (then_ret (in_ret (then_ret (st_ret S (results1 S results66 (Rv.tmp rfl)) ?_))))))))))))))
        exact ⟨rfl, S.wd.below⟩
      · have rw_e := decide_eq_false (fun h => he (dot_iff3.2 h))
        refine sg S (.lt (by omega) rfl rfl <| .z) fun a w S => wp_seq_k fun _ hK3 => st_then S (.t rfl) (wp_skip (then_normal (hK3 _ _ (wp_seq_k fun _ hK3 => wp_block (wp_seq_k fun _ hK4 => wp_region_lit (run S (.ix underlying33 sizeOf71 (by omega) rfl rfl <| .yy (ys_ldOA ⟨isAgg71, sizeOf71⟩ (.t rfl) (vs := [_, _, _, _, _, _]) rfl (fun _ => hcy)) rfl <| .z) fun a w S => st_m (op_alloc S zeroValue71 (cs := _) rfl rfl fun g3 a w S => st_m (op_stW S sizeOf71 (.t rfl) (.t rfl) (k := 0) rfl rfl rfl (by simp [Value.oneCell']) fun a w S => st_nil (then_normal (hK4 _ _ (wp_seq_k fun _ hK4 => wp_region_lit (run S (.fa underlying71 sizeOf58 1 rfl rfl rfl <| .la gt58 0 rfl rfl rfl <| .fa underlying71 sizeOf58 1 rfl rfl rfl <| .la gt58 1 rfl rfl rfl <| .yy (ys_eqA (.t rfl) (.t rfl) eq58) rfl <| .z) fun a w S => ?_))))))))))))
        rw [rw_e] at S
        refine st_nil (then_normal (hK4 _ _ (st_else S (.t rfl) (wp_skip (in_normal (then_normal (hK3 _ _ (wp_region_lit (run S (.ad (by unfold I64; omega) rfl <| .mv rfl <| .z) fun a w S => st_nil (then_normal ?_))))))))))
        exact ⟨j + 1, ⟨by omega, dup_step hy hdup he⟩, by omega, S.pk⟩
    · obtain rfl : j = 0 := by omega
      rw [if_neg hnb, if_neg hdup] at he0
      rw [if_pos he0] at hst
      refine sg S (.ge (by omega) rfl rfl <| .z) fun a w S => wp_seq_k fun _ hK3 => st_else S (.t rfl) (wp_exit (then_exit (then_exit (in_here (in_normal (then_normal (hK2 _ _ (wp_region_lit (run S (.ad (by unfold I64; omega) rfl <| .mv rfl <| .z) fun a w S => st_nil (then_normal ?_))))))))))
      exact ⟨0 + 1, ⟨by omega, hst.symm⟩, by omega, S.pk⟩
  obtain ⟨g4, o4, p, e4, hp, hdp, hcp⟩ := row_at hA (show k < l.length by omega)
  cases e4
  rw [take_last hp] at he0
  by_cases hlt2 : ltE p x
  · have hnb : ¬ (C.covers x.dot = false ∨ backE (some p) x = true) := by simp [rw_c, backE, hlt2]
    have rw_l : decide (ltE p x) = true := decide_eq_true hlt2
    refine sg S (.lt (by omega) rfl rfl <| .z) fun a w S => wp_seq_k fun _ hK2 => st_then S (.t rfl) (wp_skip (then_normal (hK2 _ _ (wp_seq_k fun _ hK2 => wp_block (wp_seq_k fun _ hK3 => wp_region_lit (run S (.mv rfl <| .ix underlying33 sizeOf71 (by omega) rfl rfl <| .yy (ys_ldOA ⟨isAgg71, sizeOf71⟩ (.t rfl) (vs := [_, _, _, _, _, _]) rfl (fun _ => hc)) rfl <| .z) fun a w S => st_m (op_alloc S zeroValue71 (cs := _) rfl rfl fun g2 a w S => run S (.as rfl <| .z) fun a w S => st_m (op_stW S sizeOf71 (.t rfl) (.t rfl) (k := 0) rfl rfl rfl (by simp [Value.oneCell']) fun a w S => st_nil (then_normal (hK3 _ _ (wp_seq_k fun _ hK3 => wp_block (wp_seq_k fun _ hK4 => wp_region_lit (run S (.fa underlying71 sizeOf9 0 rfl rfl rfl <| .ld gt9 0 rfl rfl rfl <| .xx (ys_call call127 (.cons (.t rfl) .nil) (fun hp w W => c127 _ _)) rfl <| .z) fun a w S => ?_)))))))))))))
    rw [rw_n] at S
    refine run S (.nt rfl <| .as rfl <| .z) fun a w S => st_nil (then_normal (hK4 _ _ (st_else S (.t rfl) (wp_seq_k fun _ hK4 => wp_region_lit (run S (.fa underlying71 sizeOf3 4 rfl rfl rfl <| .ld gt3 0 rfl rfl rfl <| .xx (ys_call call128 (.cons (.t rfl) (.cons Ev.c .nil)) (fun hp w W => c128 _ _ _)) rfl <| .z) fun a w S => ?_)))))
    rw [rw_q] at S
    refine run S (.nt rfl <| .as rfl <| .z) fun a w S => st_nil (then_normal (hK4 _ _ (st_else S (.t rfl) (wp_seq_k fun _ hK4 => wp_region_lit (run S (.fa underlying71 sizeOf27 5 rfl rfl rfl <| .ld gt27 0 rfl rfl rfl <| .xx (ys_call call129 (.cons (.t rfl) .nil) (fun hp w W => c129 _ _)) rfl <| .z) fun a w S => ?_)))))
    rw [rw_p] at S
    refine run S (.nt rfl <| .as rfl <| .z) fun a w S => st_nil (then_normal (hK4 _ _ (st_else S (.t rfl) (wp_seq_k fun _ hK4 => st_quiet S (by kernel_rfl) (by kernel_rfl) fun a S => qrun S (.fa underlying39 sizeOf37 1 rfl rfl rfl <| .la gt37 1 rfl rfl rfl <| .fa underlying71 sizeOf58 1 rfl rfl rfl <| .la gt58 0 rfl rfl rfl <| .xx (ys_call call37 (.cons (.t rfl) (.cons (.t rfl) .nil)) (fun hp w W => c37 _ _ _ _ _ _ _ (by exact .old W (by assumption)))) rfl <| .z) fun a S => ?_))))
    rw [rw_cov] at S
    rw [rw_c] at S
    refine qrun S (.nt rfl <| .mv rfl <| .gy rfl rfl (ys_move (.t rfl)) <| .gy rfl rfl (ys_T (by omega) (ys_gtr (.t rfl) Ev.c)) <| .gy rfl rfl (ys_move (.t rfl)) <| .gy rfl rfl (ys_ldA ⟨isAgg71, sizeOf71⟩ (.t rfl) (k := 0) rfl rfl) <| .gy rfl rfl (ys_fieldN (FieldT.mk underlying39 rfl sizeOf33 rfl) (.t rfl) (i' := 0) rfl) <| .gy rfl rfl (ys_ld ⟨isAgg33, sizeOf33⟩ (.t rfl) (k := 1) rfl rfl) <| .gy rfl rfl (ys_move (.t rfl)) <| .gy rfl rfl (ys_pred (.t rfl) Ev.c (by omega)) <| .gy rfl rfl (ys_ixS underlying33 sizeOf71 (.t rfl) (.t rfl) (fun _ => by omega)) <| .gy rfl rfl (ys_ldOA ⟨isAgg71, sizeOf71⟩ (.t rfl) (vs := [_, _, _, _, _, _]) rfl (fun _ => hcp)) <| .gx rfl rfl (ys_call call130 (.cons (.t rfl) (.cons (.t rfl) .nil)) (fun hp w W => c130 _ _ _)) <| .z) fun a S => ?_
    rw [rw_l] at S
    refine qrun S (.gy rfl rfl (ys_not (.t rfl)) <| .gy rfl rfl (ys_pickT (.t rfl) (.t rfl)) <| .yy (ys_pickF (.t rfl) (.t rfl)) rfl <| .as rfl <| .z) fun a S => ?_
    (refine q_nil ?_; intro w W; replace S := St.mk S W; clear W)
    refine then_normal (hK4 _ _ (st_else S (.t rfl) (wp_skip (in_normal (then_normal (hK3 _ _ (sg S (.fa underlying39 sizeOf33 0 rfl rfl rfl <| .ld gt33 1 rfl rfl rfl <| .mv rfl <| .yy (ys_slHi underlying33 sizeOf71 (.t rfl) (.t rfl) (fun _ => by first | omega | (simp; done) | (simp; omega))) rfl <| .ln underlying33 rfl <| .mc rfl <| .z) fun a w S => wp_block ?_)))))))
    refine st_lpM S [6, 65] (X := Nat) (fun j => [(65, true, .int .i64 (j : Int))]) (fun _ => [.blk g2 (.cells (Ent.enc x).toArray 71), .blk g1 (.cells #[.slice (some ⟨g, o, none⟩) l.length cap, v2, v3] 39)])
      (fun j => j ≤ (k + 1) ∧ x.dot ∉ (l.take j).map (·.dot)) (fun j => (k + 1) - j) 0 ⟨Nat.zero_le _, by simp⟩ ?_
    clear S
    intro j a w ⟨hj, hdup⟩ S
    by_cases hjk : j < (k + 1)
    · obtain ⟨g3, o3, y, e3, hy, hdy, hcy⟩ := row_at hA (show j < l.length by omega)
      cases e3
      by_cases he : y.dot = x.dot
      · have hin : x.dot ∈ (l.take ((k + 1))).map (·.dot) := he ▸ dup_at hjk hy
        rw [if_neg hnb, if_pos hin] at he0
        rw [bad (by rw [he0]; decide), he0]
        have rw_e := decide_eq_true (dot_iff3.1 he)
        refine sg S (.lt (by omega) rfl rfl <| .z) fun a w S => wp_seq_k fun _ hK3 => st_then S (.t rfl) (wp_skip (then_normal (hK3 _ _ (wp_seq_k fun _ hK3 => wp_block (wp_seq_k fun _ hK4 => wp_region_lit (run S (.ix underlying33 sizeOf71 (by omega) rfl rfl <| .yy (ys_ldOA ⟨isAgg71, sizeOf71⟩ (.t rfl) (vs := [_, _, _, _, _, _]) rfl (fun _ => hcy)) rfl <| .z) fun a w S => st_m (op_alloc S zeroValue71 (cs := _) rfl rfl fun g3 a w S => st_m (op_stW S sizeOf71 (.t rfl) (.t rfl) (k := 0) rfl rfl rfl (by simp [Value.oneCell']) fun a w S => st_nil (then_normal (hK4 _ _ (wp_seq_k fun _ hK4 => wp_region_lit (run S (.fa underlying71 sizeOf58 1 rfl rfl rfl <| .la gt58 0 rfl rfl rfl <| .fa underlying71 sizeOf58 1 rfl rfl rfl <| .la gt58 1 rfl rfl rfl <| .yy (ys_eqA (.t rfl) (.t rfl) eq58) rfl <| .z) fun a w S => ?_))))))))))))
        rw [rw_e] at S
        refine st_nil (then_normal (hK4 _ _ (st_then S (.t rfl) (sg S (.ac rfl <| .z) fun a w S => wp_ret (in_ret (then_ret (then_ret (in_ret (in_ret (then_ret (then_ret (in_ret (then_ret (st_ret S (results1 S results66 (Rv.tmp rfl)) ?_))))))))))))))
        exact ⟨rfl, S.wd.below⟩
      · have rw_e := decide_eq_false (fun h => he (dot_iff3.2 h))
        refine sg S (.lt (by omega) rfl rfl <| .z) fun a w S => wp_seq_k fun _ hK3 => st_then S (.t rfl) (wp_skip (then_normal (hK3 _ _ (wp_seq_k fun _ hK3 => wp_block (wp_seq_k fun _ hK4 => wp_region_lit (run S (.ix underlying33 sizeOf71 (by omega) rfl rfl <| .yy (ys_ldOA ⟨isAgg71, sizeOf71⟩ (.t rfl) (vs := [_, _, _, _, _, _]) rfl (fun _ => hcy)) rfl <| .z) fun a w S => st_m (op_alloc S zeroValue71 (cs := _) rfl rfl fun g3 a w S => st_m (op_stW S sizeOf71 (.t rfl) (.t rfl) (k := 0) rfl rfl rfl (by simp [Value.oneCell']) fun a w S => st_nil (then_normal (hK4 _ _ (wp_seq_k fun _ hK4 => wp_region_lit (run S (.fa underlying71 sizeOf58 1 rfl rfl rfl <| .la gt58 0 rfl rfl rfl <| .fa underlying71 sizeOf58 1 rfl rfl rfl <| .la gt58 1 rfl rfl rfl <| .yy (ys_eqA (.t rfl) (.t rfl) eq58) rfl <| .z) fun a w S => ?_))))))))))))
        rw [rw_e] at S
        refine st_nil (then_normal (hK4 _ _ (st_else S (.t rfl) (wp_skip (in_normal (then_normal (hK3 _ _ (wp_region_lit (run S (.ad (by unfold I64; omega) rfl <| .mv rfl <| .z) fun a w S => st_nil (then_normal ?_))))))))))
        exact ⟨j + 1, ⟨by omega, dup_step hy hdup he⟩, by omega, S.pk⟩
    · obtain rfl : j = (k + 1) := by omega
      rw [if_neg hnb, if_neg hdup] at he0
      rw [if_pos he0] at hst
      refine sg S (.ge (by omega) rfl rfl <| .z) fun a w S => wp_seq_k fun _ hK3 => st_else S (.t rfl) (wp_exit (then_exit (then_exit (in_here (in_normal (then_normal (hK2 _ _ (wp_region_lit (run S (.ad (by unfold I64; omega) rfl <| .mv rfl <| .z) fun a w S => st_nil (then_normal ?_))))))))))
      exact ⟨(k + 1) + 1, ⟨by omega, hst.symm⟩, by omega, S.pk⟩
  · rw [if_pos (.inr (by simp [backE, hlt2]))] at he0
    rw [bad (by rw [he0]; decide), he0]
    have rw_l : decide (ltE p x) = false := decide_eq_false hlt2
    refine sg S (.lt (by omega) rfl rfl <| .z) fun a w S => wp_seq_k fun _ hK2 => st_then S (.t rfl) (wp_skip (then_normal (hK2 _ _ (wp_seq_k fun _ hK2 => wp_block (wp_seq_k fun _ hK3 => wp_region_lit (run S (.mv rfl <| .ix underlying33 sizeOf71 (by omega) rfl rfl <| .yy (ys_ldOA ⟨isAgg71, sizeOf71⟩ (.t rfl) (vs := [_, _, _, _, _, _]) rfl (fun _ => hc)) rfl <| .z) fun a w S => st_m (op_alloc S zeroValue71 (cs := _) rfl rfl fun g2 a w S => run S (.as rfl <| .z) fun a w S => st_m (op_stW S sizeOf71 (.t rfl) (.t rfl) (k := 0) rfl rfl rfl (by simp [Value.oneCell']) fun a w S => st_nil (then_normal (hK3 _ _ (wp_seq_k fun _ hK3 => wp_block (wp_seq_k fun _ hK4 => wp_region_lit (run S (.fa underlying71 sizeOf9 0 rfl rfl rfl <| .ld gt9 0 rfl rfl rfl <| .xx (ys_call call127 (.cons (.t rfl) .nil) (fun hp w W => c127 _ _)) rfl <| .z) fun a w S => ?_)))))))))))))
    rw [rw_n] at S
    refine run S (.nt rfl <| .as rfl <| .z) fun a w S => st_nil (then_normal (hK4 _ _ (st_else S (.t rfl) (wp_seq_k fun _ hK4 => wp_region_lit (run S (.fa underlying71 sizeOf3 4 rfl rfl rfl <| .ld gt3 0 rfl rfl rfl <| .xx (ys_call call128 (.cons (.t rfl) (.cons Ev.c .nil)) (fun hp w W => c128 _ _ _)) rfl <| .z) fun a w S => ?_)))))
    rw [rw_q] at S
    refine run S (.nt rfl <| .as rfl <| .z) fun a w S => st_nil (then_normal (hK4 _ _ (st_else S (.t rfl) (wp_seq_k fun _ hK4 => wp_region_lit (run S (.fa underlying71 sizeOf27 5 rfl rfl rfl <| .ld gt27 0 rfl rfl rfl <| .xx (ys_call call129 (.cons (.t rfl) .nil) (fun hp w W => c129 _ _)) rfl <| .z) fun a w S => ?_)))))
    rw [rw_p] at S
    refine run S (.nt rfl <| .as rfl <| .z) fun a w S => st_nil (then_normal (hK4 _ _ (st_else S (.t rfl) (wp_seq_k fun _ hK4 => st_quiet S (by kernel_rfl) (by kernel_rfl) fun a S => qrun S (.fa underlying39 sizeOf37 1 rfl rfl rfl <| .la gt37 1 rfl rfl rfl <| .fa underlying71 sizeOf58 1 rfl rfl rfl <| .la gt58 0 rfl rfl rfl <| .xx (ys_call call37 (.cons (.t rfl) (.cons (.t rfl) .nil)) (fun hp w W => c37 _ _ _ _ _ _ _ (by exact .old W (by assumption)))) rfl <| .z) fun a S => ?_))))
    rw [rw_cov] at S
    rw [rw_c] at S
    refine qrun S (.nt rfl <| .mv rfl <| .gy rfl rfl (ys_move (.t rfl)) <| .gy rfl rfl (ys_T (by omega) (ys_gtr (.t rfl) Ev.c)) <| .gy rfl rfl (ys_move (.t rfl)) <| .gy rfl rfl (ys_ldA ⟨isAgg71, sizeOf71⟩ (.t rfl) (k := 0) rfl rfl) <| .gy rfl rfl (ys_fieldN (FieldT.mk underlying39 rfl sizeOf33 rfl) (.t rfl) (i' := 0) rfl) <| .gy rfl rfl (ys_ld ⟨isAgg33, sizeOf33⟩ (.t rfl) (k := 1) rfl rfl) <| .gy rfl rfl (ys_move (.t rfl)) <| .gy rfl rfl (ys_pred (.t rfl) Ev.c (by omega)) <| .gy rfl rfl (ys_ixS underlying33 sizeOf71 (.t rfl) (.t rfl) (fun _ => by omega)) <| .gy rfl rfl (ys_ldOA ⟨isAgg71, sizeOf71⟩ (.t rfl) (vs := [_, _, _, _, _, _]) rfl (fun _ => hcp)) <| .gx rfl rfl (ys_call call130 (.cons (.t rfl) (.cons (.t rfl) .nil)) (fun hp w W => c130 _ _ _)) <| .z) fun a S => ?_
    rw [rw_l] at S
    refine qrun S (.gy rfl rfl (ys_not (.t rfl)) <| .gy rfl rfl (ys_pickT (.t rfl) (.t rfl)) <| .yy (ys_pickF (.t rfl) (.t rfl)) rfl <| .as rfl <| .z) fun a S => ?_
    (refine q_nil ?_; intro w W; replace S := St.mk S W; clear W)
    refine then_normal (hK4 _ _ (st_then S (.t rfl) (sg S (.ac rfl <| .z) fun a w S => wp_ret (in_ret (then_ret (in_ret (then_ret (then_ret (in_ret (then_ret (st_ret S (results1 S results66 (Rv.tmp rfl)) ?_)))))))))))
    exact ⟨rfl, S.wd.below⟩
end Go.Proofs.YtfblmkocmnbdcaaGreat
set_option linter.unusedVariables false
set_option linter.unusedSimpArgs false
set_option maxRecDepth 100000
namespace Go.Proofs.YtfblmkocmnbdcaaGreat
open Go.Fw Go.Proofs Go.RowKit Go.Proofs.Tryz
theorem c190 (w0 w : World) (L : List Chunk) (A1 A2 : Option Addr) (c1 c2 : Nat) (m d : List Dot) (W : Wd w0 (rowOf 122 3 Dot.enc A1 c1 m :: rowOf 58 3 Dot.enc A2 c2 d :: L) w) (hn : m.length + d.length ≤ 4000000) (hi : ∀ x ∈ m, mayD x = true) (hi' : ∀ x ∈ d, mayD x = true) :
    RetsO Tryz.prog 190 #[.slice A1 m.length c1, .slice A2 d.length c2] w0 w fun v L' => ∃ A1' c1' A2' c2', v = .agg #[.slice A1' (settledL (d.length + 1) m d).marks.length c1', .slice A2' (settledL (d.length + 1) m d).cloud.length c2'] ∧
      L' = rowOf 122 3 Dot.enc A1' c1' (settledL (d.length + 1) m d).marks :: rowOf 58 3 Dot.enc A2' c2' (settledL (d.length + 1) m d).cloud :: L := by
  refine enterW2 W func190 rfl ntmps190 rfl fun a S => ?_
  clear W
  refine wp_seq_k fun _ hK1 => wp_region_lit (st_m (op_alloc S zeroValue37 (cs := _) rfl rfl fun g1 a w S => st_nil (then_normal (hK1 _ _ (wp_seq_k fun _ hK1 => sg S (.ac rfl <| .z) fun a w S => wp_block ?_)))))
  refine st_lpK S.back2 (X := Bool × Option Addr × Nat × List Dot × Option Addr × Nat × List Dot)
    (fun q => [(5, true, .bool q.1), (0, true, .slice q.2.1 q.2.2.2.1.length q.2.2.1), (1, true, .slice q.2.2.2.2.1 q.2.2.2.2.2.2.length q.2.2.2.2.2.1)])
    (fun q _ => rowOf 122 3 Dot.enc q.2.1 q.2.2.1 q.2.2.2.1 :: rowOf 58 3 Dot.enc q.2.2.2.2.1 q.2.2.2.2.2.1 q.2.2.2.2.2.2 :: .blk g1 (.cells #[.slice none 0 0, .slice none 0 0] 37) :: L)
    (fun q => (∀ x ∈ q.2.2.2.1, mayD x = true) ∧ (∀ x ∈ q.2.2.2.2.2.2, mayD x = true) ∧ q.2.2.2.1.length + q.2.2.2.2.2.2.length ≤ 4000000 ∧ (q.1 = true → ∃ f, q.2.2.2.2.2.2.length < f ∧ settledL f q.2.2.2.1 q.2.2.2.2.2.2 = settledL (d.length + 1) m d) ∧ (q.1 = false → ⟨q.2.2.2.1, q.2.2.2.2.2.2⟩ = settledL (d.length + 1) m d))
    (fun q => if q.1 then q.2.2.2.2.2.2.length + 1 else 0) (true, A1, c1, m, A2, c2, d) ⟨hi, hi', hn, fun _ => ⟨_, Nat.lt_succ_self _, rfl⟩, fun h => by cases h⟩ ?_
  clear S
  intro ⟨again, B, cB, ms, D, cD, ds⟩ a w ⟨hms, hds, hln, hag, hno⟩ S
  dsimp only at hms hds hln hag hno S
  cases again
  · have hno := hno rfl
    refine wp_seq_k fun _ hK2 => sg S (.mv rfl <| .z) fun a w S => st_else S (.t rfl) (wp_exit (then_exit (then_exit (in_here (then_normal (hK1 _ _ (wp_seq_k fun _ hK1 => wp_region_lit (run S (.mv rfl <| .mv rfl <| .yy (ys_bld (ps := [(0, Go.Operand.tmp 43), (1, Go.Operand.tmp 44)]) (us := [_, _]) bld37 (.cons (.t rfl) (.cons (.t rfl) .nil)) rfl) rfl <| .z) fun a w S => st_m (op_stW S sizeOf37 (.t rfl) (.t rfl) (k := 2) rfl rfl rfl (by simp [Value.oneCell']) fun a w S => st_nil (then_normal (hK1 _ _ (wp_ret (st_ret S (results1 S results190 (Rv.cell (k := 2) ⟨isAgg37, sizeOf37⟩ rfl rfl rfl)) ?_)))))))))))))
    rw [← hno]
    exact ⟨_, _, rfl, S.wd.sub (by repeat (first | exact List.Sublist.refl _ | exact List.nil_sublist _ | refine .cons_cons _ ?_ | refine .cons _ ?_)), B, cB, D, cD, rfl, rfl⟩
  · obtain ⟨f, hf, hset⟩ := hag rfl
    clear hno hag
    refine wp_seq_k fun _ hK2 => sg S (.mv rfl <| .z) fun a w S => st_then S (.t rfl) (wp_skip (then_normal (hK2 _ _ (wp_block (sg S (.ac rfl <| .z) fun a w S => sg S (.ac rfl <| .z) fun a w S => wp_seq_k fun _ hK2 => sg S (.mv rfl <| .ln underlying35 rfl <| .mc rfl <| .z) fun a w S => wp_block ?_)))))
    refine st_lpK (S.nil_ 58 3 Dot.enc none).swap (X := Nat × Bool × Option Addr × Nat × List Dot × Option Addr × Nat × List Dot)
      (fun q => [(13, true, .int .i64 (q.1 : Int)), (5, true, .bool q.2.1), (0, true, .slice q.2.2.1 q.2.2.2.2.1.length q.2.2.2.1), (6, true, .slice q.2.2.2.2.2.1 q.2.2.2.2.2.2.2.length q.2.2.2.2.2.2.1)])
      (fun q _ => rowOf 122 3 Dot.enc q.2.2.1 q.2.2.2.1 q.2.2.2.2.1 :: rowOf 58 3 Dot.enc q.2.2.2.2.2.1 q.2.2.2.2.2.2.1 q.2.2.2.2.2.2.2 :: rowOf 58 3 Dot.enc D cD ds :: .blk g1 (.cells #[.slice none 0 0, .slice none 0 0] 37) :: L)
      (fun q => q.1 ≤ ds.length ∧ (∀ x ∈ q.2.2.2.2.1, mayD x = true) ∧ q.2.2.2.2.1.length + q.2.2.2.2.2.2.2.length + (ds.length - q.1) ≤ 4000000 ∧ settleIn (ds.drop q.1) q.2.2.2.2.1 q.2.2.2.2.2.2.2 q.2.1 = settleIn ds ms [] false)
      (fun q => ds.length - q.1) (0, false, B, cB, ms, none, 0, []) ⟨Nat.zero_le _, hms, by dsimp only [List.length_nil]; omega, rfl⟩ ?_
    clear S
    intro ⟨k, ag, B', cB', ms', E, cE, ls⟩ a w ⟨hk, hms', hln', hno⟩ S
    dsimp only at hk hms' hln' hno S
    by_cases hlt : k < ds.length
    · obtain ⟨g, y, rfl, hmm, hd⟩ := own_at (k := 2) S.wd rfl hlt
      have hmay := hds y (List.mem_of_getElem? hmm)
      have hmk := markOf_may (x := y.node) (y := y.life) hms'
      rw [hd, settleIn] at hno
      refine sg S (.lt (by omega) rfl rfl <| .z) fun a w S => wp_seq_k fun _ hK3 => st_then S (.t rfl) (wp_skip (then_normal (hK3 _ _ (wp_seq_k fun _ hK3 => wp_block (wp_seq_k fun _ hK4 => wp_region_lit (run S (.ix underlying35 sizeOf58 (by omega) rfl rfl <| .yy (ys_ldWA ⟨isAgg58, sizeOf58⟩ (.t rfl) (k := 2) rfl hmm (fun _ => rfl)) rfl <| .z) fun a w S => st_m (op_alloc S zeroValue58 (cs := _) rfl rfl fun g2 a w S => st_m (op_stW S sizeOf58 (.t rfl) (.t rfl) (k := 0) rfl rfl rfl (by simp [Value.oneCell']) fun a w S => st_nil (then_normal (hK4 _ _ (sg S (.mv rfl <| .fa underlying58 sizeOf3 0 rfl rfl rfl <| .ld gt3 0 rfl rfl rfl <| .fa underlying58 sizeOf3 1 rfl rfl rfl <| .ld gt3 0 rfl rfl rfl <| .xx (ys_call call95 (.cons (.t rfl) (.cons (.t rfl) (.cons (.t rfl) .nil))) (fun hp w W => c95 _ _ _ _ _ (by exact Sl.of_own W (k := 1) rfl (fun _ => rfl)))) rfl <| .as rfl <| .z) fun a w S => wp_block (sg S (.fa underlying58 sizeOf3 2 rfl rfl rfl <| .ld gt3 0 rfl rfl rfl <| .mv rfl <| .yy (ys_leq (.t rfl) (.t rfl)) rfl <| .as rfl <| .z) fun a w S => ?_))))))))))))
      refine st_if S (.t rfl) (fun h1 => ?_) (fun h1 => ?_)
      refine wp_skip (in_normal (in_normal (then_normal (hK3 _ _ (wp_region_lit (run S (.ad (by unfold I64; omega) rfl <| .mv rfl <| .z) fun a w S => st_nil (then_normal ?_)))))))
      rotate_left
      refine sg S (.fa underlying58 sizeOf3 2 rfl rfl rfl <| .ld gt3 0 rfl rfl rfl <| .mv rfl <| .ad (by unfold I64; omega) rfl <| .yy (ys_eql (.t rfl) (.t rfl)) rfl <| .as rfl <| .z) fun a w S => ?_
      refine st_if S (.t rfl) (fun h2 => ?_) (fun h2 => ?_)
      refine wp_seq_k fun _ hK4 => wp_region_lit (run S (.mv rfl <| .la gt58 0 rfl rfl rfl <| .z) fun a w S => ?_)
      (refine st_m (op_calls S call188 (.cons (.t rfl) (.cons (.t rfl) .nil)) (c188 _ _ _ _ _ _ (by exact Sl.of_own S.wd (k := 1) rfl (fun _ => rfl)) (by omega)) rfl ?_); clear S a w; rintro _ _ ⟨A3, c3, rfl, rfl⟩ a w S)
      refine run S (.as rfl <| .z) fun a w S => st_nil (then_normal (hK4 _ _ (wp_region_lit (run S (.ac rfl <| .z) fun a w S => st_nil (in_normal (in_normal (then_normal (hK3 _ _ (wp_region_lit (run S (.ad (by unfold I64; omega) rfl <| .mv rfl <| .z) fun a w S => st_nil (then_normal ?_)))))))))))
      rotate_left
      refine wp_region_lit (run S (.mv rfl <| .la gt58 0 rfl rfl rfl <| .z) fun a w S => st_m (op_bslice1 S underlying35 inf58 rfl rfl rfl (.t rfl) rfl rfl rfl fun g3 a w S => st_m (op_push S underlying35 inf58 rfl (k := 3) (j := 0) rfl (.t rfl) (.t rfl) rfl rfl rfl rfl (by first | omega | (simp only [List.length_append, List.length_cons, List.length_nil]; omega)) rfl rfl rfl fun A3 cap1 a w S => run S (.as rfl <| .z) fun a w S => st_nil (in_normal (in_normal (then_normal (hK3 _ _ (wp_region_lit (run S (.ad (by unfold I64; omega) rfl <| .mv rfl <| .z) fun a w S => st_nil (then_normal ?_))))))))))
      rotate_left
      · rw [if_pos h1] at hno
        exact ⟨(k + 1, ag, B', cB', ms', E, cE, ls), ⟨by dsimp only; omega, hms', by dsimp only; omega, hno⟩, by dsimp only; omega, S.wk⟩
      · rw [if_neg h1, if_pos h2] at hno
        have hsl := setL_len y ms' false
        simp only [Bool.false_eq_true, if_false] at hsl
        exact ⟨(k + 1, true, A3, c3, setL y false ms', E, cE, ls), ⟨by dsimp only; omega, setL_may hmay hms', by dsimp only; omega, hno⟩, by dsimp only; omega, S.wk⟩
      · rw [if_neg h1, if_neg h2] at hno
        exact ⟨(k + 1, ag, B', cB', ms', A3, cap1, ls ++ [y]), ⟨by dsimp only; omega, hms', by simp; omega, hno⟩, by dsimp only; omega, S.wk⟩
    · refine sg S (.ge (by omega) rfl rfl <| .z) fun a w S => wp_seq_k fun _ hK3 => st_else S (.t rfl) (wp_exit (then_exit (then_exit (in_here (then_normal (hK2 _ _ (wp_region_lit (run S (.mv rfl <| .as rfl <| .z) fun a w S => st_nil (in_normal (then_normal ?_))))))))))
      have hend : k = ds.length := by omega
      subst hend
      rw [List.drop_length, settleIn] at hno
      have hl3 := settleIn_len ds ms [] false
      have hv := settleIn_may (b := false) hds hms (l := []) (by simp)
      rw [← hno] at hl3 hv
      simp only [List.length_nil] at hl3
      obtain ⟨f, rfl⟩ : ∃ f', f = f' + 1 := ⟨f - 1, by omega⟩
      rw [settledL, ← hno] at hset
      refine ⟨(ag, B', cB', ms', E, cE, ls), ⟨hv.1, hv.2, by dsimp only; omega, fun h => ?_, fun h => ?_⟩, ?_, S.wk⟩
      · dsimp only at h
        subst h
        exact ⟨f, by have := hl3.2.1 trivial rfl; dsimp only; omega, hset⟩
      · dsimp only at h
        subst h
        exact hset
      · dsimp only
        cases ag
        · simp
        · have := hl3.2.1 trivial rfl
          simp; omega
theorem c150 (w0 : World) (v1 v2 : Value) (l d : List Dot) (h : Sl Dot.enc 3 w0 w0.heap.size v1 l) (h' : Sl Dot.enc 3 w0 w0.heap.size v2 d) (hn : l.length ≤ 1900000) (hn' : d.length ≤ 1900000) :
    Rets Tryz.prog 150 #[v1, v2] w0 fun v L => ∃ A1 c1 A2 c2, v = .tuple #[.agg #[.slice A1 (normalL l d).1.marks.length c1, .slice A2 (normalL l d).1.cloud.length c2], .int .i64 (normalL l d).2] ∧
      L = [rowOf 122 3 Dot.enc A1 c1 (normalL l d).1.marks, rowOf 58 3 Dot.enc A2 c2 (normalL l d).1.cloud] := by
  obtain ⟨A, cap, rfl, hl, hcap, hA⟩ := h
  obtain ⟨A', cap', rfl, hl', hcap', hA'⟩ := h'
  unfold Go.Fw.Rets
  refine enter2 func150 rfl ntmps150 rfl fun a S => wp_seq_k fun _ hK1 => wp_region_lit (st_m (op_alloc S zeroValue37 (cs := _) rfl rfl fun g1 a w S => run S (.ac rfl <| .z) fun a w S => st_nil (then_normal (hK1 _ _ (wp_seq_k fun _ hK1 => sg S (.mv rfl <| .ln underlying34 rfl <| .mc rfl <| .z) fun a w S => wp_block ?_)))))
  refine st_lpK S (X := Nat) (fun k => [(19, true, .int .i64 (k : Int))]) (fun _ L => L) (fun k => k ≤ l.length ∧ ∀ x ∈ l.take k, mayD x = true) (fun k => l.length - k) 0 ⟨Nat.zero_le _, by simp⟩ ?_
  clear S
  intro k a w ⟨hk, hno⟩ S
  by_cases hlt : k < l.length
  · obtain ⟨g, o, m, rfl, hmm, hd, hc⟩ := row_at hA hlt
    clear hA
    refine sg S (.lt (by omega) rfl rfl <| .z) fun a w S => wp_seq_k fun _ hK2 => st_then S (.t rfl) (wp_skip (then_normal (hK2 _ _ (wp_seq_k fun _ hK2 => wp_block (wp_seq_k fun _ hK3 => wp_region_lit (run S (.ix underlying34 sizeOf122 (by omega) rfl rfl <| .yy (ys_ldOA ⟨isAgg122, sizeOf122⟩ (.t rfl) (vs := [_, _, _]) rfl (fun _ => hc)) rfl <| .z) fun a w S => st_m (op_alloc S zeroValue122 (cs := _) rfl rfl fun g2 a w S => st_m (op_stW S sizeOf122 (.t rfl) (.t rfl) (k := 0) rfl rfl rfl (by simp [Value.oneCell']) fun a w S => st_nil (then_normal (hK3 _ _ (sg S (.la gt122 0 rfl rfl rfl <| .xx (ys_call call165 (.cons (.t rfl) .nil) (fun hp w W => c165 _ _ _ _)) rfl <| .nt rfl <| .z) fun a w S => ?_)))))))))))
    refine st_cond S (.t rfl) (fun h1 => ?_) (fun h1 => ?_)
    refine wp_seq_k fun _ hK3 => wp_region_lit (run S (.yy (ys_bld (ps := []) (us := [_, _]) bld37 .nil rfl) rfl <| .z) fun a w S => st_m (op_stW S sizeOf37 (.t rfl) (.t rfl) (k := 1) rfl rfl rfl (by simp [Value.oneCell']) fun a w S => run S (.ac rfl <| .z) fun a w S => st_nil (then_normal (hK3 _ _ (wp_ret (in_ret (then_ret (then_ret (in_ret (then_ret (st_ret S (results2 S results150 (Rv.cell (k := 1) ⟨isAgg37, sizeOf37⟩ rfl rfl rfl) (Rv.tmp rfl)) ?_)))))))))))
    rotate_left
    refine wp_skip (in_normal (then_normal (hK2 _ _ (wp_region_lit (run S (.ad (by unfold I64; omega) rfl <| .mv rfl <| .z) fun a w S => st_nil (then_normal ?_))))))
    rotate_left
    · rw [normalL_bad1 hmm (by simpa using h1)]
      exact ⟨_, _, rfl, ((S.nil_ 58 3 Dot.enc none).nil_ 122 3 Dot.enc none).wd.sub (by repeat (first | exact List.Sublist.refl _ | exact List.nil_sublist _ | refine .cons_cons _ ?_ | refine .cons _ ?_)), none, 0, none, 0, rfl, rfl⟩
    · exact ⟨k + 1, ⟨by omega, all_step hmm hno (by simpa using h1)⟩, by omega, S.wk⟩
  · have hend : k = l.length := by omega
    subst hend
    rw [List.take_length] at hno
    have hml := hno
    clear hno
    refine sg S (.ge (by omega) rfl rfl <| .z) fun a w S => wp_seq_k fun _ hK2 => st_else S (.t rfl) (wp_exit (then_exit (then_exit (in_here (then_normal (hK1 _ _ (wp_seq_k fun _ hK1 => sg S (.mv rfl <| .ln underlying35 rfl <| .mc rfl <| .z) fun a w S => wp_block ?_)))))))
    refine st_lpK S (X := Nat) (fun k => [(30, true, .int .i64 (k : Int))]) (fun _ L => L) (fun k => k ≤ d.length ∧ ∀ x ∈ d.take k, mayD x = true) (fun k => d.length - k) 0 ⟨Nat.zero_le _, by simp⟩ ?_
    clear S
    intro k a w ⟨hk, hno⟩ S
    by_cases hlt : k < d.length
    · obtain ⟨g, o, m, rfl, hmm, hd, hc⟩ := row_at hA' hlt
      clear hA'
      refine sg S (.lt (by omega) rfl rfl <| .z) fun a w S => wp_seq_k fun _ hK3 => st_then S (.t rfl) (wp_skip (then_normal (hK3 _ _ (wp_seq_k fun _ hK3 => wp_block (wp_seq_k fun _ hK4 => wp_region_lit (run S (.ix underlying35 sizeOf58 (by omega) rfl rfl <| .yy (ys_ldOA ⟨isAgg58, sizeOf58⟩ (.t rfl) (vs := [_, _, _]) rfl (fun _ => hc)) rfl <| .z) fun a w S => st_m (op_alloc S zeroValue58 (cs := _) rfl rfl fun g2 a w S => st_m (op_stW S sizeOf58 (.t rfl) (.t rfl) (k := 0) rfl rfl rfl (by simp [Value.oneCell']) fun a w S => st_nil (then_normal (hK4 _ _ (sg S (.la gt58 0 rfl rfl rfl <| .xx (ys_call call149 (.cons (.t rfl) .nil) (fun hp w W => c149 _ _ _ _)) rfl <| .nt rfl <| .z) fun a w S => ?_)))))))))))
      refine st_cond S (.t rfl) (fun h1 => ?_) (fun h1 => ?_)
      refine wp_seq_k fun _ hK4 => wp_region_lit (run S (.yy (ys_bld (ps := []) (us := [_, _]) bld37 .nil rfl) rfl <| .z) fun a w S => st_m (op_stW S sizeOf37 (.t rfl) (.t rfl) (k := 1) rfl rfl rfl (by simp [Value.oneCell']) fun a w S => run S (.ac rfl <| .z) fun a w S => st_nil (then_normal (hK4 _ _ (wp_ret (in_ret (then_ret (then_ret (in_ret (then_ret (st_ret S (results2 S results150 (Rv.cell (k := 1) ⟨isAgg37, sizeOf37⟩ rfl rfl rfl) (Rv.tmp rfl)) ?_)))))))))))
      rotate_left
      refine wp_skip (in_normal (then_normal (hK3 _ _ (wp_region_lit (run S (.ad (by unfold I64; omega) rfl <| .mv rfl <| .z) fun a w S => st_nil (then_normal ?_))))))
      rotate_left
      · rw [normalL_bad2 hmm (by simpa using h1)]
        exact ⟨_, _, rfl, ((S.nil_ 58 3 Dot.enc none).nil_ 122 3 Dot.enc none).wd.sub (by repeat (first | exact List.Sublist.refl _ | exact List.nil_sublist _ | refine .cons_cons _ ?_ | refine .cons _ ?_)), none, 0, none, 0, rfl, rfl⟩
      · exact ⟨k + 1, ⟨by omega, all_step hmm hno (by simpa using h1)⟩, by omega, S.wk⟩
    · have hend : k = d.length := by omega
      subst hend
      rw [List.take_length] at hno
      have hmd := hno
      clear hno
      refine sg S (.ge (by omega) rfl rfl <| .z) fun a w S => wp_seq_k fun _ hK3 => st_else S (.t rfl) (wp_exit (then_exit (then_exit (in_here (then_normal (hK1 _ _ (sg S (.ac rfl <| .z) fun a w S => wp_seq_k fun _ hK1 => sg S (.mv rfl <| .ln underlying34 rfl <| .mc rfl <| .z) fun a w S => wp_block ?_)))))))
      refine st_lpK (S.nil_ 122 3 Dot.enc none) (X := Nat × Option Addr × Nat) (fun q => [(41, true, .int .i64 (q.1 : Int)), (10, true, .slice q.2.1 (setF (l.take q.1)).length q.2.2)])
        (fun q _ => rowOf 122 3 Dot.enc q.2.1 q.2.2 (setF (l.take q.1)) :: [.blk g1 (.cells #[.slice none 0 0, .slice none 0 0] 37)]) (fun q => q.1 ≤ l.length) (fun q => l.length - q.1) (0, none, 0) (Nat.zero_le _) ?_
      clear S
      intro ⟨k, B1, cB1⟩ a w hk S
      dsimp only at hk S
      have hfl := setF_len (l.take k)
      rw [List.length_take] at hfl
      by_cases hlt : k < l.length
      · obtain ⟨g, o, m, rfl, hmm, hd, hc⟩ := row_at hA hlt
        clear hA
        refine sg S (.lt (by omega) rfl rfl <| .z) fun a w S => wp_seq_k fun _ hK4 => st_then S (.t rfl) (wp_skip (then_normal (hK4 _ _ (wp_seq_k fun _ hK4 => wp_block (wp_seq_k fun _ hK5 => wp_region_lit (run S (.ix underlying34 sizeOf122 (by omega) rfl rfl <| .yy (ys_ldOA ⟨isAgg122, sizeOf122⟩ (.t rfl) (vs := [_, _, _]) rfl (fun _ => hc)) rfl <| .z) fun a w S => st_m (op_alloc S zeroValue122 (cs := _) rfl rfl fun g2 a w S => st_m (op_stW S sizeOf122 (.t rfl) (.t rfl) (k := 0) rfl rfl rfl (by simp [Value.oneCell']) fun a w S => st_nil (then_normal (hK5 _ _ (wp_region_lit (run S (.mv rfl <| .la gt122 0 rfl rfl rfl <| .z) fun a w S => ?_))))))))))))
        (refine st_m (op_calls S call188 (.cons (.t rfl) (.cons (.t rfl) .nil)) (c188 _ _ _ _ _ _ (by exact Sl.of_own S.wd (k := 1) rfl (fun _ => rfl)) (by omega)) rfl ?_); clear S a w; rintro _ _ ⟨A1, c1, rfl, rfl⟩ a w S)
        refine run S (.as rfl <| .z) fun a w S => st_nil (in_normal (then_normal (hK4 _ _ (wp_region_lit (run S (.ad (by unfold I64; omega) rfl <| .mv rfl <| .z) fun a w S => st_nil (then_normal ?_))))))
        exact ⟨(k + 1, A1, c1), by dsimp only; omega, by dsimp only; omega, by dsimp only; rw [setF_step hmm]; exact S.wk⟩
      · have hend : k = l.length := by omega
        subst hend
        rw [List.take_length] at S
        refine sg S (.ge (by omega) rfl rfl <| .z) fun a w S => wp_seq_k fun _ hK4 => st_else S (.t rfl) (wp_exit (then_exit (then_exit (in_here (then_normal (hK1 _ _ (sg S (.ac rfl <| .z) fun a w S => wp_seq_k fun _ hK1 => sg S (.mv rfl <| .ln underlying35 rfl <| .mc rfl <| .z) fun a w S => wp_block ?_)))))))
        refine st_lpK (S.nil_ 58 3 Dot.enc none) (X := Nat × Option Addr × Nat) (fun q => [(51, true, .int .i64 (q.1 : Int)), (13, true, .slice q.2.1 (insF (d.take q.1)).length q.2.2)])
          (fun q _ => rowOf 58 3 Dot.enc q.2.1 q.2.2 (insF (d.take q.1)) :: [rowOf 122 3 Dot.enc B1 cB1 (setF l), .blk g1 (.cells #[.slice none 0 0, .slice none 0 0] 37)]) (fun q => q.1 ≤ d.length) (fun q => d.length - q.1) (0, none, 0) (Nat.zero_le _) ?_
        clear S
        intro ⟨k, B2, cB2⟩ a w hk S
        dsimp only at hk S
        have hfl := insF_len (d.take k)
        rw [List.length_take] at hfl
        by_cases hlt : k < d.length
        · obtain ⟨g, o, m, rfl, hmm, hd, hc⟩ := row_at hA' hlt
          clear hA'
          refine sg S (.lt (by omega) rfl rfl <| .z) fun a w S => wp_seq_k fun _ hK5 => st_then S (.t rfl) (wp_skip (then_normal (hK5 _ _ (wp_seq_k fun _ hK5 => wp_block (wp_seq_k fun _ hK6 => wp_region_lit (run S (.ix underlying35 sizeOf58 (by omega) rfl rfl <| .yy (ys_ldOA ⟨isAgg58, sizeOf58⟩ (.t rfl) (vs := [_, _, _]) rfl (fun _ => hc)) rfl <| .z) fun a w S => st_m (op_alloc S zeroValue58 (cs := _) rfl rfl fun g2 a w S => st_m (op_stW S sizeOf58 (.t rfl) (.t rfl) (k := 0) rfl rfl rfl (by simp [Value.oneCell']) fun a w S => st_nil (then_normal (hK6 _ _ (wp_region_lit (run S (.mv rfl <| .la gt58 0 rfl rfl rfl <| .z) fun a w S => ?_))))))))))))
          (refine st_m (op_calls S call189 (.cons (.t rfl) (.cons (.t rfl) .nil)) (c189 _ _ _ _ _ _ (by exact Sl.of_own S.wd (k := 1) rfl (fun _ => rfl)) (by omega)) rfl ?_); clear S a w; rintro _ _ ⟨A1, c1, rfl, rfl⟩ a w S)
          refine run S (.as rfl <| .z) fun a w S => st_nil (in_normal (then_normal (hK5 _ _ (wp_region_lit (run S (.ad (by unfold I64; omega) rfl <| .mv rfl <| .z) fun a w S => st_nil (then_normal ?_))))))
          exact ⟨(k + 1, A1, c1), by dsimp only; omega, by dsimp only; omega, by dsimp only; rw [insF_step hmm]; exact S.wk⟩
        · have hend : k = d.length := by omega
          subst hend
          rw [List.take_length] at S
          refine sg S (.ge (by omega) rfl rfl <| .z) fun a w S => wp_seq_k fun _ hK5 => st_else S (.t rfl) (wp_exit (then_exit (then_exit (in_here (then_normal (hK1 _ _ (wp_seq_k fun _ hK1 => wp_region_lit (run S (.mv rfl <| .mv rfl <| .z) fun a w S => ?_))))))))
          have hl1 := setF_len l
          have hl2 := insF_len d
          refine st_m (op_callO S.swap call190 (.cons (.t rfl) (.cons (.t rfl) .nil)) (c190 _ _ _ _ _ _ _ _ _ S.swap.wd (by omega) (setF_may hml) (insF_may hmd)) rfl ?_)
          clear S
          rintro _ _ ⟨A3, c3, A4, c4, rfl, rfl⟩ a w S
          refine st_m (op_alloc S zeroValue37 (cs := _) rfl rfl fun g2 a w S => st_m (op_stW S sizeOf37 (.t rfl) (.t rfl) (k := 0) rfl rfl rfl (by simp [Value.oneCell']) fun a w S => st_nil (then_normal (hK1 _ _ (wp_seq_k fun _ hK1 => wp_seq_k fun _ hK6 => wp_region_lit (run S (.fa underlying37 sizeOf34 0 rfl rfl rfl <| .ld gt34 0 rfl rfl rfl <| .ln underlying34 rfl <| .yy (ys_gtr (.t rfl) Ev.c) rfl <| .mv rfl <| .z) fun a w S => st_yf S rfl rfl (Yr.ys (ys_fieldN (FieldT.mk underlying37 rfl sizeOf35 rfl) (.t rfl) (i' := 1) rfl)) rfl fun a w S => st_yf S rfl rfl (Yr.ys (ys_ld ⟨isAgg35, sizeOf35⟩ (Ev.g rfl) (k := 0) rfl rfl)) rfl fun a w S => st_yf S rfl rfl (Yr.ys (ys_lenS underlying35 (Ev.g rfl))) rfl fun a w S => st_yf S rfl rfl (Yr.ys (ys_gtr (Ev.g rfl) Ev.c)) rfl fun a w S => run S (.yy (ys_or (.t rfl) Ev.c (Ev.g rfl)) rfl <| .z) fun a w S => st_nil (then_normal (hK6 _ _ ?_))))))))
          refine st_cond S (.t rfl) (fun h1 => ?_) (fun h1 => ?_)
          refine wp_seq_k fun _ hK6 => wp_region_lit (run S (.yy (ys_bld (ps := []) (us := [_, _]) bld37 .nil rfl) rfl <| .z) fun a w S => st_m (op_stW S sizeOf37 (.t rfl) (.t rfl) (k := 3) rfl rfl rfl (by simp [Value.oneCell']) fun a w S => run S (.ac rfl <| .z) fun a w S => st_nil (then_normal (hK6 _ _ (wp_ret (then_ret (st_ret S (results2 S results150 (Rv.cell (k := 3) ⟨isAgg37, sizeOf37⟩ rfl rfl rfl) (Rv.tmp rfl)) ?_)))))))
          rotate_left
          refine wp_skip (then_normal (hK1 _ _ (wp_seq_k fun _ hK1 => wp_region_lit (run S (.la gt37 0 rfl rfl rfl <| .z) fun a w S => st_m (op_stW S sizeOf37 (.t rfl) (.t rfl) (k := 3) rfl rfl rfl (by simp [Value.oneCell']) fun a w S => run S (.ac rfl <| .z) fun a w S => st_nil (then_normal (hK1 _ _ (wp_ret (st_ret S (results2 S results150 (Rv.cell (k := 3) ⟨isAgg37, sizeOf37⟩ rfl rfl rfl) (Rv.tmp rfl)) ?_)))))))))
          rotate_left
          · rw [normalL_ok hml hmd, if_pos (by simp at h1; omega)]
            exact ⟨_, _, rfl, ((S.nil_ 58 3 Dot.enc none).nil_ 122 3 Dot.enc none).wd.sub (by repeat (first | exact List.Sublist.refl _ | exact List.nil_sublist _ | refine .cons_cons _ ?_ | refine .cons _ ?_)), none, 0, none, 0, rfl, rfl⟩
          · rw [normalL_ok hml hmd, if_neg (by simp at h1; omega)]
            exact ⟨_, _, rfl, S.wd.sub (by repeat (first | exact List.Sublist.refl _ | exact List.nil_sublist _ | refine .cons_cons _ ?_ | refine .cons _ ?_)), A3, c3, A4, c4, rfl, rfl⟩
end Go.Proofs.YtfblmkocmnbdcaaGreat
set_option linter.unusedVariables false
set_option linter.unusedSimpArgs false
set_option maxRecDepth 100000
namespace Go.Proofs.YtfblmkocmnbdcaaGreat
open Go.Fw Go.Proofs Go.RowKit Go.Proofs.Tryz
theorem c174 (w0 : World) (x : Int) : Calls Tryz.prog 174 #[.int .i64 x] w0 fun e w' => e = .returned (.bool (decide (0 ≤ x) && decide (x < 8))) ∧ Bel w0.heap.size w0 w' := by
  refine enter1 func174 rfl ntmps174 rfl fun a S => sg S (.ac rfl <| .z) fun a w S => wp_seq_k fun _ hK1 => wp_region_lit (run S (.mv rfl <| .yy (ys_geq (.t rfl) Ev.c) rfl <| .mv rfl <| .z) fun a w S => st_yg S rfl rfl (Yr.ys (ys_move (.t rfl))) rfl fun a w S => st_yg S rfl rfl (Yr.ys (ys_lss (Ev.g rfl) Ev.c)) rfl fun a w S => run S (.yy (ys_and (.t rfl) (Ev.g rfl) Ev.c) rfl <| .as rfl <| .z) fun a w S => st_nil (then_normal (hK1 _ _ (wp_ret (st_ret S (results1 S results174 (Rv.tmp rfl)) ?_)))))
  exact ⟨rfl, S.wd.below⟩
theorem c175 (w0 : World) (x : Int) : Calls Tryz.prog 175 #[.int .i64 x] w0 fun e w' => e = .returned (.bool (decide (1 ≤ x) && decide (x ≤ 1099511627776))) ∧ Bel w0.heap.size w0 w' := by
  refine enter1 func175 rfl ntmps175 rfl fun a S => sg S (.ac rfl <| .z) fun a w S => wp_seq_k fun _ hK1 => wp_region_lit (run S (.mv rfl <| .yy (ys_geq (.t rfl) Ev.c) rfl <| .mv rfl <| .z) fun a w S => st_yg S rfl rfl (Yr.ys (ys_move (.t rfl))) rfl fun a w S => st_yg S rfl rfl (Yr.ys (ys_leq (Ev.g rfl) Ev.c)) rfl fun a w S => run S (.yy (ys_and (.t rfl) (Ev.g rfl) Ev.c) rfl <| .as rfl <| .z) fun a w S => st_nil (then_normal (hK1 _ _ (wp_ret (st_ret S (results1 S results175 (Rv.tmp rfl)) ?_)))))
  exact ⟨rfl, S.wd.below⟩
theorem c176 (w0 : World) (x : Int) : Calls Tryz.prog 176 #[.int .i64 x] w0 fun e w' => e = .returned (.bool (decide (1 ≤ x) && decide (x ≤ 1099511627776))) ∧ Bel w0.heap.size w0 w' := by
  refine enter1 func176 rfl ntmps176 rfl fun a S => sg S (.ac rfl <| .z) fun a w S => wp_seq_k fun _ hK1 => wp_region_lit (run S (.mv rfl <| .yy (ys_geq (.t rfl) Ev.c) rfl <| .mv rfl <| .z) fun a w S => st_yg S rfl rfl (Yr.ys (ys_move (.t rfl))) rfl fun a w S => st_yg S rfl rfl (Yr.ys (ys_leq (Ev.g rfl) Ev.c)) rfl fun a w S => run S (.yy (ys_and (.t rfl) (Ev.g rfl) Ev.c) rfl <| .as rfl <| .z) fun a w S => st_nil (then_normal (hK1 _ _ (wp_ret (st_ret S (results1 S results176 (Rv.tmp rfl)) ?_)))))
  exact ⟨rfl, S.wd.below⟩
theorem c145 (w0 : World) (x y z : Int) (b : Bool) (hb : mayD ⟨x, y, z⟩ = b) :
    Calls Tryz.prog 145 #[.agg #[.int .i64 x, .int .i64 y, .int .i64 z]] w0 fun e w' => e = .returned (.bool b) ∧ Bel w0.heap.size w0 w' := by
  refine enter1 func145 rfl ntmps145 rfl fun a S => wp_seq_k fun _ hK1 => wp_region_lit (st_m (op_box S (.t rfl) rfl fun g1 a w S => run S (.ac rfl <| .z) fun a w S => st_nil (then_normal (hK1 _ _ (wp_seq_k fun _ hK1 => wp_region_lit (run S (.fa underlying58 sizeOf3 0 rfl rfl rfl <| .ld gt3 0 rfl rfl rfl <| .xx (ys_call call174 (.cons (.t rfl) .nil) (fun hp w W => c174 _ _)) rfl <| .mv rfl <| .z) fun a w S => st_yg S rfl rfl (Yr.ys (ys_fieldN (FieldT.mk underlying58 rfl sizeOf3 rfl) (.t rfl) (i' := 1) rfl)) rfl fun a w S => st_yg S rfl rfl (Yr.ys (ys_ld ⟨isAgg3, sizeOf3⟩ (Ev.g rfl) (k := 0) rfl rfl)) rfl fun a w S => st_yg S rfl rfl (ys_call call175 (.cons (Ev.g rfl) .nil) (fun hp w W => c175 _ _)) rfl fun a w S => run S (.yy (ys_and (.t rfl) (Ev.g rfl) Ev.c) rfl <| .mv rfl <| .z) fun a w S => st_yg S rfl rfl (Yr.ys (ys_fieldN (FieldT.mk underlying58 rfl sizeOf3 rfl) (.t rfl) (i' := 2) rfl)) rfl fun a w S => st_yg S rfl rfl (Yr.ys (ys_ld ⟨isAgg3, sizeOf3⟩ (Ev.g rfl) (k := 0) rfl rfl)) rfl fun a w S => st_yg S rfl rfl (ys_call call176 (.cons (Ev.g rfl) .nil) (fun hp w W => c176 _ _)) rfl fun a w S => run S (.yy (ys_and (.t rfl) (Ev.g rfl) Ev.c) rfl <| .as rfl <| .z) fun a w S => st_nil (then_normal (hK1 _ _ (wp_ret (st_ret S (results1 S results145 (Rv.tmp rfl)) ?_))))))))))
  refine ⟨?_, S.wd.below⟩
  subst hb
  simp [mayD, Bool.and_assoc]
theorem c160 (w0 : World) (x y z x' y' z' : Int) (h : (0 ≤ x ∧ x ≤ 1099511627776) ∧ (0 ≤ y ∧ y ≤ 1099511627776) ∧ 0 ≤ z ∧ z ≤ 1099511627776) (h' : (0 ≤ x' ∧ x' ≤ 1099511627776) ∧ (0 ≤ y' ∧ y' ≤ 1099511627776) ∧ 0 ≤ z' ∧ z' ≤ 1099511627776) :
    Calls Tryz.prog 160 #[.agg #[.int .i64 x, .int .i64 y, .int .i64 z], .agg #[.int .i64 x', .int .i64 y', .int .i64 z']] w0 fun e w' => e = .returned (.int .i64 (orderD ⟨x, y, z⟩ ⟨x', y', z'⟩)) ∧ Bel w0.heap.size w0 w' := by
  refine enter2 func160 rfl ntmps160 rfl fun a S => wp_seq_k fun _ hK1 => wp_region_lit (st_m (op_box S (.t rfl) rfl fun g1 a w S => st_m (op_box S (.t rfl) rfl fun g2 a w S => run S (.ac rfl <| .z) fun a w S => st_nil (then_normal (hK1 _ _ (wp_seq_k fun _ hK1 => wp_block (sg S (.fa underlying58 sizeOf3 0 rfl rfl rfl <| .ld gt3 1 rfl rfl rfl <| .fa underlying58 sizeOf3 0 rfl rfl rfl <| .ld gt3 0 rfl rfl rfl <| .yy (ys_neq (.t rfl) (.t rfl)) rfl <| .as rfl <| .z) fun a w S => ?_)))))))
  refine st_if S (.t rfl) (fun h1 => ?_) (fun h1 => ?_)
  refine sg S (.fa underlying58 sizeOf3 0 rfl rfl rfl <| .ld gt3 1 rfl rfl rfl <| .fa underlying58 sizeOf3 0 rfl rfl rfl <| .ld gt3 0 rfl rfl rfl <| .yy (ys_subI (.t rfl) (.t rfl) (fun _ => by unfold I64; omega)) rfl <| .as rfl <| .z) fun a w S => wp_ret (in_ret (then_ret (st_ret S (results1 S results160 (Rv.tmp rfl)) ?_)))
  rotate_left
  refine sg S (.fa underlying58 sizeOf3 1 rfl rfl rfl <| .ld gt3 1 rfl rfl rfl <| .fa underlying58 sizeOf3 1 rfl rfl rfl <| .ld gt3 0 rfl rfl rfl <| .yy (ys_neq (.t rfl) (.t rfl)) rfl <| .as rfl <| .z) fun a w S => ?_
  refine st_if S (.t rfl) (fun h2 => ?_) (fun h2 => ?_)
  refine sg S (.fa underlying58 sizeOf3 1 rfl rfl rfl <| .ld gt3 1 rfl rfl rfl <| .fa underlying58 sizeOf3 1 rfl rfl rfl <| .ld gt3 0 rfl rfl rfl <| .yy (ys_subI (.t rfl) (.t rfl) (fun _ => by unfold I64; omega)) rfl <| .as rfl <| .z) fun a w S => wp_ret (in_ret (then_ret (st_ret S (results1 S results160 (Rv.tmp rfl)) ?_)))
  rotate_left
  refine wp_skip (in_normal (then_normal (hK1 _ _ (sg S (.fa underlying58 sizeOf3 2 rfl rfl rfl <| .ld gt3 1 rfl rfl rfl <| .fa underlying58 sizeOf3 2 rfl rfl rfl <| .ld gt3 0 rfl rfl rfl <| .yy (ys_subI (.t rfl) (.t rfl) (fun _ => by unfold I64; omega)) rfl <| .as rfl <| .z) fun a w S => wp_ret (st_ret S (results1 S results160 (Rv.tmp rfl)) ?_)))))
  rotate_left
  all_goals refine ⟨?_, S.wd.below⟩
  all_goals simp_all [orderD]
theorem c109 (w0 : World) (v1 v2 : Value) (C : Ctx) (h : RdCtx w0 w0.heap.size v1 v2 C) :
    Calls Tryz.prog 109 #[.agg #[v1, v2]] w0 fun e w' => e = .returned (.bool (canL C)) ∧ Bel w0.heap.size w0 w' := by
  obtain ⟨⟨A, cap, rfl, hl, hcap, hA⟩, ⟨A', cap', rfl, hl', hcap', hA'⟩⟩ := h
  have hS : Sl Dot.enc 3 w0 w0.heap.size (.slice A C.marks.length cap) C.marks := ⟨A, cap, rfl, hl, hcap, hA⟩
  refine enter1 func109 rfl ntmps109 rfl fun a S => wp_seq_k fun _ hK1 => wp_region_lit (st_m (op_box S (.t rfl) rfl fun g1 a w S => run S (.ac rfl <| .z) fun a w S => st_nil (then_normal (hK1 _ _ (wp_seq_k fun _ hK1 => wp_seq_k fun _ hK2 => wp_region_lit (run S (.fa underlying37 sizeOf34 0 rfl rfl rfl <| .ld gt34 0 rfl rfl rfl <| .ln underlying34 rfl <| .yy (ys_gtr (.t rfl) Ev.c) rfl <| .mv rfl <| .z) fun a w S => st_yf S rfl rfl (Yr.ys (ys_fieldN (FieldT.mk underlying37 rfl sizeOf35 rfl) (.t rfl) (i' := 1) rfl)) rfl fun a w S => st_yf S rfl rfl (Yr.ys (ys_ld ⟨isAgg35, sizeOf35⟩ (Ev.g rfl) (k := 0) rfl rfl)) rfl fun a w S => st_yf S rfl rfl (Yr.ys (ys_lenS underlying35 (Ev.g rfl))) rfl fun a w S => st_yf S rfl rfl (Yr.ys (ys_gtr (Ev.g rfl) Ev.c)) rfl fun a w S => run S (.yy (ys_or (.t rfl) Ev.c (Ev.g rfl)) rfl <| .z) fun a w S => st_nil (then_normal (hK2 _ _ ?_))))))))
  refine st_cond S (.t rfl) (fun h1 => ?_) (fun h1 => ?_)
  refine sg S (.ac rfl <| .z) fun a w S => wp_ret (then_ret (st_ret S (results1 S results109 (Rv.tmp rfl)) ?_))
  rotate_left
  refine wp_skip (then_normal (hK1 _ _ (wp_seq_k fun _ hK1 => sg S (.fa underlying37 sizeOf34 0 rfl rfl rfl <| .ld gt34 0 rfl rfl rfl <| .ln underlying34 rfl <| .mc rfl <| .z) fun a w S => wp_block ?_)))
  rotate_left
  · exact ⟨by rw [canL_big (by simp at h1; omega)], S.wd.below⟩
  · have hbig : C.marks.length ≤ 64 ∧ C.cloud.length ≤ 64 := by simp at h1; omega
    refine st_lpK S (X := Nat) (fun k => [(21, true, .int .i64 (k : Int))]) (fun _ L => L) (fun k => k ≤ C.marks.length ∧ (∀ x ∈ C.marks.take k, mayD x = true) ∧ okM (prevD C.marks k) (C.marks.drop k) = okM none C.marks) (fun k => C.marks.length - k) 0 ⟨Nat.zero_le _, by simp, rfl⟩ ?_
    clear S h1
    intro k a w ⟨hk, hmy, hno⟩ S
    by_cases hlt : k < C.marks.length
    · obtain ⟨g, o, m, rfl, hmm, hd, hc⟩ := row_at hA hlt
      rw [hd, okM] at hno
      cases hb : mayD m with
      | false =>
        refine sg S (.lt (by omega) rfl rfl <| .z) fun a w S => wp_seq_k fun _ hK2 => st_then S (.t rfl) (wp_skip (then_normal (hK2 _ _ (wp_seq_k fun _ hK2 => wp_block (wp_seq_k fun _ hK3 => wp_region_lit (run S (.mv rfl <| .ix underlying34 sizeOf122 (by omega) rfl rfl <| .yy (ys_ldOA ⟨isAgg122, sizeOf122⟩ (.t rfl) (vs := [_, _, _]) rfl (fun _ => hc)) rfl <| .z) fun a w S => st_m (op_alloc S zeroValue122 (cs := _) rfl rfl fun g2 a w S => run S (.as rfl <| .z) fun a w S => st_m (op_stW S sizeOf122 (.t rfl) (.t rfl) (k := 0) rfl rfl rfl (by simp [Value.oneCell']) fun a w S => st_nil (then_normal (hK3 _ _ (wp_seq_k fun _ hK3 => sg S (.la gt122 0 rfl rfl rfl <| .xx (ys_call call113 (.cons (.t rfl) .nil) (fun hp w W => c113 _ _ _ _)) rfl <| .xx (ys_call call145 (.cons (.t rfl) .nil) (fun hp w W => c145 _ _ _ _ _ (by assumption))) rfl <| .nt rfl <| .z) fun a w S => st_then S (.t rfl) (sg S (.ac rfl <| .z) fun a w S => wp_ret (then_ret (in_ret (then_ret (then_ret (in_ret (then_ret (st_ret S (results1 S results109 (Rv.tmp rfl)) ?_)))))))))))))))))))
        exact ⟨by rw [canL_M (by rw [← hno, hb]; rfl)], S.wd.below⟩
      | true =>
        have hlm := may_lim hb
        rcases k with _ | k
        · refine sg S (.lt (by omega) rfl rfl <| .z) fun a w S => wp_seq_k fun _ hK2 => st_then S (.t rfl) (wp_skip (then_normal (hK2 _ _ (wp_seq_k fun _ hK2 => wp_block (wp_seq_k fun _ hK3 => wp_region_lit (run S (.mv rfl <| .yy (ys_ixS (j := 0) underlying34 sizeOf122 (.t rfl) (.t rfl) (fun _ => by omega)) rfl <| .yy (ys_ldOA ⟨isAgg122, sizeOf122⟩ (.t rfl) (vs := [_, _, _]) rfl (fun _ => hc)) rfl <| .z) fun a w S => st_m (op_alloc S zeroValue122 (cs := _) rfl rfl fun g2 a w S => run S (.as rfl <| .z) fun a w S => st_m (op_stW S sizeOf122 (.t rfl) (.t rfl) (k := 0) rfl rfl rfl (by simp [Value.oneCell']) fun a w S => st_nil (then_normal (hK3 _ _ (wp_seq_k fun _ hK3 => sg S (.la gt122 0 rfl rfl rfl <| .xx (ys_call call113 (.cons (.t rfl) .nil) (fun hp w W => c113 _ _ _ _)) rfl <| .xx (ys_call call145 (.cons (.t rfl) .nil) (fun hp w W => c145 _ _ _ _ _ (by assumption))) rfl <| .nt rfl <| .z) fun a w S => st_else S (.t rfl) (wp_skip (then_normal (hK3 _ _ (sg S (.mv rfl <| .yy (ys_F (by omega) (ys_gtr (.t rfl) Ev.c)) rfl <| .z) fun a w S => st_else S (.t rfl) (wp_skip (in_normal (then_normal (hK2 _ _ (wp_region_lit (run S (.ad (by unfold I64; omega) rfl <| .mv rfl <| .z) fun a w S => ?_)))))))))))))))))))))
          refine st_nil (then_normal ?_)
          exact ⟨0 + 1, ⟨by omega, all_step hmm hmy hb, by rw [prevD, hmm, ← hno, hb]; rfl⟩, by omega, S.wk⟩
        · obtain ⟨g', o', m', e', hmm', hd', hc'⟩ := row_at hA (show k < C.marks.length by omega)
          cases e'
          have hlm' := may_lim (hmy m' (by rw [List.take_add_one, hmm']; simp))
          have e : orderD m'.nl m.nl = orderD ⟨m'.node, m'.life, 0⟩ ⟨m.node, m.life, 0⟩ := rfl
          refine sg S (.lt (by omega) rfl rfl <| .z) fun a w S => wp_seq_k fun _ hK2 => st_then S (.t rfl) (wp_skip (then_normal (hK2 _ _ (wp_seq_k fun _ hK2 => wp_block (wp_seq_k fun _ hK3 => wp_region_lit (run S (.mv rfl <| .ix underlying34 sizeOf122 (by omega) rfl rfl <| .yy (ys_ldOA ⟨isAgg122, sizeOf122⟩ (.t rfl) (vs := [_, _, _]) rfl (fun _ => hc)) rfl <| .z) fun a w S => st_m (op_alloc S zeroValue122 (cs := _) rfl rfl fun g2 a w S => run S (.as rfl <| .z) fun a w S => st_m (op_stW S sizeOf122 (.t rfl) (.t rfl) (k := 0) rfl rfl rfl (by simp [Value.oneCell']) fun a w S => st_nil (then_normal (hK3 _ _ (wp_seq_k fun _ hK3 => sg S (.la gt122 0 rfl rfl rfl <| .xx (ys_call call113 (.cons (.t rfl) .nil) (fun hp w W => c113 _ _ _ _)) rfl <| .xx (ys_call call145 (.cons (.t rfl) .nil) (fun hp w W => c145 _ _ _ _ _ (by assumption))) rfl <| .nt rfl <| .z) fun a w S => st_else S (.t rfl) (wp_skip (then_normal (hK3 _ _ (sg S (.mv rfl <| .yy (ys_T (by omega) (ys_gtr (.t rfl) Ev.c)) rfl <| .z) fun a w S => st_then S (.t rfl) (wp_seq_k fun _ hK3 => wp_region_lit ?_))))))))))))))))
          refine run S (.fa underlying37 sizeOf34 0 rfl rfl rfl <| .ld gt34 1 rfl rfl rfl <| .mv rfl <| .yy (ys_pred (.t rfl) Ev.c (by omega)) rfl <| .ix underlying34 sizeOf122 (by omega) rfl rfl <| .yy (ys_ldOA ⟨isAgg122, sizeOf122⟩ (.t rfl) (vs := [_, _, _]) rfl (fun _ => hc')) rfl <| .z) fun a w S => st_m (op_alloc S zeroValue122 (cs := _) rfl rfl fun g3 a w S => st_m (op_stW S sizeOf122 (.t rfl) (.t rfl) (k := 0) rfl rfl rfl (by simp [Value.oneCell']) fun a w S => st_nil (then_normal (hK3 _ _ (sg S (.fa underlying122 sizeOf3 0 rfl rfl rfl <| .ld gt3 0 rfl rfl rfl <| .fa underlying122 sizeOf3 1 rfl rfl rfl <| .ld gt3 0 rfl rfl rfl <| .yy (ys_bld (ps := [(0, Go.Operand.tmp 39), (1, Go.Operand.tmp 41)]) (us := [_, _, _]) bld58 (.cons (.t rfl) (.cons (.t rfl) .nil)) rfl) rfl <| .fa underlying122 sizeOf3 0 rfl rfl rfl <| .ld gt3 1 rfl rfl rfl <| .fa underlying122 sizeOf3 1 rfl rfl rfl <| .ld gt3 1 rfl rfl rfl <| .yy (ys_bld (ps := [(0, Go.Operand.tmp 44), (1, Go.Operand.tmp 46)]) (us := [_, _, _]) bld58 (.cons (.t rfl) (.cons (.t rfl) .nil)) rfl) rfl <| .xx (ys_call call160 (.cons (.t rfl) (.cons (.t rfl) .nil)) (fun hp w W => c160 _ _ _ _ _ _ _ (by omega) (by omega))) rfl <| .yy (ys_geq (.t rfl) Ev.c) rfl <| .z) fun a w S => ?_)))))
          refine st_if S (.t rfl) (fun h1 => ?_) (fun h1 => ?_)
          refine sg S (.ac rfl <| .z) fun a w S => wp_ret (in_ret (then_ret (then_ret (in_ret (then_ret (st_ret S (results1 S results109 (Rv.tmp rfl)) ?_))))))
          rotate_left
          refine wp_skip (in_normal (then_normal (hK2 _ _ (wp_region_lit (run S (.ad (by unfold I64; omega) rfl <| .mv rfl <| .z) fun a w S => st_nil (then_normal ?_))))))
          rotate_left
          · exact ⟨by rw [canL_M (by rw [← hno, hb, prevD, hmm', gapM, decide_eq_false (by omega)]; rfl)], S.wd.below⟩
          · exact ⟨k + 1 + 1, ⟨by omega, all_step hmm hmy hb, by rw [prevD, hmm, ← hno, hb, prevD, hmm', gapM, decide_eq_true (by omega)]; rfl⟩, by omega, S.wk⟩
    · have hend : k = C.marks.length := by omega
      subst hend
      rw [List.take_length] at hmy
      rw [List.drop_length, okM] at hno
      have hM := hno.symm
      clear hno hk hlt
      refine sg S (.ge (by omega) rfl rfl <| .z) fun a w S => wp_seq_k fun _ hK2 => st_else S (.t rfl) (wp_exit (then_exit (then_exit (in_here (then_normal (hK1 _ _ (wp_seq_k fun _ hK1 => sg S (.fa underlying37 sizeOf35 1 rfl rfl rfl <| .ld gt35 0 rfl rfl rfl <| .ln underlying35 rfl <| .mc rfl <| .z) fun a w S => wp_block ?_)))))))
      refine st_lpK S (X := Nat) (fun k => [(54, true, .int .i64 (k : Int))]) (fun _ L => L) (fun k => k ≤ C.cloud.length ∧ (∀ x ∈ C.cloud.take k, mayD x = true) ∧ okC C.marks (prevD C.cloud k) (C.cloud.drop k) = okC C.marks none C.cloud) (fun k => C.cloud.length - k) 0 ⟨Nat.zero_le _, by simp, rfl⟩ ?_
      clear S
      intro k a w ⟨hk, hmy', hno⟩ S
      by_cases hlt : k < C.cloud.length
      · obtain ⟨g, o, m, rfl, hmm, hd, hc⟩ := row_at hA' hlt
        rw [hd, okC] at hno
        have hmk := markOf_may (x := m.node) (y := m.life) hmy
        cases hb : mayD m with
        | false =>
          refine sg S (.lt (by omega) rfl rfl <| .z) fun a w S => wp_seq_k fun _ hK3 => st_then S (.t rfl) (wp_skip (then_normal (hK3 _ _ (wp_seq_k fun _ hK3 => wp_block (wp_seq_k fun _ hK4 => wp_region_lit (run S (.mv rfl <| .ix underlying35 sizeOf58 (by omega) rfl rfl <| .yy (ys_ldOA ⟨isAgg58, sizeOf58⟩ (.t rfl) (vs := [_, _, _]) rfl (fun _ => hc)) rfl <| .z) fun a w S => st_m (op_alloc S zeroValue58 (cs := _) rfl rfl fun g2 a w S => run S (.as rfl <| .z) fun a w S => st_m (op_stW S sizeOf58 (.t rfl) (.t rfl) (k := 0) rfl rfl rfl (by simp [Value.oneCell']) fun a w S => st_nil (then_normal (hK4 _ _ (wp_seq_k fun _ hK4 => st_quiet S (by kernel_rfl) (by kernel_rfl) fun a S => qrun S (.la gt58 0 rfl rfl rfl <| .xx (ys_call call145 (.cons (.t rfl) .nil) (fun hp w W => c145 _ _ _ _ _ (by assumption))) rfl <| .nt rfl <| .mv rfl <| .sk rfl rfl rfl <| .sk rfl rfl rfl <| .sk rfl rfl rfl <| .s0 rfl rfl <| .s0 rfl rfl <| .s0 rfl rfl <| .s0 rfl rfl <| .s0 rfl rfl <| .s0 rfl rfl <| .s0 rfl rfl <| .s0 rfl rfl <| .s0 rfl rfl <| .sk rfl rfl rfl <| .yy (ys_pickT (.t rfl) Ev.c) rfl <| .mv rfl <| .sk rfl rfl rfl <| .sk rfl rfl rfl <| .sk rfl rfl rfl <| .sk rfl rfl rfl <| .sk rfl rfl rfl <| .sk rfl rfl rfl <| .sk rfl rfl rfl <| .sk rfl rfl rfl <| .yy (ys_pickT (.t rfl) Ev.c) rfl <| .z) fun a S => ?_)))))))))))
          (refine q_nil ?_; intro w W; replace S := St.mk S W; clear W)
          refine then_normal (hK4 _ _ (st_then S (.t rfl) (sg S (.ac rfl <| .z) fun a w S => wp_ret (in_ret (then_ret (then_ret (in_ret (then_ret (st_ret S (results1 S results109 (Rv.tmp rfl)) ?_)))))))))
          exact ⟨by rw [canL_C (by rw [← hno, hb]; rfl)], S.wd.below⟩
        | true =>
          have hlm := may_lim hb
          rcases k with _ | k
          · refine sg S (.lt (by omega) rfl rfl <| .z) fun a w S => wp_seq_k fun _ hK3 => st_then S (.t rfl) (wp_skip (then_normal (hK3 _ _ (wp_seq_k fun _ hK3 => wp_block (wp_seq_k fun _ hK4 => wp_region_lit (run S (.mv rfl <| .yy (ys_ixS (j := 0) underlying35 sizeOf58 (.t rfl) (.t rfl) (fun _ => by omega)) rfl <| .yy (ys_ldOA ⟨isAgg58, sizeOf58⟩ (.t rfl) (vs := [_, _, _]) rfl (fun _ => hc)) rfl <| .z) fun a w S => st_m (op_alloc S zeroValue58 (cs := _) rfl rfl fun g2 a w S => run S (.as rfl <| .z) fun a w S => st_m (op_stW S sizeOf58 (.t rfl) (.t rfl) (k := 0) rfl rfl rfl (by simp [Value.oneCell']) fun a w S => st_nil (then_normal (hK4 _ _ (wp_seq_k fun _ hK4 => st_quiet S (by kernel_rfl) (by kernel_rfl) fun a S => ?_)))))))))))
            refine qrun S (.la gt58 0 rfl rfl rfl <| .xx (ys_call call145 (.cons (.t rfl) .nil) (fun hp w W => c145 _ _ _ _ _ (by assumption))) rfl <| .nt rfl <| .mv rfl <| .gy rfl rfl (ys_move (.t rfl)) <| .gy rfl rfl (ys_F (by omega) (ys_gtr (.t rfl) Ev.c)) <| .gy rfl rfl (ys_move (.t rfl)) <| .sk rfl rfl rfl <| .sk rfl rfl rfl <| .sk rfl rfl rfl <| .sk rfl rfl rfl <| .sk rfl rfl rfl <| .sk rfl rfl rfl <| .sk rfl rfl rfl <| .sk rfl rfl rfl <| .sk rfl rfl rfl <| .gy rfl rfl (ys_pickF (.t rfl) Ev.c) <| .yy (ys_pickF (.t rfl) (.t rfl)) rfl <| .mv rfl <| .gy rfl rfl (ys_fieldN (FieldT.mk underlying58 rfl sizeOf3 rfl) (.t rfl) (i' := 2) rfl) <| .gy rfl rfl (ys_ld ⟨isAgg3, sizeOf3⟩ (.t rfl) (k := 0) rfl rfl) <| .gy rfl rfl (ys_ldA ⟨isAgg37, sizeOf37⟩ (.t rfl) (k := 1) rfl rfl) <| .gy rfl rfl (ys_ldA ⟨isAgg58, sizeOf58⟩ (.t rfl) (k := 0) rfl rfl) <| .gx rfl rfl (ys_call call155 (.cons (.t rfl) .nil) (fun hp w W => c155 _ _ _ _)) <| .gx rfl rfl (ys_call call154 (.cons (.t rfl) (.cons (.t rfl) .nil)) (fun hp w W => c154 _ _ _ _ _ _ (by exact .old W (by assumption)))) <| .gy rfl rfl (ys_addI (.t rfl) Ev.c (fun _ => by unfold I64; omega)) <| .gy rfl rfl (ys_leq (.t rfl) (.t rfl)) <| .yy (ys_pickF (.t rfl) (.t rfl)) rfl <| .z) fun a S => ?_
            (refine q_nil ?_; intro w W; replace S := St.mk S W; clear W)
            refine then_normal (hK4 _ _ ?_)
            refine st_if S (.t rfl) (fun h1 => ?_) (fun h1 => ?_)
            refine sg S (.ac rfl <| .z) fun a w S => wp_ret (in_ret (then_ret (then_ret (in_ret (then_ret (st_ret S (results1 S results109 (Rv.tmp rfl)) ?_))))))
            rotate_left
            refine wp_skip (in_normal (then_normal (hK3 _ _ (wp_region_lit (run S (.ad (by unfold I64; omega) rfl <| .mv rfl <| .z) fun a w S => st_nil (then_normal ?_))))))
            rotate_left
            · have hf : okC C.marks none C.cloud = false := by
                rw [← hno, Bool.eq_false_iff]
                intro hh
                simp [hb, prevD, gapC] at hh
                omega
              exact ⟨by rw [canL_C hf], S.wd.below⟩
            · exact ⟨0 + 1, ⟨by omega, all_step hmm hmy' hb, by rw [prevD, hmm, ← hno, hb, prevD, gapC, decide_eq_true (by omega)]; rfl⟩, by omega, S.wk⟩
          · obtain ⟨g', o', m', e', hmm', hd', hc'⟩ := row_at hA' (show k < C.cloud.length by omega)
            cases e'
            have hlm' := may_lim (hmy' m' (by rw [List.take_add_one, hmm']; simp))
            have e : orderD m' m = orderD ⟨m'.node, m'.life, m'.count⟩ ⟨m.node, m.life, m.count⟩ := rfl
            refine sg S (.lt (by omega) rfl rfl <| .z) fun a w S => wp_seq_k fun _ hK3 => st_then S (.t rfl) (wp_skip (then_normal (hK3 _ _ (wp_seq_k fun _ hK3 => wp_block (wp_seq_k fun _ hK4 => wp_region_lit (run S (.mv rfl <| .ix underlying35 sizeOf58 (by omega) rfl rfl <| .yy (ys_ldOA ⟨isAgg58, sizeOf58⟩ (.t rfl) (vs := [_, _, _]) rfl (fun _ => hc)) rfl <| .z) fun a w S => st_m (op_alloc S zeroValue58 (cs := _) rfl rfl fun g2 a w S => run S (.as rfl <| .z) fun a w S => st_m (op_stW S sizeOf58 (.t rfl) (.t rfl) (k := 0) rfl rfl rfl (by simp [Value.oneCell']) fun a w S => st_nil (then_normal (hK4 _ _ (wp_seq_k fun _ hK4 => st_quiet S (by kernel_rfl) (by kernel_rfl) fun a S => ?_)))))))))))
            refine qrun S (.la gt58 0 rfl rfl rfl <| .xx (ys_call call145 (.cons (.t rfl) .nil) (fun hp w W => c145 _ _ _ _ _ (by assumption))) rfl <| .nt rfl <| .mv rfl <| .gy rfl rfl (ys_move (.t rfl)) <| .gy rfl rfl (ys_T (by omega) (ys_gtr (.t rfl) Ev.c)) <| .gy rfl rfl (ys_move (.t rfl)) <| .gy rfl rfl (ys_fieldN (FieldT.mk underlying37 rfl sizeOf35 rfl) (.t rfl) (i' := 1) rfl) <| .gy rfl rfl (ys_ld ⟨isAgg35, sizeOf35⟩ (.t rfl) (k := 1) rfl rfl) <| .gy rfl rfl (ys_move (.t rfl)) <| .gy rfl rfl (ys_pred (.t rfl) Ev.c (by omega)) <| .gy rfl rfl (ys_ixS underlying35 sizeOf58 (.t rfl) (.t rfl) (fun _ => by omega)) <| .gy rfl rfl (ys_ldOA ⟨isAgg58, sizeOf58⟩ (.t rfl) (vs := [_, _, _]) rfl (fun _ => hc')) <| .gy rfl rfl (ys_ldA ⟨isAgg58, sizeOf58⟩ (.t rfl) (k := 0) rfl rfl) <| .gx rfl rfl (ys_call call160 (.cons (.t rfl) (.cons (.t rfl) .nil)) (fun hp w W => c160 _ _ _ _ _ _ _ (by omega) (by omega))) <| .gy rfl rfl (ys_geq (.t rfl) Ev.c) <| .gy rfl rfl (ys_pickT (.t rfl) (.t rfl)) <| .yy (ys_pickF (.t rfl) (.t rfl)) rfl <| .mv rfl <| .z) fun a S => q_yf S rfl rfl (Yr.ys (ys_fieldN (FieldT.mk underlying58 rfl sizeOf3 rfl) (.t rfl) (i' := 2) rfl)) rfl fun a S => q_yf S rfl rfl (Yr.ys (ys_ld ⟨isAgg3, sizeOf3⟩ (Ev.g rfl) (k := 0) rfl rfl)) rfl fun a S => q_yf S rfl rfl (Yr.ys (ys_ldA ⟨isAgg37, sizeOf37⟩ (.t rfl) (k := 1) rfl rfl)) rfl fun a S => ?_
            refine q_yf S rfl rfl (Yr.ys (ys_ldA ⟨isAgg58, sizeOf58⟩ (.t rfl) (k := 0) rfl rfl)) rfl fun a S => q_yf S rfl rfl (ys_call call155 (.cons (Ev.g rfl) .nil) (fun hp w W => c155 _ _ _ _)) rfl fun a S => q_yf S rfl rfl (ys_call call154 (.cons (Ev.g rfl) (.cons (Ev.g rfl) .nil)) (fun hp w W => c154 _ _ _ _ _ _ (by exact .old W (by assumption)))) rfl fun a S => q_yf S rfl rfl (Yr.ys (ys_addI (Ev.g rfl) Ev.c (fun _ => by unfold I64; omega))) rfl fun a S => q_yf S rfl rfl (Yr.ys (ys_leq (Ev.g rfl) (Ev.g rfl))) rfl fun a S => qrun S (.yy (ys_or (.t rfl) Ev.c (Ev.g rfl)) rfl <| .z) fun a S => ?_
            (refine q_nil ?_; intro w W; replace S := St.mk S W; clear W)
            refine then_normal (hK4 _ _ ?_)
            refine st_cond S (.t rfl) (fun h1 => ?_) (fun h1 => ?_)
            refine sg S (.ac rfl <| .z) fun a w S => wp_ret (in_ret (then_ret (then_ret (in_ret (then_ret (st_ret S (results1 S results109 (Rv.tmp rfl)) ?_))))))
            rotate_left
            refine wp_skip (in_normal (then_normal (hK3 _ _ (wp_region_lit (run S (.ad (by unfold I64; omega) rfl <| .mv rfl <| .z) fun a w S => st_nil (then_normal ?_))))))
            rotate_left
            · have hf : okC C.marks none C.cloud = false := by
                rw [← hno, Bool.eq_false_iff]
                intro hh
                simp [hb, prevD, hmm', gapC] at hh h1
                omega
              exact ⟨by rw [canL_C hf], S.wd.below⟩
            · simp at h1
              exact ⟨k + 1 + 1, ⟨by omega, all_step hmm hmy' hb, by rw [prevD, hmm, ← hno, hb, prevD, hmm', gapC, decide_eq_true (by omega), decide_eq_true (by omega)]; rfl⟩, by omega, S.wk⟩
      · have hend : k = C.cloud.length := by omega
        subst hend
        rw [List.drop_length, okC] at hno
        refine sg S (.ge (by omega) rfl rfl <| .z) fun a w S => wp_seq_k fun _ hK3 => st_else S (.t rfl) (wp_exit (then_exit (then_exit (in_here (then_normal (hK1 _ _ (sg S (.ac rfl <| .z) fun a w S => wp_ret (st_ret S (results1 S results109 (Rv.tmp rfl)) ?_))))))))
        exact ⟨by rw [canL_yes hbig hM hno.symm], S.wd.below⟩
end Go.Proofs.YtfblmkocmnbdcaaGreat
namespace Go.Fw
theorem Dot.enc_len (x : Dot) : (Dot.enc x).length = 3 := rfl
theorem Dot.enc_one (x : Dot) : ∀ u ∈ Dot.enc x, u.oneCell' = true := fun u hu => by simp [Dot.enc] at hu; rcases hu with rfl | rfl | rfl <;> rfl
end Go.Fw
set_option linter.unusedVariables false
set_option linter.unusedSimpArgs false
set_option maxRecDepth 100000
namespace Go.Proofs.YtfblmkocmnbdcaaGreat
open Go.Fw Go.Proofs Go.RowKit Go.Proofs.Tryz
instance (a b : Dot) : Decidable (ltM a b) := inferInstanceAs (Decidable (_ ∨ _))
end Go.Proofs.YtfblmkocmnbdcaaGreat
set_option linter.unusedVariables false
set_option linter.unusedSimpArgs false
namespace Go.Ft
open Go.RowKit
abbrev KL := List (Nat × Bool × Value)
def look : KL → Nat → Option (Bool × Value)
  | [], _ => none
  | (j, v) :: r, i => bif Nat.beq i j then some v else look r i
structure Kn (n : Nat) (K : KL) (a : Act) : Prop where
  defers : a.defers = []
  size : a.tmps.size = n
  slot : ∀ i g v, look K i = some (g, v) → a.tmps[i]? = some (bif g then v else undef)
def Ev (n : Nat) (b : Bool) (K : KL) (x : Operand) (v : Value) : Prop := ∀ a, b = true → Kn n K a → a.eval x = v
section kn
variable {n : Nat} {K : KL} {a : Act} {b : Bool}
theorem Ev.t {t : Nat} {v : Value} (h : look K t = some (true, v)) : Ev n b K (.tmp t) v := fun a _ hk => by
  simp [Act.eval, hk.slot t true v h]
theorem Ev.g {t : Nat} {v : Value} (h : look K t = some (b, v)) : Ev n b K (.tmp t) v := fun a hb hk => by
  simp [Act.eval, hk.slot t b v h, hb]
theorem Ev.c {v : Value} : Ev n b K (.const v) v := fun _ _ _ => rfl
theorem Ev.f {f : Nat} : Ev n b K (.func f) (.func (.func f) #[] #[]) := fun _ _ _ => rfl
def Fits (sn : List Nat) (K : KL) : KL → Prop
  | [] => True
  | (i, g, v) :: r => (List.elem i sn = true ∨ look K i = some (g, v)) ∧ Fits (i :: sn) K r
theorem Fits.look {K : KL} : ∀ {K' : KL} {sn : List Nat}, Fits sn K K' → ∀ i v, List.elem i sn = false → Ft.look K' i = some v → Ft.look K i = some v
  | [], _, _, i, v, _, h => by simp [Ft.look] at h
  | (j, g, u) :: r, sn, hf, i, v, hn, h => by
    obtain ⟨h1, h2⟩ := hf
    unfold Ft.look at h
    by_cases hi : i = j
    · subst hi
      simp only [Nat.beq_refl, cond_true, Option.some.injEq] at h
      rw [← h]
      rcases h1 with h1 | h1
      · rw [h1] at hn; cases hn
      · exact h1
    · have : Nat.beq i j = false := by simpa [Nat.beq_eq_true_eq, ← Bool.not_eq_true] using hi
      simp only [this, cond_false] at h
      refine Fits.look h2 i v ?_ h
      have hne : (i == j) = false := by simpa using hi
      simp only [List.elem, hne]
      exact hn
end kn
abbrev Dle (a b : Nat) : Prop := a ≤ b
theorem Dle.succ (a : Nat) : Dle a (a + 1) := by unfold Dle; omega
structure Bel (B : Nat) (w w' : World) : Prop extends Below B w w' where
  drawn : Dle w.drawn w'.drawn
section bel
variable {B B' : Nat} {a b c : World}
theorem Bel.refl (B : Nat) (w : World) : Bel B w w := ⟨Below.refl B w, Nat.le_refl _⟩
theorem Bel.trans (h : Bel B a b) (k : Bel B b c) : Bel B a c := ⟨h.toBelow.trans k.toBelow, Nat.le_trans h.drawn k.drawn⟩
theorem Bel.mono (h : Bel B a b) (hB : B' ≤ B) : Bel B' a b := ⟨h.toBelow.mono hB, h.drawn⟩
theorem Bel.drew (h : Bel B a b) : Bel B a b.drew := ⟨h.toBelow.drew, Nat.le_trans h.drawn (Dle.succ _)⟩
end bel
structure Turned (S : Nat → Prop) (w w' : World) : Prop where
  os : w'.os = w.os
  tape : w'.tape = w.tape
  output : w'.output = w.output
  size : w.heap.size ≤ w'.heap.size
  block : ∀ k, k < w.heap.size → ¬ S k → w'.heap[k]? = w.heap[k]?
  drawn : Dle w.drawn w'.drawn
theorem Turned.mono {S S' : Nat → Prop} {w w' : World} (h : Turned S w w') (hS : ∀ k, S k → S' k) : Turned S' w w' :=
  ⟨h.os, h.tape, h.output, h.size, fun k hk hn => h.block k hk fun e => hn (hS k e), h.drawn⟩
def Owns (w : World) (B : Nat) (e size : Nat) (A : Option Addr) (n cap : Nat) (xs : List Value) : Prop :=
  xs.length = n * size ∧ ((n = 0 ∧ cap = 0) ∨ ∃ g cur, A = some ⟨g, 0, none⟩ ∧ 0 < cap ∧ B ≤ g ∧ w.heap[g]? = some (.cells cur e (0, 0)) ∧ n ≤ cap ∧ cap ≤ maxLen ∧ cur.size = cap * size ∧ cur.toList.take (n * size) = xs)
inductive Chunk where
  | blk (b : Nat) (o : Obj)
  | row (e size : Nat) (A : Option Addr) (n cap : Nat) (xs : List Value)
  | ice (w1 : World) (bs : List Nat)
def Chunk.holds (B : Nat) (w : World) : Chunk → Prop
  | .blk b o => B ≤ b ∧ w.heap[b]? = some o
  | .row e size A n cap xs => Owns w B e size A n cap xs
  | .ice w1 bs => ∀ b ∈ bs, B ≤ b ∧ b < w.heap.size ∧ w.heap[b]? = w1.heap[b]?
def Chunk.own : Chunk → Nat → Prop
  | .blk b _ => fun x => x = b
  | .row _ _ A _ cap _ => fun x => cap ≠ 0 ∧ A.map (·.block) = some x
  | .ice _ bs => fun x => x ∈ bs
def Chunk.apart (c d : Chunk) : Prop := ∀ b, c.own b → ¬ d.own b
theorem Chunk.holds.lt {B : Nat} {w : World} {c : Chunk} (h : c.holds B w) {b : Nat} (hb : c.own b) : B ≤ b ∧ b < w.heap.size := by
  cases c with
  | blk b' o =>
    obtain ⟨h1, h2⟩ := h
    simp only [Chunk.own] at hb
    subst hb
    exact ⟨h1, (Array.getElem?_eq_some_iff.1 h2).1⟩
  | row e size A n cap xs =>
    obtain ⟨h0, hb⟩ := hb
    rcases h.2 with ⟨_, hc⟩ | ⟨g, cur, rfl, hp, hB, hg, _⟩
    · exact absurd hc h0
    · simp only [Option.map_some, Option.some.injEq] at hb
      subst hb
      exact ⟨hB, (Array.getElem?_eq_some_iff.1 hg).1⟩
  | ice w1 bs => exact ⟨(h b hb).1, (h b hb).2.1⟩
theorem Chunk.holds.keep {B : Nat} {w w' : World} {c : Chunk} (h : c.holds B w) (hs : w.heap.size ≤ w'.heap.size) (hk : ∀ b, c.own b → w'.heap[b]? = w.heap[b]?) : c.holds B w' := by
  cases c with
  | blk b o => exact ⟨h.1, (hk b rfl).trans h.2⟩
  | row e size A n cap xs =>
    refine ⟨h.1, ?_⟩
    rcases h.2 with hn | ⟨g, cur, rfl, hp, hb, hgg, rest⟩
    · exact .inl hn
    · exact .inr ⟨g, cur, rfl, hp, hb, (hk g ⟨Nat.pos_iff_ne_zero.1 hp, rfl⟩).trans hgg, rest⟩
  | ice w1 bs => exact fun b hb => ⟨(h b hb).1, Nat.lt_of_lt_of_le (h b hb).2.1 hs, (hk b hb).trans (h b hb).2.2⟩
theorem Chunk.holds.mono {B B' : Nat} {w : World} {c : Chunk} (h : c.holds B w) (hB : B' ≤ B) : c.holds B' w := by
  cases c with
  | blk b o => exact ⟨Nat.le_trans hB h.1, h.2⟩
  | row e size A n cap xs =>
    refine ⟨h.1, ?_⟩
    rcases h.2 with hn | ⟨g, cur, rfl, hp, hb, rest⟩
    · exact .inl hn
    · exact .inr ⟨g, cur, rfl, hp, Nat.le_trans hB hb, rest⟩
  | ice w1 bs => exact fun b hb => ⟨Nat.le_trans hB (h b hb).1, (h b hb).2⟩
structure Wd (w0 : World) (L : List Chunk) (w : World) : Prop where
  below : Bel w0.heap.size w0 w
  all : ∀ c ∈ L, c.holds w0.heap.size w
  apart : L.Pairwise Chunk.apart
section wd
variable {w0 : World} {L : List Chunk} {w w' : World}
theorem Wd.get (h : Wd w0 L w) {k : Nat} {c : Chunk} (hk : L[k]? = some c) : c.holds w0.heap.size w := h.all c (List.mem_of_getElem? hk)
theorem Wd.step (h : Wd w0 L w) (hb : Bel w.heap.size w w') : Wd w0 L w' :=
  ⟨h.below.trans (hb.mono h.below.size), fun c hc => (h.all c hc).keep hb.size fun b hbk => hb.block b ((h.all c hc).lt hbk).2, h.apart⟩
theorem Wd.drew (h : Wd w0 L w) : Wd w0 L w.drew := h.step (Bel.refl _ _).drew
end wd
section code
variable {P : Program} {Q : Exit → Act → World → Prop} {n : Nat} {w0 : World} {K : KL} {L : List Chunk} {a : Act} {w : World}
section enters
variable {f : FuncId} {fn : Func} {c : Code} {R : Ending → World → Prop} {v0 v1 v2 v3 v4 v5 v6 v7 v8 : Value}
end enters
def Ys (P : Program) (o : Oper) (n : Nat) (K : KL) (w0 : World) (L : List Chunk) (b : Bool) (v : Value) : Prop :=
  ∀ a w, b = true → Kn n K a → Wd w0 L w → Oper.quietUpon P (Wd w0 L) w v ((execOp a.eval o).run P w)
def Yr (P : Program) (o : Oper) (n : Nat) (K : KL) (w0 : World) (L : List Chunk) (b : Bool) (v : Value) : Prop :=
  ∀ a w, b = true → Kn n K a → Wd w0 L w → (execOp a.eval o).run P w = .ok (.value v) w
theorem Yr.ys {o : Oper} {b : Bool} {v : Value} (h : Yr P o n K w0 L b v) : Ys P o n K w0 L b v := fun a w hb hk hw => by
  rw [h a w hb hk hw]; exact ⟨rfl, rfl⟩
section list
variable {ops : Array Oper} {rest : List Oper} {op : Op} {ty : TypeId} {pos : String} {aft : Array Edge} {v : Value} {d t j : Nat} {p : Bool}
variable {Z : Act → Prop} {C : World → Prop}
end list
section held
variable {ops : Array Oper} {Lr : List Chunk} {fuel i : Nat} {listed : Array Bool} {op : Op} {ty : TypeId} {pos : String} {aft : Array Edge} {gd : Option (Nat × Bool)} {v : Value} {d t j : Nat} {p : Bool} {md : Region.Mode}
end held
end code
end Go.Ft
set_option linter.unusedVariables false
set_option linter.unusedSimpArgs false
namespace Go.Ft
open Go.RowKit
section ops
variable {P : Program} {n : Nat} {w0 : World} {K : KL} {L : List Chunk} {b : Bool} {dst : Option Tmp} {ty : TypeId} {pos : String} {aft : Array Edge} {gd : Option (Nat × Bool)}
def Many (P : Program) (t : TypeId) (k : Nat) : Prop := (∀ w, (isAgg t).run P w = .ok true w) ∧ ∀ w, (sizeOf t).run P w = .ok k w
def nth : List Value → Nat → Option Value
  | [], _ => none
  | v :: _, 0 => some v
  | _ :: r, i + 1 => nth r i
theorem nth_eq : ∀ (cs : List Value) (i : Nat), nth cs i = cs[i]?
  | [], i => by simp [nth]
  | v :: r, 0 => by simp [nth]
  | v :: r, i + 1 => by simp [nth, nth_eq r i]
def upto : List Value → Nat → Option (List Value)
  | _, 0 => some []
  | [], _ + 1 => none
  | v :: r, k + 1 => match upto r k with
    | some l => some (v :: l)
    | none => none
def cellsAt : List Value → Nat → Nat → Option (List Value)
  | cs, 0, k => upto cs k
  | [], _ + 1, _ => none
  | _ :: r, i + 1, k => cellsAt r i k
theorem upto_eq : ∀ {cs : List Value} {k : Nat} {vs : List Value}, upto cs k = some vs → vs.length = k ∧ vs = cs.take k
  | cs, 0, vs, h => by cases cs <;> simp [upto] at h <;> simp [h]
  | [], k + 1, vs, h => by simp [upto] at h
  | v :: r, k + 1, vs, h => by
    unfold upto at h
    split at h
    · rename_i l hl
      obtain ⟨h1, h2⟩ := upto_eq hl
      simp only [Option.some.injEq] at h
      subst h
      exact ⟨by simp [h1], by simp [← h2]⟩
    · cases h
theorem cellsAt_eq : ∀ {cs : List Value} {i k : Nat} {vs : List Value}, cellsAt cs i k = some vs → vs.length = k ∧ vs = (cs.drop i).take k
  | cs, 0, k, vs, h => by cases cs <;> exact upto_eq h
  | [], i + 1, k, vs, h => by simp [cellsAt] at h
  | v :: r, i + 1, k, vs, h => by simpa using cellsAt_eq (cs := r) (i := i) h
theorem run_load_many {t : TypeId} {k : Nat} (h1 : Many P t k) {w : World} {ad : Addr} {vs : List Value} (hl : vs.length = k) (hc : ∀ j u, vs[j]? = some u → w.cell? (ad.add j) = some u) :
    (loadVar t ad).run P w = .ok (.agg vs.toArray) w := by
  have h := run_loadCells_list (P := P) w ad vs hc
  rw [hl] at h
  simp [loadVar, Sem.run_bind, h1.1, h1.2, h]
theorem Owns.cell {w : World} {B e size n cap g : Nat} {xs : List Value} (h : Owns w B e size (some ⟨g, 0, none⟩) n cap xs) {j : Nat} {u : Value} (hj : xs[j]? = some u) : w.cell? ⟨g, j, none⟩ = some u := by
  rcases h.2 with ⟨h0, _⟩ | ⟨g', cur, hA, _, _, hg, _, _, _, ht⟩
  · have h1 := h.1
    rw [h0] at h1
    have : xs = [] := List.eq_nil_of_length_eq_zero (by simpa using h1)
    subst this; simp at hj
  · simp only [Option.some.injEq, Addr.mk.injEq] at hA
    obtain ⟨rfl, _, _⟩ := hA
    rw [cell_of_row w _ j cur e (0, 0) hg]
    rw [← ht, List.getElem?_take] at hj
    split at hj
    · simpa using hj
    · cases hj
def FieldT (P : Program) (s : TypeId) (f o : Nat) : Prop := ∀ w ad, (Instr.fieldAt s (.pointer (some ad)) f).run P w = .ok (.pointer (some (ad.add o))) w
theorem FieldT.mk {s f : Nat} {fs : Array Field} {nm : String} {tt o : Nat} {em : Bool} {tg pp : String} {bo : Nat} {m : Nat} (hu : P.underlying s = some (.struct fs)) (hf : fs[f]? = some ⟨nm, tt, o, em, tg, pp, bo⟩) (hz : ∀ w, (sizeOf tt).run P w = .ok m w) (hm : Nat.blt 0 m = true) : FieldT P s f o := fun w ad => by
  have hm' : m ≠ 0 := by have := Nat.le_of_ble_eq_true hm; omega
  simp [Instr.fieldAt, run_underlying hu, hf, Instr.sureAddr, fieldPlace, hz, hm']
section cmp
variable {t t' : TypeId} {x y : Operand} {k : IntKind} {p q : Int} (hx : Ev n b K x (.int k p)) (hy : Ev n b K y (.int k q))
include hx hy
end cmp
def EqT (P : Program) (t : TypeId) (vs us : List Value) (r : Bool) : Prop :=
  ∀ w, (eqGuard .eql t (.tmp 0) (.tmp 0) (.agg vs.toArray) (.agg us.toArray)).run P w = .ok () w ∧ (Op.equalIn 10000 t (.agg vs.toArray) (.agg us.toArray)).run P w = .ok r w
def lay (cs : List Value) : Nat → List Value → List Value
  | _, [] => cs
  | i, v :: vs => lay (cs.set i v) (i + 1) vs
def fillL (places : Nat → Option (Nat × Nat)) (zs : List Value) : List (Nat × Value) → Option (List Value)
  | [] => some zs
  | (i, v) :: rest => match places i with
    | none => none
    | some (off, size) => bif Nat.beq v.cells.toList.length size && Nat.ble (off + size) zs.length then fillL places (lay zs off v.cells.toList) rest else none
theorem foldl_lay : ∀ (vs : List Value) (off j : Nat) (zs : List Value), (vs.zipIdx j).foldl (fun cs (x : Value × Nat) => cs.setIfInBounds (off + x.2) x.1) zs.toArray = (lay zs (off + j) vs).toArray
  | [], off, j, zs => rfl
  | v :: vs, off, j, zs => by
    simp only [List.zipIdx_cons, List.foldl_cons, lay]
    rw [List.setIfInBounds_toArray, foldl_lay vs off (j + 1)]
    rfl
theorem fill_of : ∀ {places : Nat → Option (Nat × Nat)} {parts : List (Nat × Value)} {zs us : List Value}, fillL places zs parts = some us → Instr.fill places zs.toArray parts = some us.toArray
  | places, [], zs, us, h => by simp [fillL] at h; simp [Instr.fill, h]
  | places, (i, v) :: rest, zs, us, h => by
    unfold fillL at h
    unfold Instr.fill
    split at h
    · cases h
    · rename_i off size hp
      simp only [hp]
      cases hc : (Nat.beq v.cells.toList.length size && Nat.ble (off + size) zs.length) with
      | false => rw [hc] at h; simp at h
      | true =>
        rw [hc] at h
        simp only [cond_true] at h
        simp only [Bool.and_eq_true, Nat.ble_eq] at hc
        obtain ⟨h1, h2⟩ := hc
        have h1' : v.cells.size = size := by simpa using h1
        have h3 : (decide (v.cells.size ≠ size) || decide (off + v.cells.size > zs.toArray.size)) = false := by
          simp [h1']; omega
        have h4 : v.cells.zipIdx.foldl (fun cs (x : Value × Nat) => cs.setIfInBounds (off + x.2) x.1) zs.toArray = (lay zs off v.cells.toList).toArray := by
          have := foldl_lay v.cells.toList off 0 zs
          rw [← Array.foldl_toList, Array.toList_zipIdx]
          simpa using this
        rw [if_neg (by rw [h3]; simp)]
        have h5 := fill_of (places := places) (parts := rest) h
        rw [← h4] at h5
        exact h5
def BuildT (P : Program) (t : TypeId) (zs : List Value) (places : List (Nat × Nat)) : Prop :=
  (∃ z, (∀ w, (zeroValue t).run P w = .ok z w) ∧ z.cells = zs.toArray) ∧ ∃ fs, P.underlying t = some (.struct fs) ∧ ∀ w, (fs.mapM (fun f => do pure (f.offset, ← sizeOf f.type)) : Sem (Array (Nat × Nat))).run P w = .ok places.toArray w
theorem BuildT.run {t : TypeId} {zs : List Value} {places : List (Nat × Nat)} (h : BuildT P t zs places) {parts : List (Nat × Value)} {us : List Value} (hf : fillL (places[·]?) zs parts = some us) (w : World) : (Instr.build t parts.toArray).run P w = .ok (.agg us.toArray) w := by
  obtain ⟨⟨z, hz, hc⟩, fs, hu, hm⟩ := h
  have h1 : Instr.fill (fun x => places[x]?) zs.toArray parts = some us.toArray := fill_of hf
  simp only [Instr.build, Sem.run_bind, hz, Result.andThen_ok, run_underlying hu, hm, hc]
  simp [h1]
end ops
section movers
variable {P : Program} {n : Nat} {w0 : World} {K : KL} {L : List Chunk} {ty : TypeId} {pos : String} {aft : Array Edge} {gd : Option (Nat × Bool)} {a : Act} {w : World} {Z : Act → World → Prop} {Q : Exit → Act → World → Prop} {d : Nat}
end movers
section ends
variable {P : Program} {n : Nat} {w0 : World} {K : KL} {L : List Chunk} {a : Act} {w : World} {fn : Func} {R : Ending → World → Prop} {t : Nat} {v : Value}
def res1 (tmps : Array Value) (r : ResultVar) : Sem Value := match r with
  | .tmp t => pure (tmps.getD t undef)
  | .cell a t => do loadVar t (← asAddr (tmps.getD a undef))
def Rv (P : Program) (n : Nat) (w0 : World) (K : KL) (L : List Chunk) (r : ResultVar) (v : Value) : Prop :=
  ∀ a w, Kn n K a → Wd w0 L w → (res1 a.tmps r).run P w = .ok v w
theorem Rv.tmp (h : look K t = some (true, v)) : Rv P n w0 K L (.tmp t) v := fun a w hk _ => by
  simp [res1, hk.slot t true v h]
theorem Rv.cell {ty m : Nat} {g k : Nat} {cs : List Value} {e : TypeId} {fr : Nat × Nat} (h1 : Many P ty m) (h : look K t = some (true, .pointer (some ⟨g, 0, none⟩))) (hk : L[k]? = some (.blk g (.cells cs.toArray e fr))) (hm : cs.length = m) :
    Rv P n w0 K L (.cell t ty) (.agg cs.toArray) := fun a w hkn hw => by
  have hg := (hw.get hk).2
  have h2 := run_load_many (P := P) (ad := ⟨g, 0, none⟩) h1 hm (w := w) (fun j u hj => by
    rw [Addr.add_mid, cell_of_row w g (0 + j) _ e fr hg]; simpa using hj)
  simp [res1, hkn.slot t true _ h, asAddr, h2]
end ends
end Go.Ft
namespace Go.Ft
open Go.RowKit
section exits
variable {K : Act → World → Prop} {Q : Exit → Act → World → Prop} {a : Act} {w : World} {i j : Nat}
end exits
def Sl {α : Type} (enc : α → List Value) (size : Nat) (w : World) (B : Nat) (v : Value) (l : List α) : Prop :=
  ∃ A cap, v = .slice A l.length cap ∧ l.length ≤ cap ∧ cap ≤ 9223372036854775807 ∧
    (0 < l.length → ∃ g o, A = some ⟨g, o, none⟩ ∧ g < B ∧ ∀ k x, l[k]? = some x → ∀ j u, (enc x)[j]? = some u → w.cell? ⟨g, o + k * size + j, none⟩ = some u)
section sl
variable {α : Type} {enc : α → List Value} {size : Nat} {w w' w0 : World} {B B' : Nat} {v : Value} {l : List α} {L : List Chunk}
theorem Sl.keep (h : Sl enc size w B v l) (hk : Below B w w') : Sl enc size w' B v l := by
  obtain ⟨A, cap, rfl, h1, h2, h3⟩ := h
  refine ⟨A, cap, rfl, h1, h2, fun hl => ?_⟩
  obtain ⟨g, o, hA, hg, hc⟩ := h3 hl
  exact ⟨g, o, hA, hg, fun k x hx j u hu => (hk.cell (p := ⟨g, o + k * size + j, none⟩) hg).trans (hc k x hx j u hu)⟩
theorem Sl.mono (h : Sl enc size w B v l) (hB : B ≤ B') : Sl enc size w B' v l := by
  obtain ⟨A, cap, rfl, h1, h2, h3⟩ := h
  refine ⟨A, cap, rfl, h1, h2, fun hl => ?_⟩
  obtain ⟨g, o, hA, hg, hc⟩ := h3 hl
  exact ⟨g, o, hA, by omega, hc⟩
end sl
end Go.Ft
set_option linter.unusedVariables false
set_option linter.unusedSimpArgs false
namespace Go.Ft
open Go.RowKit
def InfoT (P : Program) (e : TypeId) (z : Value) (size bytes : Nat) : Prop := (P.info? e).map (fun i => (i.zero, i.size, i.bytes)) = some (some z, size, bytes)
theorem InfoT.parts {P : Program} {e : TypeId} {z : Value} {size bytes : Nat} (h : InfoT P e z size bytes) : ∃ i, P.info? e = some i ∧ i.zero = some z ∧ i.size = size ∧ i.bytes = bytes := by
  unfold InfoT at h
  cases hi : P.info? e with
  | none => rw [hi] at h; simp at h
  | some i => rw [hi] at h; simp at h; exact ⟨i, rfl, h⟩
structure Src (P : Program) (w : World) (size : Nat) (x : Value) (m : Nat) (news : List Value) : Prop where
  len : ∀ W, (Builtin.lenOf x).run P W = .ok m W
  here : (Builtin.firstCells size m x).run P w = .ok news.toArray w
  drew : (Builtin.firstCells size m x).run P w.drew = .ok news.toArray w.drew
  length : news.length = m * size
  one : ∀ u ∈ news, u.oneCell' = true
section src
variable {P : Program} {w : World} {size m : Nat} {news : List Value}
theorem Src.at_ {g o c : Nat} (hl : news.length = m * size) (h1 : ∀ u ∈ news, u.oneCell' = true) (h : ∀ j u, news[j]? = some u → w.cell? ⟨g, o + j, none⟩ = some u) : Src P w size (.slice (some ⟨g, o, none⟩) m c) m news :=
  ⟨fun W => by simp [Builtin.lenOf],
   run_firstCells_some (P := P) w size m ⟨g, o, none⟩ m c news hl (fun j u hj => by rw [Addr.add_mid]; exact h j u hj),
   run_firstCells_some (P := P) w.drew size m ⟨g, o, none⟩ m c news hl (fun j u hj => by rw [Addr.add_mid]; exact h j u hj), hl, h1⟩
theorem Src.none_ {A : Option Addr} {c : Nat} : Src P w size (.slice A 0 c) 0 [] := by
  cases A with
  | none => exact ⟨fun W => by simp [Builtin.lenOf], by simp [Builtin.firstCells], by simp [Builtin.firstCells], by simp, by simp⟩
  | some a => exact ⟨fun W => by simp [Builtin.lenOf], by simp [Builtin.firstCells, loadCells, loadCellsFrom], by simp [Builtin.firstCells, loadCells, loadCellsFrom], by simp, by simp⟩
theorem Src.blk {L : List Chunk} {w0 : World} (hw : Wd w0 L w) {k g c : Nat} {e : TypeId} {fr : Nat × Nat} (hk : L[k]? = some (.blk g (.cells news.toArray e fr))) (hl : news.length = m * size) (h1 : ∀ u ∈ news, u.oneCell' = true) : Src P w size (.slice (some ⟨g, 0, none⟩) m c) m news :=
  Src.at_ hl h1 (fun j u hj => by rw [cell_of_row w g (0 + j) _ e fr (hw.get hk).2]; simpa using hj)
theorem Src.row {L : List Chunk} {w0 : World} (hw : Wd w0 L w) {k e cap c : Nat} {A : Option Addr} (hk : L[k]? = some (.row e size A m cap news)) (h1 : ∀ u ∈ news, u.oneCell' = true) : Src P w size (.slice A m c) m news := by
  have h := hw.get hk
  rcases h.2 with ⟨rfl, _⟩ | ⟨g, cur, rfl, _⟩
  · have : news = [] := List.eq_nil_of_length_eq_zero (by simpa using h.1)
    subst this
    exact Src.none_
  · exact Src.at_ h.1 h1 (fun j u hj => by rw [Nat.zero_add]; exact Owns.cell h hj)
end src
section app
variable {P : Program} {w : World}
end app
end Go.Ft
set_option linter.unusedVariables false
set_option linter.unusedSimpArgs false
namespace Go.Ft
open Go.RowKit
section ldw
variable {P : Program} {n : Nat} {w0 : World} {K : KL} {L : List Chunk} {b : Bool} {dst : Option Tmp} {ty : TypeId} {pos : String} {aft : Array Edge} {gd : Option (Nat × Bool)}
end ldw
section movers
variable {P : Program} {n : Nat} {w0 : World} {K : KL} {L : List Chunk} {ty : TypeId} {pos : String} {aft : Array Edge} {gd : Option (Nat × Bool)} {a : Act} {w : World} {Z : Act → World → Prop} {Q : Exit → Act → World → Prop} {d : Nat}
end movers
section ops
variable {P : Program} {n : Nat} {w0 : World} {K : KL} {L : List Chunk} {b : Bool} {dst : Option Tmp} {ty : TypeId} {pos : String} {aft : Array Edge} {gd : Option (Nat × Bool)}
end ops
section eq
variable {P : Program}
def FEq (P : Program) (k : Nat) (xs ys : List Value) (fs : List Field) (r : Bool) : Prop := ∀ d w, (Op.eqFields (d + k) xs.toArray ys.toArray fs).run P w = .ok r w
section fields
variable {xs ys : List Value} {nm : String} {tt o : Nat} {em : Bool} {tg pp : String} {bo : Nat} {fs : List Field} {r : Bool} {k : Nat}
theorem FEq.int {ik ik' : IntKind} {p q : Int} (hn : (nm != "_") = true) (ht : P.underlying tt = some (.int ik')) (ha : ∀ w, (isAgg tt).run P w = .ok false w) (hx : nth xs o = some (.int ik p)) (hy : nth ys o = some (.int ik q)) (h : FEq P (k + 1) xs ys fs r) :
    FEq P (k + 1) xs ys (⟨nm, tt, o, em, tg, pp, bo⟩ :: fs) (decide (p = q) && r) := fun d w => by
  have hn' : nm ≠ "_" := by simpa using hn
  rw [nth_eq] at hx hy
  have hpq : (p == q) = decide (p = q) := rfl
  have hh := run_equalIn_int (P := P) w (d + k) tt ik ik' p q ht
  rw [Nat.add_assoc] at hh
  simp only [Op.eqFields, ne_eq, hn', not_false_eq_true, if_true, Sem.run_bind, part, ha, Result.andThen_ok]
  simp [hx, hy, hh, hpq]
  by_cases e : p = q <;> simp [e, h d w]
theorem FEq.agg {fs' : List Field} {m : Nat} {us vs : List Value} {r' : Bool} (hn : (nm != "_") = true) (ht : P.underlying tt = some (.struct fs'.toArray)) (hp : P.stoodInHeld tt = false) (ha : ∀ w, (isAgg tt).run P w = .ok true w) (hz : ∀ w, (sizeOf tt).run P w = .ok m w) (hx : cellsAt xs o m = some us) (hy : cellsAt ys o m = some vs)
    (h' : FEq P k us vs fs' r') (h : FEq P (k + 1) xs ys fs r) : FEq P (k + 1) xs ys (⟨nm, tt, o, em, tg, pp, bo⟩ :: fs) (r' && r) := fun d w => by
  have hn' : nm ≠ "_" := by simpa using hn
  have e1 : xs.toArray.extract o (o + m) = us.toArray := by
    rw [(cellsAt_eq hx).2]; simp [List.extract_eq_take_drop, List.extract_toArray]
  have e2 : ys.toArray.extract o (o + m) = vs.toArray := by
    rw [(cellsAt_eq hy).2]; simp [List.extract_eq_take_drop, List.extract_toArray]
  have hh := run_equalIn_struct (P := P) w (d + k) tt us.toArray vs.toArray (by simp [Program.fieldsOf, ht]) hp
  rw [Nat.add_assoc] at hh
  have hf := h' d w
  simp only [Op.eqFields, ne_eq, hn', not_false_eq_true, if_true, Sem.run_bind, part, ha, hz, Result.andThen_ok, Sem.run_pure, e1, e2, hh, Program.fieldsOf, ht, hf]
  cases r' <;> simp [h d w]
end fields
theorem EqT.mk {t k d : Nat} {fs : List Field} {xs ys : List Value} {r r' : Bool} (hu : P.underlying t = some (.struct fs.toArray)) (hs : P.stoodInHeld t = false) (hg : P.eqGuardType P.depth t = false) (hk : d + k = 9999) (h : FEq P k xs ys fs r) (hr : r = r') : EqT P t xs ys r' := fun w => by
  subst hr
  refine ⟨by simp [eqGuard, hg], ?_⟩
  rw [run_equalIn_struct w 9999 t _ _ (by simp [Program.fieldsOf, hu]) hs]
  simp only [Program.fieldsOf, hu]
  rw [← hk]
  exact h d w
end eq
end Go.Ft
set_option linter.unusedVariables false
set_option linter.unusedSimpArgs false
namespace Go.Ft
open Go.RowKit
structure Dot where
  node : Int
  life : Int
  count : Int
deriving DecidableEq
abbrev Dot.enc (d : Dot) : List Value := [.int .i64 d.node, .int .i64 d.life, .int .i64 d.count]
structure Ctx where
  marks : List Dot
  cloud : List Dot
deriving DecidableEq
def markOf : List Dot → Int → Int → Int
  | [], _, _ => 0
  | m :: r, x, y => if m.node = x ∧ m.life = y then m.count else markOf r x y
def keep (x y : Int) (l : List Dot) : List Dot := l.filter fun d => !decide (d.node = x ∧ d.life = y)
def mayD (d : Dot) : Bool := decide (0 ≤ d.node ∧ d.node < 8 ∧ 1 ≤ d.life ∧ d.life ≤ 1099511627776 ∧ 1 ≤ d.count ∧ d.count ≤ 1099511627776)
def belowD (a b : Dot) : Bool := if a.node ≠ b.node then decide (a.node < b.node) else if a.life ≠ b.life then decide (a.life < b.life) else decide (a.count < b.count)
end Go.Ft
set_option linter.unusedVariables false
set_option linter.unusedSimpArgs false
set_option maxRecDepth 100000
namespace Go.Proofs.YtfblmkocmnbdcaaGreat
open Go.Fw Go.Proofs Go.RowKit Go.Sort Go.Proofs.Tryz
abbrev MDot := {d : Dot // mayD d = true}
instance : Inhabited MDot := ⟨⟨⟨0, 1, 1⟩, rfl⟩⟩
abbrev MDot.enc (d : MDot) : List Value := Dot.enc d.1
end Go.Proofs.YtfblmkocmnbdcaaGreat
set_option linter.unusedVariables false
set_option linter.unusedSimpArgs false
set_option maxRecDepth 100000
set_option maxHeartbeats 4000000
namespace Go.Fw
theorem cov_may {C : Ctx} {d : Dot} (hC : canL C = true) (h : C.covers d = true) : mayD d = true := by
  have hN := can_nf hC
  obtain ⟨h1, h2⟩ := (covers_iff C d).1 h
  rcases h2 with h2 | h2
  · have hm := hN.mayM _ (markOf_pos (x := d.node) (y := d.life) (l := C.marks) (by omega))
    have := may_lim hm
    unfold mayD
    simp only [decide_eq_true_eq]
    dsimp only at this
    omega
  · exact hN.mayC _ h2
end Go.Fw
namespace Go.Proofs.YtfblmkocmnbdcaaGreat
open Go.Fw Go.Proofs Go.RowKit Go.Proofs.Tryz
theorem c110 (w0 : World) (v1 v2 v3 : Value) (l : List Ent) (C : Ctx) (k : Nat) (x : Ent) (h : Sl Ent.enc 6 w0 w0.heap.size v1 l) (hr : RdCtx w0 w0.heap.size v2 v3 C) (hx : l[k]? = some x) (hC : canL C = true) (hp : ∀ y ∈ l.take k, C.covers y.dot = true) (hk64 : k ≤ 64) :
    Calls Tryz.prog 110 #[.agg #[v1, v2, v3], .int .i64 (k : Int)] w0 fun e w' => e = .returned (.int .i64 (entE C (l.take k) x)) ∧ Bel w0.heap.size w0 w' := by
  have hs := h
  obtain ⟨A, cap, rfl, hl, hcap, hA⟩ := h
  have hlt : k < l.length := (List.getElem?_eq_some_iff.1 hx).1
  obtain ⟨g, o, x', rfl, hx', hd, hc⟩ := row_at hA hlt
  rw [hx] at hx'
  cases hx'
  cases rw_n : nameB x.item with
  | false =>
    have he : entE C (l.take k) x = 6 := by unfold entE; rw [if_pos rw_n]
    rw [he]
    refine enter2 func110 rfl ntmps110 rfl fun a S => wp_seq_k fun _ hK1 => wp_region_lit (st_m (op_box S (.t rfl) rfl fun g1 a w S => run S (.ac rfl <| .z) fun a w S => st_nil (then_normal (hK1 _ _ (wp_seq_k fun _ hK1 => wp_region_lit (run S (.fa underlying39 sizeOf33 0 rfl rfl rfl <| .ld gt33 0 rfl rfl rfl <| .mv rfl <| .ix underlying33 sizeOf71 (by omega) rfl rfl <| .yy (ys_ldOA ⟨isAgg71, sizeOf71⟩ (.t rfl) (vs := [_, _, _, _, _, _]) rfl (fun _ => hc)) rfl <| .z) fun a w S => st_m (op_alloc S zeroValue71 (cs := _) rfl rfl fun g2 a w S => st_m (op_stW S sizeOf71 (.t rfl) (.t rfl) (k := 0) rfl rfl rfl (by simp [Value.oneCell']) fun a w S => st_nil (then_normal (hK1 _ _ (wp_seq_k fun _ hK1 => wp_block (wp_seq_k fun _ hK2 => wp_region_lit (run S (.fa underlying71 sizeOf9 0 rfl rfl rfl <| .ld gt9 0 rfl rfl rfl <| .xx (ys_call call142 (.cons (.t rfl) .nil) (fun hp w W => c142 _ _)) rfl <| .z) fun a w S => ?_)))))))))))))
    rw [rw_n] at S
    refine run S (.nt rfl <| .as rfl <| .z) fun a w S => st_nil (then_normal (hK2 _ _ (st_then S (.t rfl) (sg S (.ac rfl <| .z) fun a w S => wp_ret (in_ret (then_ret (st_ret S (results1 S results110 (Rv.tmp rfl)) ?_)))))))
    exact ⟨rfl, S.wd.below⟩
  | true =>
  by_cases hq : x.qty < 1 ∨ 1000000 < x.qty
  · have he : entE C (l.take k) x = 52 := by unfold entE; rw [if_neg (by simp [rw_n]), if_pos hq]
    rw [he]
    have rw_q : (decide (x.qty < 1) || decide (1000000 < x.qty)) = true := by simp; omega
    refine enter2 func110 rfl ntmps110 rfl fun a S => wp_seq_k fun _ hK1 => wp_region_lit (st_m (op_box S (.t rfl) rfl fun g1 a w S => run S (.ac rfl <| .z) fun a w S => st_nil (then_normal (hK1 _ _ (wp_seq_k fun _ hK1 => wp_region_lit (run S (.fa underlying39 sizeOf33 0 rfl rfl rfl <| .ld gt33 0 rfl rfl rfl <| .mv rfl <| .ix underlying33 sizeOf71 (by omega) rfl rfl <| .yy (ys_ldOA ⟨isAgg71, sizeOf71⟩ (.t rfl) (vs := [_, _, _, _, _, _]) rfl (fun _ => hc)) rfl <| .z) fun a w S => st_m (op_alloc S zeroValue71 (cs := _) rfl rfl fun g2 a w S => st_m (op_stW S sizeOf71 (.t rfl) (.t rfl) (k := 0) rfl rfl rfl (by simp [Value.oneCell']) fun a w S => st_nil (then_normal (hK1 _ _ (wp_seq_k fun _ hK1 => wp_block (wp_seq_k fun _ hK2 => wp_region_lit (run S (.fa underlying71 sizeOf9 0 rfl rfl rfl <| .ld gt9 0 rfl rfl rfl <| .xx (ys_call call142 (.cons (.t rfl) .nil) (fun hp w W => c142 _ _)) rfl <| .z) fun a w S => ?_)))))))))))))
    rw [rw_n] at S
    refine run S (.nt rfl <| .as rfl <| .z) fun a w S => st_nil (then_normal (hK2 _ _ (st_else S (.t rfl) (wp_seq_k fun _ hK2 => wp_region_lit (run S (.fa underlying71 sizeOf3 4 rfl rfl rfl <| .ld gt3 0 rfl rfl rfl <| .yy (ys_lss (.t rfl) Ev.c) rfl <| .mv rfl <| .z) fun a w S => st_yf S rfl rfl (Yr.ys (ys_fieldN (FieldT.mk underlying71 rfl sizeOf3 rfl) (.t rfl) (i' := 4) rfl)) rfl fun a w S => st_yf S rfl rfl (Yr.ys (ys_ld ⟨isAgg3, sizeOf3⟩ (Ev.g rfl) (k := 0) rfl rfl)) rfl fun a w S => st_yf S rfl rfl (Yr.ys (ys_gtr (Ev.g rfl) Ev.c)) rfl fun a w S => run S (.yy (ys_or (.t rfl) Ev.c (Ev.g rfl)) rfl <| .z) fun a w S => ?_)))))
    rw [rw_q] at S
    refine run S (.as rfl <| .z) fun a w S => st_nil (then_normal (hK2 _ _ (st_then S (.t rfl) (sg S (.ac rfl <| .z) fun a w S => wp_ret (in_ret (then_ret (st_ret S (results1 S results110 (Rv.tmp rfl)) ?_)))))))
    exact ⟨rfl, S.wd.below⟩
  have rw_q : (decide (x.qty < 1) || decide (1000000 < x.qty)) = false := by simp; omega
  cases rw_p : priceB x.price with
  | false =>
    have he : entE C (l.take k) x = 53 := by unfold entE; rw [if_neg (by simp [rw_n]), if_neg hq, if_pos rw_p]
    rw [he]
    refine enter2 func110 rfl ntmps110 rfl fun a S => wp_seq_k fun _ hK1 => wp_region_lit (st_m (op_box S (.t rfl) rfl fun g1 a w S => run S (.ac rfl <| .z) fun a w S => st_nil (then_normal (hK1 _ _ (wp_seq_k fun _ hK1 => wp_region_lit (run S (.fa underlying39 sizeOf33 0 rfl rfl rfl <| .ld gt33 0 rfl rfl rfl <| .mv rfl <| .ix underlying33 sizeOf71 (by omega) rfl rfl <| .yy (ys_ldOA ⟨isAgg71, sizeOf71⟩ (.t rfl) (vs := [_, _, _, _, _, _]) rfl (fun _ => hc)) rfl <| .z) fun a w S => st_m (op_alloc S zeroValue71 (cs := _) rfl rfl fun g2 a w S => st_m (op_stW S sizeOf71 (.t rfl) (.t rfl) (k := 0) rfl rfl rfl (by simp [Value.oneCell']) fun a w S => st_nil (then_normal (hK1 _ _ (wp_seq_k fun _ hK1 => wp_block (wp_seq_k fun _ hK2 => wp_region_lit (run S (.fa underlying71 sizeOf9 0 rfl rfl rfl <| .ld gt9 0 rfl rfl rfl <| .xx (ys_call call142 (.cons (.t rfl) .nil) (fun hp w W => c142 _ _)) rfl <| .z) fun a w S => ?_)))))))))))))
    rw [rw_n] at S
    refine run S (.nt rfl <| .as rfl <| .z) fun a w S => st_nil (then_normal (hK2 _ _ (st_else S (.t rfl) (sg S (.fa underlying71 sizeOf3 4 rfl rfl rfl <| .ld gt3 0 rfl rfl rfl <| .yy (ys_F (by omega) (ys_lss (.t rfl) Ev.c)) rfl <| .mv rfl <| .gy rfl rfl (ys_fieldN (FieldT.mk underlying71 rfl sizeOf3 rfl) (.t rfl) (i' := 4) rfl) <| .gy rfl rfl (ys_ld ⟨isAgg3, sizeOf3⟩ (.t rfl) (k := 0) rfl rfl) <| .gy rfl rfl (ys_F (by omega) (ys_gtr (.t rfl) Ev.c)) <| .yy (ys_pickF (.t rfl) (.t rfl)) rfl <| .as rfl <| .z) fun a w S => st_else S (.t rfl) (wp_seq_k fun _ hK2 => wp_region_lit (run S (.fa underlying71 sizeOf27 5 rfl rfl rfl <| .ld gt27 0 rfl rfl rfl <| .xx (ys_call call143 (.cons (.t rfl) .nil) (fun hp w W => c143 _ _)) rfl <| .z) fun a w S => ?_))))))
    rw [rw_p] at S
    refine run S (.nt rfl <| .as rfl <| .z) fun a w S => st_nil (then_normal (hK2 _ _ (st_then S (.t rfl) (sg S (.ac rfl <| .z) fun a w S => wp_ret (in_ret (then_ret (st_ret S (results1 S results110 (Rv.tmp rfl)) ?_)))))))
    exact ⟨rfl, S.wd.below⟩
  | true =>
  have he0 : entE C (l.take k) x = if C.covers x.dot = false ∨ backE (l.take k).getLast? x = true then 50 else if x.dot ∈ (l.take k).map (·.dot) then 50 else 0 := by unfold entE; rw [if_neg (by simp [rw_n]), if_neg hq, if_neg (by simp [rw_p])]
  cases rw_c : C.covers x.dot with
  | false =>
    rw [if_pos (.inl rw_c)] at he0
    rw [he0]
    have rw_c2 : C.covers ⟨x.dot.node, x.dot.life, x.dot.count⟩ = false := rw_c
    refine enter2 func110 rfl ntmps110 rfl fun a S => wp_seq_k fun _ hK1 => wp_region_lit (st_m (op_box S (.t rfl) rfl fun g1 a w S => run S (.ac rfl <| .z) fun a w S => st_nil (then_normal (hK1 _ _ (wp_seq_k fun _ hK1 => wp_region_lit (run S (.fa underlying39 sizeOf33 0 rfl rfl rfl <| .ld gt33 0 rfl rfl rfl <| .mv rfl <| .ix underlying33 sizeOf71 (by omega) rfl rfl <| .yy (ys_ldOA ⟨isAgg71, sizeOf71⟩ (.t rfl) (vs := [_, _, _, _, _, _]) rfl (fun _ => hc)) rfl <| .z) fun a w S => st_m (op_alloc S zeroValue71 (cs := _) rfl rfl fun g2 a w S => st_m (op_stW S sizeOf71 (.t rfl) (.t rfl) (k := 0) rfl rfl rfl (by simp [Value.oneCell']) fun a w S => st_nil (then_normal (hK1 _ _ (wp_seq_k fun _ hK1 => wp_block (wp_seq_k fun _ hK2 => wp_region_lit (run S (.fa underlying71 sizeOf9 0 rfl rfl rfl <| .ld gt9 0 rfl rfl rfl <| .xx (ys_call call142 (.cons (.t rfl) .nil) (fun hp w W => c142 _ _)) rfl <| .z) fun a w S => ?_)))))))))))))
    rw [rw_n] at S
    refine run S (.nt rfl <| .as rfl <| .z) fun a w S => st_nil (then_normal (hK2 _ _ (st_else S (.t rfl) (sg S (.fa underlying71 sizeOf3 4 rfl rfl rfl <| .ld gt3 0 rfl rfl rfl <| .yy (ys_F (by omega) (ys_lss (.t rfl) Ev.c)) rfl <| .mv rfl <| .gy rfl rfl (ys_fieldN (FieldT.mk underlying71 rfl sizeOf3 rfl) (.t rfl) (i' := 4) rfl) <| .gy rfl rfl (ys_ld ⟨isAgg3, sizeOf3⟩ (.t rfl) (k := 0) rfl rfl) <| .gy rfl rfl (ys_F (by omega) (ys_gtr (.t rfl) Ev.c)) <| .yy (ys_pickF (.t rfl) (.t rfl)) rfl <| .as rfl <| .z) fun a w S => st_else S (.t rfl) (wp_seq_k fun _ hK2 => wp_region_lit (run S (.fa underlying71 sizeOf27 5 rfl rfl rfl <| .ld gt27 0 rfl rfl rfl <| .xx (ys_call call143 (.cons (.t rfl) .nil) (fun hp w W => c143 _ _)) rfl <| .z) fun a w S => ?_))))))
    rw [rw_p] at S
    refine run S (.nt rfl <| .as rfl <| .z) fun a w S => st_nil (then_normal (hK2 _ _ (st_else S (.t rfl) (wp_seq_k fun _ hK2 => st_quiet S (by kernel_rfl) (by kernel_rfl) fun a S => qrun S (.fa underlying39 sizeOf37 1 rfl rfl rfl <| .la gt37 1 rfl rfl rfl <| .fa underlying71 sizeOf58 1 rfl rfl rfl <| .la gt58 0 rfl rfl rfl <| .xx (ys_call call101 (.cons (.t rfl) (.cons (.t rfl) .nil)) (fun hp w W => c101 _ _ _ _ _ _ _ (by exact .old W (by assumption)))) rfl <| .z) fun a S => ?_))))
    rw [rw_c] at S
    refine qrun S (.nt rfl <| .mv rfl <| .sk rfl rfl rfl <| .sk rfl rfl rfl <| .sk rfl rfl rfl <| .s0 rfl rfl <| .s0 rfl rfl <| .s0 rfl rfl <| .s0 rfl rfl <| .s0 rfl rfl <| .s0 rfl rfl <| .s0 rfl rfl <| .s0 rfl rfl <| .s0 rfl rfl <| .sk rfl rfl rfl <| .yy (ys_pickT (.t rfl) Ev.c) rfl <| .as rfl <| .z) fun a S => ?_
    (refine q_nil ?_; intro w W; replace S := St.mk S W; clear W)
    refine then_normal (hK2 _ _ (st_then S (.t rfl) (sg S (.ac rfl <| .z) fun a w S => wp_ret (in_ret (then_ret (st_ret S (results1 S results110 (Rv.tmp rfl)) ?_))))))
    exact ⟨rfl, S.wd.below⟩
  | true =>
  have rw_c2 : C.covers ⟨x.dot.node, x.dot.life, x.dot.count⟩ = true := rw_c
  rcases k with _ | k
  · have hnb : ¬ (C.covers x.dot = false ∨ backE (l.take 0).getLast? x = true) := by simp [rw_c, backE]
    refine enter2 func110 rfl ntmps110 rfl fun a S => wp_seq_k fun _ hK1 => wp_region_lit (st_m (op_box S (.t rfl) rfl fun g1 a w S => run S (.ac rfl <| .z) fun a w S => st_nil (then_normal (hK1 _ _ (wp_seq_k fun _ hK1 => wp_region_lit (run S (.fa underlying39 sizeOf33 0 rfl rfl rfl <| .ld gt33 0 rfl rfl rfl <| .mv rfl <| .yy (ys_ixS (j := 0) underlying33 sizeOf71 (.t rfl) (.t rfl) (fun _ => by omega)) rfl <| .yy (ys_ldOA ⟨isAgg71, sizeOf71⟩ (.t rfl) (vs := [_, _, _, _, _, _]) rfl (fun _ => hc)) rfl <| .z) fun a w S => st_m (op_alloc S zeroValue71 (cs := _) rfl rfl fun g2 a w S => st_m (op_stW S sizeOf71 (.t rfl) (.t rfl) (k := 0) rfl rfl rfl (by simp [Value.oneCell']) fun a w S => st_nil (then_normal (hK1 _ _ (wp_seq_k fun _ hK1 => wp_block (wp_seq_k fun _ hK2 => wp_region_lit (run S (.fa underlying71 sizeOf9 0 rfl rfl rfl <| .ld gt9 0 rfl rfl rfl <| .xx (ys_call call142 (.cons (.t rfl) .nil) (fun hp w W => c142 _ _)) rfl <| .z) fun a w S => ?_)))))))))))))
    rw [rw_n] at S
    refine run S (.nt rfl <| .as rfl <| .z) fun a w S => st_nil (then_normal (hK2 _ _ (st_else S (.t rfl) (sg S (.fa underlying71 sizeOf3 4 rfl rfl rfl <| .ld gt3 0 rfl rfl rfl <| .yy (ys_F (by omega) (ys_lss (.t rfl) Ev.c)) rfl <| .mv rfl <| .gy rfl rfl (ys_fieldN (FieldT.mk underlying71 rfl sizeOf3 rfl) (.t rfl) (i' := 4) rfl) <| .gy rfl rfl (ys_ld ⟨isAgg3, sizeOf3⟩ (.t rfl) (k := 0) rfl rfl) <| .gy rfl rfl (ys_F (by omega) (ys_gtr (.t rfl) Ev.c)) <| .yy (ys_pickF (.t rfl) (.t rfl)) rfl <| .as rfl <| .z) fun a w S => st_else S (.t rfl) (wp_seq_k fun _ hK2 => wp_region_lit (run S (.fa underlying71 sizeOf27 5 rfl rfl rfl <| .ld gt27 0 rfl rfl rfl <| .xx (ys_call call143 (.cons (.t rfl) .nil) (fun hp w W => c143 _ _)) rfl <| .z) fun a w S => ?_))))))
    rw [rw_p] at S
    refine run S (.nt rfl <| .as rfl <| .z) fun a w S => st_nil (then_normal (hK2 _ _ (st_else S (.t rfl) (wp_seq_k fun _ hK2 => st_quiet S (by kernel_rfl) (by kernel_rfl) fun a S => qrun S (.fa underlying39 sizeOf37 1 rfl rfl rfl <| .la gt37 1 rfl rfl rfl <| .fa underlying71 sizeOf58 1 rfl rfl rfl <| .la gt58 0 rfl rfl rfl <| .xx (ys_call call101 (.cons (.t rfl) (.cons (.t rfl) .nil)) (fun hp w W => c101 _ _ _ _ _ _ _ (by exact .old W (by assumption)))) rfl <| .z) fun a S => ?_))))
    rw [rw_c] at S
    refine qrun S (.nt rfl <| .mv rfl <| .gy rfl rfl (ys_move (.t rfl)) <| .gy rfl rfl (ys_F (by omega) (ys_gtr (.t rfl) Ev.c)) <| .gy rfl rfl (ys_move (.t rfl)) <| .sk rfl rfl rfl <| .sk rfl rfl rfl <| .sk rfl rfl rfl <| .sk rfl rfl rfl <| .sk rfl rfl rfl <| .sk rfl rfl rfl <| .sk rfl rfl rfl <| .sk rfl rfl rfl <| .sk rfl rfl rfl <| .gy rfl rfl (ys_pickF (.t rfl) Ev.c) <| .yy (ys_pickF (.t rfl) (.t rfl)) rfl <| .as rfl <| .z) fun a S => ?_
    (refine q_nil ?_; intro w W; replace S := St.mk S W; clear W)
    refine then_normal (hK2 _ _ (st_else S (.t rfl) (wp_skip (in_normal (then_normal (hK1 _ _ (wp_seq_k fun _ hK1 => sg S (.fa underlying39 sizeOf33 0 rfl rfl rfl <| .ld gt33 1 rfl rfl rfl <| .mv rfl <| .yy (ys_slHi underlying33 sizeOf71 (.t rfl) (.t rfl) (fun _ => by first | omega | (simp; done) | (simp; omega))) rfl <| .ln underlying33 rfl <| .mc rfl <| .z) fun a w S => wp_block ?_)))))))
    refine st_lpM S [7, 59] (X := Nat) (fun j => [(59, true, .int .i64 (j : Int))]) (fun _ => [.blk g2 (.cells (Ent.enc x).toArray 71), .blk g1 (.cells #[.slice (some ⟨g, o, none⟩) l.length cap, v2, v3] 39)])
      (fun j => j ≤ 0 ∧ x.dot ∉ (l.take j).map (·.dot)) (fun j => 0 - j) 0 ⟨Nat.zero_le _, by simp⟩ ?_
    clear S
    intro j a w ⟨hj, hdup⟩ S
    by_cases hjk : j < 0
    · obtain ⟨g3, o3, y, e3, hy, hdy, hcy⟩ := row_at hA (show j < l.length by omega)
      cases e3
      by_cases he : y.dot = x.dot
      · have hin : x.dot ∈ (l.take (0)).map (·.dot) := he ▸ dup_at hjk hy
        rw [if_neg hnb, if_pos hin] at he0
        rw [he0]
        have rw_e := decide_eq_true (dot_iff3.1 he)
        refine sg S (.lt (by omega) rfl rfl <| .z) fun a w S => wp_seq_k fun _ hK2 => st_then S (.t rfl) (wp_skip (then_normal (hK2 _ _ (wp_seq_k fun _ hK2 => wp_block (wp_seq_k fun _ hK3 => wp_region_lit (run S (.ix underlying33 sizeOf71 (by omega) rfl rfl <| .yy (ys_ldOA ⟨isAgg71, sizeOf71⟩ (.t rfl) (vs := [_, _, _, _, _, _]) rfl (fun _ => hcy)) rfl <| .z) fun a w S => st_m (op_alloc S zeroValue71 (cs := _) rfl rfl fun g3 a w S => st_m (op_stW S sizeOf71 (.t rfl) (.t rfl) (k := 0) rfl rfl rfl (by simp [Value.oneCell']) fun a w S => st_nil (then_normal (hK3 _ _ (wp_seq_k fun _ hK3 => wp_region_lit (run S (.fa underlying71 sizeOf58 1 rfl rfl rfl <| .la gt58 0 rfl rfl rfl <| .fa underlying71 sizeOf58 1 rfl rfl rfl <| .la gt58 1 rfl rfl rfl <| .yy (ys_eqA (.t rfl) (.t rfl) eq58) rfl <| .z) fun a w S => ?_))))))))))))
        rw [rw_e] at S
        refine st_nil (then_normal (hK3 _ _ (st_then S (.t rfl) (sg S (.ac rfl <| .z) fun a w S => wp_ret (in_ret (then_ret (then_ret (in_ret (then_ret (st_ret S (results1 S results110 (Rv.tmp rfl)) ?_))))))))))
        exact ⟨rfl, S.wd.below⟩
      · have rw_e := decide_eq_false (fun h => he (dot_iff3.2 h))
        refine sg S (.lt (by omega) rfl rfl <| .z) fun a w S => wp_seq_k fun _ hK2 => st_then S (.t rfl) (wp_skip (then_normal (hK2 _ _ (wp_seq_k fun _ hK2 => wp_block (wp_seq_k fun _ hK3 => wp_region_lit (run S (.ix underlying33 sizeOf71 (by omega) rfl rfl <| .yy (ys_ldOA ⟨isAgg71, sizeOf71⟩ (.t rfl) (vs := [_, _, _, _, _, _]) rfl (fun _ => hcy)) rfl <| .z) fun a w S => st_m (op_alloc S zeroValue71 (cs := _) rfl rfl fun g3 a w S => st_m (op_stW S sizeOf71 (.t rfl) (.t rfl) (k := 0) rfl rfl rfl (by simp [Value.oneCell']) fun a w S => st_nil (then_normal (hK3 _ _ (wp_seq_k fun _ hK3 => wp_region_lit (run S (.fa underlying71 sizeOf58 1 rfl rfl rfl <| .la gt58 0 rfl rfl rfl <| .fa underlying71 sizeOf58 1 rfl rfl rfl <| .la gt58 1 rfl rfl rfl <| .yy (ys_eqA (.t rfl) (.t rfl) eq58) rfl <| .z) fun a w S => ?_))))))))))))
        rw [rw_e] at S
        refine st_nil (then_normal (hK3 _ _ (st_else S (.t rfl) (wp_skip (in_normal (then_normal (hK2 _ _ (wp_region_lit (run S (.ad (by unfold I64; omega) rfl <| .mv rfl <| .z) fun a w S => st_nil (then_normal ?_))))))))))
        exact ⟨j + 1, ⟨by omega, dup_step hy hdup he⟩, by omega, S.pk⟩
    · obtain rfl : j = 0 := by omega
      rw [if_neg hnb, if_neg hdup] at he0
      refine sg S (.ge (by omega) rfl rfl <| .z) fun a w S => wp_seq_k fun _ hK2 => st_else S (.t rfl) (wp_exit (then_exit (then_exit (in_here (then_normal (hK1 _ _ (sg S (.ac rfl <| .z) fun a w S => wp_ret (st_ret S (results1 S results110 (Rv.tmp rfl)) ?_))))))))
      exact ⟨by rw [he0], S.wd.below⟩
  obtain ⟨g4, o4, p, e4, hp4, hdp, hcp⟩ := row_at hA (show k < l.length by omega)
  cases e4
  rw [take_last hp4] at he0
  have hmp : mayD p.dot = true := cov_may hC (hp p (List.mem_of_getElem? (i := k) (by rw [List.getElem?_take, if_pos (by omega), hp4])))
  have hmx : mayD x.dot = true := cov_may hC rw_c
  by_cases hlt2 : ltE p x
  · have hnb : ¬ (C.covers x.dot = false ∨ backE (some p) x = true) := by simp [rw_c, backE, hlt2]
    have rw_l : decide (0 ≤ ordE p x) = false := decide_eq_false (by have := (ordE_iff p x).2 hlt2; omega)
    refine enter2 func110 rfl ntmps110 rfl fun a S => wp_seq_k fun _ hK1 => wp_region_lit (st_m (op_box S (.t rfl) rfl fun g1 a w S => run S (.ac rfl <| .z) fun a w S => st_nil (then_normal (hK1 _ _ (wp_seq_k fun _ hK1 => wp_region_lit (run S (.fa underlying39 sizeOf33 0 rfl rfl rfl <| .ld gt33 0 rfl rfl rfl <| .mv rfl <| .ix underlying33 sizeOf71 (by omega) rfl rfl <| .yy (ys_ldOA ⟨isAgg71, sizeOf71⟩ (.t rfl) (vs := [_, _, _, _, _, _]) rfl (fun _ => hc)) rfl <| .z) fun a w S => st_m (op_alloc S zeroValue71 (cs := _) rfl rfl fun g2 a w S => st_m (op_stW S sizeOf71 (.t rfl) (.t rfl) (k := 0) rfl rfl rfl (by simp [Value.oneCell']) fun a w S => st_nil (then_normal (hK1 _ _ (wp_seq_k fun _ hK1 => wp_block (wp_seq_k fun _ hK2 => wp_region_lit (run S (.fa underlying71 sizeOf9 0 rfl rfl rfl <| .ld gt9 0 rfl rfl rfl <| .xx (ys_call call142 (.cons (.t rfl) .nil) (fun hp w W => c142 _ _)) rfl <| .z) fun a w S => ?_)))))))))))))
    rw [rw_n] at S
    refine run S (.nt rfl <| .as rfl <| .z) fun a w S => st_nil (then_normal (hK2 _ _ (st_else S (.t rfl) (sg S (.fa underlying71 sizeOf3 4 rfl rfl rfl <| .ld gt3 0 rfl rfl rfl <| .yy (ys_F (by omega) (ys_lss (.t rfl) Ev.c)) rfl <| .mv rfl <| .gy rfl rfl (ys_fieldN (FieldT.mk underlying71 rfl sizeOf3 rfl) (.t rfl) (i' := 4) rfl) <| .gy rfl rfl (ys_ld ⟨isAgg3, sizeOf3⟩ (.t rfl) (k := 0) rfl rfl) <| .gy rfl rfl (ys_F (by omega) (ys_gtr (.t rfl) Ev.c)) <| .yy (ys_pickF (.t rfl) (.t rfl)) rfl <| .as rfl <| .z) fun a w S => st_else S (.t rfl) (wp_seq_k fun _ hK2 => wp_region_lit (run S (.fa underlying71 sizeOf27 5 rfl rfl rfl <| .ld gt27 0 rfl rfl rfl <| .xx (ys_call call143 (.cons (.t rfl) .nil) (fun hp w W => c143 _ _)) rfl <| .z) fun a w S => ?_))))))
    rw [rw_p] at S
    refine run S (.nt rfl <| .as rfl <| .z) fun a w S => st_nil (then_normal (hK2 _ _ (st_else S (.t rfl) (wp_seq_k fun _ hK2 => st_quiet S (by kernel_rfl) (by kernel_rfl) fun a S => qrun S (.fa underlying39 sizeOf37 1 rfl rfl rfl <| .la gt37 1 rfl rfl rfl <| .fa underlying71 sizeOf58 1 rfl rfl rfl <| .la gt58 0 rfl rfl rfl <| .xx (ys_call call101 (.cons (.t rfl) (.cons (.t rfl) .nil)) (fun hp w W => c101 _ _ _ _ _ _ _ (by exact .old W (by assumption)))) rfl <| .z) fun a S => ?_))))
    rw [rw_c] at S
    refine qrun S (.nt rfl <| .mv rfl <| .gy rfl rfl (ys_move (.t rfl)) <| .gy rfl rfl (ys_T (by omega) (ys_gtr (.t rfl) Ev.c)) <| .gy rfl rfl (ys_move (.t rfl)) <| .gy rfl rfl (ys_fieldN (FieldT.mk underlying39 rfl sizeOf33 rfl) (.t rfl) (i' := 0) rfl) <| .gy rfl rfl (ys_ld ⟨isAgg33, sizeOf33⟩ (.t rfl) (k := 1) rfl rfl) <| .gy rfl rfl (ys_move (.t rfl)) <| .gy rfl rfl (ys_pred (.t rfl) Ev.c (by omega)) <| .gy rfl rfl (ys_ixS underlying33 sizeOf71 (.t rfl) (.t rfl) (fun _ => by omega)) <| .gy rfl rfl (ys_ldOA ⟨isAgg71, sizeOf71⟩ (.t rfl) (vs := [_, _, _, _, _, _]) rfl (fun _ => hcp)) <| .gy rfl rfl (ys_ldA ⟨isAgg71, sizeOf71⟩ (.t rfl) (k := 0) rfl rfl) <| .gx rfl rfl (ys_call call83 (.cons (.t rfl) (.cons (.t rfl) .nil)) (fun hp w W => c83 _ _ _ (by assumption) (by assumption))) <| .gy rfl rfl (ys_geq (.t rfl) Ev.c) <| .z) fun a S => ?_
    rw [rw_l] at S
    refine qrun S (.gy rfl rfl (ys_pickT (.t rfl) (.t rfl)) <| .yy (ys_pickF (.t rfl) (.t rfl)) rfl <| .as rfl <| .z) fun a S => ?_
    (refine q_nil ?_; intro w W; replace S := St.mk S W; clear W)
    refine then_normal (hK2 _ _ (st_else S (.t rfl) (wp_skip (in_normal (then_normal (hK1 _ _ (wp_seq_k fun _ hK1 => sg S (.fa underlying39 sizeOf33 0 rfl rfl rfl <| .ld gt33 1 rfl rfl rfl <| .mv rfl <| .yy (ys_slHi underlying33 sizeOf71 (.t rfl) (.t rfl) (fun _ => by first | omega | (simp; done) | (simp; omega))) rfl <| .ln underlying33 rfl <| .mc rfl <| .z) fun a w S => wp_block ?_)))))))
    refine st_lpM S [7, 59] (X := Nat) (fun j => [(59, true, .int .i64 (j : Int))]) (fun _ => [.blk g2 (.cells (Ent.enc x).toArray 71), .blk g1 (.cells #[.slice (some ⟨g, o, none⟩) l.length cap, v2, v3] 39)])
      (fun j => j ≤ (k + 1) ∧ x.dot ∉ (l.take j).map (·.dot)) (fun j => (k + 1) - j) 0 ⟨Nat.zero_le _, by simp⟩ ?_
    clear S
    intro j a w ⟨hj, hdup⟩ S
    by_cases hjk : j < (k + 1)
    · obtain ⟨g3, o3, y, e3, hy, hdy, hcy⟩ := row_at hA (show j < l.length by omega)
      cases e3
      by_cases he : y.dot = x.dot
      · have hin : x.dot ∈ (l.take ((k + 1))).map (·.dot) := he ▸ dup_at hjk hy
        rw [if_neg hnb, if_pos hin] at he0
        rw [he0]
        have rw_e := decide_eq_true (dot_iff3.1 he)
        refine sg S (.lt (by omega) rfl rfl <| .z) fun a w S => wp_seq_k fun _ hK2 => st_then S (.t rfl) (wp_skip (then_normal (hK2 _ _ (wp_seq_k fun _ hK2 => wp_block (wp_seq_k fun _ hK3 => wp_region_lit (run S (.ix underlying33 sizeOf71 (by omega) rfl rfl <| .yy (ys_ldOA ⟨isAgg71, sizeOf71⟩ (.t rfl) (vs := [_, _, _, _, _, _]) rfl (fun _ => hcy)) rfl <| .z) fun a w S => st_m (op_alloc S zeroValue71 (cs := _) rfl rfl fun g3 a w S => st_m (op_stW S sizeOf71 (.t rfl) (.t rfl) (k := 0) rfl rfl rfl (by simp [Value.oneCell']) fun a w S => st_nil (then_normal (hK3 _ _ (wp_seq_k fun _ hK3 => wp_region_lit (run S (.fa underlying71 sizeOf58 1 rfl rfl rfl <| .la gt58 0 rfl rfl rfl <| .fa underlying71 sizeOf58 1 rfl rfl rfl <| .la gt58 1 rfl rfl rfl <| .yy (ys_eqA (.t rfl) (.t rfl) eq58) rfl <| .z) fun a w S => ?_))))))))))))
        rw [rw_e] at S
        refine st_nil (then_normal (hK3 _ _ (st_then S (.t rfl) (sg S (.ac rfl <| .z) fun a w S => wp_ret (in_ret (then_ret (then_ret (in_ret (then_ret (st_ret S (results1 S results110 (Rv.tmp rfl)) ?_))))))))))
        exact ⟨rfl, S.wd.below⟩
      · have rw_e := decide_eq_false (fun h => he (dot_iff3.2 h))
        refine sg S (.lt (by omega) rfl rfl <| .z) fun a w S => wp_seq_k fun _ hK2 => st_then S (.t rfl) (wp_skip (then_normal (hK2 _ _ (wp_seq_k fun _ hK2 => wp_block (wp_seq_k fun _ hK3 => wp_region_lit (run S (.ix underlying33 sizeOf71 (by omega) rfl rfl <| .yy (ys_ldOA ⟨isAgg71, sizeOf71⟩ (.t rfl) (vs := [_, _, _, _, _, _]) rfl (fun _ => hcy)) rfl <| .z) fun a w S => st_m (op_alloc S zeroValue71 (cs := _) rfl rfl fun g3 a w S => st_m (op_stW S sizeOf71 (.t rfl) (.t rfl) (k := 0) rfl rfl rfl (by simp [Value.oneCell']) fun a w S => st_nil (then_normal (hK3 _ _ (wp_seq_k fun _ hK3 => wp_region_lit (run S (.fa underlying71 sizeOf58 1 rfl rfl rfl <| .la gt58 0 rfl rfl rfl <| .fa underlying71 sizeOf58 1 rfl rfl rfl <| .la gt58 1 rfl rfl rfl <| .yy (ys_eqA (.t rfl) (.t rfl) eq58) rfl <| .z) fun a w S => ?_))))))))))))
        rw [rw_e] at S
        refine st_nil (then_normal (hK3 _ _ (st_else S (.t rfl) (wp_skip (in_normal (then_normal (hK2 _ _ (wp_region_lit (run S (.ad (by unfold I64; omega) rfl <| .mv rfl <| .z) fun a w S => st_nil (then_normal ?_))))))))))
        exact ⟨j + 1, ⟨by omega, dup_step hy hdup he⟩, by omega, S.pk⟩
    · obtain rfl : j = (k + 1) := by omega
      rw [if_neg hnb, if_neg hdup] at he0
      refine sg S (.ge (by omega) rfl rfl <| .z) fun a w S => wp_seq_k fun _ hK2 => st_else S (.t rfl) (wp_exit (then_exit (then_exit (in_here (then_normal (hK1 _ _ (sg S (.ac rfl <| .z) fun a w S => wp_ret (st_ret S (results1 S results110 (Rv.tmp rfl)) ?_))))))))
      exact ⟨by rw [he0], S.wd.below⟩
  · rw [if_pos (.inr (by simp [backE, hlt2]))] at he0
    rw [he0]
    have rw_l : decide (0 ≤ ordE p x) = true := decide_eq_true (by have : ¬ ordE p x < 0 := fun h => hlt2 ((ordE_iff p x).1 h); omega)
    refine enter2 func110 rfl ntmps110 rfl fun a S => wp_seq_k fun _ hK1 => wp_region_lit (st_m (op_box S (.t rfl) rfl fun g1 a w S => run S (.ac rfl <| .z) fun a w S => st_nil (then_normal (hK1 _ _ (wp_seq_k fun _ hK1 => wp_region_lit (run S (.fa underlying39 sizeOf33 0 rfl rfl rfl <| .ld gt33 0 rfl rfl rfl <| .mv rfl <| .ix underlying33 sizeOf71 (by omega) rfl rfl <| .yy (ys_ldOA ⟨isAgg71, sizeOf71⟩ (.t rfl) (vs := [_, _, _, _, _, _]) rfl (fun _ => hc)) rfl <| .z) fun a w S => st_m (op_alloc S zeroValue71 (cs := _) rfl rfl fun g2 a w S => st_m (op_stW S sizeOf71 (.t rfl) (.t rfl) (k := 0) rfl rfl rfl (by simp [Value.oneCell']) fun a w S => st_nil (then_normal (hK1 _ _ (wp_seq_k fun _ hK1 => wp_block (wp_seq_k fun _ hK2 => wp_region_lit (run S (.fa underlying71 sizeOf9 0 rfl rfl rfl <| .ld gt9 0 rfl rfl rfl <| .xx (ys_call call142 (.cons (.t rfl) .nil) (fun hp w W => c142 _ _)) rfl <| .z) fun a w S => ?_)))))))))))))
    rw [rw_n] at S
    refine run S (.nt rfl <| .as rfl <| .z) fun a w S => st_nil (then_normal (hK2 _ _ (st_else S (.t rfl) (sg S (.fa underlying71 sizeOf3 4 rfl rfl rfl <| .ld gt3 0 rfl rfl rfl <| .yy (ys_F (by omega) (ys_lss (.t rfl) Ev.c)) rfl <| .mv rfl <| .gy rfl rfl (ys_fieldN (FieldT.mk underlying71 rfl sizeOf3 rfl) (.t rfl) (i' := 4) rfl) <| .gy rfl rfl (ys_ld ⟨isAgg3, sizeOf3⟩ (.t rfl) (k := 0) rfl rfl) <| .gy rfl rfl (ys_F (by omega) (ys_gtr (.t rfl) Ev.c)) <| .yy (ys_pickF (.t rfl) (.t rfl)) rfl <| .as rfl <| .z) fun a w S => st_else S (.t rfl) (wp_seq_k fun _ hK2 => wp_region_lit (run S (.fa underlying71 sizeOf27 5 rfl rfl rfl <| .ld gt27 0 rfl rfl rfl <| .xx (ys_call call143 (.cons (.t rfl) .nil) (fun hp w W => c143 _ _)) rfl <| .z) fun a w S => ?_))))))
    rw [rw_p] at S
    refine run S (.nt rfl <| .as rfl <| .z) fun a w S => st_nil (then_normal (hK2 _ _ (st_else S (.t rfl) (wp_seq_k fun _ hK2 => st_quiet S (by kernel_rfl) (by kernel_rfl) fun a S => qrun S (.fa underlying39 sizeOf37 1 rfl rfl rfl <| .la gt37 1 rfl rfl rfl <| .fa underlying71 sizeOf58 1 rfl rfl rfl <| .la gt58 0 rfl rfl rfl <| .xx (ys_call call101 (.cons (.t rfl) (.cons (.t rfl) .nil)) (fun hp w W => c101 _ _ _ _ _ _ _ (by exact .old W (by assumption)))) rfl <| .z) fun a S => ?_))))
    rw [rw_c] at S
    refine qrun S (.nt rfl <| .mv rfl <| .gy rfl rfl (ys_move (.t rfl)) <| .gy rfl rfl (ys_T (by omega) (ys_gtr (.t rfl) Ev.c)) <| .gy rfl rfl (ys_move (.t rfl)) <| .gy rfl rfl (ys_fieldN (FieldT.mk underlying39 rfl sizeOf33 rfl) (.t rfl) (i' := 0) rfl) <| .gy rfl rfl (ys_ld ⟨isAgg33, sizeOf33⟩ (.t rfl) (k := 1) rfl rfl) <| .gy rfl rfl (ys_move (.t rfl)) <| .gy rfl rfl (ys_pred (.t rfl) Ev.c (by omega)) <| .gy rfl rfl (ys_ixS underlying33 sizeOf71 (.t rfl) (.t rfl) (fun _ => by omega)) <| .gy rfl rfl (ys_ldOA ⟨isAgg71, sizeOf71⟩ (.t rfl) (vs := [_, _, _, _, _, _]) rfl (fun _ => hcp)) <| .gy rfl rfl (ys_ldA ⟨isAgg71, sizeOf71⟩ (.t rfl) (k := 0) rfl rfl) <| .gx rfl rfl (ys_call call83 (.cons (.t rfl) (.cons (.t rfl) .nil)) (fun hp w W => c83 _ _ _ (by assumption) (by assumption))) <| .gy rfl rfl (ys_geq (.t rfl) Ev.c) <| .z) fun a S => ?_
    rw [rw_l] at S
    refine qrun S (.gy rfl rfl (ys_pickT (.t rfl) (.t rfl)) <| .yy (ys_pickF (.t rfl) (.t rfl)) rfl <| .as rfl <| .z) fun a S => ?_
    (refine q_nil ?_; intro w W; replace S := St.mk S W; clear W)
    refine then_normal (hK2 _ _ (st_then S (.t rfl) (sg S (.ac rfl <| .z) fun a w S => wp_ret (in_ret (then_ret (st_ret S (results1 S results110 (Rv.tmp rfl)) ?_))))))
    exact ⟨rfl, S.wd.below⟩
theorem c52 (w0 : World) (v1 v2 v3 : Value) (c : Cart) (h : Sl Ent.enc 6 w0 w0.heap.size v1 c.ents) (hr : RdCtx w0 w0.heap.size v2 v3 c.ctx) :
    Calls Tryz.prog 52 #[.agg #[v1, v2, v3]] w0 fun e w' => e = .returned (.int .i64 (canE c)) ∧ Bel w0.heap.size w0 w' := by
  obtain ⟨l, C⟩ := c
  dsimp only at h hr
  have hs := h
  obtain ⟨A, cap, rfl, hl, hcap, hA⟩ := h
  unfold canE
  dsimp only
  cases rw_C : canL C with
  | false =>
    refine enter1 func52 rfl ntmps52 rfl fun a S => wp_seq_k fun _ hK1 => wp_region_lit (st_m (op_box S (.t rfl) rfl fun g1 a w S => run S (.ac rfl <| .z) fun a w S => st_nil (then_normal (hK1 _ _ (wp_seq_k fun _ hK1 => wp_block (wp_seq_k fun _ hK2 => wp_region_lit (run S (.fa underlying39 sizeOf37 1 rfl rfl rfl <| .la gt37 0 rfl rfl rfl <| .xx (ys_call call109 (.cons (.t rfl) .nil) (fun hp w W => c109 _ _ _ _ (by exact .old W (by assumption)))) rfl <| .z) fun a w S => ?_)))))))
    rw [rw_C] at S
    refine run S (.nt rfl <| .as rfl <| .z) fun a w S => st_nil (then_normal (hK2 _ _ (st_then S (.t rfl) (sg S (.ac rfl <| .z) fun a w S => wp_ret (in_ret (then_ret (st_ret S (results1 S results52 (Rv.tmp rfl)) ?_)))))))
    exact ⟨rfl, S.wd.below⟩
  | true =>
  rw [if_neg (by simp)]
  by_cases hbig : 64 < l.length
  · refine enter1 func52 rfl ntmps52 rfl fun a S => wp_seq_k fun _ hK1 => wp_region_lit (st_m (op_box S (.t rfl) rfl fun g1 a w S => run S (.ac rfl <| .z) fun a w S => st_nil (then_normal (hK1 _ _ (wp_seq_k fun _ hK1 => wp_block (wp_seq_k fun _ hK2 => wp_region_lit (run S (.fa underlying39 sizeOf37 1 rfl rfl rfl <| .la gt37 0 rfl rfl rfl <| .xx (ys_call call109 (.cons (.t rfl) .nil) (fun hp w W => c109 _ _ _ _ (by exact .old W (by assumption)))) rfl <| .z) fun a w S => ?_)))))))
    rw [rw_C] at S
    refine run S (.nt rfl <| .as rfl <| .z) fun a w S => st_nil (then_normal (hK2 _ _ (st_else S (.t rfl) (sg S (.fa underlying39 sizeOf33 0 rfl rfl rfl <| .ld gt33 0 rfl rfl rfl <| .ln underlying33 rfl <| .yy (ys_T (by omega) (ys_gtr (.t rfl) Ev.c)) rfl <| .as rfl <| .z) fun a w S => st_then S (.t rfl) (sg S (.ac rfl <| .z) fun a w S => wp_ret (in_ret (then_ret (st_ret S (results1 S results52 (Rv.tmp rfl)) ?_))))))))
    exact ⟨by rw [if_pos hbig], S.wd.below⟩
  rw [if_neg hbig]
  refine enter1 func52 rfl ntmps52 rfl fun a S => wp_seq_k fun _ hK1 => wp_region_lit (st_m (op_box S (.t rfl) rfl fun g1 a w S => run S (.ac rfl <| .z) fun a w S => st_nil (then_normal (hK1 _ _ (wp_seq_k fun _ hK1 => wp_block (wp_seq_k fun _ hK2 => wp_region_lit (run S (.fa underlying39 sizeOf37 1 rfl rfl rfl <| .la gt37 0 rfl rfl rfl <| .xx (ys_call call109 (.cons (.t rfl) .nil) (fun hp w W => c109 _ _ _ _ (by exact .old W (by assumption)))) rfl <| .z) fun a w S => ?_)))))))
  rw [rw_C] at S
  refine run S (.nt rfl <| .as rfl <| .z) fun a w S => st_nil (then_normal (hK2 _ _ (st_else S (.t rfl) (sg S (.fa underlying39 sizeOf33 0 rfl rfl rfl <| .ld gt33 0 rfl rfl rfl <| .ln underlying33 rfl <| .yy (ys_F (by omega) (ys_gtr (.t rfl) Ev.c)) rfl <| .as rfl <| .z) fun a w S => st_else S (.t rfl) (wp_skip (in_normal (then_normal (hK1 _ _ (wp_seq_k fun _ hK1 => sg S (.fa underlying39 sizeOf33 0 rfl rfl rfl <| .ld gt33 0 rfl rfl rfl <| .ln underlying33 rfl <| .mc rfl <| .z) fun a w S => wp_block ?_)))))))))
  refine st_lpM S [3, 4, 18] (X := Nat) (fun k => [(18, true, .int .i64 (k : Int))]) (fun _ => [.blk g1 (.cells #[.slice A l.length cap, v2, v3] 39)])
    (fun k => k ≤ l.length ∧ (∀ y ∈ l.take k, C.covers y.dot = true) ∧ entsE C (l.take k) (l.drop k) = entsE C [] l) (fun k => l.length - k) 0 ⟨Nat.zero_le _, by simp, rfl⟩ ?_
  clear S
  intro k a w ⟨hk, hcov, hno⟩ S
  by_cases hlt : k < l.length
  rotate_left
  · obtain rfl : k = l.length := by omega
    rw [List.drop_length, entsE] at hno
    by_cases hi : 32 < itemsN l
    · refine sg S (.ge (by omega) rfl rfl <| .z) fun a w S => wp_seq_k fun _ hK2 => st_else S (.t rfl) (wp_exit (then_exit (then_exit (in_here (then_normal (hK1 _ _ (wp_seq_k fun _ hK1 => sg S (.fa underlying39 sizeOf33 0 rfl rfl rfl <| .ld gt33 0 rfl rfl rfl <| .xx (ys_call call111 (.cons (.t rfl) .nil) (fun hp w W => c111 _ _ _ (by exact .old W (by assumption)) (by omega))) rfl <| .yy (ys_T (by omega) (ys_gtr (.t rfl) Ev.c)) rfl <| .z) fun a w S => st_then S (.t rfl) (sg S (.ac rfl <| .z) fun a w S => wp_ret (then_ret (st_ret S (results1 S results52 (Rv.tmp rfl)) ?_))))))))))
      exact ⟨by rw [if_pos hno.symm, if_pos hi], S.wd.below⟩
    · refine sg S (.ge (by omega) rfl rfl <| .z) fun a w S => wp_seq_k fun _ hK2 => st_else S (.t rfl) (wp_exit (then_exit (then_exit (in_here (then_normal (hK1 _ _ (wp_seq_k fun _ hK1 => sg S (.fa underlying39 sizeOf33 0 rfl rfl rfl <| .ld gt33 0 rfl rfl rfl <| .xx (ys_call call111 (.cons (.t rfl) .nil) (fun hp w W => c111 _ _ _ (by exact .old W (by assumption)) (by omega))) rfl <| .yy (ys_F (by omega) (ys_gtr (.t rfl) Ev.c)) rfl <| .z) fun a w S => st_else S (.t rfl) (wp_skip (then_normal (hK1 _ _ (sg S (.ac rfl <| .z) fun a w S => wp_ret (st_ret S (results1 S results52 (Rv.tmp rfl)) ?_))))))))))))
      exact ⟨by rw [if_pos hno.symm, if_neg hi], S.wd.below⟩
  obtain ⟨x, hx⟩ : ∃ x, l[k]? = some x := ⟨_, List.getElem?_eq_getElem hlt⟩
  have hst := ents_step (C := C) hx
  rw [hno] at hst
  by_cases he : entE C (l.take k) x = 0
  · have hcx := (entE_ok.1 he).1.cov
    rw [if_pos he] at hst
    have rw_e := he
    refine sg S (.lt (by omega) rfl rfl <| .z) fun a w S => wp_seq_k fun _ hK2 => st_then S (.t rfl) (wp_skip (then_normal (hK2 _ _ (wp_seq_k fun _ hK2 => wp_block (sg S (.mv rfl <| .as rfl <| .z) fun a w S => wp_seq_k fun _ hK3 => wp_region_lit (run S (.la gt39 0 rfl rfl rfl <| .mv rfl <| .xx (ys_call call110 (.cons (.t rfl) (.cons (.t rfl) .nil)) (fun hp w W => c110 _ _ _ _ _ _ _ _ (by exact .old W (by assumption)) (by exact .old W (by assumption)) (by assumption) (by assumption) (by assumption) (by omega))) rfl <| .z) fun a w S => ?_))))))
    rw [rw_e] at S
    refine run S (.as rfl <| .z) fun a w S => st_nil (then_normal (hK3 _ _ (sg S (.mv rfl <| .yy (ys_F (by omega) (ys_neq (.t rfl) Ev.c)) rfl <| .z) fun a w S => st_else S (.t rfl) (wp_skip (in_normal (then_normal (hK2 _ _ (wp_region_lit (run S (.ad (by unfold I64; omega) rfl <| .mv rfl <| .z) fun a w S => st_nil (then_normal ?_))))))))))
    refine ⟨k + 1, ⟨by omega, fun y hy => ?_, hst.symm⟩, by omega, S.pk⟩
    rw [List.take_add_one, hx, Option.toList_some] at hy
    rcases List.mem_append.1 hy with hy | hy
    · exact hcov y hy
    · simp at hy; exact hy ▸ hcx
  · rw [if_neg he] at hst
    refine sg S (.lt (by omega) rfl rfl <| .z) fun a w S => wp_seq_k fun _ hK2 => st_then S (.t rfl) (wp_skip (then_normal (hK2 _ _ (wp_seq_k fun _ hK2 => wp_block (sg S (.mv rfl <| .as rfl <| .z) fun a w S => sg S (.la gt39 0 rfl rfl rfl <| .mv rfl <| .xx (ys_call call110 (.cons (.t rfl) (.cons (.t rfl) .nil)) (fun hp w W => c110 _ _ _ _ _ _ _ _ (by exact .old W (by assumption)) (by exact .old W (by assumption)) (by assumption) (by assumption) (by assumption) (by omega))) rfl <| .as rfl <| .z) fun a w S => sg S (.mv rfl <| .yy (ys_T (by omega) (ys_neq (.t rfl) Ev.c)) rfl <| .z) fun a w S => st_then S (.t rfl) (sg S (.mv rfl <| .as rfl <| .z) fun a w S => wp_ret (in_ret (then_ret (then_ret (in_ret (then_ret (st_ret S (results1 S results52 (Rv.tmp rfl)) ?_))))))))))))
    exact ⟨by rw [hst, if_neg he], S.wd.below⟩
end Go.Proofs.YtfblmkocmnbdcaaGreat
set_option linter.unusedVariables false
set_option linter.unusedSimpArgs false
set_option maxRecDepth 100000
set_option maxHeartbeats 4000000
namespace Go.Fw
abbrev Upd.enc (u : Upd) (v1 v2 v3 : Value) : List Value := [.string (bs u.key), .int .i64 u.dot.node, .int .i64 u.dot.life, .int .i64 u.dot.count, .string (bs u.item), .int .i64 u.qty, .int .u64 (u.price.toNat : Int), v1, v2, v3]
theorem can_ctx {c : Cart} (h : canE c = 0) : canL c.ctx = true := ((canE_ok c).1 h).ctx
end Go.Fw
namespace Go.Proofs.YtfblmkocmnbdcaaGreat
open Go.Fw Go.Proofs Go.RowKit Go.Proofs.Tryz
theorem c85 (w0 : World) (u : Upd) (v1 v2 v3 : Value) (h : Sl Ent.enc 6 w0 w0.heap.size v1 u.seen.ents) (hr : RdCtx w0 w0.heap.size v2 v3 u.seen.ctx) :
    Calls Tryz.prog 85 #[.agg (Upd.enc u v1 v2 v3).toArray] w0 fun e w' => e = .returned (.int .i64 (mayE u)) ∧ Bel w0.heap.size w0 w' := by
  have hs := h
  have hrr := hr
  obtain ⟨A, cap, rfl, _⟩ := h
  obtain ⟨⟨A2, cap2, rfl, _⟩, ⟨A3, cap3, rfl, _⟩⟩ := hr
  unfold mayE
  cases rw_k : nameB u.key with
  | false =>
    refine enter1 func85 rfl ntmps85 rfl fun a S => wp_seq_k fun _ hK1 => wp_region_lit (st_m (op_box S (.t rfl) rfl fun g1 a w S => run S (.ac rfl <| .z) fun a w S => st_nil (then_normal (hK1 _ _ (wp_seq_k fun _ hK1 => wp_block (wp_seq_k fun _ hK2 => wp_region_lit (run S (.fa underlying60 sizeOf9 0 rfl rfl rfl <| .ld gt9 0 rfl rfl rfl <| .xx (ys_call call127 (.cons (.t rfl) .nil) (fun hp w W => c127 _ _)) rfl <| .z) fun a w S => ?_)))))))
    rw [rw_k] at S
    refine run S (.nt rfl <| .mv rfl <| .sk rfl rfl rfl <| .sk rfl rfl rfl <| .sk rfl rfl rfl <| .sk rfl rfl rfl <| .yy (ys_pickT (.t rfl) Ev.c) rfl <| .as rfl <| .z) fun a w S => st_nil (then_normal (hK2 _ _ (st_then S (.t rfl) (sg S (.ac rfl <| .z) fun a w S => wp_ret (in_ret (then_ret (st_ret S (results1 S results85 (Rv.tmp rfl)) ?_)))))))
    exact ⟨by rw [if_pos (.inl rfl)], S.wd.below⟩
  | true =>
  cases rw_i : nameB u.item with
  | false =>
    refine enter1 func85 rfl ntmps85 rfl fun a S => wp_seq_k fun _ hK1 => wp_region_lit (st_m (op_box S (.t rfl) rfl fun g1 a w S => run S (.ac rfl <| .z) fun a w S => st_nil (then_normal (hK1 _ _ (wp_seq_k fun _ hK1 => wp_block (wp_seq_k fun _ hK2 => wp_region_lit (run S (.fa underlying60 sizeOf9 0 rfl rfl rfl <| .ld gt9 0 rfl rfl rfl <| .xx (ys_call call127 (.cons (.t rfl) .nil) (fun hp w W => c127 _ _)) rfl <| .z) fun a w S => ?_)))))))
    rw [rw_k] at S
    refine run S (.nt rfl <| .mv rfl <| .gy rfl rfl (ys_fieldN (FieldT.mk underlying60 rfl sizeOf9 rfl) (.t rfl) (i' := 4) rfl) <| .gy rfl rfl (ys_ld ⟨isAgg9, sizeOf9⟩ (.t rfl) (k := 0) rfl rfl) <| .gx rfl rfl (ys_call call127 (.cons (.t rfl) .nil) (fun hp w W => c127 _ _)) <| .z) fun a w S => ?_
    rw [rw_i] at S
    refine run S (.gy rfl rfl (ys_not (.t rfl)) <| .yy (ys_pickF (.t rfl) (.t rfl)) rfl <| .as rfl <| .z) fun a w S => st_nil (then_normal (hK2 _ _ (st_then S (.t rfl) (sg S (.ac rfl <| .z) fun a w S => wp_ret (in_ret (then_ret (st_ret S (results1 S results85 (Rv.tmp rfl)) ?_)))))))
    exact ⟨by rw [if_pos (.inr rfl)], S.wd.below⟩
  | true =>
  rw [if_neg (by simp)]
  by_cases hq : u.qty < 0 ∨ 1000000 < u.qty
  · have rw_q : (decide (0 ≤ u.qty) && decide (u.qty ≤ 1000000)) = false := by simp; omega
    refine enter1 func85 rfl ntmps85 rfl fun a S => wp_seq_k fun _ hK1 => wp_region_lit (st_m (op_box S (.t rfl) rfl fun g1 a w S => run S (.ac rfl <| .z) fun a w S => st_nil (then_normal (hK1 _ _ (wp_seq_k fun _ hK1 => wp_block (wp_seq_k fun _ hK2 => wp_region_lit (run S (.fa underlying60 sizeOf9 0 rfl rfl rfl <| .ld gt9 0 rfl rfl rfl <| .xx (ys_call call127 (.cons (.t rfl) .nil) (fun hp w W => c127 _ _)) rfl <| .z) fun a w S => ?_)))))))
    rw [rw_k] at S
    refine run S (.nt rfl <| .mv rfl <| .gy rfl rfl (ys_fieldN (FieldT.mk underlying60 rfl sizeOf9 rfl) (.t rfl) (i' := 4) rfl) <| .gy rfl rfl (ys_ld ⟨isAgg9, sizeOf9⟩ (.t rfl) (k := 0) rfl rfl) <| .gx rfl rfl (ys_call call127 (.cons (.t rfl) .nil) (fun hp w W => c127 _ _)) <| .z) fun a w S => ?_
    rw [rw_i] at S
    refine run S (.gy rfl rfl (ys_not (.t rfl)) <| .yy (ys_pickF (.t rfl) (.t rfl)) rfl <| .as rfl <| .z) fun a w S => st_nil (then_normal (hK2 _ _ (st_else S (.t rfl) (wp_seq_k fun _ hK2 => wp_region_lit (run S (.fa underlying60 sizeOf3 5 rfl rfl rfl <| .ld gt3 0 rfl rfl rfl <| .xx (ys_call call128 (.cons (.t rfl) (.cons Ev.c .nil)) (fun hp w W => c128 _ _ _)) rfl <| .z) fun a w S => ?_)))))
    rw [rw_q] at S
    refine run S (.nt rfl <| .as rfl <| .z) fun a w S => st_nil (then_normal (hK2 _ _ (st_then S (.t rfl) (sg S (.ac rfl <| .z) fun a w S => wp_ret (in_ret (then_ret (st_ret S (results1 S results85 (Rv.tmp rfl)) ?_)))))))
    exact ⟨by rw [if_pos hq], S.wd.below⟩
  have rw_q : (decide (0 ≤ u.qty) && decide (u.qty ≤ 1000000)) = true := by simp; omega
  rw [if_neg hq]
  cases rw_p : priceB u.price with
  | false =>
    refine enter1 func85 rfl ntmps85 rfl fun a S => wp_seq_k fun _ hK1 => wp_region_lit (st_m (op_box S (.t rfl) rfl fun g1 a w S => run S (.ac rfl <| .z) fun a w S => st_nil (then_normal (hK1 _ _ (wp_seq_k fun _ hK1 => wp_block (wp_seq_k fun _ hK2 => wp_region_lit (run S (.fa underlying60 sizeOf9 0 rfl rfl rfl <| .ld gt9 0 rfl rfl rfl <| .xx (ys_call call127 (.cons (.t rfl) .nil) (fun hp w W => c127 _ _)) rfl <| .z) fun a w S => ?_)))))))
    rw [rw_k] at S
    refine run S (.nt rfl <| .mv rfl <| .gy rfl rfl (ys_fieldN (FieldT.mk underlying60 rfl sizeOf9 rfl) (.t rfl) (i' := 4) rfl) <| .gy rfl rfl (ys_ld ⟨isAgg9, sizeOf9⟩ (.t rfl) (k := 0) rfl rfl) <| .gx rfl rfl (ys_call call127 (.cons (.t rfl) .nil) (fun hp w W => c127 _ _)) <| .z) fun a w S => ?_
    rw [rw_i] at S
    refine run S (.gy rfl rfl (ys_not (.t rfl)) <| .yy (ys_pickF (.t rfl) (.t rfl)) rfl <| .as rfl <| .z) fun a w S => st_nil (then_normal (hK2 _ _ (st_else S (.t rfl) (wp_seq_k fun _ hK2 => wp_region_lit (run S (.fa underlying60 sizeOf3 5 rfl rfl rfl <| .ld gt3 0 rfl rfl rfl <| .xx (ys_call call128 (.cons (.t rfl) (.cons Ev.c .nil)) (fun hp w W => c128 _ _ _)) rfl <| .z) fun a w S => ?_)))))
    rw [rw_q] at S
    refine run S (.nt rfl <| .as rfl <| .z) fun a w S => st_nil (then_normal (hK2 _ _ (st_else S (.t rfl) (wp_seq_k fun _ hK2 => wp_region_lit (run S (.fa underlying60 sizeOf27 6 rfl rfl rfl <| .ld gt27 0 rfl rfl rfl <| .xx (ys_call call129 (.cons (.t rfl) .nil) (fun hp w W => c129 _ _)) rfl <| .z) fun a w S => ?_)))))
    rw [rw_p] at S
    refine run S (.nt rfl <| .mv rfl <| .sk rfl rfl rfl <| .sk rfl rfl rfl <| .sk rfl rfl rfl <| .sk rfl rfl rfl <| .s0 rfl rfl <| .s0 rfl rfl <| .s0 rfl rfl <| .sk rfl rfl rfl <| .yy (ys_pickT (.t rfl) Ev.c) rfl <| .as rfl <| .z) fun a w S => st_nil (then_normal (hK2 _ _ (st_then S (.t rfl) (sg S (.ac rfl <| .z) fun a w S => wp_ret (in_ret (then_ret (st_ret S (results1 S results85 (Rv.tmp rfl)) ?_)))))))
    exact ⟨by rw [if_pos (.inl rfl)], S.wd.below⟩
  | true =>
  by_cases hz : u.qty = 0 ∧ u.price.toNat ≠ 0
  · have rw_z : (decide (u.qty = 0) && decide ((u.price.toNat : Int) ≠ 0)) = true := by simp; omega
    refine enter1 func85 rfl ntmps85 rfl fun a S => wp_seq_k fun _ hK1 => wp_region_lit (st_m (op_box S (.t rfl) rfl fun g1 a w S => run S (.ac rfl <| .z) fun a w S => st_nil (then_normal (hK1 _ _ (wp_seq_k fun _ hK1 => wp_block (wp_seq_k fun _ hK2 => wp_region_lit (run S (.fa underlying60 sizeOf9 0 rfl rfl rfl <| .ld gt9 0 rfl rfl rfl <| .xx (ys_call call127 (.cons (.t rfl) .nil) (fun hp w W => c127 _ _)) rfl <| .z) fun a w S => ?_)))))))
    rw [rw_k] at S
    refine run S (.nt rfl <| .mv rfl <| .gy rfl rfl (ys_fieldN (FieldT.mk underlying60 rfl sizeOf9 rfl) (.t rfl) (i' := 4) rfl) <| .gy rfl rfl (ys_ld ⟨isAgg9, sizeOf9⟩ (.t rfl) (k := 0) rfl rfl) <| .gx rfl rfl (ys_call call127 (.cons (.t rfl) .nil) (fun hp w W => c127 _ _)) <| .z) fun a w S => ?_
    rw [rw_i] at S
    refine run S (.gy rfl rfl (ys_not (.t rfl)) <| .yy (ys_pickF (.t rfl) (.t rfl)) rfl <| .as rfl <| .z) fun a w S => st_nil (then_normal (hK2 _ _ (st_else S (.t rfl) (wp_seq_k fun _ hK2 => wp_region_lit (run S (.fa underlying60 sizeOf3 5 rfl rfl rfl <| .ld gt3 0 rfl rfl rfl <| .xx (ys_call call128 (.cons (.t rfl) (.cons Ev.c .nil)) (fun hp w W => c128 _ _ _)) rfl <| .z) fun a w S => ?_)))))
    rw [rw_q] at S
    refine run S (.nt rfl <| .as rfl <| .z) fun a w S => st_nil (then_normal (hK2 _ _ (st_else S (.t rfl) (wp_seq_k fun _ hK2 => wp_region_lit (run S (.fa underlying60 sizeOf27 6 rfl rfl rfl <| .ld gt27 0 rfl rfl rfl <| .xx (ys_call call129 (.cons (.t rfl) .nil) (fun hp w W => c129 _ _)) rfl <| .z) fun a w S => ?_)))))
    rw [rw_p] at S
    refine run S (.nt rfl <| .mv rfl <| .gy rfl rfl (ys_fieldN (FieldT.mk underlying60 rfl sizeOf3 rfl) (.t rfl) (i' := 5) rfl) <| .gy rfl rfl (ys_ld ⟨isAgg3, sizeOf3⟩ (.t rfl) (k := 0) rfl rfl) <| .gy rfl rfl (ys_T (by omega) (ys_eql (.t rfl) Ev.c)) <| .gy rfl rfl (ys_move (.t rfl)) <| .gy rfl rfl (ys_fieldN (FieldT.mk underlying60 rfl sizeOf27 rfl) (.t rfl) (i' := 6) rfl) <| .gy rfl rfl (ys_ld ⟨isAgg27, sizeOf27⟩ (.t rfl) (k := 0) rfl rfl) <| .gy rfl rfl (ys_T (by omega) (ys_neq (.t rfl) Ev.c)) <| .gy rfl rfl (ys_pickT (.t rfl) (.t rfl)) <| .yy (ys_pickF (.t rfl) (.t rfl)) rfl <| .as rfl <| .z) fun a w S => st_nil (then_normal (hK2 _ _ (st_then S (.t rfl) (sg S (.ac rfl <| .z) fun a w S => wp_ret (in_ret (then_ret (st_ret S (results1 S results85 (Rv.tmp rfl)) ?_)))))))
    exact ⟨by rw [if_pos (.inr hz)], S.wd.below⟩
  have rw_z : (decide (u.qty = 0) && decide ((u.price.toNat : Int) ≠ 0)) = false := by
    by_cases h0 : u.qty = 0
    · have : u.price.toNat = 0 := Decidable.byContradiction fun h => hz ⟨h0, h⟩
      simp [this]
    · simp [h0]
  rw [if_neg (by rintro (h | h); cases h; exact hz h)]
  by_cases he : canE u.seen = 0
  rotate_left
  · refine enter1 func85 rfl ntmps85 rfl fun a S => wp_seq_k fun _ hK1 => wp_region_lit (st_m (op_box S (.t rfl) rfl fun g1 a w S => run S (.ac rfl <| .z) fun a w S => st_nil (then_normal (hK1 _ _ (wp_seq_k fun _ hK1 => wp_block (wp_seq_k fun _ hK2 => wp_region_lit (run S (.fa underlying60 sizeOf9 0 rfl rfl rfl <| .ld gt9 0 rfl rfl rfl <| .xx (ys_call call127 (.cons (.t rfl) .nil) (fun hp w W => c127 _ _)) rfl <| .z) fun a w S => ?_)))))))
    rw [rw_k] at S
    refine run S (.nt rfl <| .mv rfl <| .gy rfl rfl (ys_fieldN (FieldT.mk underlying60 rfl sizeOf9 rfl) (.t rfl) (i' := 4) rfl) <| .gy rfl rfl (ys_ld ⟨isAgg9, sizeOf9⟩ (.t rfl) (k := 0) rfl rfl) <| .gx rfl rfl (ys_call call127 (.cons (.t rfl) .nil) (fun hp w W => c127 _ _)) <| .z) fun a w S => ?_
    rw [rw_i] at S
    refine run S (.gy rfl rfl (ys_not (.t rfl)) <| .yy (ys_pickF (.t rfl) (.t rfl)) rfl <| .as rfl <| .z) fun a w S => st_nil (then_normal (hK2 _ _ (st_else S (.t rfl) (wp_seq_k fun _ hK2 => wp_region_lit (run S (.fa underlying60 sizeOf3 5 rfl rfl rfl <| .ld gt3 0 rfl rfl rfl <| .xx (ys_call call128 (.cons (.t rfl) (.cons Ev.c .nil)) (fun hp w W => c128 _ _ _)) rfl <| .z) fun a w S => ?_)))))
    rw [rw_q] at S
    refine run S (.nt rfl <| .as rfl <| .z) fun a w S => st_nil (then_normal (hK2 _ _ (st_else S (.t rfl) (wp_seq_k fun _ hK2 => wp_region_lit (run S (.fa underlying60 sizeOf27 6 rfl rfl rfl <| .ld gt27 0 rfl rfl rfl <| .xx (ys_call call129 (.cons (.t rfl) .nil) (fun hp w W => c129 _ _)) rfl <| .z) fun a w S => ?_)))))
    rw [rw_p] at S
    refine run S (.nt rfl <| .mv rfl <| .gy rfl rfl (ys_fieldN (FieldT.mk underlying60 rfl sizeOf3 rfl) (.t rfl) (i' := 5) rfl) <| .gy rfl rfl (ys_ld ⟨isAgg3, sizeOf3⟩ (.t rfl) (k := 0) rfl rfl) <| .gy rfl rfl (ys_eql (.t rfl) Ev.c) <| .gy rfl rfl (ys_move (.t rfl)) <| .z) fun a w S => st_yg S rfl rfl (Yr.ys (ys_fieldN (FieldT.mk underlying60 rfl sizeOf27 rfl) (.t rfl) (i' := 6) rfl)) rfl fun a w S => st_yg S rfl rfl (Yr.ys (ys_ld ⟨isAgg27, sizeOf27⟩ (Ev.g rfl) (k := 0) rfl rfl)) rfl fun a w S => st_yg S rfl rfl (Yr.ys (ys_neq (Ev.g rfl) Ev.c)) rfl fun a w S => run S (.gy rfl rfl (ys_and2 (.t rfl) (Ev.g rfl) Ev.c) <| .z) fun a w S => ?_
    rw [rw_z] at S
    refine run S (.yy (ys_pickF (.t rfl) (.t rfl)) rfl <| .as rfl <| .z) fun a w S => st_nil (then_normal (hK2 _ _ (st_else S (.t rfl) (wp_skip (in_normal (then_normal (hK1 _ _ (wp_seq_k fun _ hK1 => sg S (.fa underlying60 sizeOf39 7 rfl rfl rfl <| .la gt39 0 rfl rfl rfl <| .xx (ys_call call66 (.cons (.t rfl) .nil) (fun hp w W => c66 _ _ _ _ _ (by exact .old W (by assumption)) (by exact .old W (by assumption)))) rfl <| .as rfl <| .z) fun a w S => sg S (.mv rfl <| .yy (ys_T (by omega) (ys_neq (.t rfl) Ev.c)) rfl <| .z) fun a w S => st_then S (.t rfl) (sg S (.mv rfl <| .as rfl <| .z) fun a w S => wp_ret (then_ret (st_ret S (results1 S results85 (Rv.tmp rfl)) ?_)))))))))))
    exact ⟨by rw [if_neg he], S.wd.below⟩
  have rw_e := he
  rw [if_pos he]
  have rw_cov := can_covers (can_ctx he)
  cases hd : mayD u.dot with
  | false =>
    have rw_d : mayD ⟨u.dot.node, u.dot.life, u.dot.count⟩ = false := hd
    refine enter1 func85 rfl ntmps85 rfl fun a S => wp_seq_k fun _ hK1 => wp_region_lit (st_m (op_box S (.t rfl) rfl fun g1 a w S => run S (.ac rfl <| .z) fun a w S => st_nil (then_normal (hK1 _ _ (wp_seq_k fun _ hK1 => wp_block (wp_seq_k fun _ hK2 => wp_region_lit (run S (.fa underlying60 sizeOf9 0 rfl rfl rfl <| .ld gt9 0 rfl rfl rfl <| .xx (ys_call call127 (.cons (.t rfl) .nil) (fun hp w W => c127 _ _)) rfl <| .z) fun a w S => ?_)))))))
    rw [rw_k] at S
    refine run S (.nt rfl <| .mv rfl <| .gy rfl rfl (ys_fieldN (FieldT.mk underlying60 rfl sizeOf9 rfl) (.t rfl) (i' := 4) rfl) <| .gy rfl rfl (ys_ld ⟨isAgg9, sizeOf9⟩ (.t rfl) (k := 0) rfl rfl) <| .gx rfl rfl (ys_call call127 (.cons (.t rfl) .nil) (fun hp w W => c127 _ _)) <| .z) fun a w S => ?_
    rw [rw_i] at S
    refine run S (.gy rfl rfl (ys_not (.t rfl)) <| .yy (ys_pickF (.t rfl) (.t rfl)) rfl <| .as rfl <| .z) fun a w S => st_nil (then_normal (hK2 _ _ (st_else S (.t rfl) (wp_seq_k fun _ hK2 => wp_region_lit (run S (.fa underlying60 sizeOf3 5 rfl rfl rfl <| .ld gt3 0 rfl rfl rfl <| .xx (ys_call call128 (.cons (.t rfl) (.cons Ev.c .nil)) (fun hp w W => c128 _ _ _)) rfl <| .z) fun a w S => ?_)))))
    rw [rw_q] at S
    refine run S (.nt rfl <| .as rfl <| .z) fun a w S => st_nil (then_normal (hK2 _ _ (st_else S (.t rfl) (wp_seq_k fun _ hK2 => wp_region_lit (run S (.fa underlying60 sizeOf27 6 rfl rfl rfl <| .ld gt27 0 rfl rfl rfl <| .xx (ys_call call129 (.cons (.t rfl) .nil) (fun hp w W => c129 _ _)) rfl <| .z) fun a w S => ?_)))))
    rw [rw_p] at S
    refine run S (.nt rfl <| .mv rfl <| .gy rfl rfl (ys_fieldN (FieldT.mk underlying60 rfl sizeOf3 rfl) (.t rfl) (i' := 5) rfl) <| .gy rfl rfl (ys_ld ⟨isAgg3, sizeOf3⟩ (.t rfl) (k := 0) rfl rfl) <| .gy rfl rfl (ys_eql (.t rfl) Ev.c) <| .gy rfl rfl (ys_move (.t rfl)) <| .z) fun a w S => st_yg S rfl rfl (Yr.ys (ys_fieldN (FieldT.mk underlying60 rfl sizeOf27 rfl) (.t rfl) (i' := 6) rfl)) rfl fun a w S => st_yg S rfl rfl (Yr.ys (ys_ld ⟨isAgg27, sizeOf27⟩ (Ev.g rfl) (k := 0) rfl rfl)) rfl fun a w S => st_yg S rfl rfl (Yr.ys (ys_neq (Ev.g rfl) Ev.c)) rfl fun a w S => run S (.gy rfl rfl (ys_and2 (.t rfl) (Ev.g rfl) Ev.c) <| .z) fun a w S => ?_
    rw [rw_z] at S
    refine run S (.yy (ys_pickF (.t rfl) (.t rfl)) rfl <| .as rfl <| .z) fun a w S => st_nil (then_normal (hK2 _ _ (st_else S (.t rfl) (wp_skip (in_normal (then_normal (hK1 _ _ (wp_seq_k fun _ hK1 => wp_seq_k fun _ hK2 => wp_region_lit (run S (.fa underlying60 sizeOf39 7 rfl rfl rfl <| .la gt39 0 rfl rfl rfl <| .xx (ys_call call66 (.cons (.t rfl) .nil) (fun hp w W => c66 _ _ _ _ _ (by exact .old W (by assumption)) (by exact .old W (by assumption)))) rfl <| .z) fun a w S => ?_)))))))))
    rw [rw_e] at S
    refine run S (.as rfl <| .z) fun a w S => st_nil (then_normal (hK2 _ _ (sg S (.mv rfl <| .yy (ys_F (by omega) (ys_neq (.t rfl) Ev.c)) rfl <| .z) fun a w S => st_else S (.t rfl) (wp_skip (then_normal (hK1 _ _ (wp_seq_k fun _ hK1 => wp_seq_k fun _ hK2 => wp_region_lit (run S (.fa underlying60 sizeOf58 1 rfl rfl rfl <| .la gt58 0 rfl rfl rfl <| .xx (ys_call call149 (.cons (.t rfl) .nil) (fun hp w W => c149 _ _ _ _)) rfl <| .z) fun a w S => ?_))))))))
    rw [rw_d] at S
    refine run S (.nt rfl <| .mv rfl <| .sk rfl rfl rfl <| .sk rfl rfl rfl <| .sk rfl rfl rfl <| .sk rfl rfl rfl <| .sk rfl rfl rfl <| .sk rfl rfl rfl <| .yy (ys_pickT (.t rfl) Ev.c) rfl <| .z) fun a w S => st_nil (then_normal (hK2 _ _ (st_then S (.t rfl) (sg S (.ac rfl <| .z) fun a w S => wp_ret (then_ret (st_ret S (results1 S results85 (Rv.tmp rfl)) ?_))))))
    exact ⟨by rw [if_pos (.inl rfl)], S.wd.below⟩
  | true =>
    have rw_d : mayD ⟨u.dot.node, u.dot.life, u.dot.count⟩ = true := hd
    cases hc : u.seen.ctx.covers u.dot with
    | true =>
      have rw_c : u.seen.ctx.covers ⟨u.dot.node, u.dot.life, u.dot.count⟩ = true := hc
      refine enter1 func85 rfl ntmps85 rfl fun a S => wp_seq_k fun _ hK1 => wp_region_lit (st_m (op_box S (.t rfl) rfl fun g1 a w S => run S (.ac rfl <| .z) fun a w S => st_nil (then_normal (hK1 _ _ (wp_seq_k fun _ hK1 => wp_block (wp_seq_k fun _ hK2 => wp_region_lit (run S (.fa underlying60 sizeOf9 0 rfl rfl rfl <| .ld gt9 0 rfl rfl rfl <| .xx (ys_call call127 (.cons (.t rfl) .nil) (fun hp w W => c127 _ _)) rfl <| .z) fun a w S => ?_)))))))
      rw [rw_k] at S
      refine run S (.nt rfl <| .mv rfl <| .gy rfl rfl (ys_fieldN (FieldT.mk underlying60 rfl sizeOf9 rfl) (.t rfl) (i' := 4) rfl) <| .gy rfl rfl (ys_ld ⟨isAgg9, sizeOf9⟩ (.t rfl) (k := 0) rfl rfl) <| .gx rfl rfl (ys_call call127 (.cons (.t rfl) .nil) (fun hp w W => c127 _ _)) <| .z) fun a w S => ?_
      rw [rw_i] at S
      refine run S (.gy rfl rfl (ys_not (.t rfl)) <| .yy (ys_pickF (.t rfl) (.t rfl)) rfl <| .as rfl <| .z) fun a w S => st_nil (then_normal (hK2 _ _ (st_else S (.t rfl) (wp_seq_k fun _ hK2 => wp_region_lit (run S (.fa underlying60 sizeOf3 5 rfl rfl rfl <| .ld gt3 0 rfl rfl rfl <| .xx (ys_call call128 (.cons (.t rfl) (.cons Ev.c .nil)) (fun hp w W => c128 _ _ _)) rfl <| .z) fun a w S => ?_)))))
      rw [rw_q] at S
      refine run S (.nt rfl <| .as rfl <| .z) fun a w S => st_nil (then_normal (hK2 _ _ (st_else S (.t rfl) (wp_seq_k fun _ hK2 => wp_region_lit (run S (.fa underlying60 sizeOf27 6 rfl rfl rfl <| .ld gt27 0 rfl rfl rfl <| .xx (ys_call call129 (.cons (.t rfl) .nil) (fun hp w W => c129 _ _)) rfl <| .z) fun a w S => ?_)))))
      rw [rw_p] at S
      refine run S (.nt rfl <| .mv rfl <| .gy rfl rfl (ys_fieldN (FieldT.mk underlying60 rfl sizeOf3 rfl) (.t rfl) (i' := 5) rfl) <| .gy rfl rfl (ys_ld ⟨isAgg3, sizeOf3⟩ (.t rfl) (k := 0) rfl rfl) <| .gy rfl rfl (ys_eql (.t rfl) Ev.c) <| .gy rfl rfl (ys_move (.t rfl)) <| .z) fun a w S => st_yg S rfl rfl (Yr.ys (ys_fieldN (FieldT.mk underlying60 rfl sizeOf27 rfl) (.t rfl) (i' := 6) rfl)) rfl fun a w S => st_yg S rfl rfl (Yr.ys (ys_ld ⟨isAgg27, sizeOf27⟩ (Ev.g rfl) (k := 0) rfl rfl)) rfl fun a w S => st_yg S rfl rfl (Yr.ys (ys_neq (Ev.g rfl) Ev.c)) rfl fun a w S => run S (.gy rfl rfl (ys_and2 (.t rfl) (Ev.g rfl) Ev.c) <| .z) fun a w S => ?_
      rw [rw_z] at S
      refine run S (.yy (ys_pickF (.t rfl) (.t rfl)) rfl <| .as rfl <| .z) fun a w S => st_nil (then_normal (hK2 _ _ (st_else S (.t rfl) (wp_skip (in_normal (then_normal (hK1 _ _ (wp_seq_k fun _ hK1 => wp_seq_k fun _ hK2 => wp_region_lit (run S (.fa underlying60 sizeOf39 7 rfl rfl rfl <| .la gt39 0 rfl rfl rfl <| .xx (ys_call call66 (.cons (.t rfl) .nil) (fun hp w W => c66 _ _ _ _ _ (by exact .old W (by assumption)) (by exact .old W (by assumption)))) rfl <| .z) fun a w S => ?_)))))))))
      rw [rw_e] at S
      refine run S (.as rfl <| .z) fun a w S => st_nil (then_normal (hK2 _ _ (sg S (.mv rfl <| .yy (ys_F (by omega) (ys_neq (.t rfl) Ev.c)) rfl <| .z) fun a w S => st_else S (.t rfl) (wp_skip (then_normal (hK1 _ _ (wp_seq_k fun _ hK1 => wp_seq_k fun _ hK2 => wp_region_lit (run S (.fa underlying60 sizeOf58 1 rfl rfl rfl <| .la gt58 0 rfl rfl rfl <| .xx (ys_call call149 (.cons (.t rfl) .nil) (fun hp w W => c149 _ _ _ _)) rfl <| .z) fun a w S => ?_))))))))
      rw [rw_d] at S
      refine run S (.nt rfl <| .mv rfl <| .gy rfl rfl (ys_fieldN (FieldT.mk underlying60 rfl sizeOf39 rfl) (.t rfl) (i' := 7) rfl) <| .gy rfl rfl (ys_fieldN (FieldT.mk underlying39 rfl sizeOf37 rfl) (.t rfl) (i' := 8) rfl) <| .gy rfl rfl (ys_ldA ⟨isAgg37, sizeOf37⟩ (.t rfl) (k := 0) rfl rfl) <| .gy rfl rfl (ys_fieldN (FieldT.mk underlying60 rfl sizeOf58 rfl) (.t rfl) (i' := 1) rfl) <| .gy rfl rfl (ys_ldA ⟨isAgg58, sizeOf58⟩ (.t rfl) (k := 0) rfl rfl) <| .gx rfl rfl (ys_call call37 (.cons (.t rfl) (.cons (.t rfl) .nil)) (fun hp w W => c37 _ _ _ _ _ _ _ (by exact .old W (by assumption)))) <| .z) fun a w S => ?_
      rw [rw_cov] at S
      rw [rw_c] at S
      refine run S (.yy (ys_pickF (.t rfl) (.t rfl)) rfl <| .z) fun a w S => st_nil (then_normal (hK2 _ _ (st_then S (.t rfl) (sg S (.ac rfl <| .z) fun a w S => wp_ret (then_ret (st_ret S (results1 S results85 (Rv.tmp rfl)) ?_))))))
      exact ⟨by rw [if_pos (.inr rfl)], S.wd.below⟩
    | false =>
      have rw_c : u.seen.ctx.covers ⟨u.dot.node, u.dot.life, u.dot.count⟩ = false := hc
      refine enter1 func85 rfl ntmps85 rfl fun a S => wp_seq_k fun _ hK1 => wp_region_lit (st_m (op_box S (.t rfl) rfl fun g1 a w S => run S (.ac rfl <| .z) fun a w S => st_nil (then_normal (hK1 _ _ (wp_seq_k fun _ hK1 => wp_block (wp_seq_k fun _ hK2 => wp_region_lit (run S (.fa underlying60 sizeOf9 0 rfl rfl rfl <| .ld gt9 0 rfl rfl rfl <| .xx (ys_call call127 (.cons (.t rfl) .nil) (fun hp w W => c127 _ _)) rfl <| .z) fun a w S => ?_)))))))
      rw [rw_k] at S
      refine run S (.nt rfl <| .mv rfl <| .gy rfl rfl (ys_fieldN (FieldT.mk underlying60 rfl sizeOf9 rfl) (.t rfl) (i' := 4) rfl) <| .gy rfl rfl (ys_ld ⟨isAgg9, sizeOf9⟩ (.t rfl) (k := 0) rfl rfl) <| .gx rfl rfl (ys_call call127 (.cons (.t rfl) .nil) (fun hp w W => c127 _ _)) <| .z) fun a w S => ?_
      rw [rw_i] at S
      refine run S (.gy rfl rfl (ys_not (.t rfl)) <| .yy (ys_pickF (.t rfl) (.t rfl)) rfl <| .as rfl <| .z) fun a w S => st_nil (then_normal (hK2 _ _ (st_else S (.t rfl) (wp_seq_k fun _ hK2 => wp_region_lit (run S (.fa underlying60 sizeOf3 5 rfl rfl rfl <| .ld gt3 0 rfl rfl rfl <| .xx (ys_call call128 (.cons (.t rfl) (.cons Ev.c .nil)) (fun hp w W => c128 _ _ _)) rfl <| .z) fun a w S => ?_)))))
      rw [rw_q] at S
      refine run S (.nt rfl <| .as rfl <| .z) fun a w S => st_nil (then_normal (hK2 _ _ (st_else S (.t rfl) (wp_seq_k fun _ hK2 => wp_region_lit (run S (.fa underlying60 sizeOf27 6 rfl rfl rfl <| .ld gt27 0 rfl rfl rfl <| .xx (ys_call call129 (.cons (.t rfl) .nil) (fun hp w W => c129 _ _)) rfl <| .z) fun a w S => ?_)))))
      rw [rw_p] at S
      refine run S (.nt rfl <| .mv rfl <| .gy rfl rfl (ys_fieldN (FieldT.mk underlying60 rfl sizeOf3 rfl) (.t rfl) (i' := 5) rfl) <| .gy rfl rfl (ys_ld ⟨isAgg3, sizeOf3⟩ (.t rfl) (k := 0) rfl rfl) <| .gy rfl rfl (ys_eql (.t rfl) Ev.c) <| .gy rfl rfl (ys_move (.t rfl)) <| .z) fun a w S => st_yg S rfl rfl (Yr.ys (ys_fieldN (FieldT.mk underlying60 rfl sizeOf27 rfl) (.t rfl) (i' := 6) rfl)) rfl fun a w S => st_yg S rfl rfl (Yr.ys (ys_ld ⟨isAgg27, sizeOf27⟩ (Ev.g rfl) (k := 0) rfl rfl)) rfl fun a w S => st_yg S rfl rfl (Yr.ys (ys_neq (Ev.g rfl) Ev.c)) rfl fun a w S => run S (.gy rfl rfl (ys_and2 (.t rfl) (Ev.g rfl) Ev.c) <| .z) fun a w S => ?_
      rw [rw_z] at S
      refine run S (.yy (ys_pickF (.t rfl) (.t rfl)) rfl <| .as rfl <| .z) fun a w S => st_nil (then_normal (hK2 _ _ (st_else S (.t rfl) (wp_skip (in_normal (then_normal (hK1 _ _ (wp_seq_k fun _ hK1 => wp_seq_k fun _ hK2 => wp_region_lit (run S (.fa underlying60 sizeOf39 7 rfl rfl rfl <| .la gt39 0 rfl rfl rfl <| .xx (ys_call call66 (.cons (.t rfl) .nil) (fun hp w W => c66 _ _ _ _ _ (by exact .old W (by assumption)) (by exact .old W (by assumption)))) rfl <| .z) fun a w S => ?_)))))))))
      rw [rw_e] at S
      refine run S (.as rfl <| .z) fun a w S => st_nil (then_normal (hK2 _ _ (sg S (.mv rfl <| .yy (ys_F (by omega) (ys_neq (.t rfl) Ev.c)) rfl <| .z) fun a w S => st_else S (.t rfl) (wp_skip (then_normal (hK1 _ _ (wp_seq_k fun _ hK1 => wp_seq_k fun _ hK2 => wp_region_lit (run S (.fa underlying60 sizeOf58 1 rfl rfl rfl <| .la gt58 0 rfl rfl rfl <| .xx (ys_call call149 (.cons (.t rfl) .nil) (fun hp w W => c149 _ _ _ _)) rfl <| .z) fun a w S => ?_))))))))
      rw [rw_d] at S
      refine run S (.nt rfl <| .mv rfl <| .gy rfl rfl (ys_fieldN (FieldT.mk underlying60 rfl sizeOf39 rfl) (.t rfl) (i' := 7) rfl) <| .gy rfl rfl (ys_fieldN (FieldT.mk underlying39 rfl sizeOf37 rfl) (.t rfl) (i' := 8) rfl) <| .gy rfl rfl (ys_ldA ⟨isAgg37, sizeOf37⟩ (.t rfl) (k := 0) rfl rfl) <| .gy rfl rfl (ys_fieldN (FieldT.mk underlying60 rfl sizeOf58 rfl) (.t rfl) (i' := 1) rfl) <| .gy rfl rfl (ys_ldA ⟨isAgg58, sizeOf58⟩ (.t rfl) (k := 0) rfl rfl) <| .gx rfl rfl (ys_call call37 (.cons (.t rfl) (.cons (.t rfl) .nil)) (fun hp w W => c37 _ _ _ _ _ _ _ (by exact .old W (by assumption)))) <| .z) fun a w S => ?_
      rw [rw_cov] at S
      rw [rw_c] at S
      refine run S (.yy (ys_pickF (.t rfl) (.t rfl)) rfl <| .z) fun a w S => st_nil (then_normal (hK2 _ _ (st_else S (.t rfl) (wp_skip (then_normal (hK1 _ _ (sg S (.ac rfl <| .z) fun a w S => wp_ret (st_ret S (results1 S results85 (Rv.tmp rfl)) ?_))))))))
      exact ⟨by rw [if_neg (by simp)], S.wd.below⟩
end Go.Proofs.YtfblmkocmnbdcaaGreat
set_option linter.unusedVariables false
set_option linter.unusedSimpArgs false
set_option maxRecDepth 100000
namespace Go.Proofs.YtfblmkocmnbdcaaGreat
open Go.Fw Go.Proofs Go.RowKit Go.ChangeShapes Go.WideShapes Go.ChangeAt Go.Deep Go.Joins Go.Proofs.Tryz
section
variable {H : Type} {enc : TypeId × Value → H} {w : World}
theorem Rdr.dot {t : TypeId} {i1 i2 i3 : TypeId} {k : IntKind} {f1 f2 f3 : Field} (ht : Tryz.prog.underlying t = some (.struct #[f1, f2, f3])) (ho : offs Tryz.prog [f1, f2, f3] 0 (Tryz.prog.cellsOf t) = true) (h1 : Tryz.prog.underlying f1.type = some (.int .i64)) (h2 : Tryz.prog.underlying f2.type = some (.int .i64)) (h3 : Tryz.prog.underlying f3.type = some (.int .i64)) :
    Rdr enc Tryz.prog w t fun cs _ => ∃ d : Dot, cs = Dot.enc d ∧ True := by
  refine (Rdr.struct ht ho (.cons (Rdr.int h1) (.cons (Rdr.int h2) (.cons (Rdr.int h3) .nil)))).mono ?_
  rintro cs b ⟨_, _, rfl, ⟨_, _, x, rfl, _⟩, _, _, rfl, ⟨_, _, y, rfl, _⟩, _, _, rfl, ⟨_, _, z, rfl, _⟩, rfl⟩
  exact ⟨⟨x, y, z⟩, rfl, trivial⟩
theorem u64_wf {n : Int} (h : (Lit.int .u64 n).wf = true) : ∃ p : UInt64, n = (p.toNat : Int) := by
  simp only [Lit.wf, IntKind.min, IntKind.max, IntKind.signed, IntKind.bits, Bool.and_eq_true, decide_eq_true_eq, Bool.false_eq_true, if_false] at h
  have h2 : n.toNat < 18446744073709551616 := by omega
  refine ⟨UInt64.ofNat n.toNat, ?_⟩
  rw [UInt64.toNat_ofNat', Nat.mod_eq_of_lt h2]
  omega
end
end Go.Proofs.YtfblmkocmnbdcaaGreat
set_option linter.unusedVariables false
set_option linter.unusedSimpArgs false
namespace Go.Fw
open Go.RowKit
def SlIn {α : Type} (enc : α → List Value) (size : Nat) (w1 : World) (bs : List Nat) (v : Value) (l : List α) : Prop :=
  ∃ A cap, v = .slice A l.length cap ∧ l.length ≤ cap ∧ cap ≤ 9223372036854775807 ∧ (0 < l.length → ∃ g o, A = some ⟨g, o, none⟩ ∧ g ∈ bs ∧ ∀ k x, l[k]? = some x → ∀ j u, (enc x)[j]? = some u → w1.cell? ⟨g, o + k * size + j, none⟩ = some u)
def Chunk.blocks : Chunk → List Nat
  | .blk b _ => [b]
  | .row _ _ A _ cap _ => if cap = 0 then [] else (A.map (·.block)).toList
  | .ice _ bs => bs
theorem Chunk.mem_blocks {c : Chunk} {b : Nat} : b ∈ c.blocks ↔ c.own b := by
  cases c with
  | blk b' o => simp [Chunk.blocks, Chunk.own]
  | row e size A n cap xs =>
    unfold Chunk.blocks Chunk.own
    by_cases h : cap = 0
    · simp [h]
    · simp [h]
  | ice w1 bs => rfl
section
variable {w0 w w1 : World} {L cs : List Chunk} {k e size : Nat} {bs bs' : List Nat}
theorem Wd.freeze (h : Wd w0 (cs ++ L) w) : Wd w0 (.ice w (cs.flatMap Chunk.blocks) :: L) w := by
  obtain ⟨h1, h2, h3⟩ := h
  rw [List.pairwise_append] at h3
  have key : ∀ b ∈ cs.flatMap Chunk.blocks, ∃ c ∈ cs, c.own b := fun b hb => by
    obtain ⟨c, hc, hb⟩ := List.mem_flatMap.1 hb
    exact ⟨c, hc, Chunk.mem_blocks.1 hb⟩
  refine ⟨h1, fun x hx => ?_, List.Pairwise.cons (fun x hx b hb hxb => ?_) h3.2.1⟩
  · rcases List.mem_cons.1 hx with rfl | hx
    · intro b hb
      obtain ⟨c, hc, hb⟩ := key b hb
      have := (h2 c (List.mem_append_left _ hc)).lt hb
      exact ⟨this.1, this.2, rfl⟩
    · exact h2 x (List.mem_append_right _ hx)
  · obtain ⟨c, hc, hb⟩ := key b hb
    exact h3.2.2 c hc x hx b hb hxb
variable {α : Type} {enc : α → List Value} {v : Value} {l : List α}
theorem ice_cell (W : Wd w0 L w) (hk : L[k]? = some (.ice w1 bs)) {g o : Nat} (hg : g ∈ bs) : w.cell? ⟨g, o, none⟩ = w1.cell? ⟨g, o, none⟩ := by
  have h := (W.get hk g hg).2.2
  simp only [World.cell?, h]
theorem SlIn.sl (h : SlIn enc size w1 bs v l) (W : Wd w0 L w) (hk : L[k]? = some (.ice w1 bs)) : Sl enc size w w.heap.size v l := by
  obtain ⟨A, cap, rfl, h1, h2, h3⟩ := h
  refine ⟨A, cap, rfl, h1, h2, fun hp => ?_⟩
  obtain ⟨g, o, rfl, hg, hc⟩ := h3 hp
  exact ⟨g, o, rfl, (W.get hk g hg).2.1, fun k x hx j u hu => (ice_cell W hk hg).trans (hc k x hx j u hu)⟩
theorem SlIn.anew (h : SlIn enc size w1 bs v l) (W : Wd w0 L w) (hk : L[k]? = some (.ice w1 bs)) (hb : ∀ b ∈ bs, b ∈ bs') : SlIn enc size w bs' v l := by
  obtain ⟨A, cap, rfl, h1, h2, h3⟩ := h
  refine ⟨A, cap, rfl, h1, h2, fun hp => ?_⟩
  obtain ⟨g, o, rfl, hg, hc⟩ := h3 hp
  exact ⟨g, o, rfl, hb g hg, fun k x hx j u hu => (ice_cell W hk hg).trans (hc k x hx j u hu)⟩
theorem SlIn.row {A : Option Addr} {cap : Nat} (W : Wd w0 L w) (hk : L[k]? = some (rowOf e size enc A cap l)) (he : ∀ x, (enc x).length = size) (hb : ∀ b ∈ Chunk.blocks (rowOf e size enc A cap l), b ∈ bs') : SlIn enc size w bs' (.slice A l.length cap) l := by
  obtain ⟨A', cap', hv, h1, h2, h3⟩ := Sl.of_own W hk he
  cases hv
  refine ⟨A, cap, rfl, h1, h2, fun hp => ?_⟩
  obtain ⟨g, o, rfl, hg, hc⟩ := h3 hp
  exact ⟨g, o, rfl, hb g (by simp [Chunk.blocks, rowOf, show cap ≠ 0 by omega]), hc⟩
theorem SlIn.nil_ {c : Nat} : SlIn enc size w1 bs (.slice none 0 0) [] := ⟨none, 0, rfl, by simp, by simp, fun h => by simp at h⟩
end
structure Sls3 where
  a1 : Option Addr
  n1 : Nat
  c1 : Nat
  a2 : Option Addr
  n2 : Nat
  c2 : Nat
  a3 : Option Addr
  n3 : Nat
  c3 : Nat
abbrev SCart := Cart × Sls3
abbrev SUpd := Upd × Sls3
abbrev SCart.enc (p : SCart) : List Value := [.slice p.2.a1 p.2.n1 p.2.c1, .slice p.2.a2 p.2.n2 p.2.c2, .slice p.2.a3 p.2.n3 p.2.c3]
theorem SCart.enc_len (p : SCart) : (SCart.enc p).length = 3 := rfl
theorem SCart.enc_one (p : SCart) : ∀ u ∈ SCart.enc p, u.oneCell' = true := fun u hu => by simp [SCart.enc] at hu; rcases hu with rfl | rfl | rfl <;> rfl
abbrev SUpd.enc (p : SUpd) : List Value := Upd.enc p.1 (.slice p.2.a1 p.2.n1 p.2.c1) (.slice p.2.a2 p.2.n2 p.2.c2) (.slice p.2.a3 p.2.n3 p.2.c3)
theorem SUpd.enc_len (p : SUpd) : (SUpd.enc p).length = 10 := rfl
theorem SUpd.enc_one (p : SUpd) : ∀ u ∈ SUpd.enc p, u.oneCell' = true := fun u hu => by simp [SUpd.enc, Upd.enc] at hu; rcases hu with rfl | rfl | rfl | rfl | rfl | rfl | rfl | rfl | rfl | rfl <;> rfl
structure CartIn (w1 : World) (bs : List Nat) (X : Cart) (s : Sls3) : Prop where
  ents : SlIn Ent.enc 6 w1 bs (.slice s.a1 s.n1 s.c1) X.ents
  marks : SlIn Dot.enc 3 w1 bs (.slice s.a2 s.n2 s.c2) X.ctx.marks
  cloud : SlIn Dot.enc 3 w1 bs (.slice s.a3 s.n3 s.c3) X.ctx.cloud
structure CartRd (w : World) (X : Cart) (s : Sls3) : Prop where
  ents : Sl Ent.enc 6 w w.heap.size (.slice s.a1 s.n1 s.c1) X.ents
  marks : Sl Dot.enc 3 w w.heap.size (.slice s.a2 s.n2 s.c2) X.ctx.marks
  cloud : Sl Dot.enc 3 w w.heap.size (.slice s.a3 s.n3 s.c3) X.ctx.cloud
section
variable {w0 w w1 : World} {L : List Chunk} {k : Nat} {bs bs' : List Nat} {X : Cart} {s : Sls3}
theorem CartIn.rd (h : CartIn w1 bs X s) (W : Wd w0 L w) (hk : L[k]? = some (.ice w1 bs)) : CartRd w X s := ⟨h.ents.sl W hk, h.marks.sl W hk, h.cloud.sl W hk⟩
theorem CartIn.anew (h : CartIn w1 bs X s) (W : Wd w0 L w) (hk : L[k]? = some (.ice w1 bs)) (hb : ∀ b ∈ bs, b ∈ bs') : CartIn w bs' X s := ⟨h.ents.anew W hk hb, h.marks.anew W hk hb, h.cloud.anew W hk hb⟩
theorem CartRd.ctx (h : CartRd w X s) : RdCtx w w.heap.size (.slice s.a2 s.n2 s.c2) (.slice s.a3 s.n3 s.c3) X.ctx := ⟨h.marks, h.cloud⟩
theorem carts_rd {l : List SCart} (h : ∀ p ∈ l, CartIn w1 bs p.1 p.2) (W : Wd w0 L w) (hk : L[k]? = some (.ice w1 bs)) : ∀ p ∈ l, CartRd w p.1 p.2 := fun p hp => (h p hp).rd W hk
end
end Go.Fw
set_option linter.unusedVariables false
set_option linter.unusedSimpArgs false
namespace Go.Fw
open Go.RowKit Go.Sort Go.Proofs
abbrev MEnt := {e : Ent // mayD e.dot = true}
instance : Inhabited MEnt := ⟨⟨⟨[], ⟨0, 1, 1⟩, 0, 0⟩, rfl⟩⟩
abbrev MEnt.enc (e : MEnt) : List Value := Ent.enc e.1
end Go.Fw
set_option linter.unusedVariables false
set_option linter.unusedSimpArgs false
namespace Go.Ft
open Go.RowKit
abbrev bs (l : List UInt8) : ByteArray := ⟨l.toArray⟩
section ops
variable {P : Program} {n : Nat} {w0 : World} {K : KL} {L : List Chunk} {b : Bool} {dst : Option Tmp} {ty : TypeId} {pos : String} {aft : Array Edge} {gd : Option (Nat × Bool)}
end ops
section
variable {P : Program} {n : Nat} {w0 : World} {K : KL} {L : List Chunk} {ty : TypeId} {pos : String} {aft : Array Edge} {gd : Option (Nat × Bool)} {a : Act} {w : World} {Z : Act → World → Prop} {Q : Exit → Act → World → Prop} {d : Nat}
end
section
variable {P : Program} {n : Nat} {w0 : World} {K : KL} {L : List Chunk} {ty : TypeId} {pos : String} {aft : Array Edge} {gd : Option (Nat × Bool)} {a : Act} {w : World} {Z : Act → World → Prop} {Q : Exit → Act → World → Prop} {d : Nat}
end
section
variable {P : Program} {n : Nat} {w0 : World} {K : KL} {L : List Chunk} {ty : TypeId} {pos : String} {aft : Array Edge} {gd : Option (Nat × Bool)} {a : Act} {w : World} {Z : Act → World → Prop} {Q : Exit → Act → World → Prop} {d : Nat}
end
section
variable {P : Program} {Q : Exit → Act → World → Prop} {J : Act → World → Prop} {l i : Nat} {a : Act} {w : World}
end
section ops
variable {P : Program} {n : Nat} {w0 : World} {K : KL} {L : List Chunk} {b : Bool} {dst : Option Tmp} {ty : TypeId} {pos : String} {aft : Array Edge} {gd : Option (Nat × Bool)}
end ops
end Go.Ft
set_option linter.unusedVariables false
set_option linter.unusedSimpArgs false
namespace Go.Ft
open Go.RowKit
section ops
variable {P : Program} {n : Nat} {w0 : World} {K : KL} {L : List Chunk} {b : Bool} {dst : Option Tmp} {ty : TypeId} {pos : String} {aft : Array Edge} {gd : Option (Nat × Bool)}
end ops
section
variable {n : Nat} {w0 : World} {K : KL} {L : List Chunk} {a : Act} {w : World} {c : Chunk}
end
theorem Wd.cell {w0 w : World} {L : List Chunk} (W : Wd w0 L w) {k g i : Nat} {cs : List Value} {e : TypeId} {fr : Nat × Nat} {v : Value} (hk : L[k]? = some (.blk g (.cells cs.toArray e fr))) (hc : nth cs i = some v) : w.cell? ⟨g, i, none⟩ = some v := by
  rw [cell_of_row w g i _ e fr (W.get hk).2]
  rw [nth_eq] at hc
  simpa using hc
section split
variable {P : Program} {Q : Exit → Act → World → Prop} {n : Nat} {w0 : World} {K : KL} {L Lr : List Chunk} {a : Act} {w : World} {ops : Array Oper} {fuel : Nat} {listed : Array Bool} {md : Region.Mode}
end split
section
variable {P : Program} {n : Nat} {w0 : World} {K : KL} {L : List Chunk} {ty : TypeId} {pos : String} {aft : Array Edge} {gd : Option (Nat × Bool)} {a : Act} {w : World} {Z : Act → World → Prop} {Q : Exit → Act → World → Prop} {d : Nat}
end
end Go.Ft
set_option linter.unusedVariables false
set_option linter.unusedSimpArgs false
namespace Go.Ft
open Go.RowKit
def ltM (a b : Dot) : Prop := a.node < b.node ∨ (a.node = b.node ∧ a.life < b.life)
def ltC (a b : Dot) : Prop := a.node < b.node ∨ (a.node = b.node ∧ (a.life < b.life ∨ (a.life = b.life ∧ a.count < b.count)))
theorem belowC_iff (a b : Dot) : belowD a b = true ↔ ltC a b := by
  simp only [belowD, ltC]
  split
  · simp; omega
  · split <;> simp <;> omega
structure Nf (C : Ctx) : Prop where
  marks : C.marks.Pairwise ltM
  cloud : C.cloud.Pairwise ltC
  mayM : ∀ x ∈ C.marks, mayD x = true
  mayC : ∀ x ∈ C.cloud, mayD x = true
  gap : ∀ x ∈ C.cloud, markOf C.marks x.node x.life + 1 < x.count
end Go.Ft
set_option linter.unusedVariables false
set_option linter.unusedSimpArgs false
namespace Go.Ft
open Go.RowKit
structure Ent where
  item : List UInt8
  dot : Dot
  qty : Int
  price : UInt64
deriving DecidableEq
abbrev Ent.enc (e : Ent) : List Value := [.string (bs e.item), .int .i64 e.dot.node, .int .i64 e.dot.life, .int .i64 e.dot.count, .int .i64 e.qty, .int .u64 (e.price.toNat : Int)]
structure Cart where
  ents : List Ent
  ctx : Ctx
deriving DecidableEq
abbrev Cart.zero : Cart := ⟨[], ⟨[], []⟩⟩
structure Line where
  item : List UInt8
  qty : Int
  price : UInt64
deriving DecidableEq
abbrev Line.enc (e : Line) : List Value := [.string (bs e.item), .int .i64 e.qty, .int .u64 (e.price.toNat : Int)]
def ltE (a b : Ent) : Prop := Op.bytesLess a.item b.item = true ∨ (a.item = b.item ∧ ltC a.dot b.dot)
instance (a b : Ent) : Decidable (ltE a b) := decidable_of_iff (Op.bytesLess a.item b.item = true ∨ (a.item = b.item ∧ belowD a.dot b.dot = true)) (by rw [belowC_iff]; rfl)
def clashE (a b : Cart) : Prop := ∃ x ∈ a.ents, ∃ y ∈ b.ents, x.dot = y.dot ∧ x ≠ y
instance (a b : Cart) : Decidable (clashE a b) := by unfold clashE; infer_instance
end Go.Ft
set_option linter.unusedVariables false
set_option linter.unusedSimpArgs false
set_option maxRecDepth 100000
set_option maxHeartbeats 4000000
namespace Go.Fw
theorem insE_none {e : Ent} : ∀ {l : List Ent}, (∀ y ∈ l, ¬ ltE e y) → insE e l = l ++ [e]
  | [], _ => rfl
  | x :: r, h => by
    rw [insE, if_neg (h x (by simp)), insE_none fun y hy => h y (by simp [hy])]
    rfl
theorem insE_put {e x : Ent} : ∀ {l : List Ent}, (∃ y ∈ l, ltE e y) → insE e (l ++ [x]) = insE e l ++ [x]
  | [], h => by obtain ⟨y, hy, _⟩ := h; simp at hy
  | z :: r, h => by
    rw [List.cons_append, insE, insE]
    by_cases hz : ltE e z
    · rw [if_pos hz, if_pos hz]; rfl
    · rw [if_neg hz, if_neg hz, insE_put (l := r)]
      · rfl
      · obtain ⟨y, hy, hy2⟩ := h
        rcases List.mem_cons.1 hy with rfl | hy
        · exact absurd hy2 hz
        · exact ⟨y, hy, hy2⟩
theorem insE_new {e x : Ent} : ∀ {l : List Ent}, (∀ y ∈ l, ¬ ltE e y) → ltE e x → insE e (l ++ [x]) = l ++ [e, x]
  | [], _, h => by simp [insE, h]
  | z :: r, h, hx => by
    rw [List.cons_append, insE, if_neg (h z (by simp)), insE_new (fun y hy => h y (by simp [hy])) hx]
    rfl
end Go.Fw
namespace Go.Proofs.YtfblmkocmnbdcaaGreat
open Go.Fw Go.Proofs Go.RowKit Go.Sort Go.Proofs.Tryz
theorem c88 (w0 : World) (v1 : Value) (A2 A3 : Option Addr) (n2 c2 n3 c3 : Nat) (l : List Ent) (h : Sl Ent.enc 6 w0 w0.heap.size v1 l) (hn : l.length ≤ 4194304) :
    Calls Tryz.prog 88 #[.agg #[v1, .slice A2 n2 c2, .slice A3 n3 c3]] w0 fun e w' => e = .returned (if 64 < l.length ∨ 32 < itemsN l then .tuple #[.agg #[.slice none 0 0, .slice none 0 0, .slice none 0 0], .int .i64 51] else .tuple #[.agg #[v1, .slice A2 n2 c2, .slice A3 n3 c3], .int .i64 0]) ∧ Bel w0.heap.size w0 w' := by
  have hs := h
  obtain ⟨A, cap, rfl, hl, hcap, hA⟩ := h
  by_cases h1 : 64 < l.length
  · refine enter1 func88 rfl ntmps88 rfl fun a S => wp_seq_k fun _ hK1 => wp_region_lit (st_m (op_box S (.t rfl) rfl fun g1 a w S => st_m (op_alloc S zeroValue39 (cs := _) rfl rfl fun g2 a w S => run S (.ac rfl <| .z) fun a w S => st_nil (then_normal (hK1 _ _ (wp_seq_k fun _ hK1 => sg S (.fa underlying39 sizeOf33 0 rfl rfl rfl <| .ld gt33 1 rfl rfl rfl <| .ln underlying33 rfl <| .yy (ys_T (by omega) (ys_gtr (.t rfl) Ev.c)) rfl <| .mv rfl <| .sk rfl rfl rfl <| .sk rfl rfl rfl <| .sk rfl rfl rfl <| .sk rfl rfl rfl <| .yy (ys_pickT (.t rfl) Ev.c) rfl <| .z) fun a w S => st_then S (.t rfl) (wp_seq_k fun _ hK2 => wp_region_lit (run S (.yy (ys_bld (ps := []) (us := [_, _, _]) bld39 .nil rfl) rfl <| .z) fun a w S => st_m (op_stW S sizeOf39 (.t rfl) (.t rfl) (k := 0) rfl rfl rfl (by simp [Value.oneCell']) fun a w S => run S (.ac rfl <| .z) fun a w S => st_nil (then_normal (hK2 _ _ (wp_ret (then_ret (st_ret S (results2 S results88 (Rv.cell (k := 0) ⟨isAgg39, sizeOf39⟩ rfl rfl rfl) (Rv.tmp rfl)) ?_))))))))))))))
    exact ⟨by rw [if_pos (.inl h1)], S.wd.below⟩
  by_cases h2 : 32 < itemsN l
  · refine enter1 func88 rfl ntmps88 rfl fun a S => wp_seq_k fun _ hK1 => wp_region_lit (st_m (op_box S (.t rfl) rfl fun g1 a w S => st_m (op_alloc S zeroValue39 (cs := _) rfl rfl fun g2 a w S => run S (.ac rfl <| .z) fun a w S => st_nil (then_normal (hK1 _ _ (wp_seq_k fun _ hK1 => sg S (.fa underlying39 sizeOf33 0 rfl rfl rfl <| .ld gt33 1 rfl rfl rfl <| .ln underlying33 rfl <| .yy (ys_F (by omega) (ys_gtr (.t rfl) Ev.c)) rfl <| .mv rfl <| .gy rfl rfl (ys_fieldN (FieldT.mk underlying39 rfl sizeOf33 rfl) (.t rfl) (i' := 0) rfl) <| .gy rfl rfl (ys_ld ⟨isAgg33, sizeOf33⟩ (.t rfl) (k := 1) rfl rfl) <| .gx rfl rfl (ys_call call131 (.cons (.t rfl) .nil) (fun hp w W => c131 _ _ _ (by exact .old W (by assumption)) (by assumption))) <| .gy rfl rfl (ys_T (by omega) (ys_gtr (.t rfl) Ev.c)) <| .yy (ys_pickF (.t rfl) (.t rfl)) rfl <| .z) fun a w S => st_then S (.t rfl) (wp_seq_k fun _ hK2 => wp_region_lit (run S (.yy (ys_bld (ps := []) (us := [_, _, _]) bld39 .nil rfl) rfl <| .z) fun a w S => st_m (op_stW S sizeOf39 (.t rfl) (.t rfl) (k := 0) rfl rfl rfl (by simp [Value.oneCell']) fun a w S => run S (.ac rfl <| .z) fun a w S => st_nil (then_normal (hK2 _ _ (wp_ret (then_ret (st_ret S (results2 S results88 (Rv.cell (k := 0) ⟨isAgg39, sizeOf39⟩ rfl rfl rfl) (Rv.tmp rfl)) ?_))))))))))))))
    exact ⟨by rw [if_pos (.inr h2)], S.wd.below⟩
  · refine enter1 func88 rfl ntmps88 rfl fun a S => wp_seq_k fun _ hK1 => wp_region_lit (st_m (op_box S (.t rfl) rfl fun g1 a w S => st_m (op_alloc S zeroValue39 (cs := _) rfl rfl fun g2 a w S => run S (.ac rfl <| .z) fun a w S => st_nil (then_normal (hK1 _ _ (wp_seq_k fun _ hK1 => sg S (.fa underlying39 sizeOf33 0 rfl rfl rfl <| .ld gt33 1 rfl rfl rfl <| .ln underlying33 rfl <| .yy (ys_F (by omega) (ys_gtr (.t rfl) Ev.c)) rfl <| .mv rfl <| .gy rfl rfl (ys_fieldN (FieldT.mk underlying39 rfl sizeOf33 rfl) (.t rfl) (i' := 0) rfl) <| .gy rfl rfl (ys_ld ⟨isAgg33, sizeOf33⟩ (.t rfl) (k := 1) rfl rfl) <| .gx rfl rfl (ys_call call131 (.cons (.t rfl) .nil) (fun hp w W => c131 _ _ _ (by exact .old W (by assumption)) (by assumption))) <| .gy rfl rfl (ys_F (by omega) (ys_gtr (.t rfl) Ev.c)) <| .yy (ys_pickF (.t rfl) (.t rfl)) rfl <| .z) fun a w S => st_else S (.t rfl) (wp_skip (then_normal (hK1 _ _ (wp_seq_k fun _ hK1 => wp_region_lit (run S (.la gt39 1 rfl rfl rfl <| .z) fun a w S => st_m (op_stW S sizeOf39 (.t rfl) (.t rfl) (k := 0) rfl rfl rfl (by simp [Value.oneCell']) fun a w S => run S (.ac rfl <| .z) fun a w S => st_nil (then_normal (hK1 _ _ (wp_ret (st_ret S (results2 S results88 (Rv.cell (k := 0) ⟨isAgg39, sizeOf39⟩ rfl rfl rfl) (Rv.tmp rfl)) ?_))))))))))))))))
    exact ⟨by rw [if_neg (by omega)], S.wd.below⟩
theorem c93 (w0 : World) (v1 : Value) (A2 A3 : Option Addr) (n2 c2 n3 c3 : Nat) (l : List Ent) (x : Ent) (h : Sl Ent.enc 6 w0 w0.heap.size v1 l) :
    Calls Tryz.prog 93 #[.agg #[v1, .slice A2 n2 c2, .slice A3 n3 c3], .agg (Ent.enc x).toArray] w0 fun e w' => e = .returned (.bool (decide (x ∈ l))) ∧ Bel w0.heap.size w0 w' := by
  obtain ⟨A, cap, rfl, hl, hcap, hA⟩ := h
  refine enter2 func93 rfl ntmps93 rfl fun a S => wp_seq_k fun _ hK1 => wp_region_lit (st_m (op_box S (.t rfl) rfl fun g1 a w S => st_m (op_box S (.t rfl) rfl fun g2 a w S => run S (.ac rfl <| .z) fun a w S => st_nil (then_normal (hK1 _ _ (wp_seq_k fun _ hK1 => sg S (.fa underlying39 sizeOf33 0 rfl rfl rfl <| .ld gt33 1 rfl rfl rfl <| .ln underlying33 rfl <| .mc rfl <| .z) fun a w S => wp_block ?_))))))
  refine st_lpM S [6, 10] (X := Nat) (fun k => [(10, true, .int .i64 (k : Int))]) (fun _ => [.blk g2 (.cells (Ent.enc x).toArray 71), .blk g1 (.cells #[.slice A l.length cap, .slice A2 n2 c2, .slice A3 n3 c3] 39)]) (fun k => k ≤ l.length ∧ x ∉ l.take k) (fun k => l.length - k) 0 ⟨Nat.zero_le _, by simp⟩ ?_
  clear S
  intro k a w ⟨hk, hno⟩ S
  by_cases hlt : k < l.length
  · obtain ⟨g, o, m, rfl, hm, hd, hc⟩ := row_at hA hlt
    by_cases he : m = x
    · have rw_e := decide_eq_true (ent_iff.1 he)
      refine sg S (.lt (by omega) rfl rfl <| .z) fun a w S => wp_seq_k fun _ hK2 => st_then S (.t rfl) (wp_skip (then_normal (hK2 _ _ (wp_seq_k fun _ hK2 => wp_block (wp_seq_k fun _ hK3 => wp_region_lit (run S (.ix underlying33 sizeOf71 (by omega) rfl rfl <| .yy (ys_ldOA ⟨isAgg71, sizeOf71⟩ (.t rfl) (vs := [_, _, _, _, _, _]) rfl (fun _ => hc)) rfl <| .z) fun a w S => st_m (op_alloc S zeroValue71 (cs := _) rfl rfl fun g3 a w S => st_m (op_stW S sizeOf71 (.t rfl) (.t rfl) (k := 0) rfl rfl rfl (by simp [Value.oneCell']) fun a w S => st_nil (then_normal (hK3 _ _ (wp_seq_k fun _ hK3 => wp_region_lit (run S (.la gt71 0 rfl rfl rfl <| .la gt71 1 rfl rfl rfl <| .yy (ys_eqA (.t rfl) (.t rfl) eq71) rfl <| .z) fun a w S => ?_))))))))))))
      rw [rw_e] at S
      refine st_nil (then_normal (hK3 _ _ (st_then S (.t rfl) (sg S (.ac rfl <| .z) fun a w S => wp_ret (in_ret (then_ret (then_ret (in_ret (then_ret (st_ret S (results1 S results93 (Rv.tmp rfl)) ?_))))))))))
      exact ⟨by rw [decide_eq_true (he ▸ List.mem_of_getElem? hm)], S.wd.below⟩
    · have rw_e := decide_eq_false (fun h => he (ent_iff.2 h))
      refine sg S (.lt (by omega) rfl rfl <| .z) fun a w S => wp_seq_k fun _ hK2 => st_then S (.t rfl) (wp_skip (then_normal (hK2 _ _ (wp_seq_k fun _ hK2 => wp_block (wp_seq_k fun _ hK3 => wp_region_lit (run S (.ix underlying33 sizeOf71 (by omega) rfl rfl <| .yy (ys_ldOA ⟨isAgg71, sizeOf71⟩ (.t rfl) (vs := [_, _, _, _, _, _]) rfl (fun _ => hc)) rfl <| .z) fun a w S => st_m (op_alloc S zeroValue71 (cs := _) rfl rfl fun g3 a w S => st_m (op_stW S sizeOf71 (.t rfl) (.t rfl) (k := 0) rfl rfl rfl (by simp [Value.oneCell']) fun a w S => st_nil (then_normal (hK3 _ _ (wp_seq_k fun _ hK3 => wp_region_lit (run S (.la gt71 0 rfl rfl rfl <| .la gt71 1 rfl rfl rfl <| .yy (ys_eqA (.t rfl) (.t rfl) eq71) rfl <| .z) fun a w S => ?_))))))))))))
      rw [rw_e] at S
      refine st_nil (then_normal (hK3 _ _ (st_else S (.t rfl) (wp_skip (in_normal (then_normal (hK2 _ _ (wp_region_lit (run S (.ad (by unfold I64; omega) rfl <| .mv rfl <| .z) fun a w S => st_nil (then_normal ?_))))))))))
      refine ⟨k + 1, ⟨by omega, ?_⟩, by omega, S.pk⟩
      rw [List.take_add_one, hm, Option.toList_some]
      intro h
      rcases List.mem_append.1 h with h | h
      · exact hno h
      · simp at h; exact he h.symm
  · obtain rfl : k = l.length := by omega
    rw [List.take_length] at hno
    refine sg S (.ge (by omega) rfl rfl <| .z) fun a w S => wp_seq_k fun _ hK2 => st_else S (.t rfl) (wp_exit (then_exit (then_exit (in_here (then_normal (hK1 _ _ (sg S (.ac rfl <| .z) fun a w S => wp_ret (st_ret S (results1 S results93 (Rv.tmp rfl)) ?_))))))))
    exact ⟨by rw [decide_eq_false hno], S.wd.below⟩
def outE (e : Ent) (l : List Ent) (put : Bool) : List Ent := if put then insE e l else l
theorem c86 (w0 : World) (v : Value) (l : List Ent) (e : Ent) (h : Sl Ent.enc 6 w0 w0.heap.size v l) (hn : l.length ≤ 1048576) :
    Rets Tryz.prog 86 #[v, .agg (Ent.enc e).toArray] w0 fun u L => ∃ A1 r1, u = .slice A1 (insE e l).length r1 ∧ L = [rowOf 71 6 Ent.enc A1 r1 (insE e l)] := by
  obtain ⟨A, cap, rfl, hl, hcap, hA⟩ := h
  have hil : ∀ m, (insE e m).length = m.length + 1 := fun m => insE_len e m
  unfold Go.Fw.Rets
  refine enter2 func86 rfl ntmps86 rfl fun a S => wp_seq_k fun _ hK1 => wp_region_lit (st_m (op_box S (.t rfl) rfl fun g1 a w S => run S (.ac rfl <| .z) fun a w S => st_nil (then_normal (hK1 _ _ (sg S (.ac rfl <| .z) fun a w S => sg S (.ac rfl <| .z) fun a w S => wp_seq_k fun _ hK1 => sg S (.mv rfl <| .ln underlying33 rfl <| .mc rfl <| .z) fun a w S => wp_block ?_)))))
  replace S := S.nil_ 71 6 Ent.enc none
  refine st_lpM S [5, 6, 8, 11] (X := Nat × Bool × Option Addr × Nat) (fun q => [(5, true, .slice q.2.2.1 (outE e (l.take q.1) q.2.1).length q.2.2.2), (6, true, .bool q.2.1), (11, true, .int .i64 (q.1 : Int))])
    (fun q => [rowOf 71 6 Ent.enc q.2.2.1 q.2.2.2 (outE e (l.take q.1) q.2.1), .blk g1 (.cells (Ent.enc e).toArray 71)])
    (fun q => q.1 ≤ l.length ∧ (q.2.1 = true → ∃ y ∈ l.take q.1, ltE e y) ∧ (q.2.1 = false → ∀ y ∈ l.take q.1, ¬ ltE e y)) (fun q => l.length - q.1) (0, false, none, 0) ⟨Nat.zero_le _, by simp, by simp⟩ ?_
  clear S
  rintro ⟨k, put, B, cB⟩ a w ⟨hk, hp1, hp2⟩ S
  dsimp only at hk hp1 hp2 S
  have hol : (outE e (l.take k) put).length ≤ k + 1 := by
    unfold outE
    split
    · rw [hil, List.length_take]; omega
    · rw [List.length_take]; omega
  by_cases hlt : k < l.length
  · obtain ⟨g, o, x, rfl, hx, hd, hc⟩ := row_at hA hlt
    have ht : l.take (k + 1) = l.take k ++ [x] := by rw [List.take_add_one, hx, Option.toList_some]
    cases put with
    | true =>
      have hst : outE e (l.take (k + 1)) true = outE e (l.take k) true ++ [x] := by unfold outE; rw [ht, if_pos rfl, if_pos rfl, insE_put (hp1 rfl)]
      generalize outE e (l.take k) true = O at *
      refine sg S (.lt (by omega) rfl rfl <| .z) fun a w S => wp_seq_k fun _ hK2 => st_then S (.t rfl) (wp_skip (then_normal (hK2 _ _ (wp_seq_k fun _ hK2 => wp_block (wp_seq_k fun _ hK3 => wp_region_lit (run S (.ix underlying33 sizeOf71 (by omega) rfl rfl <| .yy (ys_ldOA ⟨isAgg71, sizeOf71⟩ (.t rfl) (vs := [_, _, _, _, _, _]) rfl (fun _ => hc)) rfl <| .z) fun a w S => st_m (op_alloc S zeroValue71 (cs := _) rfl rfl fun g2 a w S => st_m (op_stW S sizeOf71 (.t rfl) (.t rfl) (k := 0) rfl rfl rfl (by simp [Value.oneCell']) fun a w S => st_nil (then_normal (hK3 _ _ (wp_seq_k fun _ hK3 => sg S (.mv rfl <| .nt rfl <| .mv rfl <| .sk rfl rfl rfl <| .sk rfl rfl rfl <| .sk rfl rfl rfl <| .yy (ys_pickF (.t rfl) Ev.c) rfl <| .z) fun a w S => st_else S (.t rfl) (wp_skip (then_normal (hK3 _ _ (wp_region_lit (run S (.mv rfl <| .la gt71 0 rfl rfl rfl <| .z) fun a w S => st_m (op_bslice1 S underlying33 inf71 rfl rfl rfl (.t rfl) rfl rfl rfl fun g3 a w S => st_m (op_push S underlying33 inf71 rfl (k := 2) (j := 0) rfl (.t rfl) (.t rfl) rfl rfl rfl rfl (by first | omega | (simp only [List.length_append, List.length_cons, List.length_nil]; omega)) rfl rfl rfl fun A1 cap1 a w S => run S (.as rfl <| .z) fun a w S => st_nil (in_normal (then_normal (hK2 _ _ (wp_region_lit ?_))))))))))))))))))))))
      refine run S (.ad (by unfold I64; omega) rfl <| .mv rfl <| .z) fun a w S => st_nil (then_normal ?_)
      refine ⟨(k + 1, true, A1, cap1), ⟨by dsimp only; omega, fun _ => ?_, fun h => by cases h⟩, by dsimp only; omega, ?_⟩
      · obtain ⟨y, hy, hy2⟩ := hp1 rfl
        exact ⟨y, by rw [ht]; exact List.mem_append_left _ hy, hy2⟩
      · dsimp only; rw [hst]; exact S.pk
    | false =>
      by_cases hex : ltE e x
      · have hst : outE e (l.take (k + 1)) true = outE e (l.take k) false ++ [e] ++ [x] := by unfold outE; rw [ht, if_pos rfl, if_neg (by simp), insE_new (hp2 rfl) hex]; simp
        have rw_l : decide (ltE e x) = true := decide_eq_true hex
        generalize outE e (l.take k) false = O at *
        refine sg S (.lt (by omega) rfl rfl <| .z) fun a w S => wp_seq_k fun _ hK2 => st_then S (.t rfl) (wp_skip (then_normal (hK2 _ _ (wp_seq_k fun _ hK2 => wp_block (wp_seq_k fun _ hK3 => wp_region_lit (run S (.ix underlying33 sizeOf71 (by omega) rfl rfl <| .yy (ys_ldOA ⟨isAgg71, sizeOf71⟩ (.t rfl) (vs := [_, _, _, _, _, _]) rfl (fun _ => hc)) rfl <| .z) fun a w S => st_m (op_alloc S zeroValue71 (cs := _) rfl rfl fun g2 a w S => st_m (op_stW S sizeOf71 (.t rfl) (.t rfl) (k := 0) rfl rfl rfl (by simp [Value.oneCell']) fun a w S => st_nil (then_normal (hK3 _ _ (wp_seq_k fun _ hK3 => wp_seq_k fun _ hK4 => wp_region_lit (run S (.mv rfl <| .nt rfl <| .mv rfl <| .gy rfl rfl (ys_ldA ⟨isAgg71, sizeOf71⟩ (.t rfl) (k := 0) rfl rfl) <| .gy rfl rfl (ys_ldA ⟨isAgg71, sizeOf71⟩ (.t rfl) (k := 2) rfl rfl) <| .gx rfl rfl (ys_call call130 (.cons (.t rfl) (.cons (.t rfl) .nil)) (fun hp w W => c130 _ _ _)) <| .z) fun a w S => ?_))))))))))))
        rw [rw_l] at S
        refine run S (.yy (ys_pickT (.t rfl) (.t rfl)) rfl <| .z) fun a w S => st_nil (then_normal (hK4 _ _ (st_then S (.t rfl) (wp_seq_k fun _ hK4 => wp_region_lit (run S (.mv rfl <| .la gt71 2 rfl rfl rfl <| .z) fun a w S => st_m (op_bslice1 S underlying33 inf71 rfl rfl rfl (.t rfl) rfl rfl rfl fun g3 a w S => st_m (op_push S underlying33 inf71 rfl (k := 2) (j := 0) rfl (.t rfl) (.t rfl) rfl rfl rfl rfl (by first | omega | (simp only [List.length_append, List.length_cons, List.length_nil]; omega)) rfl rfl rfl fun A1 cap1 a w S => run S (.as rfl <| .z) fun a w S => st_nil (then_normal (hK4 _ _ (rg S (.ac rfl <| .z) hK3 fun a w S => wp_region_lit (run S (.mv rfl <| .la gt71 1 rfl rfl rfl <| .z) fun a w S => st_m (op_bslice1 S underlying33 inf71 rfl rfl rfl (.t rfl) rfl rfl rfl fun g4 a w S => st_m (op_push S underlying33 inf71 rfl (k := 3) (j := 0) rfl (.t rfl) (.t rfl) rfl rfl rfl rfl (by first | omega | (simp only [List.length_append, List.length_cons, List.length_nil]; omega)) rfl rfl rfl fun A2 cap2 a w S => run S (.as rfl <| .z) fun a w S => st_nil (in_normal (then_normal (hK2 _ _ (wp_region_lit (run S (.ad (by unfold I64; omega) rfl <| .mv rfl <| .z) fun a w S => st_nil (then_normal ?_)))))))))))))))))))
        refine ⟨(k + 1, true, A2, cap2), ⟨by dsimp only; omega, fun _ => ⟨x, by rw [ht]; simp, hex⟩, fun h => by cases h⟩, by dsimp only; omega, ?_⟩
        dsimp only; rw [hst]; exact S.pk
      · have hst : outE e (l.take (k + 1)) false = outE e (l.take k) false ++ [x] := by unfold outE; rw [ht, if_neg (by simp), if_neg (by simp)]
        have rw_l : decide (ltE e x) = false := decide_eq_false hex
        generalize outE e (l.take k) false = O at *
        refine sg S (.lt (by omega) rfl rfl <| .z) fun a w S => wp_seq_k fun _ hK2 => st_then S (.t rfl) (wp_skip (then_normal (hK2 _ _ (wp_seq_k fun _ hK2 => wp_block (wp_seq_k fun _ hK3 => wp_region_lit (run S (.ix underlying33 sizeOf71 (by omega) rfl rfl <| .yy (ys_ldOA ⟨isAgg71, sizeOf71⟩ (.t rfl) (vs := [_, _, _, _, _, _]) rfl (fun _ => hc)) rfl <| .z) fun a w S => st_m (op_alloc S zeroValue71 (cs := _) rfl rfl fun g2 a w S => st_m (op_stW S sizeOf71 (.t rfl) (.t rfl) (k := 0) rfl rfl rfl (by simp [Value.oneCell']) fun a w S => st_nil (then_normal (hK3 _ _ (wp_seq_k fun _ hK3 => wp_seq_k fun _ hK4 => wp_region_lit (run S (.mv rfl <| .nt rfl <| .mv rfl <| .gy rfl rfl (ys_ldA ⟨isAgg71, sizeOf71⟩ (.t rfl) (k := 0) rfl rfl) <| .gy rfl rfl (ys_ldA ⟨isAgg71, sizeOf71⟩ (.t rfl) (k := 2) rfl rfl) <| .gx rfl rfl (ys_call call130 (.cons (.t rfl) (.cons (.t rfl) .nil)) (fun hp w W => c130 _ _ _)) <| .z) fun a w S => ?_))))))))))))
        rw [rw_l] at S
        refine run S (.yy (ys_pickT (.t rfl) (.t rfl)) rfl <| .z) fun a w S => st_nil (then_normal (hK4 _ _ (st_else S (.t rfl) (wp_skip (then_normal (hK3 _ _ (wp_region_lit (run S (.mv rfl <| .la gt71 0 rfl rfl rfl <| .z) fun a w S => st_m (op_bslice1 S underlying33 inf71 rfl rfl rfl (.t rfl) rfl rfl rfl fun g3 a w S => st_m (op_push S underlying33 inf71 rfl (k := 2) (j := 0) rfl (.t rfl) (.t rfl) rfl rfl rfl rfl (by first | omega | (simp only [List.length_append, List.length_cons, List.length_nil]; omega)) rfl rfl rfl fun A1 cap1 a w S => run S (.as rfl <| .z) fun a w S => st_nil (in_normal (then_normal (hK2 _ _ (wp_region_lit (run S (.ad (by unfold I64; omega) rfl <| .mv rfl <| .z) fun a w S => st_nil (then_normal ?_))))))))))))))))
        refine ⟨(k + 1, false, A1, cap1), ⟨by dsimp only; omega, (fun h => by cases h), fun _ y hy => ?_⟩, by dsimp only; omega, ?_⟩
        · rw [ht] at hy
          rcases List.mem_append.1 hy with hy | hy
          · exact hp2 rfl y hy
          · simp at hy; exact hy ▸ hex
        · dsimp only; rw [hst]; exact S.pk
  · obtain rfl : k = l.length := by omega
    rw [List.take_length] at S hp1 hp2 hol
    cases put with
    | true =>
      have hst : outE e l true = insE e l := by unfold outE; rw [if_pos rfl]
      rw [hst] at S
      refine sg S (.ge (by omega) rfl rfl <| .z) fun a w S => wp_seq_k fun _ hK2 => st_else S (.t rfl) (wp_exit (then_exit (then_exit (in_here (then_normal (hK1 _ _ (wp_seq_k fun _ hK1 => sg S (.mv rfl <| .nt rfl <| .z) fun a w S => st_else S (.t rfl) (wp_skip (then_normal (hK1 _ _ (sg S (.mv rfl <| .as rfl <| .z) fun a w S => wp_ret (st_ret S (results1 S results86 (Rv.tmp rfl)) ?_))))))))))))
      exact ⟨_, _, rfl, S.wd.picks (L' := [rowOf 71 6 Ent.enc B cB (insE e l)]) (by repeat (first | exact Picks.nil | (refine Picks.rest ?_; (repeat (first | exact List.Sublist.refl _ | refine List.Sublist.cons_cons _ ?_ | refine List.Sublist.cons _ ?_)); done) | refine Picks.take 0 rfl ?_ | refine Picks.take 1 rfl ?_ | refine Picks.take 2 rfl ?_ | refine Picks.take 3 rfl ?_ | refine Picks.take 4 rfl ?_ | refine Picks.take 5 rfl ?_ | refine Picks.take 6 rfl ?_ | refine Picks.take 7 rfl ?_ | refine Picks.take 8 rfl ?_ | refine Picks.take 9 rfl ?_ | refine Picks.take 10 rfl ?_ | refine Picks.take 11 rfl ?_)), _, _, rfl, rfl⟩
    | false =>
      have hst : insE e l = outE e l false ++ [e] := by unfold outE; rw [if_neg (by simp), insE_none (hp2 rfl)]
      generalize outE e l false = O at *
      refine sg S (.ge (by omega) rfl rfl <| .z) fun a w S => wp_seq_k fun _ hK2 => st_else S (.t rfl) (wp_exit (then_exit (then_exit (in_here (then_normal (hK1 _ _ (wp_seq_k fun _ hK1 => sg S (.mv rfl <| .nt rfl <| .z) fun a w S => st_then S (.t rfl) (wp_region_lit (run S (.mv rfl <| .la gt71 1 rfl rfl rfl <| .z) fun a w S => st_m (op_bslice1 S underlying33 inf71 rfl rfl rfl (.t rfl) rfl rfl rfl fun g2 a w S => st_m (op_push S underlying33 inf71 rfl (k := 1) (j := 0) rfl (.t rfl) (.t rfl) rfl rfl rfl rfl (by first | omega | (simp only [List.length_append, List.length_cons, List.length_nil]; omega)) rfl rfl rfl fun A1 cap1 a w S => run S (.as rfl <| .z) fun a w S => st_nil (then_normal (hK1 _ _ (sg S (.mv rfl <| .as rfl <| .z) fun a w S => wp_ret (st_ret S (results1 S results86 (Rv.tmp rfl)) ?_)))))))))))))))
      exact ⟨_, _, rfl, S.wd.picks (L' := [rowOf 71 6 Ent.enc A1 cap1 (O ++ [e])]) (by repeat (first | exact Picks.nil | (refine Picks.rest ?_; (repeat (first | exact List.Sublist.refl _ | refine List.Sublist.cons_cons _ ?_ | refine List.Sublist.cons _ ?_)); done) | refine Picks.take 0 rfl ?_ | refine Picks.take 1 rfl ?_ | refine Picks.take 2 rfl ?_ | refine Picks.take 3 rfl ?_ | refine Picks.take 4 rfl ?_ | refine Picks.take 5 rfl ?_ | refine Picks.take 6 rfl ?_ | refine Picks.take 7 rfl ?_ | refine Picks.take 8 rfl ?_ | refine Picks.take 9 rfl ?_ | refine Picks.take 10 rfl ?_ | refine Picks.take 11 rfl ?_)), A1, cap1, by rw [hst], by rw [hst]⟩
end Go.Proofs.YtfblmkocmnbdcaaGreat
set_option linter.unusedVariables false
set_option linter.unusedSimpArgs false
set_option maxRecDepth 100000
set_option maxHeartbeats 4000000
namespace Go.Proofs.YtfblmkocmnbdcaaGreat
open Go.Fw Go.Proofs Go.RowKit Go.Proofs.Tryz
theorem c92 (w0 : World) (v1 v2 v3 v4 : Value) (C D : Ctx) (h : RdCtx w0 w0.heap.size v1 v2 C) (h' : RdCtx w0 w0.heap.size v3 v4 D) :
    Rets Tryz.prog 92 #[.agg #[v1, v2], .agg #[v3, v4]] w0 fun v L => ∃ A1 r1 A2 r2, v = .tuple #[.agg #[.slice A1 (joinL C D).1.marks.length r1, .slice A2 (joinL C D).1.cloud.length r2], .int .i64 (joinL C D).2] ∧
      L = [rowOf 122 3 Dot.enc A1 r1 (joinL C D).1.marks, rowOf 58 3 Dot.enc A2 r2 (joinL C D).1.cloud] := by
  obtain ⟨h1, h2⟩ := id h
  obtain ⟨h3, h4⟩ := id h'
  obtain ⟨B1, q1, rfl, _⟩ := id h1
  obtain ⟨B2, q2, rfl, _⟩ := id h2
  obtain ⟨B3, q3, rfl, _⟩ := id h3
  obtain ⟨B4, q4, rfl, _⟩ := id h4
  by_cases hC : canL C = true
  · by_cases hD : canL D = true
    · have hc1 := can_len hC
      have hd1 := can_len hD
      have hj1 : (C.marks ++ D.marks).length ≤ 1900000 := by rw [List.length_append]; omega
      have hj2 : (C.cloud ++ D.cloud).length ≤ 1900000 := by rw [List.length_append]; omega
      have rw_c := hC
      have rw_d := hD
      have e : joinL C D = normalL (C.marks ++ D.marks) (C.cloud ++ D.cloud) := by unfold joinL; rw [hC, hD]; rfl
      unfold Go.Fw.Rets
      refine enter2 func92 rfl ntmps92 rfl fun a S => wp_seq_k fun _ hK1 => wp_region_lit (st_m (op_box S (.t rfl) rfl fun g1 a w S => st_m (op_box S (.t rfl) rfl fun g2 a w S => st_m (op_alloc S zeroValue37 (cs := _) rfl rfl fun g3 a w S => run S (.ac rfl <| .z) fun a w S => st_nil (then_normal (hK1 _ _ (wp_seq_k fun _ hK1 => wp_seq_k fun _ hK2 => wp_region_lit (run S (.la gt37 2 rfl rfl rfl <| .xx (ys_call call126 (.cons (.t rfl) .nil) (fun hp w W => c126 _ _ _ _ (by exact .old W (by assumption)))) rfl <| .z) fun a w S => ?_))))))))
      rw [rw_c] at S
      refine run S (.nt rfl <| .mv rfl <| .gy rfl rfl (ys_ldA ⟨isAgg37, sizeOf37⟩ (.t rfl) (k := 1) rfl rfl) <| .gx rfl rfl (ys_call call126 (.cons (.t rfl) .nil) (fun hp w W => c126 _ _ _ _ (by exact .old W (by assumption)))) <| .z) fun a w S => ?_
      rw [rw_d] at S
      refine run S (.gy rfl rfl (ys_not (.t rfl)) <| .yy (ys_pickF (.t rfl) (.t rfl)) rfl <| .z) fun a w S => st_nil (then_normal (hK2 _ _ (st_else S (.t rfl) (wp_skip (then_normal (hK1 _ _ (wp_seq_k fun _ hK1 => h_beginE S (by kernel_rfl) 0 fun a w S => hy 1 S rfl (ys_fieldN (FieldT.mk underlying37 rfl sizeOf34 rfl) (.t rfl) (i' := 0) rfl) rfl fun a w S => hy 2 S rfl (ys_ld ⟨isAgg34, sizeOf34⟩ (.t rfl) (k := 1) rfl rfl) rfl fun a w S => hy 4 S rfl (ys_fieldN (FieldT.mk underlying37 rfl sizeOf34 rfl) (.t rfl) (i' := 0) rfl) rfl fun a w S => hy 5 S rfl (ys_ld ⟨isAgg34, sizeOf34⟩ (.t rfl) (k := 0) rfl rfl) rfl fun a w S => ?_)))))))
      refine hy 8 S rfl (ys_fieldN (FieldT.mk underlying37 rfl sizeOf35 rfl) (.t rfl) (i' := 1) rfl) rfl fun a w S => hy 9 S rfl (ys_ld ⟨isAgg35, sizeOf35⟩ (.t rfl) (k := 1) rfl rfl) rfl fun a w S => hy 11 S rfl (ys_fieldN (FieldT.mk underlying37 rfl sizeOf35 rfl) (.t rfl) (i' := 1) rfl) rfl fun a w S => hy 12 S rfl (ys_ld ⟨isAgg35, sizeOf35⟩ (.t rfl) (k := 0) rfl rfl) rfl fun a w S => ?_
      refine h_split (i := 0) (j := 7) (by kernel_rfl) rfl rfl ?_ ?_
      (refine op_bslice0 S underlying34 sizeOf122 rfl ?_; clear S a w; intro g4 a w S; refine h_n1 S ?_)
      refine h_split (i := 3) (j := 7) (by kernel_rfl) rfl rfl ?_ ?_
      (refine op_extend _ (S.nil_ 122 _ Go.Fw.Dot.enc _) underlying34 underlying34 (.inr ⟨_, rfl⟩) inf122 rfl (k := 0) rfl (.t rfl) (.t rfl) (Src.sl (Sl.old S.wd h1) (by decide) Go.Fw.Dot.enc_len Go.Fw.Dot.enc_one) (by first | omega | (simp only [List.length_append, List.length_cons, List.length_nil]; omega) | (simp; omega)) rfl rfl rfl ?_; clear S a w; intro A1 cap1 a w S; refine h_n1 S ?_)
      simp only [List.nil_append] at S
      refine h_split (i := 6) (j := 7) (by kernel_rfl) rfl rfl ?_ ?_
      (refine op_extend _ S underlying34 underlying34 (.inr ⟨_, rfl⟩) inf122 rfl (k := 0) rfl (.t rfl) (.t rfl) (Src.sl (Sl.old S.wd h3) (by decide) Go.Fw.Dot.enc_len Go.Fw.Dot.enc_one) (by first | omega | (simp only [List.length_append, List.length_cons, List.length_nil]; omega) | (simp; omega)) rfl rfl rfl ?_; clear S a w; intro A2 cap2 a w S; refine h_n1 S ?_)
      (refine h_m (i := 7) rfl (by kernel_rfl) (op_bslice0 S underlying35 sizeOf58 rfl ?_); clear S a w; intro g5 a w S; refine h_n1 S ?_)
      (refine h_m (i := 10) rfl (by kernel_rfl) (op_extend _ (S.nil_ 58 _ Go.Fw.Dot.enc _) underlying35 underlying35 (.inr ⟨_, rfl⟩) inf58 rfl (k := 0) rfl (.t rfl) (.t rfl) (Src.sl (Sl.old S.wd h2) (by decide) Go.Fw.Dot.enc_len Go.Fw.Dot.enc_one) (by first | omega | (simp only [List.length_append, List.length_cons, List.length_nil]; omega) | (simp; omega)) rfl rfl rfl ?_); clear S a w; intro A3 cap3 a w S; refine h_n1 S ?_)
      simp only [List.nil_append] at S
      (refine h_m (i := 13) rfl (by kernel_rfl) (op_extend _ S underlying35 underlying35 (.inr ⟨_, rfl⟩) inf58 rfl (k := 0) rfl (.t rfl) (.t rfl) (Src.sl (Sl.old S.wd h4) (by decide) Go.Fw.Dot.enc_len Go.Fw.Dot.enc_one) (by first | omega | (simp only [List.length_append, List.length_cons, List.length_nil]; omega) | (simp; omega)) rfl rfl rfl ?_); clear S a w; intro A4 cap4 a w S; refine h_n1 S ?_)
      (refine h_m (i := 14) rfl (by kernel_rfl) (op_calls S call150 (.cons (.t rfl) (.cons (.t rfl) .nil)) (c150 _ _ _ _ _ (by exact Sl.of_own S.wd (k := 1) rfl (fun _ => rfl)) (by exact Sl.of_own S.wd (k := 0) rfl (fun _ => rfl)) (by assumption) (by assumption)) rfl ?_); clear S a w; rintro _ _ ⟨A11, c11, A21, c21, rfl, rfl⟩ a w S; refine h_n1 S ?_)
      refine hy 15 S rfl (ys_ext (.t rfl) rfl) rfl fun a w S => hy 16 S rfl (ys_ext (.t rfl) rfl) rfl fun a w S => ?_
      (refine h_m0 (i := 17) rfl (by kernel_rfl) (op_stW S sizeOf37 (.t rfl) (.t rfl) (k := 4) rfl rfl rfl (by simp [Value.oneCell']) ?_); clear S a w; intro a w S; refine h_n1 S ?_)
      refine hy 18 S rfl (ys_assign (.t rfl)) rfl fun a w S => h_done (by kernel_rfl) (then_normal (hK1 _ _ (wp_ret (st_ret S (results2 S results92 (Rv.cell (k := 4) ⟨isAgg37, sizeOf37⟩ rfl rfl rfl) (Rv.tmp rfl)) ?_))))
      rotate_left
      (refine op_bslice0 S underlying35 sizeOf58 rfl ?_; clear S a w; intro g5 a w S; refine h_n1 S ?_)
      (refine h_m (i := 6) rfl (by kernel_rfl) (op_extend _ S underlying34 underlying34 (.inr ⟨_, rfl⟩) inf122 rfl (k := 0) rfl (.t rfl) (.t rfl) (Src.sl (Sl.old S.wd h3) (by decide) Go.Fw.Dot.enc_len Go.Fw.Dot.enc_one) (by first | omega | (simp only [List.length_append, List.length_cons, List.length_nil]; omega) | (simp; omega)) rfl rfl rfl ?_); clear S a w; intro A2 cap2 a w S; refine h_n1 S ?_)
      (refine h_m (i := 10) rfl (by kernel_rfl) (op_extend _ (S.nil_ 58 _ Go.Fw.Dot.enc _) underlying35 underlying35 (.inr ⟨_, rfl⟩) inf58 rfl (k := 0) rfl (.t rfl) (.t rfl) (Src.sl (Sl.old S.wd h2) (by decide) Go.Fw.Dot.enc_len Go.Fw.Dot.enc_one) (by first | omega | (simp only [List.length_append, List.length_cons, List.length_nil]; omega) | (simp; omega)) rfl rfl rfl ?_); clear S a w; intro A3 cap3 a w S; refine h_n1 S ?_)
      simp only [List.nil_append] at S
      (refine h_m (i := 13) rfl (by kernel_rfl) (op_extend _ S underlying35 underlying35 (.inr ⟨_, rfl⟩) inf58 rfl (k := 0) rfl (.t rfl) (.t rfl) (Src.sl (Sl.old S.wd h4) (by decide) Go.Fw.Dot.enc_len Go.Fw.Dot.enc_one) (by first | omega | (simp only [List.length_append, List.length_cons, List.length_nil]; omega) | (simp; omega)) rfl rfl rfl ?_); clear S a w; intro A4 cap4 a w S; refine h_n1 S ?_)
      (refine h_m (i := 14) rfl (by kernel_rfl) (op_calls S call150 (.cons (.t rfl) (.cons (.t rfl) .nil)) (c150 _ _ _ _ _ (by exact Sl.of_own S.wd (k := 1) rfl (fun _ => rfl)) (by exact Sl.of_own S.wd (k := 0) rfl (fun _ => rfl)) (by assumption) (by assumption)) rfl ?_); clear S a w; rintro _ _ ⟨A11, c11, A21, c21, rfl, rfl⟩ a w S; refine h_n1 S ?_)
      refine hy 15 S rfl (ys_ext (.t rfl) rfl) rfl fun a w S => hy 16 S rfl (ys_ext (.t rfl) rfl) rfl fun a w S => ?_
      (refine h_m0 (i := 17) rfl (by kernel_rfl) (op_stW S sizeOf37 (.t rfl) (.t rfl) (k := 4) rfl rfl rfl (by simp [Value.oneCell']) ?_); clear S a w; intro a w S; refine h_n1 S ?_)
      refine hy 18 S rfl (ys_assign (.t rfl)) rfl fun a w S => h_done (by kernel_rfl) (then_normal (hK1 _ _ (wp_ret (st_ret S (results2 S results92 (Rv.cell (k := 4) ⟨isAgg37, sizeOf37⟩ rfl rfl rfl) (Rv.tmp rfl)) ?_))))
      rotate_left
      (refine op_bslice0 S underlying35 sizeOf58 rfl ?_; clear S a w; intro g5 a w S; refine h_n1 S ?_)
      (refine h_m (i := 3) rfl (by kernel_rfl) (op_extend _ (S.nil_ 122 _ Go.Fw.Dot.enc _) underlying34 underlying34 (.inr ⟨_, rfl⟩) inf122 rfl (k := 0) rfl (.t rfl) (.t rfl) (Src.sl (Sl.old S.wd h1) (by decide) Go.Fw.Dot.enc_len Go.Fw.Dot.enc_one) (by first | omega | (simp only [List.length_append, List.length_cons, List.length_nil]; omega) | (simp; omega)) rfl rfl rfl ?_); clear S a w; intro A1 cap1 a w S; refine h_n1 S ?_)
      simp only [List.nil_append] at S
      (refine h_m (i := 6) rfl (by kernel_rfl) (op_extend _ S underlying34 underlying34 (.inr ⟨_, rfl⟩) inf122 rfl (k := 0) rfl (.t rfl) (.t rfl) (Src.sl (Sl.old S.wd h3) (by decide) Go.Fw.Dot.enc_len Go.Fw.Dot.enc_one) (by first | omega | (simp only [List.length_append, List.length_cons, List.length_nil]; omega) | (simp; omega)) rfl rfl rfl ?_); clear S a w; intro A2 cap2 a w S; refine h_n1 S ?_)
      (refine h_m (i := 10) rfl (by kernel_rfl) (op_extend _ (S.nil_ 58 _ Go.Fw.Dot.enc _) underlying35 underlying35 (.inr ⟨_, rfl⟩) inf58 rfl (k := 0) rfl (.t rfl) (.t rfl) (Src.sl (Sl.old S.wd h2) (by decide) Go.Fw.Dot.enc_len Go.Fw.Dot.enc_one) (by first | omega | (simp only [List.length_append, List.length_cons, List.length_nil]; omega) | (simp; omega)) rfl rfl rfl ?_); clear S a w; intro A3 cap3 a w S; refine h_n1 S ?_)
      simp only [List.nil_append] at S
      (refine h_m (i := 13) rfl (by kernel_rfl) (op_extend _ S underlying35 underlying35 (.inr ⟨_, rfl⟩) inf58 rfl (k := 0) rfl (.t rfl) (.t rfl) (Src.sl (Sl.old S.wd h4) (by decide) Go.Fw.Dot.enc_len Go.Fw.Dot.enc_one) (by first | omega | (simp only [List.length_append, List.length_cons, List.length_nil]; omega) | (simp; omega)) rfl rfl rfl ?_); clear S a w; intro A4 cap4 a w S; refine h_n1 S ?_)
      (refine h_m (i := 14) rfl (by kernel_rfl) (op_calls S call150 (.cons (.t rfl) (.cons (.t rfl) .nil)) (c150 _ _ _ _ _ (by exact Sl.of_own S.wd (k := 1) rfl (fun _ => rfl)) (by exact Sl.of_own S.wd (k := 0) rfl (fun _ => rfl)) (by assumption) (by assumption)) rfl ?_); clear S a w; rintro _ _ ⟨A11, c11, A21, c21, rfl, rfl⟩ a w S; refine h_n1 S ?_)
      refine hy 15 S rfl (ys_ext (.t rfl) rfl) rfl fun a w S => hy 16 S rfl (ys_ext (.t rfl) rfl) rfl fun a w S => ?_
      (refine h_m0 (i := 17) rfl (by kernel_rfl) (op_stW S sizeOf37 (.t rfl) (.t rfl) (k := 4) rfl rfl rfl (by simp [Value.oneCell']) ?_); clear S a w; intro a w S; refine h_n1 S ?_)
      refine hy 18 S rfl (ys_assign (.t rfl)) rfl fun a w S => h_done (by kernel_rfl) (then_normal (hK1 _ _ (wp_ret (st_ret S (results2 S results92 (Rv.cell (k := 4) ⟨isAgg37, sizeOf37⟩ rfl rfl rfl) (Rv.tmp rfl)) ?_))))
      rotate_left
      (refine op_bslice0 S underlying35 sizeOf58 rfl ?_; clear S a w; intro g4 a w S; refine h_n1 S ?_)
      (refine h_m (i := 0) rfl (by kernel_rfl) (op_bslice0 S underlying34 sizeOf122 rfl ?_); clear S a w; intro g5 a w S; refine h_n1 S ?_)
      (refine h_m (i := 3) rfl (by kernel_rfl) (op_extend _ (S.nil_ 122 _ Go.Fw.Dot.enc _) underlying34 underlying34 (.inr ⟨_, rfl⟩) inf122 rfl (k := 0) rfl (.t rfl) (.t rfl) (Src.sl (Sl.old S.wd h1) (by decide) Go.Fw.Dot.enc_len Go.Fw.Dot.enc_one) (by first | omega | (simp only [List.length_append, List.length_cons, List.length_nil]; omega) | (simp; omega)) rfl rfl rfl ?_); clear S a w; intro A1 cap1 a w S; refine h_n1 S ?_)
      simp only [List.nil_append] at S
      (refine h_m (i := 6) rfl (by kernel_rfl) (op_extend _ S underlying34 underlying34 (.inr ⟨_, rfl⟩) inf122 rfl (k := 0) rfl (.t rfl) (.t rfl) (Src.sl (Sl.old S.wd h3) (by decide) Go.Fw.Dot.enc_len Go.Fw.Dot.enc_one) (by first | omega | (simp only [List.length_append, List.length_cons, List.length_nil]; omega) | (simp; omega)) rfl rfl rfl ?_); clear S a w; intro A2 cap2 a w S; refine h_n1 S ?_)
      (refine h_m (i := 10) rfl (by kernel_rfl) (op_extend _ (S.nil_ 58 _ Go.Fw.Dot.enc _) underlying35 underlying35 (.inr ⟨_, rfl⟩) inf58 rfl (k := 0) rfl (.t rfl) (.t rfl) (Src.sl (Sl.old S.wd h2) (by decide) Go.Fw.Dot.enc_len Go.Fw.Dot.enc_one) (by first | omega | (simp only [List.length_append, List.length_cons, List.length_nil]; omega) | (simp; omega)) rfl rfl rfl ?_); clear S a w; intro A3 cap3 a w S; refine h_n1 S ?_)
      simp only [List.nil_append] at S
      (refine h_m (i := 13) rfl (by kernel_rfl) (op_extend _ S underlying35 underlying35 (.inr ⟨_, rfl⟩) inf58 rfl (k := 0) rfl (.t rfl) (.t rfl) (Src.sl (Sl.old S.wd h4) (by decide) Go.Fw.Dot.enc_len Go.Fw.Dot.enc_one) (by first | omega | (simp only [List.length_append, List.length_cons, List.length_nil]; omega) | (simp; omega)) rfl rfl rfl ?_); clear S a w; intro A4 cap4 a w S; refine h_n1 S ?_)
      (refine h_m (i := 14) rfl (by kernel_rfl) (op_calls S call150 (.cons (.t rfl) (.cons (.t rfl) .nil)) (c150 _ _ _ _ _ (by exact Sl.of_own S.wd (k := 1) rfl (fun _ => rfl)) (by exact Sl.of_own S.wd (k := 0) rfl (fun _ => rfl)) (by assumption) (by assumption)) rfl ?_); clear S a w; rintro _ _ ⟨A11, c11, A21, c21, rfl, rfl⟩ a w S; refine h_n1 S ?_)
      refine hy 15 S rfl (ys_ext (.t rfl) rfl) rfl fun a w S => hy 16 S rfl (ys_ext (.t rfl) rfl) rfl fun a w S => ?_
      (refine h_m0 (i := 17) rfl (by kernel_rfl) (op_stW S sizeOf37 (.t rfl) (.t rfl) (k := 4) rfl rfl rfl (by simp [Value.oneCell']) ?_); clear S a w; intro a w S; refine h_n1 S ?_)
      refine hy 18 S rfl (ys_assign (.t rfl)) rfl fun a w S => h_done (by kernel_rfl) (then_normal (hK1 _ _ (wp_ret (st_ret S (results2 S results92 (Rv.cell (k := 4) ⟨isAgg37, sizeOf37⟩ rfl rfl rfl) (Rv.tmp rfl)) ?_))))
      rotate_left
      all_goals rw [e]
      all_goals exact ⟨_, _, rfl, S.wd.sub (by repeat (first | exact List.Sublist.refl _ | exact List.nil_sublist _ | refine .cons_cons _ ?_ | refine .cons _ ?_)), _, _, _, _, rfl, rfl⟩
    · have hD : canL D = false := by simpa using hD
      have rw_c := hC
      have rw_d := hD
      unfold Go.Fw.Rets
      refine enter2 func92 rfl ntmps92 rfl fun a S => wp_seq_k fun _ hK1 => wp_region_lit (st_m (op_box S (.t rfl) rfl fun g1 a w S => st_m (op_box S (.t rfl) rfl fun g2 a w S => st_m (op_alloc S zeroValue37 (cs := _) rfl rfl fun g3 a w S => run S (.ac rfl <| .z) fun a w S => st_nil (then_normal (hK1 _ _ (wp_seq_k fun _ hK1 => wp_seq_k fun _ hK2 => wp_region_lit (run S (.la gt37 2 rfl rfl rfl <| .xx (ys_call call126 (.cons (.t rfl) .nil) (fun hp w W => c126 _ _ _ _ (by exact .old W (by assumption)))) rfl <| .z) fun a w S => ?_))))))))
      rw [rw_c] at S
      refine run S (.nt rfl <| .mv rfl <| .gy rfl rfl (ys_ldA ⟨isAgg37, sizeOf37⟩ (.t rfl) (k := 1) rfl rfl) <| .gx rfl rfl (ys_call call126 (.cons (.t rfl) .nil) (fun hp w W => c126 _ _ _ _ (by exact .old W (by assumption)))) <| .z) fun a w S => ?_
      rw [rw_d] at S
      refine run S (.gy rfl rfl (ys_not (.t rfl)) <| .yy (ys_pickF (.t rfl) (.t rfl)) rfl <| .z) fun a w S => st_nil (then_normal (hK2 _ _ (st_then S (.t rfl) (wp_seq_k fun _ hK2 => wp_region_lit (run S (.yy (ys_bld (ps := []) (us := [_, _]) bld37 .nil rfl) rfl <| .z) fun a w S => st_m (op_stW S sizeOf37 (.t rfl) (.t rfl) (k := 0) rfl rfl rfl (by simp [Value.oneCell']) fun a w S => run S (.ac rfl <| .z) fun a w S => st_nil (then_normal (hK2 _ _ (wp_ret (then_ret (st_ret S (results2 S results92 (Rv.cell (k := 0) ⟨isAgg37, sizeOf37⟩ rfl rfl rfl) (Rv.tmp rfl)) ?_)))))))))))
      have e : joinL C D = (⟨[], []⟩, 30) := by unfold joinL; rw [hC, hD]; rfl
      rw [e]
      exact ⟨_, _, rfl, ((S.nil_ 58 3 Dot.enc none).nil_ 122 3 Dot.enc none).wd.sub (by repeat (first | exact List.Sublist.refl _ | exact List.nil_sublist _ | refine .cons_cons _ ?_ | refine .cons _ ?_)), none, 0, none, 0, rfl, rfl⟩
  · have hC : canL C = false := by simpa using hC
    have rw_c := hC
    unfold Go.Fw.Rets
    refine enter2 func92 rfl ntmps92 rfl fun a S => wp_seq_k fun _ hK1 => wp_region_lit (st_m (op_box S (.t rfl) rfl fun g1 a w S => st_m (op_box S (.t rfl) rfl fun g2 a w S => st_m (op_alloc S zeroValue37 (cs := _) rfl rfl fun g3 a w S => run S (.ac rfl <| .z) fun a w S => st_nil (then_normal (hK1 _ _ (wp_seq_k fun _ hK1 => wp_seq_k fun _ hK2 => wp_region_lit (run S (.la gt37 2 rfl rfl rfl <| .xx (ys_call call126 (.cons (.t rfl) .nil) (fun hp w W => c126 _ _ _ _ (by exact .old W (by assumption)))) rfl <| .z) fun a w S => ?_))))))))
    rw [rw_c] at S
    refine run S (.nt rfl <| .mv rfl <| .sk rfl rfl rfl <| .sk rfl rfl rfl <| .sk rfl rfl rfl <| .yy (ys_pickT (.t rfl) Ev.c) rfl <| .z) fun a w S => st_nil (then_normal (hK2 _ _ (st_then S (.t rfl) (wp_seq_k fun _ hK2 => wp_region_lit (run S (.yy (ys_bld (ps := []) (us := [_, _]) bld37 .nil rfl) rfl <| .z) fun a w S => st_m (op_stW S sizeOf37 (.t rfl) (.t rfl) (k := 0) rfl rfl rfl (by simp [Value.oneCell']) fun a w S => run S (.ac rfl <| .z) fun a w S => st_nil (then_normal (hK2 _ _ (wp_ret (then_ret (st_ret S (results2 S results92 (Rv.cell (k := 0) ⟨isAgg37, sizeOf37⟩ rfl rfl rfl) (Rv.tmp rfl)) ?_)))))))))))
    have e : joinL C D = (⟨[], []⟩, 30) := by unfold joinL; rw [hC]; rfl
    rw [e]
    exact ⟨_, _, rfl, ((S.nil_ 58 3 Dot.enc none).nil_ 122 3 Dot.enc none).wd.sub (by repeat (first | exact List.Sublist.refl _ | exact List.nil_sublist _ | refine .cons_cons _ ?_ | refine .cons _ ?_)), none, 0, none, 0, rfl, rfl⟩
theorem c87 (w0 : World) (v1 v2 : Value) (C : Ctx) (x y z : Int) (h : RdCtx w0 w0.heap.size v1 v2 C) :
    Rets Tryz.prog 87 #[.agg #[v1, v2], .agg #[.int .i64 x, .int .i64 y, .int .i64 z]] w0 fun v L => ∃ A1 r1 A2 r2, v = .tuple #[.agg #[.slice A1 (addL C ⟨x, y, z⟩).1.marks.length r1, .slice A2 (addL C ⟨x, y, z⟩).1.cloud.length r2], .int .i64 (addL C ⟨x, y, z⟩).2] ∧
      L = [rowOf 122 3 Dot.enc A1 r1 (addL C ⟨x, y, z⟩).1.marks, rowOf 58 3 Dot.enc A2 r2 (addL C ⟨x, y, z⟩).1.cloud] := by
  obtain ⟨h1, h2⟩ := id h
  obtain ⟨B1, q1, rfl, _⟩ := id h1
  obtain ⟨B2, q2, rfl, _⟩ := id h2
  cases rw_c : canL C with
  | true =>
    have hc1 := can_len rw_c
    have hj : (C.cloud ++ [(⟨x, y, z⟩ : Dot)]).length ≤ 1900000 := by simp; omega
    have e : addL C ⟨x, y, z⟩ = normalL C.marks (C.cloud ++ [⟨x, y, z⟩]) := by
      unfold addL
      rw [rw_c]
      cases hd : mayD ⟨x, y, z⟩ with
      | true => rfl
      | false => exact (normalL_bad2 (k := C.cloud.length) (by simp) hd).symm
    unfold Go.Fw.Rets
    refine enter2 func87 rfl ntmps87 rfl fun a S => wp_seq_k fun _ hK1 => wp_region_lit (st_m (op_box S (.t rfl) rfl fun g1 a w S => st_m (op_box S (.t rfl) rfl fun g2 a w S => st_m (op_alloc S zeroValue37 (cs := _) rfl rfl fun g3 a w S => run S (.ac rfl <| .z) fun a w S => st_nil (then_normal (hK1 _ _ (wp_seq_k fun _ hK1 => wp_seq_k fun _ hK2 => wp_region_lit (run S (.la gt37 2 rfl rfl rfl <| .xx (ys_call call126 (.cons (.t rfl) .nil) (fun hp w W => c126 _ _ _ _ (by exact .old W (by assumption)))) rfl <| .z) fun a w S => ?_))))))))
    rw [rw_c] at S
    refine run S (.nt rfl <| .z) fun a w S => st_nil (then_normal (hK2 _ _ (st_else S (.t rfl) (wp_skip (then_normal (hK1 _ _ (wp_seq_k fun _ hK1 => h_beginE S (by kernel_rfl) 0 fun a w S => hy 0 S rfl (ys_fieldN (FieldT.mk underlying37 rfl sizeOf34 rfl) (.t rfl) (i' := 0) rfl) rfl fun a w S => hy 1 S rfl (ys_ld ⟨isAgg34, sizeOf34⟩ (.t rfl) (k := 1) rfl rfl) rfl fun a w S => hy 3 S rfl (ys_fieldN (FieldT.mk underlying37 rfl sizeOf35 rfl) (.t rfl) (i' := 1) rfl) rfl fun a w S => hy 4 S rfl (ys_ld ⟨isAgg35, sizeOf35⟩ (.t rfl) (k := 1) rfl rfl) rfl fun a w S => ?_)))))))
    refine hy 6 S rfl (ys_ldA ⟨isAgg58, sizeOf58⟩ (.t rfl) (k := 0) rfl rfl) rfl fun a w S => ?_
    refine h_split (i := 2) (j := 7) (by kernel_rfl) rfl rfl ?_ ?_
    (refine op_bslice0 S underlying35 sizeOf58 rfl ?_; clear S a w; intro g4 a w S; refine h_n1 S ?_)
    refine h_split (i := 5) (j := 7) (by kernel_rfl) rfl rfl ?_ ?_
    (refine op_extend _ (S.nil_ 58 _ Go.Fw.Dot.enc _) underlying35 underlying35 (.inr ⟨_, rfl⟩) inf58 rfl (k := 0) rfl (.t rfl) (.t rfl) (Src.sl (Sl.old S.wd h2) (by decide) Go.Fw.Dot.enc_len Go.Fw.Dot.enc_one) (by first | omega | (simp only [List.length_append, List.length_cons, List.length_nil]; omega) | (simp; omega)) rfl rfl rfl ?_; clear S a w; intro A1 cap1 a w S; refine h_n1 S ?_)
    simp only [List.nil_append] at S
    (refine h_m (i := 7) rfl (by kernel_rfl) (op_bslice1 S underlying35 inf58 rfl rfl rfl (.t rfl) rfl rfl rfl ?_); clear S a w; intro g5 a w S; refine h_n1 S ?_)
    (refine h_m (i := 8) rfl (by kernel_rfl) (op_push S underlying35 inf58 rfl (k := 1) (j := 0) rfl (.t rfl) (.t rfl) rfl Go.Fw.Dot.mkEnc rfl rfl (by first | omega | (simp only [List.length_append, List.length_cons, List.length_nil]; omega)) rfl rfl rfl ?_); clear S a w; intro A2 cap2 a w S; refine h_n1 S ?_)
    (refine h_m (i := 9) rfl (by kernel_rfl) (op_calls S call150 (.cons (.t rfl) (.cons (.t rfl) .nil)) (c150 _ _ _ _ _ (by exact .old S.wd (by assumption)) (by exact Sl.of_own S.wd (k := 1) rfl (fun _ => rfl)) (by omega) (by assumption)) rfl ?_); clear S a w; rintro _ _ ⟨A11, c11, A21, c21, rfl, rfl⟩ a w S; refine h_n1 S ?_)
    refine hy 10 S rfl (ys_ext (.t rfl) rfl) rfl fun a w S => hy 11 S rfl (ys_ext (.t rfl) rfl) rfl fun a w S => ?_
    (refine h_m0 (i := 12) rfl (by kernel_rfl) (op_stW S sizeOf37 (.t rfl) (.t rfl) (k := 4) rfl rfl rfl (by simp [Value.oneCell']) ?_); clear S a w; intro a w S; refine h_n1 S ?_)
    refine hy 13 S rfl (ys_assign (.t rfl)) rfl fun a w S => h_done (by kernel_rfl) (then_normal (hK1 _ _ (wp_ret (st_ret S (results2 S results87 (Rv.cell (k := 4) ⟨isAgg37, sizeOf37⟩ rfl rfl rfl) (Rv.tmp rfl)) ?_))))
    rotate_left
    (refine op_bslice1 S underlying35 inf58 rfl rfl rfl (.t rfl) rfl rfl rfl ?_; clear S a w; intro g5 a w S; refine h_n1 S ?_)
    (refine h_m (i := 5) rfl (by kernel_rfl) (op_extend _ (S.nil_ 58 _ Go.Fw.Dot.enc _) underlying35 underlying35 (.inr ⟨_, rfl⟩) inf58 rfl (k := 0) rfl (.t rfl) (.t rfl) (Src.sl (Sl.old S.wd h2) (by decide) Go.Fw.Dot.enc_len Go.Fw.Dot.enc_one) (by first | omega | (simp only [List.length_append, List.length_cons, List.length_nil]; omega) | (simp; omega)) rfl rfl rfl ?_); clear S a w; intro A1 cap1 a w S; refine h_n1 S ?_)
    simp only [List.nil_append] at S
    (refine h_m (i := 8) rfl (by kernel_rfl) (op_push S underlying35 inf58 rfl (k := 0) (j := 1) rfl (.t rfl) (.t rfl) rfl Go.Fw.Dot.mkEnc rfl rfl (by first | omega | (simp only [List.length_append, List.length_cons, List.length_nil]; omega)) rfl rfl rfl ?_); clear S a w; intro A2 cap2 a w S; refine h_n1 S ?_)
    (refine h_m (i := 9) rfl (by kernel_rfl) (op_calls S call150 (.cons (.t rfl) (.cons (.t rfl) .nil)) (c150 _ _ _ _ _ (by exact .old S.wd (by assumption)) (by exact Sl.of_own S.wd (k := 0) rfl (fun _ => rfl)) (by omega) (by assumption)) rfl ?_); clear S a w; rintro _ _ ⟨A11, c11, A21, c21, rfl, rfl⟩ a w S; refine h_n1 S ?_)
    refine hy 10 S rfl (ys_ext (.t rfl) rfl) rfl fun a w S => hy 11 S rfl (ys_ext (.t rfl) rfl) rfl fun a w S => ?_
    (refine h_m0 (i := 12) rfl (by kernel_rfl) (op_stW S sizeOf37 (.t rfl) (.t rfl) (k := 4) rfl rfl rfl (by simp [Value.oneCell']) ?_); clear S a w; intro a w S; refine h_n1 S ?_)
    refine hy 13 S rfl (ys_assign (.t rfl)) rfl fun a w S => h_done (by kernel_rfl) (then_normal (hK1 _ _ (wp_ret (st_ret S (results2 S results87 (Rv.cell (k := 4) ⟨isAgg37, sizeOf37⟩ rfl rfl rfl) (Rv.tmp rfl)) ?_))))
    rotate_left
    (refine op_bslice1 S underlying35 inf58 rfl rfl rfl (.t rfl) rfl rfl rfl ?_; clear S a w; intro g4 a w S; refine h_n1 S ?_)
    (refine h_m (i := 2) rfl (by kernel_rfl) (op_bslice0 S underlying35 sizeOf58 rfl ?_); clear S a w; intro g5 a w S; refine h_n1 S ?_)
    (refine h_m (i := 5) rfl (by kernel_rfl) (op_extend _ (S.nil_ 58 _ Go.Fw.Dot.enc _) underlying35 underlying35 (.inr ⟨_, rfl⟩) inf58 rfl (k := 0) rfl (.t rfl) (.t rfl) (Src.sl (Sl.old S.wd h2) (by decide) Go.Fw.Dot.enc_len Go.Fw.Dot.enc_one) (by first | omega | (simp only [List.length_append, List.length_cons, List.length_nil]; omega) | (simp; omega)) rfl rfl rfl ?_); clear S a w; intro A1 cap1 a w S; refine h_n1 S ?_)
    simp only [List.nil_append] at S
    (refine h_m (i := 8) rfl (by kernel_rfl) (op_push S underlying35 inf58 rfl (k := 0) (j := 1) rfl (.t rfl) (.t rfl) rfl Go.Fw.Dot.mkEnc rfl rfl (by first | omega | (simp only [List.length_append, List.length_cons, List.length_nil]; omega)) rfl rfl rfl ?_); clear S a w; intro A2 cap2 a w S; refine h_n1 S ?_)
    (refine h_m (i := 9) rfl (by kernel_rfl) (op_calls S call150 (.cons (.t rfl) (.cons (.t rfl) .nil)) (c150 _ _ _ _ _ (by exact .old S.wd (by assumption)) (by exact Sl.of_own S.wd (k := 0) rfl (fun _ => rfl)) (by omega) (by assumption)) rfl ?_); clear S a w; rintro _ _ ⟨A11, c11, A21, c21, rfl, rfl⟩ a w S; refine h_n1 S ?_)
    refine hy 10 S rfl (ys_ext (.t rfl) rfl) rfl fun a w S => hy 11 S rfl (ys_ext (.t rfl) rfl) rfl fun a w S => ?_
    (refine h_m0 (i := 12) rfl (by kernel_rfl) (op_stW S sizeOf37 (.t rfl) (.t rfl) (k := 4) rfl rfl rfl (by simp [Value.oneCell']) ?_); clear S a w; intro a w S; refine h_n1 S ?_)
    refine hy 13 S rfl (ys_assign (.t rfl)) rfl fun a w S => h_done (by kernel_rfl) (then_normal (hK1 _ _ (wp_ret (st_ret S (results2 S results87 (Rv.cell (k := 4) ⟨isAgg37, sizeOf37⟩ rfl rfl rfl) (Rv.tmp rfl)) ?_))))
    rotate_left
    all_goals rw [e]
    all_goals exact ⟨_, _, rfl, S.wd.sub (by repeat (first | exact List.Sublist.refl _ | exact List.nil_sublist _ | refine .cons_cons _ ?_ | refine .cons _ ?_)), _, _, _, _, rfl, rfl⟩
  | false =>
    unfold Go.Fw.Rets
    refine enter2 func87 rfl ntmps87 rfl fun a S => wp_seq_k fun _ hK1 => wp_region_lit (st_m (op_box S (.t rfl) rfl fun g1 a w S => st_m (op_box S (.t rfl) rfl fun g2 a w S => st_m (op_alloc S zeroValue37 (cs := _) rfl rfl fun g3 a w S => run S (.ac rfl <| .z) fun a w S => st_nil (then_normal (hK1 _ _ (wp_seq_k fun _ hK1 => wp_seq_k fun _ hK2 => wp_region_lit (run S (.la gt37 2 rfl rfl rfl <| .xx (ys_call call126 (.cons (.t rfl) .nil) (fun hp w W => c126 _ _ _ _ (by exact .old W (by assumption)))) rfl <| .z) fun a w S => ?_))))))))
    rw [rw_c] at S
    refine run S (.nt rfl <| .z) fun a w S => st_nil (then_normal (hK2 _ _ (st_then S (.t rfl) (wp_seq_k fun _ hK2 => wp_region_lit (run S (.yy (ys_bld (ps := []) (us := [_, _]) bld37 .nil rfl) rfl <| .z) fun a w S => st_m (op_stW S sizeOf37 (.t rfl) (.t rfl) (k := 0) rfl rfl rfl (by simp [Value.oneCell']) fun a w S => run S (.ac rfl <| .z) fun a w S => st_nil (then_normal (hK2 _ _ (wp_ret (then_ret (st_ret S (results2 S results87 (Rv.cell (k := 0) ⟨isAgg37, sizeOf37⟩ rfl rfl rfl) (Rv.tmp rfl)) ?_)))))))))))
    have e : addL C ⟨x, y, z⟩ = (⟨[], []⟩, 30) := by unfold addL; rw [rw_c]; rfl
    rw [e]
    exact ⟨_, _, rfl, ((S.nil_ 58 3 Dot.enc none).nil_ 122 3 Dot.enc none).wd.sub (by repeat (first | exact List.Sublist.refl _ | exact List.nil_sublist _ | refine .cons_cons _ ?_ | refine .cons _ ?_)), none, 0, none, 0, rfl, rfl⟩
end Go.Proofs.YtfblmkocmnbdcaaGreat
set_option linter.unusedVariables false
set_option linter.unusedSimpArgs false
set_option maxRecDepth 100000
set_option maxHeartbeats 4000000
namespace Go.Fw
theorem otherE_no {s : List UInt8} {l : List Ent} {k : Nat} {x : Ent} (h : l[k]? = some x) (hs : x.item = s) : otherE s (l.take (k + 1)) = otherE s (l.take k) := by
  rw [List.take_add_one, h, Option.toList_some]
  unfold otherE
  simp [hs]
theorem otherE_yes {s : List UInt8} {l : List Ent} {k : Nat} {x : Ent} (h : l[k]? = some x) (hs : x.item ≠ s) : otherE s (l.take (k + 1)) = otherE s (l.take k) ++ [x] := by
  rw [List.take_add_one, h, Option.toList_some]
  unfold otherE
  simp [hs]
theorem otherE_len (s : List UInt8) (l : List Ent) (k : Nat) : (otherE s (l.take k)).length ≤ l.length := by
  have h1 := List.length_filter_le (fun x : Ent => !decide (x.item = s)) (l.take k)
  have h2 : (l.take k).length ≤ l.length := by rw [List.length_take]; omega
  unfold otherE
  omega
end Go.Fw
namespace Go.Proofs.YtfblmkocmnbdcaaGreat
open Go.Fw Go.Proofs Go.RowKit Go.Proofs.Tryz
end Go.Proofs.YtfblmkocmnbdcaaGreat
set_option linter.unusedVariables false
set_option linter.unusedSimpArgs false
set_option maxRecDepth 100000
set_option maxHeartbeats 4000000
namespace Go.Proofs.YtfblmkocmnbdcaaGreat
open Go.Fw Go.Proofs Go.RowKit Go.Proofs.Tryz
theorem c30 (w0 : World) (u : Upd) (v1 v2 v3 : Value) (h : Sl Ent.enc 6 w0 w0.heap.size v1 u.seen.ents) (hr : RdCtx w0 w0.heap.size v2 v3 u.seen.ctx) :
    Rets Tryz.prog 30 #[.agg (Upd.enc u v1 v2 v3).toArray] w0 fun v L => ∃ A1 r1 A2 r2 A3 r3, v = .tuple #[.agg #[.slice A1 (applyU u).1.ents.length r1, .slice A2 (applyU u).1.ctx.marks.length r2, .slice A3 (applyU u).1.ctx.cloud.length r3], .int .i64 (applyU u).2] ∧
      L = [rowOf 71 6 Ent.enc A1 r1 (applyU u).1.ents, rowOf 122 3 Dot.enc A2 r2 (applyU u).1.ctx.marks, rowOf 58 3 Dot.enc A3 r3 (applyU u).1.ctx.cloud] := by
  have hs := h
  have hrr := hr
  obtain ⟨A, cap, rfl, hl, hcap, hA⟩ := h
  obtain ⟨⟨A2, cap2, rfl, _⟩, ⟨A3, cap3, rfl, _⟩⟩ := hr
  by_cases hm : mayE u = 0
  rotate_left
  · have rw_m : decide (mayE u = 0) = false := decide_eq_false hm
    have e : applyU u = (Cart.zero, mayE u) := by unfold applyU; rw [if_neg hm]
    unfold Go.Fw.Rets
    refine enter1 func30 rfl ntmps30 rfl fun a S => wp_seq_k fun _ hK1 => wp_region_lit (st_m (op_box S (.t rfl) rfl fun g1 a w S => st_m (op_alloc S zeroValue39 (cs := _) rfl rfl fun g2 a w S => run S (.ac rfl <| .z) fun a w S => st_nil (then_normal (hK1 _ _ (wp_seq_k fun _ hK1 => sg S (.la gt60 1 rfl rfl rfl <| .xx (ys_call call85 (.cons (.t rfl) .nil) (fun hp w W => c85 _ _ _ _ _ (by exact .old W (by assumption)) (by exact .old W (by assumption)))) rfl <| .as rfl <| .z) fun a w S => sg S (.mv rfl <| .yy (ys_T (by omega) (ys_neq (.t rfl) Ev.c)) rfl <| .z) fun a w S => st_then S (.t rfl) (wp_seq_k fun _ hK2 => wp_region_lit (run S (.yy (ys_bld (ps := []) (us := [_, _, _]) bld39 .nil rfl) rfl <| .mv rfl <| .z) fun a w S => st_m (op_stW S sizeOf39 (.t rfl) (.t rfl) (k := 0) rfl rfl rfl (by simp [Value.oneCell']) fun a w S => run S (.as rfl <| .z) fun a w S => st_nil (then_normal (hK2 _ _ (wp_ret (then_ret (st_ret S (results2 S results30 (Rv.cell (k := 0) ⟨isAgg39, sizeOf39⟩ rfl rfl rfl) (Rv.tmp rfl)) ?_))))))))))))))
    rw [e]
    exact ⟨_, _, rfl, (((S.nil_ 58 3 Dot.enc none).nil_ 122 3 Dot.enc none).nil_ 71 6 Ent.enc none).wd.sub (by repeat (first | exact List.Sublist.refl _ | exact List.nil_sublist _ | refine .cons_cons _ ?_ | refine .cons _ ?_)), none, 0, none, 0, none, 0, rfl, rfl⟩
  have hu := mayE_ok hm
  have hlen := hu.seen.len
  have rw_m := hm
  unfold Go.Fw.Rets
  refine enter1 func30 rfl ntmps30 rfl fun a S => wp_seq_k fun _ hK1 => wp_region_lit (st_m (op_box S (.t rfl) rfl fun g1 a w S => st_m (op_alloc S zeroValue39 (cs := _) rfl rfl fun g2 a w S => run S (.ac rfl <| .z) fun a w S => st_nil (then_normal (hK1 _ _ (wp_seq_k fun _ hK1 => wp_seq_k fun _ hK2 => wp_region_lit (run S (.la gt60 1 rfl rfl rfl <| .xx (ys_call call85 (.cons (.t rfl) .nil) (fun hp w W => c85 _ _ _ _ _ (by exact .old W (by assumption)) (by exact .old W (by assumption)))) rfl <| .z) fun a w S => ?_)))))))
  rw [rw_m] at S
  refine run S (.as rfl <| .z) fun a w S => st_nil (then_normal (hK2 _ _ (sg S (.mv rfl <| .yy (ys_F (by omega) (ys_neq (.t rfl) Ev.c)) rfl <| .z) fun a w S => st_else S (.t rfl) (wp_skip (then_normal (hK1 _ _ (wp_seq_k fun _ hK1 => wp_region_lit (st_m (op_alloc S zeroValue39 (cs := _) rfl rfl fun g3 a w S => st_nil (then_normal (hK1 _ _ (wp_seq_k fun _ hK1 => sg S (.fa underlying60 sizeOf39 7 rfl rfl rfl <| .fa underlying39 sizeOf33 7 rfl rfl rfl <| .ld gt33 2 rfl rfl rfl <| .ln underlying33 rfl <| .mc rfl <| .z) fun a w S => wp_block ?_))))))))))))
  have en : (addL u.seen.ctx u.dot).2 ≠ 0 → applyU u = (Cart.zero, (addL u.seen.ctx u.dot).2) := fun h => by unfold applyU; rw [if_pos hm, if_neg h]
  have ey : (addL u.seen.ctx u.dot).2 = 0 → applyU u = sizedC ⟨applyE u, (addL u.seen.ctx u.dot).1⟩ := fun h => by unfold applyU; rw [if_pos hm, if_pos h]
  refine st_lpM (S.nil_ 71 6 Ent.enc none) [20] (X := Nat × Option Addr × Nat) (fun q => [(20, true, .int .i64 (q.1 : Int))])
    (fun q => [rowOf 71 6 Ent.enc q.2.1 q.2.2 (otherE u.item (u.seen.ents.take q.1)), .blk g3 (.cells #[.slice q.2.1 (otherE u.item (u.seen.ents.take q.1)).length q.2.2, .slice none 0 0, .slice none 0 0] 39), .blk g2 (.cells #[.slice none 0 0, .slice none 0 0, .slice none 0 0] 39), .blk g1 (.cells (Upd.enc u (.slice A u.seen.ents.length cap) (.slice A2 u.seen.ctx.marks.length cap2) (.slice A3 u.seen.ctx.cloud.length cap3)).toArray 60)])
    (fun q => q.1 ≤ u.seen.ents.length) (fun q => u.seen.ents.length - q.1) (0, none, 0) (Nat.zero_le _) ?_
  clear S
  rintro ⟨k, B, cB⟩ a w hk S
  dsimp only at hk S
  have hol := otherE_len u.item u.seen.ents k
  by_cases hlt : k < u.seen.ents.length
  · obtain ⟨g, o, x, rfl, hx, hd, hc⟩ := row_at hA hlt
    by_cases hi : x.item = u.item
    · have rw_i : decide (x.item ≠ u.item) = false := decide_eq_false fun h => h hi
      have hst := otherE_no hx hi
      refine sg S (.lt (by omega) rfl rfl <| .z) fun a w S => wp_seq_k fun _ hK2 => st_then S (.t rfl) (wp_skip (then_normal (hK2 _ _ (wp_seq_k fun _ hK2 => wp_block (wp_seq_k fun _ hK3 => wp_region_lit (run S (.ix underlying33 sizeOf71 (by omega) rfl rfl <| .yy (ys_ldOA ⟨isAgg71, sizeOf71⟩ (.t rfl) (vs := [_, _, _, _, _, _]) rfl (fun _ => hc)) rfl <| .z) fun a w S => st_m (op_alloc S zeroValue71 (cs := _) rfl rfl fun g4 a w S => st_m (op_stW S sizeOf71 (.t rfl) (.t rfl) (k := 0) rfl rfl rfl (by simp [Value.oneCell']) fun a w S => st_nil (then_normal (hK3 _ _ (wp_seq_k fun _ hK3 => wp_region_lit (run S (.fa underlying71 sizeOf9 0 rfl rfl rfl <| .ld gt9 0 rfl rfl rfl <| .fa underlying60 sizeOf9 4 rfl rfl rfl <| .ld gt9 4 rfl rfl rfl <| .yy (ys_neqStr (.t rfl) (.t rfl)) rfl <| .z) fun a w S => ?_))))))))))))
      rw [rw_i] at S
      refine st_nil (then_normal (hK3 _ _ (st_else S (.t rfl) (wp_skip (in_normal (then_normal (hK2 _ _ (wp_region_lit (run S (.ad (by unfold I64; omega) rfl <| .mv rfl <| .z) fun a w S => st_nil (then_normal ?_))))))))))
      exact ⟨(k + 1, B, cB), by dsimp only; omega, by dsimp only; omega, by dsimp only; rw [hst]; exact S.pk⟩
    · have rw_i : decide (x.item ≠ u.item) = true := decide_eq_true hi
      have hst := otherE_yes hx hi
      refine sg S (.lt (by omega) rfl rfl <| .z) fun a w S => wp_seq_k fun _ hK2 => st_then S (.t rfl) (wp_skip (then_normal (hK2 _ _ (wp_seq_k fun _ hK2 => wp_block (wp_seq_k fun _ hK3 => wp_region_lit (run S (.ix underlying33 sizeOf71 (by omega) rfl rfl <| .yy (ys_ldOA ⟨isAgg71, sizeOf71⟩ (.t rfl) (vs := [_, _, _, _, _, _]) rfl (fun _ => hc)) rfl <| .z) fun a w S => st_m (op_alloc S zeroValue71 (cs := _) rfl rfl fun g4 a w S => st_m (op_stW S sizeOf71 (.t rfl) (.t rfl) (k := 0) rfl rfl rfl (by simp [Value.oneCell']) fun a w S => st_nil (then_normal (hK3 _ _ (wp_seq_k fun _ hK3 => wp_region_lit (run S (.fa underlying71 sizeOf9 0 rfl rfl rfl <| .ld gt9 0 rfl rfl rfl <| .fa underlying60 sizeOf9 4 rfl rfl rfl <| .ld gt9 4 rfl rfl rfl <| .yy (ys_neqStr (.t rfl) (.t rfl)) rfl <| .z) fun a w S => ?_))))))))))))
      rw [rw_i] at S
      refine st_nil (then_normal (hK3 _ _ (st_then S (.t rfl) (wp_region_lit (run S (.fa underlying39 sizeOf33 0 rfl rfl rfl <| .ld gt33 2 rfl rfl rfl <| .la gt71 0 rfl rfl rfl <| .z) fun a w S => st_m (op_bslice1 S underlying33 inf71 rfl rfl rfl (.t rfl) rfl rfl rfl fun g5 a w S => st_m (op_push S underlying33 inf71 rfl (k := 2) (j := 0) rfl (.t rfl) (.t rfl) rfl rfl rfl rfl (by first | omega | (simp only [List.length_append, List.length_cons, List.length_nil]; omega)) rfl rfl rfl fun A1 cap1 a w S => run S (.fa underlying39 sizeOf33 0 rfl rfl rfl <| .z) fun a w S => st_m (op_st S sizeOf33 (.t rfl) (.t rfl) (k := 3) rfl rfl (by simp) fun a w S => st_nil (in_normal (then_normal (hK2 _ _ (wp_region_lit (run S (.ad (by unfold I64; omega) rfl <| .mv rfl <| .z) fun a w S => st_nil (then_normal ?_))))))))))))))
      exact ⟨(k + 1, A1, cap1), by dsimp only; omega, by dsimp only; omega, by dsimp only; rw [hst]; exact S.pk⟩
  · obtain rfl : k = u.seen.ents.length := by omega
    rw [List.take_length] at S hol
    have hal := applyE_len hu
    by_cases hq : 0 < u.qty
    · have rw_q : decide (0 < u.qty) = true := decide_eq_true hq
      have rw_ue : #[Value.string (bs u.item), Value.int .i64 u.dot.node, Value.int .i64 u.dot.life, Value.int .i64 u.dot.count, Value.int .i64 u.qty, Value.int .u64 (u.price.toNat : Int)] = (Ent.enc u.ent).toArray := rfl
      have rw_hae : insE u.ent (otherE u.item u.seen.ents) = applyE u := by unfold applyE; rw [if_pos hq]
      by_cases hd : (addL u.seen.ctx u.dot).2 = 0
      rotate_left
      · have rw_d : decide ((addL u.seen.ctx ⟨u.dot.node, u.dot.life, u.dot.count⟩).2 = 0) = false := decide_eq_false hd
        have e := en hd
        refine sg S (.ge (by omega) rfl rfl <| .z) fun a w S => wp_seq_k fun _ hK2 => st_else S (.t rfl) (wp_exit (then_exit (then_exit (in_here (then_normal (hK1 _ _ (wp_seq_k fun _ hK1 => sg S (.fa underlying60 sizeOf3 5 rfl rfl rfl <| .ld gt3 3 rfl rfl rfl <| .yy (ys_T (by omega) (ys_gtr (.t rfl) Ev.c)) rfl <| .z) fun a w S => st_then S (.t rfl) (wp_region_lit (run S (.fa underlying39 sizeOf33 0 rfl rfl rfl <| .ld gt33 1 rfl rfl rfl <| .fa underlying60 sizeOf9 4 rfl rfl rfl <| .ld gt9 3 rfl rfl rfl <| .fa underlying60 sizeOf58 1 rfl rfl rfl <| .la gt58 3 rfl rfl rfl <| .fa underlying60 sizeOf3 5 rfl rfl rfl <| .ld gt3 3 rfl rfl rfl <| .fa underlying60 sizeOf27 6 rfl rfl rfl <| .ld gt27 3 rfl rfl rfl <| .yy (ys_bld (ps := [(0, Go.Operand.tmp 42), (1, Go.Operand.tmp 44), (2, Go.Operand.tmp 46), (3, Go.Operand.tmp 48)]) (us := [_, _, _, _, _, _]) bld71 (.cons (.t rfl) (.cons (.t rfl) (.cons (.t rfl) (.cons (.t rfl) .nil)))) rfl) rfl <| .z) fun a w S => ?_)))))))))
        rw [rw_ue] at S
        (refine st_m (op_calls S call86 (.cons (.t rfl) (.cons (.t rfl) .nil)) (c86 _ _ _ _ (by exact Sl.of_own S.wd (k := 0) rfl (fun _ => rfl)) (by omega)) rfl ?_); clear S a w; rintro _ _ ⟨A11, r11, rfl, rfl⟩ a w S)
        rw [rw_ue] at S
        rw [rw_hae] at S
        refine run S (.fa underlying39 sizeOf33 0 rfl rfl rfl <| .z) fun a w S => ?_
        rw [rw_ue] at S
        refine st_m (op_st S sizeOf33 (.t rfl) (.t rfl) (k := 2) rfl rfl (by simp) fun a w S => ?_)
        rw [rw_ue] at S
        refine st_nil ?_
        rw [rw_ue] at S
        refine then_normal (hK1 _ _ ?_)
        rw [rw_ue] at S
        refine wp_seq_k fun _ hK1 => ?_
        rw [rw_ue] at S
        refine wp_region_lit ?_
        rw [rw_ue] at S
        refine run S (.fa underlying60 sizeOf39 7 rfl rfl rfl <| .z) fun a w S => ?_
        rw [rw_ue] at S
        refine run S (.fa underlying39 sizeOf37 8 rfl rfl rfl <| .z) fun a w S => ?_
        rw [rw_ue] at S
        refine run S (.la gt37 4 rfl rfl rfl <| .z) fun a w S => ?_
        rw [rw_ue] at S
        refine run S (.fa underlying60 sizeOf58 1 rfl rfl rfl <| .z) fun a w S => ?_
        rw [rw_ue] at S
        refine run S (.la gt58 4 rfl rfl rfl <| .z) fun a w S => ?_
        rw [rw_ue] at S
        (refine st_m (op_calls S call87 (.cons (.t rfl) (.cons (.t rfl) .nil)) (c87 _ _ _ _ _ _ _ (by exact .old S.wd (by assumption))) rfl ?_); clear S a w; rintro _ _ ⟨A12, r12, A21, r21, rfl, rfl⟩ a w S)
        rw [rw_ue] at S
        refine run S (.mv rfl <| .z) fun a w S => ?_
        rw [rw_ue] at S
        refine run S (.ex rfl rfl <| .z) fun a w S => ?_
        rw [rw_ue] at S
        refine run S (.ex rfl rfl <| .z) fun a w S => ?_
        rw [rw_ue] at S
        refine st_m (op_alloc S zeroValue37 (cs := _) rfl rfl fun g4 a w S => ?_)
        rw [rw_ue] at S
        refine st_m (op_stW S sizeOf37 (.t rfl) (.t rfl) (k := 0) rfl rfl rfl (by simp [Value.oneCell']) fun a w S => ?_)
        rw [rw_ue] at S
        refine run S (.as rfl <| .z) fun a w S => ?_
        rw [rw_ue] at S
        refine st_nil ?_
        rw [rw_ue] at S
        refine then_normal (hK1 _ _ ?_)
        rw [rw_ue] at S
        refine wp_seq_k fun _ hK1 => ?_
        rw [rw_ue] at S
        refine wp_seq_k fun _ hK3 => ?_
        rw [rw_ue] at S
        refine wp_region_lit ?_
        rw [rw_ue] at S
        refine run S (.mv rfl <| .z) fun a w S => ?_
        rw [rw_ue] at S
        refine run S (.yy (ys_T (by omega) (ys_neq (.t rfl) Ev.c)) rfl <| .z) fun a w S => ?_
        rw [rw_ue] at S
        refine st_nil ?_
        rw [rw_ue] at S
        refine then_normal (hK3 _ _ ?_)
        rw [rw_ue] at S
        refine st_then S (.t rfl) ?_
        rw [rw_ue] at S
        refine wp_seq_k fun _ hK3 => ?_
        rw [rw_ue] at S
        refine wp_region_lit ?_
        rw [rw_ue] at S
        refine run S (.yy (ys_bld (ps := []) (us := [_, _, _]) bld39 .nil rfl) rfl <| .z) fun a w S => ?_
        rw [rw_ue] at S
        refine run S (.mv rfl <| .z) fun a w S => ?_
        rw [rw_ue] at S
        refine st_m (op_stW S sizeOf39 (.t rfl) (.t rfl) (k := 6) rfl rfl rfl (by simp [Value.oneCell']) fun a w S => ?_)
        rw [rw_ue] at S
        refine run S (.as rfl <| .z) fun a w S => ?_
        rw [rw_ue] at S
        refine st_nil ?_
        rw [rw_ue] at S
        refine then_normal (hK3 _ _ ?_)
        rw [rw_ue] at S
        refine wp_ret ?_
        rw [rw_ue] at S
        refine then_ret ?_
        rw [rw_ue] at S
        refine st_ret S (results2 S results30 (Rv.cell (k := 6) ⟨isAgg39, sizeOf39⟩ rfl rfl rfl) (Rv.tmp rfl)) ?_
        rw [rw_ue] at S
        rw [e]
        exact ⟨_, _, rfl, (((S.nil_ 58 3 Dot.enc none).nil_ 122 3 Dot.enc none).nil_ 71 6 Ent.enc none).wd.sub (by repeat (first | exact List.Sublist.refl _ | exact List.nil_sublist _ | refine .cons_cons _ ?_ | refine .cons _ ?_)), none, 0, none, 0, none, 0, rfl, rfl⟩
      have rw_d : (addL u.seen.ctx ⟨u.dot.node, u.dot.life, u.dot.count⟩).2 = 0 := hd
      by_cases hbig : 64 < (applyE u).length ∨ 32 < itemsN (applyE u)
      · have rw_b : ∀ x y : Value, (if 64 < (applyE u).length ∨ 32 < itemsN (applyE u) then x else y) = x := fun _ _ => if_pos hbig
        have e : applyU u = (Cart.zero, 51) := by rw [ey hd]; unfold sizedC; exact if_pos hbig
        refine sg S (.ge (by omega) rfl rfl <| .z) fun a w S => wp_seq_k fun _ hK2 => st_else S (.t rfl) (wp_exit (then_exit (then_exit (in_here (then_normal (hK1 _ _ (wp_seq_k fun _ hK1 => sg S (.fa underlying60 sizeOf3 5 rfl rfl rfl <| .ld gt3 3 rfl rfl rfl <| .yy (ys_T (by omega) (ys_gtr (.t rfl) Ev.c)) rfl <| .z) fun a w S => st_then S (.t rfl) (wp_region_lit (run S (.fa underlying39 sizeOf33 0 rfl rfl rfl <| .ld gt33 1 rfl rfl rfl <| .fa underlying60 sizeOf9 4 rfl rfl rfl <| .ld gt9 3 rfl rfl rfl <| .fa underlying60 sizeOf58 1 rfl rfl rfl <| .la gt58 3 rfl rfl rfl <| .fa underlying60 sizeOf3 5 rfl rfl rfl <| .ld gt3 3 rfl rfl rfl <| .fa underlying60 sizeOf27 6 rfl rfl rfl <| .ld gt27 3 rfl rfl rfl <| .yy (ys_bld (ps := [(0, Go.Operand.tmp 42), (1, Go.Operand.tmp 44), (2, Go.Operand.tmp 46), (3, Go.Operand.tmp 48)]) (us := [_, _, _, _, _, _]) bld71 (.cons (.t rfl) (.cons (.t rfl) (.cons (.t rfl) (.cons (.t rfl) .nil)))) rfl) rfl <| .z) fun a w S => ?_)))))))))
        rw [rw_ue] at S
        (refine st_m (op_calls S call86 (.cons (.t rfl) (.cons (.t rfl) .nil)) (c86 _ _ _ _ (by exact Sl.of_own S.wd (k := 0) rfl (fun _ => rfl)) (by omega)) rfl ?_); clear S a w; rintro _ _ ⟨A11, r11, rfl, rfl⟩ a w S)
        rw [rw_ue] at S
        rw [rw_hae] at S
        refine run S (.fa underlying39 sizeOf33 0 rfl rfl rfl <| .z) fun a w S => ?_
        rw [rw_ue] at S
        refine st_m (op_st S sizeOf33 (.t rfl) (.t rfl) (k := 2) rfl rfl (by simp) fun a w S => ?_)
        rw [rw_ue] at S
        refine st_nil ?_
        rw [rw_ue] at S
        refine then_normal (hK1 _ _ ?_)
        rw [rw_ue] at S
        refine wp_seq_k fun _ hK1 => ?_
        rw [rw_ue] at S
        refine wp_region_lit ?_
        rw [rw_ue] at S
        refine run S (.fa underlying60 sizeOf39 7 rfl rfl rfl <| .z) fun a w S => ?_
        rw [rw_ue] at S
        refine run S (.fa underlying39 sizeOf37 8 rfl rfl rfl <| .z) fun a w S => ?_
        rw [rw_ue] at S
        refine run S (.la gt37 4 rfl rfl rfl <| .z) fun a w S => ?_
        rw [rw_ue] at S
        refine run S (.fa underlying60 sizeOf58 1 rfl rfl rfl <| .z) fun a w S => ?_
        rw [rw_ue] at S
        refine run S (.la gt58 4 rfl rfl rfl <| .z) fun a w S => ?_
        rw [rw_ue] at S
        (refine st_m (op_calls S call87 (.cons (.t rfl) (.cons (.t rfl) .nil)) (c87 _ _ _ _ _ _ _ (by exact .old S.wd (by assumption))) rfl ?_); clear S a w; rintro _ _ ⟨A12, r12, A21, r21, rfl, rfl⟩ a w S)
        rw [rw_ue] at S
        rw [rw_d] at S
        refine run S (.mv rfl <| .z) fun a w S => ?_
        rw [rw_ue] at S
        refine run S (.ex rfl rfl <| .z) fun a w S => ?_
        rw [rw_ue] at S
        refine run S (.ex rfl rfl <| .z) fun a w S => ?_
        rw [rw_ue] at S
        refine st_m (op_alloc S zeroValue37 (cs := _) rfl rfl fun g4 a w S => ?_)
        rw [rw_ue] at S
        refine st_m (op_stW S sizeOf37 (.t rfl) (.t rfl) (k := 0) rfl rfl rfl (by simp [Value.oneCell']) fun a w S => ?_)
        rw [rw_ue] at S
        refine run S (.as rfl <| .z) fun a w S => ?_
        rw [rw_ue] at S
        refine st_nil ?_
        rw [rw_ue] at S
        refine then_normal (hK1 _ _ ?_)
        rw [rw_ue] at S
        refine wp_seq_k fun _ hK1 => ?_
        rw [rw_ue] at S
        refine wp_seq_k fun _ hK3 => ?_
        rw [rw_ue] at S
        refine wp_region_lit ?_
        rw [rw_ue] at S
        refine run S (.mv rfl <| .z) fun a w S => ?_
        rw [rw_ue] at S
        refine run S (.yy (ys_F (by omega) (ys_neq (.t rfl) Ev.c)) rfl <| .z) fun a w S => ?_
        rw [rw_ue] at S
        refine st_nil ?_
        rw [rw_ue] at S
        refine then_normal (hK3 _ _ ?_)
        rw [rw_ue] at S
        refine st_else S (.t rfl) ?_
        rw [rw_ue] at S
        refine wp_skip ?_
        rw [rw_ue] at S
        refine then_normal (hK1 _ _ ?_)
        rw [rw_ue] at S
        refine wp_seq_k fun _ hK1 => ?_
        rw [rw_ue] at S
        refine wp_region_lit ?_
        rw [rw_ue] at S
        refine run S (.la gt37 0 rfl rfl rfl <| .z) fun a w S => ?_
        rw [rw_ue] at S
        refine run S (.fa underlying39 sizeOf37 1 rfl rfl rfl <| .z) fun a w S => ?_
        rw [rw_ue] at S
        refine st_m (op_stA S sizeOf37 (.t rfl) (.t rfl) (k := 5) rfl rfl (by simp [Value.oneCell']) (by simp) fun a w S => ?_)
        rw [rw_ue] at S
        refine st_nil ?_
        rw [rw_ue] at S
        refine then_normal (hK1 _ _ ?_)
        rw [rw_ue] at S
        refine wp_seq_k fun _ hK1 => ?_
        rw [rw_ue] at S
        refine wp_region_lit ?_
        rw [rw_ue] at S
        refine run S (.la gt39 5 rfl rfl rfl <| .z) fun a w S => ?_
        rw [rw_ue] at S
        refine run S (.xx (ys_call call88 (.cons (.t rfl) .nil) (fun hp w W => c88 _ _ _ _ _ _ _ _ _ (by exact Sl.of_own W (k := 3) rfl (fun _ => rfl)) (by omega))) rfl <| .z) fun a w S => ?_
        rw [rw_ue] at S
        rw [rw_b] at S
        refine run S (.ex rfl rfl <| .z) fun a w S => ?_
        rw [rw_ue] at S
        refine run S (.ex rfl rfl <| .z) fun a w S => ?_
        rw [rw_ue] at S
        refine st_m (op_stW S sizeOf39 (.t rfl) (.t rfl) (k := 6) rfl rfl rfl (by simp [Value.oneCell']) fun a w S => ?_)
        rw [rw_ue] at S
        refine run S (.as rfl <| .z) fun a w S => ?_
        rw [rw_ue] at S
        refine st_nil ?_
        rw [rw_ue] at S
        refine then_normal (hK1 _ _ ?_)
        rw [rw_ue] at S
        refine wp_ret ?_
        rw [rw_ue] at S
        refine st_ret S (results2 S results30 (Rv.cell (k := 6) ⟨isAgg39, sizeOf39⟩ rfl rfl rfl) (Rv.tmp rfl)) ?_
        rw [rw_ue] at S
        rw [e]
        exact ⟨_, _, rfl, (((S.nil_ 58 3 Dot.enc none).nil_ 122 3 Dot.enc none).nil_ 71 6 Ent.enc none).wd.sub (by repeat (first | exact List.Sublist.refl _ | exact List.nil_sublist _ | refine .cons_cons _ ?_ | refine .cons _ ?_)), none, 0, none, 0, none, 0, rfl, rfl⟩
      · have rw_b : ∀ x y : Value, (if 64 < (applyE u).length ∨ 32 < itemsN (applyE u) then x else y) = y := fun _ _ => if_neg hbig
        have e : applyU u = (⟨applyE u, (addL u.seen.ctx u.dot).1⟩, 0) := by rw [ey hd]; unfold sizedC; exact if_neg hbig
        refine sg S (.ge (by omega) rfl rfl <| .z) fun a w S => wp_seq_k fun _ hK2 => st_else S (.t rfl) (wp_exit (then_exit (then_exit (in_here (then_normal (hK1 _ _ (wp_seq_k fun _ hK1 => sg S (.fa underlying60 sizeOf3 5 rfl rfl rfl <| .ld gt3 3 rfl rfl rfl <| .yy (ys_T (by omega) (ys_gtr (.t rfl) Ev.c)) rfl <| .z) fun a w S => st_then S (.t rfl) (wp_region_lit (run S (.fa underlying39 sizeOf33 0 rfl rfl rfl <| .ld gt33 1 rfl rfl rfl <| .fa underlying60 sizeOf9 4 rfl rfl rfl <| .ld gt9 3 rfl rfl rfl <| .fa underlying60 sizeOf58 1 rfl rfl rfl <| .la gt58 3 rfl rfl rfl <| .fa underlying60 sizeOf3 5 rfl rfl rfl <| .ld gt3 3 rfl rfl rfl <| .fa underlying60 sizeOf27 6 rfl rfl rfl <| .ld gt27 3 rfl rfl rfl <| .yy (ys_bld (ps := [(0, Go.Operand.tmp 42), (1, Go.Operand.tmp 44), (2, Go.Operand.tmp 46), (3, Go.Operand.tmp 48)]) (us := [_, _, _, _, _, _]) bld71 (.cons (.t rfl) (.cons (.t rfl) (.cons (.t rfl) (.cons (.t rfl) .nil)))) rfl) rfl <| .z) fun a w S => ?_)))))))))
        rw [rw_ue] at S
        (refine st_m (op_calls S call86 (.cons (.t rfl) (.cons (.t rfl) .nil)) (c86 _ _ _ _ (by exact Sl.of_own S.wd (k := 0) rfl (fun _ => rfl)) (by omega)) rfl ?_); clear S a w; rintro _ _ ⟨A11, r11, rfl, rfl⟩ a w S)
        rw [rw_ue] at S
        rw [rw_hae] at S
        refine run S (.fa underlying39 sizeOf33 0 rfl rfl rfl <| .z) fun a w S => ?_
        rw [rw_ue] at S
        refine st_m (op_st S sizeOf33 (.t rfl) (.t rfl) (k := 2) rfl rfl (by simp) fun a w S => ?_)
        rw [rw_ue] at S
        refine st_nil ?_
        rw [rw_ue] at S
        refine then_normal (hK1 _ _ ?_)
        rw [rw_ue] at S
        refine wp_seq_k fun _ hK1 => ?_
        rw [rw_ue] at S
        refine wp_region_lit ?_
        rw [rw_ue] at S
        refine run S (.fa underlying60 sizeOf39 7 rfl rfl rfl <| .z) fun a w S => ?_
        rw [rw_ue] at S
        refine run S (.fa underlying39 sizeOf37 8 rfl rfl rfl <| .z) fun a w S => ?_
        rw [rw_ue] at S
        refine run S (.la gt37 4 rfl rfl rfl <| .z) fun a w S => ?_
        rw [rw_ue] at S
        refine run S (.fa underlying60 sizeOf58 1 rfl rfl rfl <| .z) fun a w S => ?_
        rw [rw_ue] at S
        refine run S (.la gt58 4 rfl rfl rfl <| .z) fun a w S => ?_
        rw [rw_ue] at S
        (refine st_m (op_calls S call87 (.cons (.t rfl) (.cons (.t rfl) .nil)) (c87 _ _ _ _ _ _ _ (by exact .old S.wd (by assumption))) rfl ?_); clear S a w; rintro _ _ ⟨A12, r12, A21, r21, rfl, rfl⟩ a w S)
        rw [rw_ue] at S
        rw [rw_d] at S
        refine run S (.mv rfl <| .z) fun a w S => ?_
        rw [rw_ue] at S
        refine run S (.ex rfl rfl <| .z) fun a w S => ?_
        rw [rw_ue] at S
        refine run S (.ex rfl rfl <| .z) fun a w S => ?_
        rw [rw_ue] at S
        refine st_m (op_alloc S zeroValue37 (cs := _) rfl rfl fun g4 a w S => ?_)
        rw [rw_ue] at S
        refine st_m (op_stW S sizeOf37 (.t rfl) (.t rfl) (k := 0) rfl rfl rfl (by simp [Value.oneCell']) fun a w S => ?_)
        rw [rw_ue] at S
        refine run S (.as rfl <| .z) fun a w S => ?_
        rw [rw_ue] at S
        refine st_nil ?_
        rw [rw_ue] at S
        refine then_normal (hK1 _ _ ?_)
        rw [rw_ue] at S
        refine wp_seq_k fun _ hK1 => ?_
        rw [rw_ue] at S
        refine wp_seq_k fun _ hK3 => ?_
        rw [rw_ue] at S
        refine wp_region_lit ?_
        rw [rw_ue] at S
        refine run S (.mv rfl <| .z) fun a w S => ?_
        rw [rw_ue] at S
        refine run S (.yy (ys_F (by omega) (ys_neq (.t rfl) Ev.c)) rfl <| .z) fun a w S => ?_
        rw [rw_ue] at S
        refine st_nil ?_
        rw [rw_ue] at S
        refine then_normal (hK3 _ _ ?_)
        rw [rw_ue] at S
        refine st_else S (.t rfl) ?_
        rw [rw_ue] at S
        refine wp_skip ?_
        rw [rw_ue] at S
        refine then_normal (hK1 _ _ ?_)
        rw [rw_ue] at S
        refine wp_seq_k fun _ hK1 => ?_
        rw [rw_ue] at S
        refine wp_region_lit ?_
        rw [rw_ue] at S
        refine run S (.la gt37 0 rfl rfl rfl <| .z) fun a w S => ?_
        rw [rw_ue] at S
        refine run S (.fa underlying39 sizeOf37 1 rfl rfl rfl <| .z) fun a w S => ?_
        rw [rw_ue] at S
        refine st_m (op_stA S sizeOf37 (.t rfl) (.t rfl) (k := 5) rfl rfl (by simp [Value.oneCell']) (by simp) fun a w S => ?_)
        rw [rw_ue] at S
        refine st_nil ?_
        rw [rw_ue] at S
        refine then_normal (hK1 _ _ ?_)
        rw [rw_ue] at S
        refine wp_seq_k fun _ hK1 => ?_
        rw [rw_ue] at S
        refine wp_region_lit ?_
        rw [rw_ue] at S
        refine run S (.la gt39 5 rfl rfl rfl <| .z) fun a w S => ?_
        rw [rw_ue] at S
        refine run S (.xx (ys_call call88 (.cons (.t rfl) .nil) (fun hp w W => c88 _ _ _ _ _ _ _ _ _ (by exact Sl.of_own W (k := 3) rfl (fun _ => rfl)) (by omega))) rfl <| .z) fun a w S => ?_
        rw [rw_ue] at S
        rw [rw_b] at S
        refine run S (.ex rfl rfl <| .z) fun a w S => ?_
        rw [rw_ue] at S
        refine run S (.ex rfl rfl <| .z) fun a w S => ?_
        rw [rw_ue] at S
        refine st_m (op_stW S sizeOf39 (.t rfl) (.t rfl) (k := 6) rfl rfl rfl (by simp [Value.oneCell']) fun a w S => ?_)
        rw [rw_ue] at S
        refine run S (.as rfl <| .z) fun a w S => ?_
        rw [rw_ue] at S
        refine st_nil ?_
        rw [rw_ue] at S
        refine then_normal (hK1 _ _ ?_)
        rw [rw_ue] at S
        refine wp_ret ?_
        rw [rw_ue] at S
        refine st_ret S (results2 S results30 (Rv.cell (k := 6) ⟨isAgg39, sizeOf39⟩ rfl rfl rfl) (Rv.tmp rfl)) ?_
        rw [rw_ue] at S
        rw [e]
        exact ⟨_, _, rfl, S.wd.pk, _, _, _, _, _, _, rfl, rfl⟩
    · have rw_q : decide (0 < u.qty) = false := decide_eq_false hq
      have hae : otherE u.item u.seen.ents = applyE u := by unfold applyE; rw [if_neg hq]
      rw [hae] at S
      by_cases hd : (addL u.seen.ctx u.dot).2 = 0
      rotate_left
      · have rw_d : decide ((addL u.seen.ctx ⟨u.dot.node, u.dot.life, u.dot.count⟩).2 = 0) = false := decide_eq_false hd
        have e := en hd
        refine sg S (.ge (by omega) rfl rfl <| .z) fun a w S => wp_seq_k fun _ hK2 => st_else S (.t rfl) (wp_exit (then_exit (then_exit (in_here (then_normal (hK1 _ _ (wp_seq_k fun _ hK1 => sg S (.fa underlying60 sizeOf3 5 rfl rfl rfl <| .ld gt3 3 rfl rfl rfl <| .yy (ys_F (by omega) (ys_gtr (.t rfl) Ev.c)) rfl <| .z) fun a w S => st_else S (.t rfl) (wp_skip (then_normal (hK1 _ _ (wp_seq_k fun _ hK1 => wp_region_lit (run S (.fa underlying60 sizeOf39 7 rfl rfl rfl <| .fa underlying39 sizeOf37 8 rfl rfl rfl <| .la gt37 3 rfl rfl rfl <| .fa underlying60 sizeOf58 1 rfl rfl rfl <| .la gt58 3 rfl rfl rfl <| .z) fun a w S => ?_))))))))))))
        (refine st_m (op_calls S call87 (.cons (.t rfl) (.cons (.t rfl) .nil)) (c87 _ _ _ _ _ _ _ (by exact .old S.wd (by assumption))) rfl ?_); clear S a w; rintro _ _ ⟨A11, r11, A21, r21, rfl, rfl⟩ a w S)
        refine run S (.mv rfl <| .ex rfl rfl <| .ex rfl rfl <| .z) fun a w S => st_m (op_alloc S zeroValue37 (cs := _) rfl rfl fun g4 a w S => st_m (op_stW S sizeOf37 (.t rfl) (.t rfl) (k := 0) rfl rfl rfl (by simp [Value.oneCell']) fun a w S => run S (.as rfl <| .z) fun a w S => st_nil (then_normal (hK1 _ _ (wp_seq_k fun _ hK1 => sg S (.mv rfl <| .yy (ys_T (by omega) (ys_neq (.t rfl) Ev.c)) rfl <| .z) fun a w S => st_then S (.t rfl) (wp_seq_k fun _ hK3 => wp_region_lit (run S (.yy (ys_bld (ps := []) (us := [_, _, _]) bld39 .nil rfl) rfl <| .mv rfl <| .z) fun a w S => st_m (op_stW S sizeOf39 (.t rfl) (.t rfl) (k := 5) rfl rfl rfl (by simp [Value.oneCell']) fun a w S => run S (.as rfl <| .z) fun a w S => st_nil (then_normal (hK3 _ _ (wp_ret (then_ret (st_ret S (results2 S results30 (Rv.cell (k := 5) ⟨isAgg39, sizeOf39⟩ rfl rfl rfl) (Rv.tmp rfl)) ?_)))))))))))))
        rw [e]
        exact ⟨_, _, rfl, (((S.nil_ 58 3 Dot.enc none).nil_ 122 3 Dot.enc none).nil_ 71 6 Ent.enc none).wd.sub (by repeat (first | exact List.Sublist.refl _ | exact List.nil_sublist _ | refine .cons_cons _ ?_ | refine .cons _ ?_)), none, 0, none, 0, none, 0, rfl, rfl⟩
      have rw_d : (addL u.seen.ctx ⟨u.dot.node, u.dot.life, u.dot.count⟩).2 = 0 := hd
      by_cases hbig : 64 < (applyE u).length ∨ 32 < itemsN (applyE u)
      · have rw_b : ∀ x y : Value, (if 64 < (applyE u).length ∨ 32 < itemsN (applyE u) then x else y) = x := fun _ _ => if_pos hbig
        have e : applyU u = (Cart.zero, 51) := by rw [ey hd]; unfold sizedC; exact if_pos hbig
        refine sg S (.ge (by omega) rfl rfl <| .z) fun a w S => wp_seq_k fun _ hK2 => st_else S (.t rfl) (wp_exit (then_exit (then_exit (in_here (then_normal (hK1 _ _ (wp_seq_k fun _ hK1 => sg S (.fa underlying60 sizeOf3 5 rfl rfl rfl <| .ld gt3 3 rfl rfl rfl <| .yy (ys_F (by omega) (ys_gtr (.t rfl) Ev.c)) rfl <| .z) fun a w S => st_else S (.t rfl) (wp_skip (then_normal (hK1 _ _ (wp_seq_k fun _ hK1 => wp_region_lit (run S (.fa underlying60 sizeOf39 7 rfl rfl rfl <| .fa underlying39 sizeOf37 8 rfl rfl rfl <| .la gt37 3 rfl rfl rfl <| .fa underlying60 sizeOf58 1 rfl rfl rfl <| .la gt58 3 rfl rfl rfl <| .z) fun a w S => ?_))))))))))))
        (refine st_m (op_calls S call87 (.cons (.t rfl) (.cons (.t rfl) .nil)) (c87 _ _ _ _ _ _ _ (by exact .old S.wd (by assumption))) rfl ?_); clear S a w; rintro _ _ ⟨A11, r11, A21, r21, rfl, rfl⟩ a w S)
        rw [rw_d] at S
        refine run S (.mv rfl <| .ex rfl rfl <| .ex rfl rfl <| .z) fun a w S => st_m (op_alloc S zeroValue37 (cs := _) rfl rfl fun g4 a w S => st_m (op_stW S sizeOf37 (.t rfl) (.t rfl) (k := 0) rfl rfl rfl (by simp [Value.oneCell']) fun a w S => run S (.as rfl <| .z) fun a w S => st_nil (then_normal (hK1 _ _ (wp_seq_k fun _ hK1 => sg S (.mv rfl <| .yy (ys_F (by omega) (ys_neq (.t rfl) Ev.c)) rfl <| .z) fun a w S => st_else S (.t rfl) (wp_skip (then_normal (hK1 _ _ (wp_seq_k fun _ hK1 => wp_region_lit (run S (.la gt37 0 rfl rfl rfl <| .fa underlying39 sizeOf37 1 rfl rfl rfl <| .z) fun a w S => st_m (op_stA S sizeOf37 (.t rfl) (.t rfl) (k := 4) rfl rfl (by simp [Value.oneCell']) (by simp) fun a w S => st_nil (then_normal (hK1 _ _ (wp_seq_k fun _ hK1 => wp_region_lit (run S (.la gt39 4 rfl rfl rfl <| .xx (ys_call call88 (.cons (.t rfl) .nil) (fun hp w W => c88 _ _ _ _ _ _ _ _ _ (by exact Sl.of_own W (k := 3) rfl (fun _ => rfl)) (by omega))) rfl <| .z) fun a w S => ?_)))))))))))))))
        rw [rw_b] at S
        refine run S (.ex rfl rfl <| .ex rfl rfl <| .z) fun a w S => st_m (op_stW S sizeOf39 (.t rfl) (.t rfl) (k := 5) rfl rfl rfl (by simp [Value.oneCell']) fun a w S => run S (.as rfl <| .z) fun a w S => st_nil (then_normal (hK1 _ _ (wp_ret (st_ret S (results2 S results30 (Rv.cell (k := 5) ⟨isAgg39, sizeOf39⟩ rfl rfl rfl) (Rv.tmp rfl)) ?_)))))
        rw [e]
        exact ⟨_, _, rfl, (((S.nil_ 58 3 Dot.enc none).nil_ 122 3 Dot.enc none).nil_ 71 6 Ent.enc none).wd.sub (by repeat (first | exact List.Sublist.refl _ | exact List.nil_sublist _ | refine .cons_cons _ ?_ | refine .cons _ ?_)), none, 0, none, 0, none, 0, rfl, rfl⟩
      · have rw_b : ∀ x y : Value, (if 64 < (applyE u).length ∨ 32 < itemsN (applyE u) then x else y) = y := fun _ _ => if_neg hbig
        have e : applyU u = (⟨applyE u, (addL u.seen.ctx u.dot).1⟩, 0) := by rw [ey hd]; unfold sizedC; exact if_neg hbig
        refine sg S (.ge (by omega) rfl rfl <| .z) fun a w S => wp_seq_k fun _ hK2 => st_else S (.t rfl) (wp_exit (then_exit (then_exit (in_here (then_normal (hK1 _ _ (wp_seq_k fun _ hK1 => sg S (.fa underlying60 sizeOf3 5 rfl rfl rfl <| .ld gt3 3 rfl rfl rfl <| .yy (ys_F (by omega) (ys_gtr (.t rfl) Ev.c)) rfl <| .z) fun a w S => st_else S (.t rfl) (wp_skip (then_normal (hK1 _ _ (wp_seq_k fun _ hK1 => wp_region_lit (run S (.fa underlying60 sizeOf39 7 rfl rfl rfl <| .fa underlying39 sizeOf37 8 rfl rfl rfl <| .la gt37 3 rfl rfl rfl <| .fa underlying60 sizeOf58 1 rfl rfl rfl <| .la gt58 3 rfl rfl rfl <| .z) fun a w S => ?_))))))))))))
        (refine st_m (op_calls S call87 (.cons (.t rfl) (.cons (.t rfl) .nil)) (c87 _ _ _ _ _ _ _ (by exact .old S.wd (by assumption))) rfl ?_); clear S a w; rintro _ _ ⟨A11, r11, A21, r21, rfl, rfl⟩ a w S)
        rw [rw_d] at S
        refine run S (.mv rfl <| .ex rfl rfl <| .ex rfl rfl <| .z) fun a w S => st_m (op_alloc S zeroValue37 (cs := _) rfl rfl fun g4 a w S => st_m (op_stW S sizeOf37 (.t rfl) (.t rfl) (k := 0) rfl rfl rfl (by simp [Value.oneCell']) fun a w S => run S (.as rfl <| .z) fun a w S => st_nil (then_normal (hK1 _ _ (wp_seq_k fun _ hK1 => sg S (.mv rfl <| .yy (ys_F (by omega) (ys_neq (.t rfl) Ev.c)) rfl <| .z) fun a w S => st_else S (.t rfl) (wp_skip (then_normal (hK1 _ _ (wp_seq_k fun _ hK1 => wp_region_lit (run S (.la gt37 0 rfl rfl rfl <| .fa underlying39 sizeOf37 1 rfl rfl rfl <| .z) fun a w S => st_m (op_stA S sizeOf37 (.t rfl) (.t rfl) (k := 4) rfl rfl (by simp [Value.oneCell']) (by simp) fun a w S => st_nil (then_normal (hK1 _ _ (wp_seq_k fun _ hK1 => wp_region_lit (run S (.la gt39 4 rfl rfl rfl <| .xx (ys_call call88 (.cons (.t rfl) .nil) (fun hp w W => c88 _ _ _ _ _ _ _ _ _ (by exact Sl.of_own W (k := 3) rfl (fun _ => rfl)) (by omega))) rfl <| .z) fun a w S => ?_)))))))))))))))
        rw [rw_b] at S
        refine run S (.ex rfl rfl <| .ex rfl rfl <| .z) fun a w S => st_m (op_stW S sizeOf39 (.t rfl) (.t rfl) (k := 5) rfl rfl rfl (by simp [Value.oneCell']) fun a w S => run S (.as rfl <| .z) fun a w S => st_nil (then_normal (hK1 _ _ (wp_ret (st_ret S (results2 S results30 (Rv.cell (k := 5) ⟨isAgg39, sizeOf39⟩ rfl rfl rfl) (Rv.tmp rfl)) ?_)))))
        rw [e]
        exact ⟨_, _, rfl, S.wd.pk, _, _, _, _, _, _, rfl, rfl⟩
end Go.Proofs.YtfblmkocmnbdcaaGreat
set_option linter.unusedVariables false
set_option linter.unusedSimpArgs false
set_option maxRecDepth 100000
set_option maxHeartbeats 4000000
namespace Go.Fw
theorem filter_yes {α : Type} {p : α → Bool} {l : List α} {k : Nat} {x : α} (h : l[k]? = some x) (hp : p x = true) : (l.take (k + 1)).filter p = (l.take k).filter p ++ [x] := by
  rw [List.take_add_one, h, Option.toList_some]
  simp [hp]
theorem filter_no {α : Type} {p : α → Bool} {l : List α} {k : Nat} {x : α} (h : l[k]? = some x) (hp : p x = false) : (l.take (k + 1)).filter p = (l.take k).filter p := by
  rw [List.take_add_one, h, Option.toList_some]
  simp [hp]
theorem filter_take {α : Type} (p : α → Bool) (l : List α) (k : Nat) : ((l.take k).filter p).length ≤ l.length := by
  have h1 := List.length_filter_le p (l.take k)
  have h2 : (l.take k).length ≤ l.length := by rw [List.length_take]; omega
  omega
def stayB (b : Cart) (x : Ent) : Bool := decide (x ∈ b.ents) || !b.ctx.covers x.dot
def newB (a : Cart) (x : Ent) : Bool := !a.ctx.covers x.dot
theorem stays_filter (a b : Cart) : staysE a b = a.ents.filter (stayB b) := rfl
end Go.Fw
namespace Go.Proofs.YtfblmkocmnbdcaaGreat
open Go.Fw Go.Proofs Go.RowKit Go.Proofs.Tryz
end Go.Proofs.YtfblmkocmnbdcaaGreat
