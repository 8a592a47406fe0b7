/- Contracts and laws that the statement Tkt leans on, part 3. -/
import Derived.Test.YtfblmkocmnbdcaaTktK2
import Derived.WalkKit
import Derived.Below
import Derived.OrdersHeld
import Derived.Deep.Quiet
import Derived.Laws.StructEq
import Derived.Deep.MidRow
import Derived.Sort.Grow
set_option linter.unusedVariables false
set_option linter.unusedSimpArgs false
set_option maxRecDepth 100000
set_option maxHeartbeats 4000000
namespace Go.Fw
theorem can_covers {C : Ctx} (h : canL C = true) (d : Dot) : C.coversR d = C.covers d := (covers_eq (fun m hm => by
  have := may_lim ((can_nf h).mayC m hm)
  omega) d).symm
theorem items_step {l : List Ent} {k : Nat} {x : Ent} (hx : l[k]? = some x) : itemsN (l.take (k + 1)) = itemsN (l.take k) + if (l.take k).getLast?.map (·.item) = some x.item then 0 else 1 := by
  rw [List.take_add_one, hx, Option.toList_some]
  unfold itemsN
  rw [items_snoc]
  simp
theorem take_last {l : List Ent} {k : Nat} {p : Ent} (hp : l[k]? = some p) : (l.take (k + 1)).getLast? = some p := by
  rw [List.take_add_one, hp, Option.toList_some]
  simp
theorem ents_step {C : Ctx} {l : List Ent} {k : Nat} {x : Ent} (hx : l[k]? = some x) : entsE C (l.take k) (l.drop k) = if entE C (l.take k) x = 0 then entsE C (l.take (k + 1)) (l.drop (k + 1)) else entE C (l.take k) x := by
  have hlt : k < l.length := (List.getElem?_eq_some_iff.1 hx).1
  have e : l[k] = x := (List.getElem?_eq_some_iff.1 hx).2
  rw [List.drop_eq_getElem_cons hlt, e, entsE, List.take_add_one, hx, Option.toList_some]
theorem dup_at {l : List Ent} {k j : Nat} {y : Ent} (hj : j < k) (hy : l[j]? = some y) : y.dot ∈ (l.take k).map (·.dot) := by
  refine List.mem_map.2 ⟨y, List.mem_of_getElem? (i := j) ?_, rfl⟩
  rw [List.getElem?_take, if_pos hj, hy]
theorem dup_step {l : List Ent} {j : Nat} {y : Ent} {d : Dot} (hy : l[j]? = some y) (h : d ∉ (l.take j).map (·.dot)) (hne : y.dot ≠ d) : d ∉ (l.take (j + 1)).map (·.dot) := by
  rw [List.take_add_one, hy, Option.toList_some, List.map_append]
  intro hm
  rcases List.mem_append.1 hm with hm | hm
  · exact h hm
  · simp at hm
    exact hne hm.symm
end Go.Fw
namespace Go.Proofs.Ytfblmkocmnbdcaa
open Go.Fw Go.Proofs Go.RowKit Go.Proofs.Try
theorem c54 (w0 : World) (v : Value) (l : List Ent) (h : Sl Ent.enc 6 w0 w0.heap.size v l) (hn : l.length ≤ 4194304) :
    Calls Try.prog 54 #[v] w0 fun e w' => e = .returned (.int .i64 (itemsN l : Int)) ∧ Bel w0.heap.size w0 w' := by
  obtain ⟨A, cap, rfl, hl, hcap, hA⟩ := h
  refine enter1 func54 rfl ntmps54 rfl fun a S => sg S (.ac rfl <| .z) fun a w S => sg S (.ac rfl <| .z) fun a w S => wp_seq_k fun _ hK1 => sg S (.mv rfl <| .ln underlying34 rfl <| .mc rfl <| .z) fun a w S => wp_block ?_
  refine st_lpM S [3, 4, 5, 8] (X := Nat) (fun k => [(3, true, .int .i64 (itemsN (l.take k) : Int)), (8, true, .int .i64 (k : Int))]) (fun _ => []) (fun k => k ≤ l.length) (fun k => l.length - k) 0 (Nat.zero_le _) ?_
  clear S
  intro k a w hk S
  by_cases hlt : k < l.length
  · obtain ⟨g, o, x, rfl, hx, hd, hc⟩ := row_at hA hlt
    have hst := items_step hx
    have hle := itemsFrom_le (l.take k) none
    rw [show itemsFrom none (l.take k) = itemsN (l.take k) from rfl, List.length_take] at hle
    rcases k with _ | k
    · have rw_1 : ((itemsN (l.take 0) : Nat) : Int) + 1 = ((itemsN (l.take 1) : Nat) : Int) := by rw [hst]; simp
      refine sg S (.lt (by omega) rfl rfl <| .z) fun a w S => wp_seq_k fun _ hK2 => st_then S (.t rfl) (wp_skip (then_normal (hK2 _ _ (wp_seq_k fun _ hK2 => wp_block (wp_seq_k fun _ hK3 => wp_region_lit (run S (.mv rfl <| .yy (ys_ixS (j := 0) underlying34 sizeOf74 (.t rfl) (.t rfl) (fun _ => by omega)) rfl <| .yy (ys_ldOA ⟨isAgg74, sizeOf74⟩ (.t rfl) (vs := [_, _, _, _, _, _]) rfl (fun _ => hc)) rfl <| .z) fun a w S => st_m (op_alloc S zeroValue74 (cs := _) rfl rfl fun g1 a w S => run S (.as rfl <| .z) fun a w S => st_m (op_stW S sizeOf74 (.t rfl) (.t rfl) (k := 0) rfl rfl rfl (by simp [Value.oneCell']) fun a w S => st_nil (then_normal (hK3 _ _ (wp_seq_k fun _ hK3 => st_quiet S (by kernel_rfl) (by kernel_rfl) fun a S => qrun S (.mv rfl <| .yy (ys_T (by omega) (ys_eql (.t rfl) Ev.c)) rfl <| .mv rfl <| .sk rfl rfl rfl <| .sk rfl rfl rfl <| .sk rfl rfl rfl <| .sk rfl rfl rfl <| .sk rfl rfl rfl <| .sk rfl rfl rfl <| .sk rfl rfl rfl <| .sk rfl rfl rfl <| .sk rfl rfl rfl <| .yy (ys_pickT (.t rfl) Ev.c) rfl <| .z) fun a S => ?_)))))))))))
      (refine q_nil ?_; intro w W; replace S := St.mk S W; clear W)
      refine then_normal (hK3 _ _ (st_then S (.t rfl) (wp_region_lit (run S (.mv rfl <| .ad (by unfold I64; omega) rfl <| .z) fun a w S => ?_))))
      rw [rw_1] at S
      refine run S (.as rfl <| .z) fun a w S => st_nil (in_normal (then_normal (hK2 _ _ (wp_region_lit (run S (.ad (by unfold I64; omega) rfl <| .mv rfl <| .z) fun a w S => st_nil (then_normal ?_))))))
      exact ⟨0 + 1, by omega, by omega, S.pk⟩
    · obtain ⟨g', o', p, e', hp, hd', hc'⟩ := row_at hA (show k < l.length by omega)
      cases e'
      rw [take_last hp] at hst
      clear hA
      by_cases he : p.item = x.item
      · rw [if_pos (by simp [he])] at hst
        have rw_e : decide (p.item ≠ x.item) = false := decide_eq_false (fun h => h he)
        refine sg S (.lt (by omega) rfl rfl <| .z) fun a w S => wp_seq_k fun _ hK2 => st_then S (.t rfl) (wp_skip (then_normal (hK2 _ _ (wp_seq_k fun _ hK2 => wp_block (wp_seq_k fun _ hK3 => wp_region_lit (run S (.mv rfl <| .ix underlying34 sizeOf74 (by omega) rfl rfl <| .yy (ys_ldOA ⟨isAgg74, sizeOf74⟩ (.t rfl) (vs := [_, _, _, _, _, _]) rfl (fun _ => hc)) rfl <| .z) fun a w S => st_m (op_alloc S zeroValue74 (cs := _) rfl rfl fun g1 a w S => run S (.as rfl <| .z) fun a w S => st_m (op_stW S sizeOf74 (.t rfl) (.t rfl) (k := 0) rfl rfl rfl (by simp [Value.oneCell']) fun a w S => st_nil (then_normal (hK3 _ _ (wp_seq_k fun _ hK3 => st_quiet S (by kernel_rfl) (by kernel_rfl) fun a S => ?_)))))))))))
        refine qrun S (.mv rfl <| .yy (ys_F (by omega) (ys_eql (.t rfl) Ev.c)) rfl <| .mv rfl <| .gy rfl rfl (ys_move (.t rfl)) <| .gy rfl rfl (ys_move (.t rfl)) <| .gy rfl rfl (ys_pred (.t rfl) Ev.c (by omega)) <| .gy rfl rfl (ys_ixS underlying34 sizeOf74 (.t rfl) (.t rfl) (fun _ => by omega)) <| .gy rfl rfl (ys_field (FieldT.mk underlying74 rfl sizeOf9 rfl) (.t rfl)) <| .gy rfl rfl (ys_ldO ⟨isAgg9, sizeOf9⟩ (.t rfl) (fun _ => hc' _ _ rfl)) <| .gy rfl rfl (ys_fieldN (FieldT.mk underlying74 rfl sizeOf9 rfl) (.t rfl) (i' := 0) rfl) <| .gy rfl rfl (ys_ld ⟨isAgg9, sizeOf9⟩ (.t rfl) (k := 0) rfl rfl) <| .gy rfl rfl (ys_neqStr (.t rfl) (.t rfl)) <| .z) fun a S => ?_
        rw [rw_e] at S
        refine qrun S (.yy (ys_pickF (.t rfl) (.t rfl)) rfl <| .z) fun a S => ?_
        (refine q_nil ?_; intro w W; replace S := St.mk S W; clear W)
        refine then_normal (hK3 _ _ (st_else S (.t rfl) (wp_skip (in_normal (then_normal (hK2 _ _ (wp_region_lit (run S (.ad (by unfold I64; omega) rfl <| .mv rfl <| .z) fun a w S => st_nil (then_normal ?_)))))))))
        rw [← show itemsN (l.take (k + 1 + 1)) = itemsN (l.take (k + 1)) by rw [hst]; rfl] at S
        exact ⟨k + 1 + 1, by omega, by omega, S.pk⟩
      · rw [if_neg (by simp [he])] at hst
        have rw_e : decide (p.item ≠ x.item) = true := decide_eq_true he
        have rw_1 : ((itemsN (l.take (k + 1)) : Nat) : Int) + 1 = ((itemsN (l.take (k + 1 + 1)) : Nat) : Int) := by rw [hst]; omega
        refine sg S (.lt (by omega) rfl rfl <| .z) fun a w S => wp_seq_k fun _ hK2 => st_then S (.t rfl) (wp_skip (then_normal (hK2 _ _ (wp_seq_k fun _ hK2 => wp_block (wp_seq_k fun _ hK3 => wp_region_lit (run S (.mv rfl <| .ix underlying34 sizeOf74 (by omega) rfl rfl <| .yy (ys_ldOA ⟨isAgg74, sizeOf74⟩ (.t rfl) (vs := [_, _, _, _, _, _]) rfl (fun _ => hc)) rfl <| .z) fun a w S => st_m (op_alloc S zeroValue74 (cs := _) rfl rfl fun g1 a w S => run S (.as rfl <| .z) fun a w S => st_m (op_stW S sizeOf74 (.t rfl) (.t rfl) (k := 0) rfl rfl rfl (by simp [Value.oneCell']) fun a w S => st_nil (then_normal (hK3 _ _ (wp_seq_k fun _ hK3 => st_quiet S (by kernel_rfl) (by kernel_rfl) fun a S => ?_)))))))))))
        refine qrun S (.mv rfl <| .yy (ys_F (by omega) (ys_eql (.t rfl) Ev.c)) rfl <| .mv rfl <| .gy rfl rfl (ys_move (.t rfl)) <| .gy rfl rfl (ys_move (.t rfl)) <| .gy rfl rfl (ys_pred (.t rfl) Ev.c (by omega)) <| .gy rfl rfl (ys_ixS underlying34 sizeOf74 (.t rfl) (.t rfl) (fun _ => by omega)) <| .gy rfl rfl (ys_field (FieldT.mk underlying74 rfl sizeOf9 rfl) (.t rfl)) <| .gy rfl rfl (ys_ldO ⟨isAgg9, sizeOf9⟩ (.t rfl) (fun _ => hc' _ _ rfl)) <| .gy rfl rfl (ys_fieldN (FieldT.mk underlying74 rfl sizeOf9 rfl) (.t rfl) (i' := 0) rfl) <| .gy rfl rfl (ys_ld ⟨isAgg9, sizeOf9⟩ (.t rfl) (k := 0) rfl rfl) <| .gy rfl rfl (ys_neqStr (.t rfl) (.t rfl)) <| .z) fun a S => ?_
        rw [rw_e] at S
        refine qrun S (.yy (ys_pickF (.t rfl) (.t rfl)) rfl <| .z) fun a S => ?_
        (refine q_nil ?_; intro w W; replace S := St.mk S W; clear W)
        refine then_normal (hK3 _ _ (st_then S (.t rfl) (wp_region_lit (run S (.mv rfl <| .ad (by unfold I64; omega) rfl <| .z) fun a w S => ?_))))
        rw [rw_1] at S
        refine run S (.as rfl <| .z) fun a w S => st_nil (in_normal (then_normal (hK2 _ _ (wp_region_lit (run S (.ad (by unfold I64; omega) rfl <| .mv rfl <| .z) fun a w S => st_nil (then_normal ?_))))))
        exact ⟨k + 1 + 1, by omega, by omega, S.pk⟩
  · obtain rfl : k = l.length := by omega
    rw [List.take_length] at S
    refine sg S (.ge (by omega) rfl rfl <| .z) fun a w S => wp_seq_k fun _ hK2 => st_else S (.t rfl) (wp_exit (then_exit (then_exit (in_here (then_normal (hK1 _ _ (sg S (.mv rfl <| .as rfl <| .z) fun a w S => wp_ret (st_ret S (results1 S results54 (Rv.tmp rfl)) ?_))))))))
    exact ⟨rfl, S.wd.below⟩
theorem c20 (w0 : World) (v1 v2 v3 : Value) (c : Cart) (h : Sl Ent.enc 6 w0 w0.heap.size v1 c.ents) (hr : RdCtx w0 w0.heap.size v2 v3 c.ctx) :
    Calls Try.prog 20 #[.agg #[v1, v2, v3]] w0 fun e w' => e = .returned (.int .i64 (canE c)) ∧ Bel w0.heap.size w0 w' := by
  obtain ⟨l, C⟩ := c
  dsimp only at h hr
  have hs := h
  obtain ⟨A, cap, rfl, hl, hcap, hA⟩ := h
  unfold canE
  dsimp only
  cases rw_C : canL C with
  | false =>
    refine enter1 func20 rfl ntmps20 rfl fun a S => wp_seq_k fun _ hK1 => wp_region_lit (st_m (op_box S (.t rfl) rfl fun g1 a w S => run S (.ac rfl <| .z) fun a w S => st_nil (then_normal (hK1 _ _ (wp_seq_k fun _ hK1 => wp_seq_k fun _ hK2 => wp_region_lit (run S (.fa underlying40 sizeOf38 1 rfl rfl rfl <| .la gt38 0 rfl rfl rfl <| .xx (ys_call call48 (.cons (.t rfl) .nil) (fun hp w W => c48 _ _ _ _ (by exact .old W (by assumption)))) rfl <| .z) fun a w S => ?_))))))
    rw [rw_C] at S
    refine run S (.nt rfl <| .z) fun a w S => st_nil (then_normal (hK2 _ _ (st_then S (.t rfl) (sg S (.ac rfl <| .z) fun a w S => wp_ret (then_ret (st_ret S (results1 S results20 (Rv.tmp rfl)) ?_))))))
    exact ⟨rfl, S.wd.below⟩
  | true =>
  rw [if_neg (by simp)]
  by_cases hbig : 64 < l.length
  · refine enter1 func20 rfl ntmps20 rfl fun a S => wp_seq_k fun _ hK1 => wp_region_lit (st_m (op_box S (.t rfl) rfl fun g1 a w S => run S (.ac rfl <| .z) fun a w S => st_nil (then_normal (hK1 _ _ (wp_seq_k fun _ hK1 => wp_seq_k fun _ hK2 => wp_region_lit (run S (.fa underlying40 sizeOf38 1 rfl rfl rfl <| .la gt38 0 rfl rfl rfl <| .xx (ys_call call48 (.cons (.t rfl) .nil) (fun hp w W => c48 _ _ _ _ (by exact .old W (by assumption)))) rfl <| .z) fun a w S => ?_))))))
    rw [rw_C] at S
    refine run S (.nt rfl <| .z) fun a w S => st_nil (then_normal (hK2 _ _ (st_else S (.t rfl) (wp_skip (then_normal (hK1 _ _ (wp_seq_k fun _ hK1 => sg S (.fa underlying40 sizeOf34 0 rfl rfl rfl <| .ld gt34 0 rfl rfl rfl <| .ln underlying34 rfl <| .yy (ys_T (by omega) (ys_gtr (.t rfl) Ev.c)) rfl <| .z) fun a w S => st_then S (.t rfl) (sg S (.ac rfl <| .z) fun a w S => wp_ret (then_ret (st_ret S (results1 S results20 (Rv.tmp rfl)) ?_))))))))))
    exact ⟨by rw [if_pos hbig], S.wd.below⟩
  rw [if_neg hbig]
  have rw_cov := can_covers rw_C
  refine enter1 func20 rfl ntmps20 rfl fun a S => wp_seq_k fun _ hK1 => wp_region_lit (st_m (op_box S (.t rfl) rfl fun g1 a w S => run S (.ac rfl <| .z) fun a w S => st_nil (then_normal (hK1 _ _ (wp_seq_k fun _ hK1 => wp_seq_k fun _ hK2 => wp_region_lit (run S (.fa underlying40 sizeOf38 1 rfl rfl rfl <| .la gt38 0 rfl rfl rfl <| .xx (ys_call call48 (.cons (.t rfl) .nil) (fun hp w W => c48 _ _ _ _ (by exact .old W (by assumption)))) rfl <| .z) fun a w S => ?_))))))
  rw [rw_C] at S
  refine run S (.nt rfl <| .z) fun a w S => st_nil (then_normal (hK2 _ _ (st_else S (.t rfl) (wp_skip (then_normal (hK1 _ _ (wp_seq_k fun _ hK1 => sg S (.fa underlying40 sizeOf34 0 rfl rfl rfl <| .ld gt34 0 rfl rfl rfl <| .ln underlying34 rfl <| .yy (ys_F (by omega) (ys_gtr (.t rfl) Ev.c)) rfl <| .z) fun a w S => st_else S (.t rfl) (wp_skip (then_normal (hK1 _ _ (wp_seq_k fun _ hK1 => sg S (.fa underlying40 sizeOf34 0 rfl rfl rfl <| .ld gt34 0 rfl rfl rfl <| .ln underlying34 rfl <| .mc rfl <| .z) fun a w S => wp_block ?_)))))))))))
  refine st_lpM S [3, 4, 6, 18] (X := Nat) (fun k => [(18, true, .int .i64 (k : Int))]) (fun _ => [.blk g1 (.cells #[.slice A l.length cap, v2, v3] 40)])
    (fun k => k ≤ l.length ∧ entsE C (l.take k) (l.drop k) = entsE C [] l) (fun k => l.length - k) 0 ⟨Nat.zero_le _, rfl⟩ ?_
  clear S
  intro k a w ⟨hk, hno⟩ S
  by_cases hlt : k < l.length
  rotate_left
  · obtain rfl : k = l.length := by omega
    rw [List.drop_length, entsE] at hno
    by_cases hi : 32 < itemsN l
    · refine sg S (.ge (by omega) rfl rfl <| .z) fun a w S => wp_seq_k fun _ hK2 => st_else S (.t rfl) (wp_exit (then_exit (then_exit (in_here (then_normal (hK1 _ _ (wp_seq_k fun _ hK1 => sg S (.fa underlying40 sizeOf34 0 rfl rfl rfl <| .ld gt34 0 rfl rfl rfl <| .xx (ys_call call54 (.cons (.t rfl) .nil) (fun hp w W => c54 _ _ _ (by exact .old W (by assumption)) (by omega))) rfl <| .yy (ys_T (by omega) (ys_gtr (.t rfl) Ev.c)) rfl <| .z) fun a w S => st_then S (.t rfl) (sg S (.ac rfl <| .z) fun a w S => wp_ret (then_ret (st_ret S (results1 S results20 (Rv.tmp rfl)) ?_))))))))))
      exact ⟨by rw [if_pos hno.symm, if_pos hi], S.wd.below⟩
    · refine sg S (.ge (by omega) rfl rfl <| .z) fun a w S => wp_seq_k fun _ hK2 => st_else S (.t rfl) (wp_exit (then_exit (then_exit (in_here (then_normal (hK1 _ _ (wp_seq_k fun _ hK1 => sg S (.fa underlying40 sizeOf34 0 rfl rfl rfl <| .ld gt34 0 rfl rfl rfl <| .xx (ys_call call54 (.cons (.t rfl) .nil) (fun hp w W => c54 _ _ _ (by exact .old W (by assumption)) (by omega))) rfl <| .yy (ys_F (by omega) (ys_gtr (.t rfl) Ev.c)) rfl <| .z) fun a w S => st_else S (.t rfl) (wp_skip (then_normal (hK1 _ _ (sg S (.ac rfl <| .z) fun a w S => wp_ret (st_ret S (results1 S results20 (Rv.tmp rfl)) ?_))))))))))))
      exact ⟨by rw [if_pos hno.symm, if_neg hi], S.wd.below⟩
  obtain ⟨g, o, x, rfl, hx, hd, hc⟩ := row_at hA hlt
  have hst := ents_step (C := C) hx
  rw [hno] at hst
  have bad : entE C (l.take k) x ≠ 0 → (if entsE C [] l = 0 then (if 32 < itemsN l then (51 : Int) else 0) else entsE C [] l) = entE C (l.take k) x := fun h => by
    rw [if_neg h] at hst
    rw [hst, if_neg h]
  cases rw_n : nameB x.item with
  | false =>
    have he : entE C (l.take k) x = 6 := by unfold entE; rw [if_pos rw_n]
    rw [bad (by rw [he]; decide), he]
    refine sg S (.lt (by omega) rfl rfl <| .z) fun a w S => wp_seq_k fun _ hK2 => st_then S (.t rfl) (wp_skip (then_normal (hK2 _ _ (wp_seq_k fun _ hK2 => wp_block (wp_seq_k fun _ hK3 => wp_region_lit (run S (.mv rfl <| .ix underlying34 sizeOf74 (by omega) rfl rfl <| .yy (ys_ldOA ⟨isAgg74, sizeOf74⟩ (.t rfl) (vs := [_, _, _, _, _, _]) rfl (fun _ => hc)) rfl <| .z) fun a w S => st_m (op_alloc S zeroValue74 (cs := _) rfl rfl fun g2 a w S => run S (.as rfl <| .z) fun a w S => st_m (op_stW S sizeOf74 (.t rfl) (.t rfl) (k := 0) rfl rfl rfl (by simp [Value.oneCell']) fun a w S => st_nil (then_normal (hK3 _ _ (wp_seq_k fun _ hK3 => wp_block (wp_seq_k fun _ hK4 => wp_region_lit (run S (.fa underlying74 sizeOf9 0 rfl rfl rfl <| .ld gt9 0 rfl rfl rfl <| .xx (ys_call call49 (.cons (.t rfl) .nil) (fun hp w W => c49 _ _)) rfl <| .z) fun a w S => ?_)))))))))))))
    rw [rw_n] at S
    refine run S (.nt rfl <| .as rfl <| .z) fun a w S => st_nil (then_normal (hK4 _ _ (st_then S (.t rfl) (sg S (.ac rfl <| .z) fun a w S => wp_ret (in_ret (then_ret (in_ret (then_ret (then_ret (in_ret (then_ret (st_ret S (results1 S results20 (Rv.tmp rfl)) ?_))))))))))))
    exact ⟨rfl, S.wd.below⟩
  | true =>
  by_cases hq : x.qty < 1 ∨ 1000000 < x.qty
  · have he : entE C (l.take k) x = 52 := by unfold entE; rw [if_neg (by simp [rw_n]), if_pos hq]
    rw [bad (by rw [he]; decide), he]
    have rw_q : (decide (1 ≤ x.qty) && decide (x.qty ≤ 1000000)) = false := by simp; omega
    refine sg S (.lt (by omega) rfl rfl <| .z) fun a w S => wp_seq_k fun _ hK2 => st_then S (.t rfl) (wp_skip (then_normal (hK2 _ _ (wp_seq_k fun _ hK2 => wp_block (wp_seq_k fun _ hK3 => wp_region_lit (run S (.mv rfl <| .ix underlying34 sizeOf74 (by omega) rfl rfl <| .yy (ys_ldOA ⟨isAgg74, sizeOf74⟩ (.t rfl) (vs := [_, _, _, _, _, _]) rfl (fun _ => hc)) rfl <| .z) fun a w S => st_m (op_alloc S zeroValue74 (cs := _) rfl rfl fun g2 a w S => run S (.as rfl <| .z) fun a w S => st_m (op_stW S sizeOf74 (.t rfl) (.t rfl) (k := 0) rfl rfl rfl (by simp [Value.oneCell']) fun a w S => st_nil (then_normal (hK3 _ _ (wp_seq_k fun _ hK3 => wp_block (wp_seq_k fun _ hK4 => wp_region_lit (run S (.fa underlying74 sizeOf9 0 rfl rfl rfl <| .ld gt9 0 rfl rfl rfl <| .xx (ys_call call49 (.cons (.t rfl) .nil) (fun hp w W => c49 _ _)) rfl <| .z) fun a w S => ?_)))))))))))))
    rw [rw_n] at S
    refine run S (.nt rfl <| .as rfl <| .z) fun a w S => st_nil (then_normal (hK4 _ _ (st_else S (.t rfl) (wp_seq_k fun _ hK4 => wp_region_lit (run S (.fa underlying74 sizeOf3 4 rfl rfl rfl <| .ld gt3 0 rfl rfl rfl <| .xx (ys_call call50 (.cons (.t rfl) (.cons Ev.c .nil)) (fun hp w W => c50 _ _ _)) rfl <| .z) fun a w S => ?_)))))
    rw [rw_q] at S
    refine run S (.nt rfl <| .as rfl <| .z) fun a w S => st_nil (then_normal (hK4 _ _ (st_then S (.t rfl) (sg S (.ac rfl <| .z) fun a w S => wp_ret (in_ret (then_ret (in_ret (then_ret (then_ret (in_ret (then_ret (st_ret S (results1 S results20 (Rv.tmp rfl)) ?_))))))))))))
    exact ⟨rfl, S.wd.below⟩
  have rw_q : (decide (1 ≤ x.qty) && decide (x.qty ≤ 1000000)) = true := by simp; omega
  cases rw_p : priceB x.price with
  | false =>
    have he : entE C (l.take k) x = 53 := by unfold entE; rw [if_neg (by simp [rw_n]), if_neg hq, if_pos rw_p]
    rw [bad (by rw [he]; decide), he]
    refine sg S (.lt (by omega) rfl rfl <| .z) fun a w S => wp_seq_k fun _ hK2 => st_then S (.t rfl) (wp_skip (then_normal (hK2 _ _ (wp_seq_k fun _ hK2 => wp_block (wp_seq_k fun _ hK3 => wp_region_lit (run S (.mv rfl <| .ix underlying34 sizeOf74 (by omega) rfl rfl <| .yy (ys_ldOA ⟨isAgg74, sizeOf74⟩ (.t rfl) (vs := [_, _, _, _, _, _]) rfl (fun _ => hc)) rfl <| .z) fun a w S => st_m (op_alloc S zeroValue74 (cs := _) rfl rfl fun g2 a w S => run S (.as rfl <| .z) fun a w S => st_m (op_stW S sizeOf74 (.t rfl) (.t rfl) (k := 0) rfl rfl rfl (by simp [Value.oneCell']) fun a w S => st_nil (then_normal (hK3 _ _ (wp_seq_k fun _ hK3 => wp_block (wp_seq_k fun _ hK4 => wp_region_lit (run S (.fa underlying74 sizeOf9 0 rfl rfl rfl <| .ld gt9 0 rfl rfl rfl <| .xx (ys_call call49 (.cons (.t rfl) .nil) (fun hp w W => c49 _ _)) rfl <| .z) fun a w S => ?_)))))))))))))
    rw [rw_n] at S
    refine run S (.nt rfl <| .as rfl <| .z) fun a w S => st_nil (then_normal (hK4 _ _ (st_else S (.t rfl) (wp_seq_k fun _ hK4 => wp_region_lit (run S (.fa underlying74 sizeOf3 4 rfl rfl rfl <| .ld gt3 0 rfl rfl rfl <| .xx (ys_call call50 (.cons (.t rfl) (.cons Ev.c .nil)) (fun hp w W => c50 _ _ _)) rfl <| .z) fun a w S => ?_)))))
    rw [rw_q] at S
    refine run S (.nt rfl <| .as rfl <| .z) fun a w S => st_nil (then_normal (hK4 _ _ (st_else S (.t rfl) (wp_seq_k fun _ hK4 => wp_region_lit (run S (.fa underlying74 sizeOf27 5 rfl rfl rfl <| .ld gt27 0 rfl rfl rfl <| .xx (ys_call call51 (.cons (.t rfl) .nil) (fun hp w W => c51 _ _)) rfl <| .z) fun a w S => ?_)))))
    rw [rw_p] at S
    refine run S (.nt rfl <| .as rfl <| .z) fun a w S => st_nil (then_normal (hK4 _ _ (st_then S (.t rfl) (sg S (.ac rfl <| .z) fun a w S => wp_ret (in_ret (then_ret (in_ret (then_ret (then_ret (in_ret (then_ret (st_ret S (results1 S results20 (Rv.tmp rfl)) ?_))))))))))))
    exact ⟨rfl, S.wd.below⟩
  | true =>
  have he0 : entE C (l.take k) x = if C.covers x.dot = false ∨ backE (l.take k).getLast? x = true then 50 else if x.dot ∈ (l.take k).map (·.dot) then 50 else 0 := by unfold entE; rw [if_neg (by simp [rw_n]), if_neg hq, if_neg (by simp [rw_p])]
  cases rw_c : C.covers x.dot with
  | false =>
    rw [if_pos (.inl rw_c)] at he0
    rw [bad (by rw [he0]; decide), he0]
    have rw_c2 : C.covers ⟨x.dot.node, x.dot.life, x.dot.count⟩ = false := rw_c
    refine sg S (.lt (by omega) rfl rfl <| .z) fun a w S => wp_seq_k fun _ hK2 => st_then S (.t rfl) (wp_skip (then_normal (hK2 _ _ (wp_seq_k fun _ hK2 => wp_block (wp_seq_k fun _ hK3 => wp_region_lit (run S (.mv rfl <| .ix underlying34 sizeOf74 (by omega) rfl rfl <| .yy (ys_ldOA ⟨isAgg74, sizeOf74⟩ (.t rfl) (vs := [_, _, _, _, _, _]) rfl (fun _ => hc)) rfl <| .z) fun a w S => st_m (op_alloc S zeroValue74 (cs := _) rfl rfl fun g2 a w S => run S (.as rfl <| .z) fun a w S => st_m (op_stW S sizeOf74 (.t rfl) (.t rfl) (k := 0) rfl rfl rfl (by simp [Value.oneCell']) fun a w S => st_nil (then_normal (hK3 _ _ (wp_seq_k fun _ hK3 => wp_block (wp_seq_k fun _ hK4 => wp_region_lit (run S (.fa underlying74 sizeOf9 0 rfl rfl rfl <| .ld gt9 0 rfl rfl rfl <| .xx (ys_call call49 (.cons (.t rfl) .nil) (fun hp w W => c49 _ _)) rfl <| .z) fun a w S => ?_)))))))))))))
    rw [rw_n] at S
    refine run S (.nt rfl <| .as rfl <| .z) fun a w S => st_nil (then_normal (hK4 _ _ (st_else S (.t rfl) (wp_seq_k fun _ hK4 => wp_region_lit (run S (.fa underlying74 sizeOf3 4 rfl rfl rfl <| .ld gt3 0 rfl rfl rfl <| .xx (ys_call call50 (.cons (.t rfl) (.cons Ev.c .nil)) (fun hp w W => c50 _ _ _)) rfl <| .z) fun a w S => ?_)))))
    rw [rw_q] at S
    refine run S (.nt rfl <| .as rfl <| .z) fun a w S => st_nil (then_normal (hK4 _ _ (st_else S (.t rfl) (wp_seq_k fun _ hK4 => wp_region_lit (run S (.fa underlying74 sizeOf27 5 rfl rfl rfl <| .ld gt27 0 rfl rfl rfl <| .xx (ys_call call51 (.cons (.t rfl) .nil) (fun hp w W => c51 _ _)) rfl <| .z) fun a w S => ?_)))))
    rw [rw_p] at S
    refine run S (.nt rfl <| .as rfl <| .z) fun a w S => st_nil (then_normal (hK4 _ _ (st_else S (.t rfl) (wp_seq_k fun _ hK4 => st_quiet S (by kernel_rfl) (by kernel_rfl) fun a S => qrun S (.fa underlying40 sizeOf38 1 rfl rfl rfl <| .la gt38 1 rfl rfl rfl <| .fa underlying74 sizeOf62 1 rfl rfl rfl <| .la gt62 0 rfl rfl rfl <| .xx (ys_call call52 (.cons (.t rfl) (.cons (.t rfl) .nil)) (fun hp w W => c52 _ _ _ _ _ _ _ (by exact .old W (by assumption)))) rfl <| .z) fun a S => ?_))))
    rw [rw_cov] at S
    rw [rw_c] at S
    refine qrun S (.nt rfl <| .mv rfl <| .sk rfl rfl rfl <| .sk rfl rfl rfl <| .sk rfl rfl rfl <| .s0 rfl rfl <| .s0 rfl rfl <| .s0 rfl rfl <| .s0 rfl rfl <| .s0 rfl rfl <| .s0 rfl rfl <| .s0 rfl rfl <| .s0 rfl rfl <| .s0 rfl rfl <| .sk rfl rfl rfl <| .yy (ys_pickT (.t rfl) Ev.c) rfl <| .as rfl <| .z) fun a S => ?_
    (refine q_nil ?_; intro w W; replace S := St.mk S W; clear W)
    refine then_normal (hK4 _ _ (st_then S (.t rfl) (sg S (.ac rfl <| .z) fun a w S => wp_ret (in_ret (then_ret (in_ret (then_ret (then_ret (in_ret (then_ret (st_ret S (results1 S results20 (Rv.tmp rfl)) ?_)))))))))))
    exact ⟨rfl, S.wd.below⟩
  | true =>
  have rw_c2 : C.covers ⟨x.dot.node, x.dot.life, x.dot.count⟩ = true := rw_c
  rcases k with _ | k
  · have hnb : ¬ (C.covers x.dot = false ∨ backE (l.take 0).getLast? x = true) := by simp [rw_c, backE]
    refine sg S (.lt (by omega) rfl rfl <| .z) fun a w S => wp_seq_k fun _ hK2 => st_then S (.t rfl) (wp_skip (then_normal (hK2 _ _ (wp_seq_k fun _ hK2 => wp_block (wp_seq_k fun _ hK3 => wp_region_lit (run S (.mv rfl <| .yy (ys_ixS (j := 0) underlying34 sizeOf74 (.t rfl) (.t rfl) (fun _ => by omega)) rfl <| .yy (ys_ldOA ⟨isAgg74, sizeOf74⟩ (.t rfl) (vs := [_, _, _, _, _, _]) rfl (fun _ => hc)) rfl <| .z) fun a w S => st_m (op_alloc S zeroValue74 (cs := _) rfl rfl fun g2 a w S => run S (.as rfl <| .z) fun a w S => st_m (op_stW S sizeOf74 (.t rfl) (.t rfl) (k := 0) rfl rfl rfl (by simp [Value.oneCell']) fun a w S => st_nil (then_normal (hK3 _ _ (wp_seq_k fun _ hK3 => wp_block (wp_seq_k fun _ hK4 => wp_region_lit (run S (.fa underlying74 sizeOf9 0 rfl rfl rfl <| .ld gt9 0 rfl rfl rfl <| .xx (ys_call call49 (.cons (.t rfl) .nil) (fun hp w W => c49 _ _)) rfl <| .z) fun a w S => ?_)))))))))))))
    rw [rw_n] at S
    refine run S (.nt rfl <| .as rfl <| .z) fun a w S => st_nil (then_normal (hK4 _ _ (st_else S (.t rfl) (wp_seq_k fun _ hK4 => wp_region_lit (run S (.fa underlying74 sizeOf3 4 rfl rfl rfl <| .ld gt3 0 rfl rfl rfl <| .xx (ys_call call50 (.cons (.t rfl) (.cons Ev.c .nil)) (fun hp w W => c50 _ _ _)) rfl <| .z) fun a w S => ?_)))))
    rw [rw_q] at S
    refine run S (.nt rfl <| .as rfl <| .z) fun a w S => st_nil (then_normal (hK4 _ _ (st_else S (.t rfl) (wp_seq_k fun _ hK4 => wp_region_lit (run S (.fa underlying74 sizeOf27 5 rfl rfl rfl <| .ld gt27 0 rfl rfl rfl <| .xx (ys_call call51 (.cons (.t rfl) .nil) (fun hp w W => c51 _ _)) rfl <| .z) fun a w S => ?_)))))
    rw [rw_p] at S
    refine run S (.nt rfl <| .as rfl <| .z) fun a w S => st_nil (then_normal (hK4 _ _ (st_else S (.t rfl) (wp_seq_k fun _ hK4 => st_quiet S (by kernel_rfl) (by kernel_rfl) fun a S => qrun S (.fa underlying40 sizeOf38 1 rfl rfl rfl <| .la gt38 1 rfl rfl rfl <| .fa underlying74 sizeOf62 1 rfl rfl rfl <| .la gt62 0 rfl rfl rfl <| .xx (ys_call call52 (.cons (.t rfl) (.cons (.t rfl) .nil)) (fun hp w W => c52 _ _ _ _ _ _ _ (by exact .old W (by assumption)))) rfl <| .z) fun a S => ?_))))
    rw [rw_cov] at S
    rw [rw_c] at S
    refine qrun S (.nt rfl <| .mv rfl <| .gy rfl rfl (ys_move (.t rfl)) <| .gy rfl rfl (ys_F (by omega) (ys_gtr (.t rfl) Ev.c)) <| .gy rfl rfl (ys_move (.t rfl)) <| .sk rfl rfl rfl <| .sk rfl rfl rfl <| .sk rfl rfl rfl <| .sk rfl rfl rfl <| .sk rfl rfl rfl <| .sk rfl rfl rfl <| .sk rfl rfl rfl <| .sk rfl rfl rfl <| .sk rfl rfl rfl <| .gy rfl rfl (ys_pickF (.t rfl) Ev.c) <| .yy (ys_pickF (.t rfl) (.t rfl)) rfl <| .as rfl <| .z) fun a S => ?_
    (refine q_nil ?_; intro w W; replace S := St.mk S W; clear W)
    refine then_normal (hK4 _ _ (st_else S (.t rfl) (wp_skip (in_normal (then_normal (hK3 _ _ (sg S (.fa underlying40 sizeOf34 0 rfl rfl rfl <| .ld gt34 1 rfl rfl rfl <| .mv rfl <| .yy (ys_slHi underlying34 sizeOf74 (.t rfl) (.t rfl) (fun _ => by first | omega | (simp; done) | (simp; omega))) rfl <| .ln underlying34 rfl <| .mc rfl <| .z) fun a w S => wp_block ?_)))))))
    refine st_lpM S [6, 65] (X := Nat) (fun j => [(65, true, .int .i64 (j : Int))]) (fun _ => [.blk g2 (.cells (Ent.enc x).toArray 74), .blk g1 (.cells #[.slice (some ⟨g, o, none⟩) l.length cap, v2, v3] 40)])
      (fun j => j ≤ 0 ∧ x.dot ∉ (l.take j).map (·.dot)) (fun j => 0 - j) 0 ⟨Nat.zero_le _, by simp⟩ ?_
    clear S
    intro j a w ⟨hj, hdup⟩ S
    by_cases hjk : j < 0
    · obtain ⟨g3, o3, y, e3, hy, hdy, hcy⟩ := row_at hA (show j < l.length by omega)
      cases e3
      by_cases he : y.dot = x.dot
      · have hin : x.dot ∈ (l.take (0)).map (·.dot) := he ▸ dup_at hjk hy
        rw [if_neg hnb, if_pos hin] at he0
        rw [bad (by rw [he0]; decide), he0]
        have rw_e := decide_eq_true (dot_iff3.1 he)
        refine sg S (.lt (by omega) rfl rfl <| .z) fun a w S => wp_seq_k fun _ hK3 => st_then S (.t rfl) (wp_skip (then_normal (hK3 _ _ (wp_seq_k fun _ hK3 => wp_block (wp_seq_k fun _ hK4 => wp_region_lit (run S (.ix underlying34 sizeOf74 (by omega) rfl rfl <| .yy (ys_ldOA ⟨isAgg74, sizeOf74⟩ (.t rfl) (vs := [_, _, _, _, _, _]) rfl (fun _ => hcy)) rfl <| .z) fun a w S => st_m (op_alloc S zeroValue74 (cs := _) rfl rfl fun g3 a w S => st_m (op_stW S sizeOf74 (.t rfl) (.t rfl) (k := 0) rfl rfl rfl (by simp [Value.oneCell']) fun a w S => st_nil (then_normal (hK4 _ _ (wp_seq_k fun _ hK4 => wp_region_lit (run S (.fa underlying74 sizeOf62 1 rfl rfl rfl <| .la gt62 0 rfl rfl rfl <| .fa underlying74 sizeOf62 1 rfl rfl rfl <| .la gt62 1 rfl rfl rfl <| .yy (ys_eqA (.t rfl) (.t rfl) eq62) rfl <| .z) fun a w S => ?_))))))))))))
        rw [rw_e] at S
        refine st_nil (then_normal (hK4 _ _ (st_then S (.t rfl) (sg S (.ac rfl <| .z) fun a w S => wp_ret (in_ret (then_ret (then_ret (in_ret (in_ret (then_ret (then_ret (in_ret (then_ret (st_ret S (results1 S results20 (Rv.tmp rfl)) ?_))))))))))))))
        exact ⟨rfl, S.wd.below⟩
      · have rw_e := decide_eq_false (fun h => he (dot_iff3.2 h))
        refine sg S (.lt (by omega) rfl rfl <| .z) fun a w S => wp_seq_k fun _ hK3 => st_then S (.t rfl) (wp_skip (then_normal (hK3 _ _ (wp_seq_k fun _ hK3 => wp_block (wp_seq_k fun _ hK4 => wp_region_lit (run S (.ix underlying34 sizeOf74 (by omega) rfl rfl <| .yy (ys_ldOA ⟨isAgg74, sizeOf74⟩ (.t rfl) (vs := [_, _, _, _, _, _]) rfl (fun _ => hcy)) rfl <| .z) fun a w S => st_m (op_alloc S zeroValue74 (cs := _) rfl rfl fun g3 a w S => st_m (op_stW S sizeOf74 (.t rfl) (.t rfl) (k := 0) rfl rfl rfl (by simp [Value.oneCell']) fun a w S => st_nil (then_normal (hK4 _ _ (wp_seq_k fun _ hK4 => wp_region_lit (run S (.fa underlying74 sizeOf62 1 rfl rfl rfl <| .la gt62 0 rfl rfl rfl <| .fa underlying74 sizeOf62 1 rfl rfl rfl <| .la gt62 1 rfl rfl rfl <| .yy (ys_eqA (.t rfl) (.t rfl) eq62) rfl <| .z) fun a w S => ?_))))))))))))
        rw [rw_e] at S
        refine st_nil (then_normal (hK4 _ _ (st_else S (.t rfl) (wp_skip (in_normal (then_normal (hK3 _ _ (wp_region_lit (run S (.ad (by unfold I64; omega) rfl <| .mv rfl <| .z) fun a w S => st_nil (then_normal ?_))))))))))
        exact ⟨j + 1, ⟨by omega, dup_step hy hdup he⟩, by omega, S.pk⟩
    · obtain rfl : j = 0 := by omega
      rw [if_neg hnb, if_neg hdup] at he0
      rw [if_pos he0] at hst
      refine sg S (.ge (by omega) rfl rfl <| .z) fun a w S => wp_seq_k fun _ hK3 => st_else S (.t rfl) (wp_exit (then_exit (then_exit (in_here (in_normal (then_normal (hK2 _ _ (wp_region_lit (run S (.ad (by unfold I64; omega) rfl <| .mv rfl <| .z) fun a w S => st_nil (then_normal ?_))))))))))
      exact ⟨0 + 1, ⟨by omega, hst.symm⟩, by omega, S.pk⟩
  obtain ⟨g4, o4, p, e4, hp, hdp, hcp⟩ := row_at hA (show k < l.length by omega)
  cases e4
  rw [take_last hp] at he0
  by_cases hlt2 : ltE p x
  · have hnb : ¬ (C.covers x.dot = false ∨ backE (some p) x = true) := by simp [rw_c, backE, hlt2]
    have rw_l : decide (ltE p x) = true := decide_eq_true hlt2
    refine sg S (.lt (by omega) rfl rfl <| .z) fun a w S => wp_seq_k fun _ hK2 => st_then S (.t rfl) (wp_skip (then_normal (hK2 _ _ (wp_seq_k fun _ hK2 => wp_block (wp_seq_k fun _ hK3 => wp_region_lit (run S (.mv rfl <| .ix underlying34 sizeOf74 (by omega) rfl rfl <| .yy (ys_ldOA ⟨isAgg74, sizeOf74⟩ (.t rfl) (vs := [_, _, _, _, _, _]) rfl (fun _ => hc)) rfl <| .z) fun a w S => st_m (op_alloc S zeroValue74 (cs := _) rfl rfl fun g2 a w S => run S (.as rfl <| .z) fun a w S => st_m (op_stW S sizeOf74 (.t rfl) (.t rfl) (k := 0) rfl rfl rfl (by simp [Value.oneCell']) fun a w S => st_nil (then_normal (hK3 _ _ (wp_seq_k fun _ hK3 => wp_block (wp_seq_k fun _ hK4 => wp_region_lit (run S (.fa underlying74 sizeOf9 0 rfl rfl rfl <| .ld gt9 0 rfl rfl rfl <| .xx (ys_call call49 (.cons (.t rfl) .nil) (fun hp w W => c49 _ _)) rfl <| .z) fun a w S => ?_)))))))))))))
    rw [rw_n] at S
    refine run S (.nt rfl <| .as rfl <| .z) fun a w S => st_nil (then_normal (hK4 _ _ (st_else S (.t rfl) (wp_seq_k fun _ hK4 => wp_region_lit (run S (.fa underlying74 sizeOf3 4 rfl rfl rfl <| .ld gt3 0 rfl rfl rfl <| .xx (ys_call call50 (.cons (.t rfl) (.cons Ev.c .nil)) (fun hp w W => c50 _ _ _)) rfl <| .z) fun a w S => ?_)))))
    rw [rw_q] at S
    refine run S (.nt rfl <| .as rfl <| .z) fun a w S => st_nil (then_normal (hK4 _ _ (st_else S (.t rfl) (wp_seq_k fun _ hK4 => wp_region_lit (run S (.fa underlying74 sizeOf27 5 rfl rfl rfl <| .ld gt27 0 rfl rfl rfl <| .xx (ys_call call51 (.cons (.t rfl) .nil) (fun hp w W => c51 _ _)) rfl <| .z) fun a w S => ?_)))))
    rw [rw_p] at S
    refine run S (.nt rfl <| .as rfl <| .z) fun a w S => st_nil (then_normal (hK4 _ _ (st_else S (.t rfl) (wp_seq_k fun _ hK4 => st_quiet S (by kernel_rfl) (by kernel_rfl) fun a S => qrun S (.fa underlying40 sizeOf38 1 rfl rfl rfl <| .la gt38 1 rfl rfl rfl <| .fa underlying74 sizeOf62 1 rfl rfl rfl <| .la gt62 0 rfl rfl rfl <| .xx (ys_call call52 (.cons (.t rfl) (.cons (.t rfl) .nil)) (fun hp w W => c52 _ _ _ _ _ _ _ (by exact .old W (by assumption)))) rfl <| .z) fun a S => ?_))))
    rw [rw_cov] at S
    rw [rw_c] at S
    refine qrun S (.nt rfl <| .mv rfl <| .gy rfl rfl (ys_move (.t rfl)) <| .gy rfl rfl (ys_T (by omega) (ys_gtr (.t rfl) Ev.c)) <| .gy rfl rfl (ys_move (.t rfl)) <| .gy rfl rfl (ys_ldA ⟨isAgg74, sizeOf74⟩ (.t rfl) (k := 0) rfl rfl) <| .gy rfl rfl (ys_fieldN (FieldT.mk underlying40 rfl sizeOf34 rfl) (.t rfl) (i' := 0) rfl) <| .gy rfl rfl (ys_ld ⟨isAgg34, sizeOf34⟩ (.t rfl) (k := 1) rfl rfl) <| .gy rfl rfl (ys_move (.t rfl)) <| .gy rfl rfl (ys_pred (.t rfl) Ev.c (by omega)) <| .gy rfl rfl (ys_ixS underlying34 sizeOf74 (.t rfl) (.t rfl) (fun _ => by omega)) <| .gy rfl rfl (ys_ldOA ⟨isAgg74, sizeOf74⟩ (.t rfl) (vs := [_, _, _, _, _, _]) rfl (fun _ => hcp)) <| .gx rfl rfl (ys_call call53 (.cons (.t rfl) (.cons (.t rfl) .nil)) (fun hp w W => c53 _ _ _)) <| .z) fun a S => ?_
    rw [rw_l] at S
    refine qrun S (.gy rfl rfl (ys_not (.t rfl)) <| .gy rfl rfl (ys_pickT (.t rfl) (.t rfl)) <| .yy (ys_pickF (.t rfl) (.t rfl)) rfl <| .as rfl <| .z) fun a S => ?_
    (refine q_nil ?_; intro w W; replace S := St.mk S W; clear W)
    refine then_normal (hK4 _ _ (st_else S (.t rfl) (wp_skip (in_normal (then_normal (hK3 _ _ (sg S (.fa underlying40 sizeOf34 0 rfl rfl rfl <| .ld gt34 1 rfl rfl rfl <| .mv rfl <| .yy (ys_slHi underlying34 sizeOf74 (.t rfl) (.t rfl) (fun _ => by first | omega | (simp; done) | (simp; omega))) rfl <| .ln underlying34 rfl <| .mc rfl <| .z) fun a w S => wp_block ?_)))))))
    refine st_lpM S [6, 65] (X := Nat) (fun j => [(65, true, .int .i64 (j : Int))]) (fun _ => [.blk g2 (.cells (Ent.enc x).toArray 74), .blk g1 (.cells #[.slice (some ⟨g, o, none⟩) l.length cap, v2, v3] 40)])
      (fun j => j ≤ (k + 1) ∧ x.dot ∉ (l.take j).map (·.dot)) (fun j => (k + 1) - j) 0 ⟨Nat.zero_le _, by simp⟩ ?_
    clear S
    intro j a w ⟨hj, hdup⟩ S
    by_cases hjk : j < (k + 1)
    · obtain ⟨g3, o3, y, e3, hy, hdy, hcy⟩ := row_at hA (show j < l.length by omega)
      cases e3
      by_cases he : y.dot = x.dot
      · have hin : x.dot ∈ (l.take ((k + 1))).map (·.dot) := he ▸ dup_at hjk hy
        rw [if_neg hnb, if_pos hin] at he0
        rw [bad (by rw [he0]; decide), he0]
        have rw_e := decide_eq_true (dot_iff3.1 he)
        refine sg S (.lt (by omega) rfl rfl <| .z) fun a w S => wp_seq_k fun _ hK3 => st_then S (.t rfl) (wp_skip (then_normal (hK3 _ _ (wp_seq_k fun _ hK3 => wp_block (wp_seq_k fun _ hK4 => wp_region_lit (run S (.ix underlying34 sizeOf74 (by omega) rfl rfl <| .yy (ys_ldOA ⟨isAgg74, sizeOf74⟩ (.t rfl) (vs := [_, _, _, _, _, _]) rfl (fun _ => hcy)) rfl <| .z) fun a w S => st_m (op_alloc S zeroValue74 (cs := _) rfl rfl fun g3 a w S => st_m (op_stW S sizeOf74 (.t rfl) (.t rfl) (k := 0) rfl rfl rfl (by simp [Value.oneCell']) fun a w S => st_nil (then_normal (hK4 _ _ (wp_seq_k fun _ hK4 => wp_region_lit (run S (.fa underlying74 sizeOf62 1 rfl rfl rfl <| .la gt62 0 rfl rfl rfl <| .fa underlying74 sizeOf62 1 rfl rfl rfl <| .la gt62 1 rfl rfl rfl <| .yy (ys_eqA (.t rfl) (.t rfl) eq62) rfl <| .z) fun a w S => ?_))))))))))))
        rw [rw_e] at S
        refine st_nil (then_normal (hK4 _ _ (st_then S (.t rfl) (sg S (.ac rfl <| .z) fun a w S => wp_ret (in_ret (then_ret (then_ret (in_ret (in_ret (then_ret (then_ret (in_ret (then_ret (st_ret S (results1 S results20 (Rv.tmp rfl)) ?_))))))))))))))
        exact ⟨rfl, S.wd.below⟩
      · have rw_e := decide_eq_false (fun h => he (dot_iff3.2 h))
        refine sg S (.lt (by omega) rfl rfl <| .z) fun a w S => wp_seq_k fun _ hK3 => st_then S (.t rfl) (wp_skip (then_normal (hK3 _ _ (wp_seq_k fun _ hK3 => wp_block (wp_seq_k fun _ hK4 => wp_region_lit (run S (.ix underlying34 sizeOf74 (by omega) rfl rfl <| .yy (ys_ldOA ⟨isAgg74, sizeOf74⟩ (.t rfl) (vs := [_, _, _, _, _, _]) rfl (fun _ => hcy)) rfl <| .z) fun a w S => st_m (op_alloc S zeroValue74 (cs := _) rfl rfl fun g3 a w S => st_m (op_stW S sizeOf74 (.t rfl) (.t rfl) (k := 0) rfl rfl rfl (by simp [Value.oneCell']) fun a w S => st_nil (then_normal (hK4 _ _ (wp_seq_k fun _ hK4 => wp_region_lit (run S (.fa underlying74 sizeOf62 1 rfl rfl rfl <| .la gt62 0 rfl rfl rfl <| .fa underlying74 sizeOf62 1 rfl rfl rfl <| .la gt62 1 rfl rfl rfl <| .yy (ys_eqA (.t rfl) (.t rfl) eq62) rfl <| .z) fun a w S => ?_))))))))))))
        rw [rw_e] at S
        refine st_nil (then_normal (hK4 _ _ (st_else S (.t rfl) (wp_skip (in_normal (then_normal (hK3 _ _ (wp_region_lit (run S (.ad (by unfold I64; omega) rfl <| .mv rfl <| .z) fun a w S => st_nil (then_normal ?_))))))))))
        exact ⟨j + 1, ⟨by omega, dup_step hy hdup he⟩, by omega, S.pk⟩
    · obtain rfl : j = (k + 1) := by omega
      rw [if_neg hnb, if_neg hdup] at he0
      rw [if_pos he0] at hst
      refine sg S (.ge (by omega) rfl rfl <| .z) fun a w S => wp_seq_k fun _ hK3 => st_else S (.t rfl) (wp_exit (then_exit (then_exit (in_here (in_normal (then_normal (hK2 _ _ (wp_region_lit (run S (.ad (by unfold I64; omega) rfl <| .mv rfl <| .z) fun a w S => st_nil (then_normal ?_))))))))))
      exact ⟨(k + 1) + 1, ⟨by omega, hst.symm⟩, by omega, S.pk⟩
  · rw [if_pos (.inr (by simp [backE, hlt2]))] at he0
    rw [bad (by rw [he0]; decide), he0]
    have rw_l : decide (ltE p x) = false := decide_eq_false hlt2
    refine sg S (.lt (by omega) rfl rfl <| .z) fun a w S => wp_seq_k fun _ hK2 => st_then S (.t rfl) (wp_skip (then_normal (hK2 _ _ (wp_seq_k fun _ hK2 => wp_block (wp_seq_k fun _ hK3 => wp_region_lit (run S (.mv rfl <| .ix underlying34 sizeOf74 (by omega) rfl rfl <| .yy (ys_ldOA ⟨isAgg74, sizeOf74⟩ (.t rfl) (vs := [_, _, _, _, _, _]) rfl (fun _ => hc)) rfl <| .z) fun a w S => st_m (op_alloc S zeroValue74 (cs := _) rfl rfl fun g2 a w S => run S (.as rfl <| .z) fun a w S => st_m (op_stW S sizeOf74 (.t rfl) (.t rfl) (k := 0) rfl rfl rfl (by simp [Value.oneCell']) fun a w S => st_nil (then_normal (hK3 _ _ (wp_seq_k fun _ hK3 => wp_block (wp_seq_k fun _ hK4 => wp_region_lit (run S (.fa underlying74 sizeOf9 0 rfl rfl rfl <| .ld gt9 0 rfl rfl rfl <| .xx (ys_call call49 (.cons (.t rfl) .nil) (fun hp w W => c49 _ _)) rfl <| .z) fun a w S => ?_)))))))))))))
    rw [rw_n] at S
    refine run S (.nt rfl <| .as rfl <| .z) fun a w S => st_nil (then_normal (hK4 _ _ (st_else S (.t rfl) (wp_seq_k fun _ hK4 => wp_region_lit (run S (.fa underlying74 sizeOf3 4 rfl rfl rfl <| .ld gt3 0 rfl rfl rfl <| .xx (ys_call call50 (.cons (.t rfl) (.cons Ev.c .nil)) (fun hp w W => c50 _ _ _)) rfl <| .z) fun a w S => ?_)))))
    rw [rw_q] at S
    refine run S (.nt rfl <| .as rfl <| .z) fun a w S => st_nil (then_normal (hK4 _ _ (st_else S (.t rfl) (wp_seq_k fun _ hK4 => wp_region_lit (run S (.fa underlying74 sizeOf27 5 rfl rfl rfl <| .ld gt27 0 rfl rfl rfl <| .xx (ys_call call51 (.cons (.t rfl) .nil) (fun hp w W => c51 _ _)) rfl <| .z) fun a w S => ?_)))))
    rw [rw_p] at S
    refine run S (.nt rfl <| .as rfl <| .z) fun a w S => st_nil (then_normal (hK4 _ _ (st_else S (.t rfl) (wp_seq_k fun _ hK4 => st_quiet S (by kernel_rfl) (by kernel_rfl) fun a S => qrun S (.fa underlying40 sizeOf38 1 rfl rfl rfl <| .la gt38 1 rfl rfl rfl <| .fa underlying74 sizeOf62 1 rfl rfl rfl <| .la gt62 0 rfl rfl rfl <| .xx (ys_call call52 (.cons (.t rfl) (.cons (.t rfl) .nil)) (fun hp w W => c52 _ _ _ _ _ _ _ (by exact .old W (by assumption)))) rfl <| .z) fun a S => ?_))))
    rw [rw_cov] at S
    rw [rw_c] at S
    refine qrun S (.nt rfl <| .mv rfl <| .gy rfl rfl (ys_move (.t rfl)) <| .gy rfl rfl (ys_T (by omega) (ys_gtr (.t rfl) Ev.c)) <| .gy rfl rfl (ys_move (.t rfl)) <| .gy rfl rfl (ys_ldA ⟨isAgg74, sizeOf74⟩ (.t rfl) (k := 0) rfl rfl) <| .gy rfl rfl (ys_fieldN (FieldT.mk underlying40 rfl sizeOf34 rfl) (.t rfl) (i' := 0) rfl) <| .gy rfl rfl (ys_ld ⟨isAgg34, sizeOf34⟩ (.t rfl) (k := 1) rfl rfl) <| .gy rfl rfl (ys_move (.t rfl)) <| .gy rfl rfl (ys_pred (.t rfl) Ev.c (by omega)) <| .gy rfl rfl (ys_ixS underlying34 sizeOf74 (.t rfl) (.t rfl) (fun _ => by omega)) <| .gy rfl rfl (ys_ldOA ⟨isAgg74, sizeOf74⟩ (.t rfl) (vs := [_, _, _, _, _, _]) rfl (fun _ => hcp)) <| .gx rfl rfl (ys_call call53 (.cons (.t rfl) (.cons (.t rfl) .nil)) (fun hp w W => c53 _ _ _)) <| .z) fun a S => ?_
    rw [rw_l] at S
    refine qrun S (.gy rfl rfl (ys_not (.t rfl)) <| .gy rfl rfl (ys_pickT (.t rfl) (.t rfl)) <| .yy (ys_pickF (.t rfl) (.t rfl)) rfl <| .as rfl <| .z) fun a S => ?_
    (refine q_nil ?_; intro w W; replace S := St.mk S W; clear W)
    refine then_normal (hK4 _ _ (st_then S (.t rfl) (sg S (.ac rfl <| .z) fun a w S => wp_ret (in_ret (then_ret (in_ret (then_ret (then_ret (in_ret (then_ret (st_ret S (results1 S results20 (Rv.tmp rfl)) ?_)))))))))))
    exact ⟨rfl, S.wd.below⟩
end Go.Proofs.Ytfblmkocmnbdcaa
set_option linter.unusedVariables false
set_option linter.unusedSimpArgs false
set_option maxRecDepth 100000
namespace Go.Proofs.Ytfblmkocmnbdcaa
open Go.Fw Go.Proofs Go.RowKit Go.Proofs.Try
theorem c110 (w0 : World) (x : Int) : Calls Try.prog 110 #[.int .i64 x] w0 fun e w' => e = .returned (.bool (decide (0 ≤ x) && decide (x < 8))) ∧ Bel w0.heap.size w0 w' := by
  refine enter1 func110 rfl ntmps110 rfl fun a S => sg S (.ac rfl <| .z) fun a w S => wp_seq_k fun _ hK1 => wp_region_lit (run S (.mv rfl <| .yy (ys_geq (.t rfl) Ev.c) rfl <| .mv rfl <| .z) fun a w S => st_yg S rfl rfl (Yr.ys (ys_move (.t rfl))) rfl fun a w S => st_yg S rfl rfl (Yr.ys (ys_lss (Ev.g rfl) Ev.c)) rfl fun a w S => run S (.yy (ys_and (.t rfl) (Ev.g rfl) Ev.c) rfl <| .as rfl <| .z) fun a w S => st_nil (then_normal (hK1 _ _ (wp_ret (st_ret S (results1 S results110 (Rv.tmp rfl)) ?_)))))
  exact ⟨rfl, S.wd.below⟩
theorem c111 (w0 : World) (x : Int) : Calls Try.prog 111 #[.int .i64 x] w0 fun e w' => e = .returned (.bool (decide (1 ≤ x) && decide (x ≤ 1099511627776))) ∧ Bel w0.heap.size w0 w' := by
  refine enter1 func111 rfl ntmps111 rfl fun a S => sg S (.ac rfl <| .z) fun a w S => wp_seq_k fun _ hK1 => wp_region_lit (run S (.mv rfl <| .yy (ys_geq (.t rfl) Ev.c) rfl <| .mv rfl <| .z) fun a w S => st_yg S rfl rfl (Yr.ys (ys_move (.t rfl))) rfl fun a w S => st_yg S rfl rfl (Yr.ys (ys_leq (Ev.g rfl) Ev.c)) rfl fun a w S => run S (.yy (ys_and (.t rfl) (Ev.g rfl) Ev.c) rfl <| .as rfl <| .z) fun a w S => st_nil (then_normal (hK1 _ _ (wp_ret (st_ret S (results1 S results111 (Rv.tmp rfl)) ?_)))))
  exact ⟨rfl, S.wd.below⟩
theorem c112 (w0 : World) (x : Int) : Calls Try.prog 112 #[.int .i64 x] w0 fun e w' => e = .returned (.bool (decide (1 ≤ x) && decide (x ≤ 1099511627776))) ∧ Bel w0.heap.size w0 w' := by
  refine enter1 func112 rfl ntmps112 rfl fun a S => sg S (.ac rfl <| .z) fun a w S => wp_seq_k fun _ hK1 => wp_region_lit (run S (.mv rfl <| .yy (ys_geq (.t rfl) Ev.c) rfl <| .mv rfl <| .z) fun a w S => st_yg S rfl rfl (Yr.ys (ys_move (.t rfl))) rfl fun a w S => st_yg S rfl rfl (Yr.ys (ys_leq (Ev.g rfl) Ev.c)) rfl fun a w S => run S (.yy (ys_and (.t rfl) (Ev.g rfl) Ev.c) rfl <| .as rfl <| .z) fun a w S => st_nil (then_normal (hK1 _ _ (wp_ret (st_ret S (results1 S results112 (Rv.tmp rfl)) ?_)))))
  exact ⟨rfl, S.wd.below⟩
theorem c67 (w0 : World) (x y z : Int) (b : Bool) (hb : mayD ⟨x, y, z⟩ = b) :
    Calls Try.prog 67 #[.agg #[.int .i64 x, .int .i64 y, .int .i64 z]] w0 fun e w' => e = .returned (.bool b) ∧ Bel w0.heap.size w0 w' := by
  refine enter1 func67 rfl ntmps67 rfl fun a S => wp_seq_k fun _ hK1 => wp_region_lit (st_m (op_box S (.t rfl) rfl fun g1 a w S => run S (.ac rfl <| .z) fun a w S => st_nil (then_normal (hK1 _ _ (wp_seq_k fun _ hK1 => wp_region_lit (run S (.fa underlying62 sizeOf3 0 rfl rfl rfl <| .ld gt3 0 rfl rfl rfl <| .xx (ys_call call110 (.cons (.t rfl) .nil) (fun hp w W => c110 _ _)) rfl <| .mv rfl <| .z) fun a w S => st_yg S rfl rfl (Yr.ys (ys_fieldN (FieldT.mk underlying62 rfl sizeOf3 rfl) (.t rfl) (i' := 1) rfl)) rfl fun a w S => st_yg S rfl rfl (Yr.ys (ys_ld ⟨isAgg3, sizeOf3⟩ (Ev.g rfl) (k := 0) rfl rfl)) rfl fun a w S => st_yg S rfl rfl (ys_call call111 (.cons (Ev.g rfl) .nil) (fun hp w W => c111 _ _)) rfl fun a w S => run S (.yy (ys_and (.t rfl) (Ev.g rfl) Ev.c) rfl <| .mv rfl <| .z) fun a w S => st_yg S rfl rfl (Yr.ys (ys_fieldN (FieldT.mk underlying62 rfl sizeOf3 rfl) (.t rfl) (i' := 2) rfl)) rfl fun a w S => st_yg S rfl rfl (Yr.ys (ys_ld ⟨isAgg3, sizeOf3⟩ (Ev.g rfl) (k := 0) rfl rfl)) rfl fun a w S => st_yg S rfl rfl (ys_call call112 (.cons (Ev.g rfl) .nil) (fun hp w W => c112 _ _)) rfl fun a w S => run S (.yy (ys_and (.t rfl) (Ev.g rfl) Ev.c) rfl <| .as rfl <| .z) fun a w S => st_nil (then_normal (hK1 _ _ (wp_ret (st_ret S (results1 S results67 (Rv.tmp rfl)) ?_))))))))))
  refine ⟨?_, S.wd.below⟩
  subst hb
  simp [mayD, Bool.and_assoc]
theorem c68 (w0 : World) (x y z x' y' z' : Int) (h : (0 ≤ x ∧ x ≤ 1099511627776) ∧ (0 ≤ y ∧ y ≤ 1099511627776) ∧ 0 ≤ z ∧ z ≤ 1099511627776) (h' : (0 ≤ x' ∧ x' ≤ 1099511627776) ∧ (0 ≤ y' ∧ y' ≤ 1099511627776) ∧ 0 ≤ z' ∧ z' ≤ 1099511627776) :
    Calls Try.prog 68 #[.agg #[.int .i64 x, .int .i64 y, .int .i64 z], .agg #[.int .i64 x', .int .i64 y', .int .i64 z']] w0 fun e w' => e = .returned (.int .i64 (orderD ⟨x, y, z⟩ ⟨x', y', z'⟩)) ∧ Bel w0.heap.size w0 w' := by
  refine enter2 func68 rfl ntmps68 rfl fun a S => wp_seq_k fun _ hK1 => wp_region_lit (st_m (op_box S (.t rfl) rfl fun g1 a w S => st_m (op_box S (.t rfl) rfl fun g2 a w S => run S (.ac rfl <| .z) fun a w S => st_nil (then_normal (hK1 _ _ (wp_seq_k fun _ hK1 => wp_block (sg S (.fa underlying62 sizeOf3 0 rfl rfl rfl <| .ld gt3 1 rfl rfl rfl <| .fa underlying62 sizeOf3 0 rfl rfl rfl <| .ld gt3 0 rfl rfl rfl <| .yy (ys_neq (.t rfl) (.t rfl)) rfl <| .as rfl <| .z) fun a w S => ?_)))))))
  refine st_if S (.t rfl) (fun h1 => ?_) (fun h1 => ?_)
  refine sg S (.fa underlying62 sizeOf3 0 rfl rfl rfl <| .ld gt3 1 rfl rfl rfl <| .fa underlying62 sizeOf3 0 rfl rfl rfl <| .ld gt3 0 rfl rfl rfl <| .yy (ys_subI (.t rfl) (.t rfl) (fun _ => by unfold I64; omega)) rfl <| .as rfl <| .z) fun a w S => wp_ret (in_ret (then_ret (st_ret S (results1 S results68 (Rv.tmp rfl)) ?_)))
  rotate_left
  refine sg S (.fa underlying62 sizeOf3 1 rfl rfl rfl <| .ld gt3 1 rfl rfl rfl <| .fa underlying62 sizeOf3 1 rfl rfl rfl <| .ld gt3 0 rfl rfl rfl <| .yy (ys_neq (.t rfl) (.t rfl)) rfl <| .as rfl <| .z) fun a w S => ?_
  refine st_if S (.t rfl) (fun h2 => ?_) (fun h2 => ?_)
  refine sg S (.fa underlying62 sizeOf3 1 rfl rfl rfl <| .ld gt3 1 rfl rfl rfl <| .fa underlying62 sizeOf3 1 rfl rfl rfl <| .ld gt3 0 rfl rfl rfl <| .yy (ys_subI (.t rfl) (.t rfl) (fun _ => by unfold I64; omega)) rfl <| .as rfl <| .z) fun a w S => wp_ret (in_ret (then_ret (st_ret S (results1 S results68 (Rv.tmp rfl)) ?_)))
  rotate_left
  refine wp_skip (in_normal (then_normal (hK1 _ _ (sg S (.fa underlying62 sizeOf3 2 rfl rfl rfl <| .ld gt3 1 rfl rfl rfl <| .fa underlying62 sizeOf3 2 rfl rfl rfl <| .ld gt3 0 rfl rfl rfl <| .yy (ys_subI (.t rfl) (.t rfl) (fun _ => by unfold I64; omega)) rfl <| .as rfl <| .z) fun a w S => wp_ret (st_ret S (results1 S results68 (Rv.tmp rfl)) ?_)))))
  rotate_left
  all_goals refine ⟨?_, S.wd.below⟩
  all_goals simp_all [orderD]
theorem c27 (w0 : World) (v1 v2 : Value) (C : Ctx) (h : RdCtx w0 w0.heap.size v1 v2 C) :
    Calls Try.prog 27 #[.agg #[v1, v2]] w0 fun e w' => e = .returned (.bool (canL C)) ∧ Bel w0.heap.size w0 w' := by
  obtain ⟨⟨A, cap, rfl, hl, hcap, hA⟩, ⟨A', cap', rfl, hl', hcap', hA'⟩⟩ := h
  have hS : Sl Dot.enc 3 w0 w0.heap.size (.slice A C.marks.length cap) C.marks := ⟨A, cap, rfl, hl, hcap, hA⟩
  refine enter1 func27 rfl ntmps27 rfl fun a S => wp_seq_k fun _ hK1 => wp_region_lit (st_m (op_box S (.t rfl) rfl fun g1 a w S => run S (.ac rfl <| .z) fun a w S => st_nil (then_normal (hK1 _ _ (wp_seq_k fun _ hK1 => wp_seq_k fun _ hK2 => wp_region_lit (run S (.fa underlying38 sizeOf35 0 rfl rfl rfl <| .ld gt35 0 rfl rfl rfl <| .ln underlying35 rfl <| .yy (ys_gtr (.t rfl) Ev.c) rfl <| .mv rfl <| .z) fun a w S => st_yf S rfl rfl (Yr.ys (ys_fieldN (FieldT.mk underlying38 rfl sizeOf36 rfl) (.t rfl) (i' := 1) rfl)) rfl fun a w S => st_yf S rfl rfl (Yr.ys (ys_ld ⟨isAgg36, sizeOf36⟩ (Ev.g rfl) (k := 0) rfl rfl)) rfl fun a w S => st_yf S rfl rfl (Yr.ys (ys_lenS underlying36 (Ev.g rfl))) rfl fun a w S => st_yf S rfl rfl (Yr.ys (ys_gtr (Ev.g rfl) Ev.c)) rfl fun a w S => run S (.yy (ys_or (.t rfl) Ev.c (Ev.g rfl)) rfl <| .z) fun a w S => st_nil (then_normal (hK2 _ _ ?_))))))))
  refine st_cond S (.t rfl) (fun h1 => ?_) (fun h1 => ?_)
  refine sg S (.ac rfl <| .z) fun a w S => wp_ret (then_ret (st_ret S (results1 S results27 (Rv.tmp rfl)) ?_))
  rotate_left
  refine wp_skip (then_normal (hK1 _ _ (wp_seq_k fun _ hK1 => sg S (.fa underlying38 sizeOf35 0 rfl rfl rfl <| .ld gt35 0 rfl rfl rfl <| .ln underlying35 rfl <| .mc rfl <| .z) fun a w S => wp_block ?_)))
  rotate_left
  · exact ⟨by rw [canL_big (by simp at h1; omega)], S.wd.below⟩
  · have hbig : C.marks.length ≤ 64 ∧ C.cloud.length ≤ 64 := by simp at h1; omega
    refine st_lpK S (X := Nat) (fun k => [(21, true, .int .i64 (k : Int))]) (fun _ L => L) (fun k => k ≤ C.marks.length ∧ (∀ x ∈ C.marks.take k, mayD x = true) ∧ okM (prevD C.marks k) (C.marks.drop k) = okM none C.marks) (fun k => C.marks.length - k) 0 ⟨Nat.zero_le _, by simp, rfl⟩ ?_
    clear S h1
    intro k a w ⟨hk, hmy, hno⟩ S
    by_cases hlt : k < C.marks.length
    · obtain ⟨g, o, m, rfl, hmm, hd, hc⟩ := row_at hA hlt
      rw [hd, okM] at hno
      cases hb : mayD m with
      | false =>
        refine sg S (.lt (by omega) rfl rfl <| .z) fun a w S => wp_seq_k fun _ hK2 => st_then S (.t rfl) (wp_skip (then_normal (hK2 _ _ (wp_seq_k fun _ hK2 => wp_block (wp_seq_k fun _ hK3 => wp_region_lit (run S (.mv rfl <| .ix underlying35 sizeOf110 (by omega) rfl rfl <| .yy (ys_ldOA ⟨isAgg110, sizeOf110⟩ (.t rfl) (vs := [_, _, _]) rfl (fun _ => hc)) rfl <| .z) fun a w S => st_m (op_alloc S zeroValue110 (cs := _) rfl rfl fun g2 a w S => run S (.as rfl <| .z) fun a w S => st_m (op_stW S sizeOf110 (.t rfl) (.t rfl) (k := 0) rfl rfl rfl (by simp [Value.oneCell']) fun a w S => st_nil (then_normal (hK3 _ _ (wp_seq_k fun _ hK3 => sg S (.la gt110 0 rfl rfl rfl <| .xx (ys_call call66 (.cons (.t rfl) .nil) (fun hp w W => c66 _ _ _ _)) rfl <| .xx (ys_call call67 (.cons (.t rfl) .nil) (fun hp w W => c67 _ _ _ _ _ (by assumption))) rfl <| .nt rfl <| .z) fun a w S => st_then S (.t rfl) (sg S (.ac rfl <| .z) fun a w S => wp_ret (then_ret (in_ret (then_ret (then_ret (in_ret (then_ret (st_ret S (results1 S results27 (Rv.tmp rfl)) ?_)))))))))))))))))))
        exact ⟨by rw [canL_M (by rw [← hno, hb]; rfl)], S.wd.below⟩
      | true =>
        have hlm := may_lim hb
        rcases k with _ | k
        · refine sg S (.lt (by omega) rfl rfl <| .z) fun a w S => wp_seq_k fun _ hK2 => st_then S (.t rfl) (wp_skip (then_normal (hK2 _ _ (wp_seq_k fun _ hK2 => wp_block (wp_seq_k fun _ hK3 => wp_region_lit (run S (.mv rfl <| .yy (ys_ixS (j := 0) underlying35 sizeOf110 (.t rfl) (.t rfl) (fun _ => by omega)) rfl <| .yy (ys_ldOA ⟨isAgg110, sizeOf110⟩ (.t rfl) (vs := [_, _, _]) rfl (fun _ => hc)) rfl <| .z) fun a w S => st_m (op_alloc S zeroValue110 (cs := _) rfl rfl fun g2 a w S => run S (.as rfl <| .z) fun a w S => st_m (op_stW S sizeOf110 (.t rfl) (.t rfl) (k := 0) rfl rfl rfl (by simp [Value.oneCell']) fun a w S => st_nil (then_normal (hK3 _ _ (wp_seq_k fun _ hK3 => sg S (.la gt110 0 rfl rfl rfl <| .xx (ys_call call66 (.cons (.t rfl) .nil) (fun hp w W => c66 _ _ _ _)) rfl <| .xx (ys_call call67 (.cons (.t rfl) .nil) (fun hp w W => c67 _ _ _ _ _ (by assumption))) rfl <| .nt rfl <| .z) fun a w S => st_else S (.t rfl) (wp_skip (then_normal (hK3 _ _ (sg S (.mv rfl <| .yy (ys_F (by omega) (ys_gtr (.t rfl) Ev.c)) rfl <| .z) fun a w S => st_else S (.t rfl) (wp_skip (in_normal (then_normal (hK2 _ _ (wp_region_lit (run S (.ad (by unfold I64; omega) rfl <| .mv rfl <| .z) fun a w S => st_nil ?_)))))))))))))))))))))
          refine then_normal ?_
          exact ⟨0 + 1, ⟨by omega, all_step hmm hmy hb, by rw [prevD, hmm, ← hno, hb]; rfl⟩, by omega, S.wk⟩
        · obtain ⟨g', o', m', e', hmm', hd', hc'⟩ := row_at hA (show k < C.marks.length by omega)
          cases e'
          have hlm' := may_lim (hmy m' (by rw [List.take_add_one, hmm']; simp))
          have e : orderD m'.nl m.nl = orderD ⟨m'.node, m'.life, 0⟩ ⟨m.node, m.life, 0⟩ := rfl
          refine sg S (.lt (by omega) rfl rfl <| .z) fun a w S => wp_seq_k fun _ hK2 => st_then S (.t rfl) (wp_skip (then_normal (hK2 _ _ (wp_seq_k fun _ hK2 => wp_block (wp_seq_k fun _ hK3 => wp_region_lit (run S (.mv rfl <| .ix underlying35 sizeOf110 (by omega) rfl rfl <| .yy (ys_ldOA ⟨isAgg110, sizeOf110⟩ (.t rfl) (vs := [_, _, _]) rfl (fun _ => hc)) rfl <| .z) fun a w S => st_m (op_alloc S zeroValue110 (cs := _) rfl rfl fun g2 a w S => run S (.as rfl <| .z) fun a w S => st_m (op_stW S sizeOf110 (.t rfl) (.t rfl) (k := 0) rfl rfl rfl (by simp [Value.oneCell']) fun a w S => st_nil (then_normal (hK3 _ _ (wp_seq_k fun _ hK3 => sg S (.la gt110 0 rfl rfl rfl <| .xx (ys_call call66 (.cons (.t rfl) .nil) (fun hp w W => c66 _ _ _ _)) rfl <| .xx (ys_call call67 (.cons (.t rfl) .nil) (fun hp w W => c67 _ _ _ _ _ (by assumption))) rfl <| .nt rfl <| .z) fun a w S => st_else S (.t rfl) (wp_skip (then_normal (hK3 _ _ (sg S (.mv rfl <| .yy (ys_T (by omega) (ys_gtr (.t rfl) Ev.c)) rfl <| .z) fun a w S => st_then S (.t rfl) (wp_seq_k fun _ hK3 => wp_region_lit ?_))))))))))))))))
          refine run S (.fa underlying38 sizeOf35 0 rfl rfl rfl <| .ld gt35 1 rfl rfl rfl <| .mv rfl <| .yy (ys_pred (.t rfl) Ev.c (by omega)) rfl <| .ix underlying35 sizeOf110 (by omega) rfl rfl <| .yy (ys_ldOA ⟨isAgg110, sizeOf110⟩ (.t rfl) (vs := [_, _, _]) rfl (fun _ => hc')) rfl <| .z) fun a w S => st_m (op_alloc S zeroValue110 (cs := _) rfl rfl fun g3 a w S => st_m (op_stW S sizeOf110 (.t rfl) (.t rfl) (k := 0) rfl rfl rfl (by simp [Value.oneCell']) fun a w S => st_nil (then_normal (hK3 _ _ (sg S (.fa underlying110 sizeOf3 0 rfl rfl rfl <| .ld gt3 0 rfl rfl rfl <| .fa underlying110 sizeOf3 1 rfl rfl rfl <| .ld gt3 0 rfl rfl rfl <| .yy (ys_bld (ps := [(0, Go.Operand.tmp 39), (1, Go.Operand.tmp 41)]) (us := [_, _, _]) bld62 (.cons (.t rfl) (.cons (.t rfl) .nil)) rfl) rfl <| .fa underlying110 sizeOf3 0 rfl rfl rfl <| .ld gt3 1 rfl rfl rfl <| .fa underlying110 sizeOf3 1 rfl rfl rfl <| .ld gt3 1 rfl rfl rfl <| .yy (ys_bld (ps := [(0, Go.Operand.tmp 44), (1, Go.Operand.tmp 46)]) (us := [_, _, _]) bld62 (.cons (.t rfl) (.cons (.t rfl) .nil)) rfl) rfl <| .xx (ys_call call68 (.cons (.t rfl) (.cons (.t rfl) .nil)) (fun hp w W => c68 _ _ _ _ _ _ _ (by omega) (by omega))) rfl <| .yy (ys_geq (.t rfl) Ev.c) rfl <| .z) fun a w S => ?_)))))
          refine st_if S (.t rfl) (fun h1 => ?_) (fun h1 => ?_)
          refine sg S (.ac rfl <| .z) fun a w S => wp_ret (in_ret (then_ret (then_ret (in_ret (then_ret (st_ret S (results1 S results27 (Rv.tmp rfl)) ?_))))))
          rotate_left
          refine wp_skip (in_normal (then_normal (hK2 _ _ (wp_region_lit (run S (.ad (by unfold I64; omega) rfl <| .mv rfl <| .z) fun a w S => st_nil (then_normal ?_))))))
          rotate_left
          · exact ⟨by rw [canL_M (by rw [← hno, hb, prevD, hmm', gapM, decide_eq_false (by omega)]; rfl)], S.wd.below⟩
          · exact ⟨k + 1 + 1, ⟨by omega, all_step hmm hmy hb, by rw [prevD, hmm, ← hno, hb, prevD, hmm', gapM, decide_eq_true (by omega)]; rfl⟩, by omega, S.wk⟩
    · have hend : k = C.marks.length := by omega
      subst hend
      rw [List.take_length] at hmy
      rw [List.drop_length, okM] at hno
      have hM := hno.symm
      clear hno hk hlt
      refine sg S (.ge (by omega) rfl rfl <| .z) fun a w S => wp_seq_k fun _ hK2 => st_else S (.t rfl) (wp_exit (then_exit (then_exit (in_here (then_normal (hK1 _ _ (wp_seq_k fun _ hK1 => sg S (.fa underlying38 sizeOf36 1 rfl rfl rfl <| .ld gt36 0 rfl rfl rfl <| .ln underlying36 rfl <| .mc rfl <| .z) fun a w S => wp_block ?_)))))))
      refine st_lpK S (X := Nat) (fun k => [(54, true, .int .i64 (k : Int))]) (fun _ L => L) (fun k => k ≤ C.cloud.length ∧ (∀ x ∈ C.cloud.take k, mayD x = true) ∧ okC C.marks (prevD C.cloud k) (C.cloud.drop k) = okC C.marks none C.cloud) (fun k => C.cloud.length - k) 0 ⟨Nat.zero_le _, by simp, rfl⟩ ?_
      clear S
      intro k a w ⟨hk, hmy', hno⟩ S
      by_cases hlt : k < C.cloud.length
      · obtain ⟨g, o, m, rfl, hmm, hd, hc⟩ := row_at hA' hlt
        rw [hd, okC] at hno
        have hmk := markOf_may (x := m.node) (y := m.life) hmy
        cases hb : mayD m with
        | false =>
          refine sg S (.lt (by omega) rfl rfl <| .z) fun a w S => wp_seq_k fun _ hK3 => st_then S (.t rfl) (wp_skip (then_normal (hK3 _ _ (wp_seq_k fun _ hK3 => wp_block (wp_seq_k fun _ hK4 => wp_region_lit (run S (.mv rfl <| .ix underlying36 sizeOf62 (by omega) rfl rfl <| .yy (ys_ldOA ⟨isAgg62, sizeOf62⟩ (.t rfl) (vs := [_, _, _]) rfl (fun _ => hc)) rfl <| .z) fun a w S => st_m (op_alloc S zeroValue62 (cs := _) rfl rfl fun g2 a w S => run S (.as rfl <| .z) fun a w S => st_m (op_stW S sizeOf62 (.t rfl) (.t rfl) (k := 0) rfl rfl rfl (by simp [Value.oneCell']) fun a w S => st_nil (then_normal (hK4 _ _ (wp_seq_k fun _ hK4 => st_quiet S (by kernel_rfl) (by kernel_rfl) fun a S => qrun S (.la gt62 0 rfl rfl rfl <| .xx (ys_call call67 (.cons (.t rfl) .nil) (fun hp w W => c67 _ _ _ _ _ (by assumption))) rfl <| .nt rfl <| .mv rfl <| .sk rfl rfl rfl <| .sk rfl rfl rfl <| .sk rfl rfl rfl <| .s0 rfl rfl <| .s0 rfl rfl <| .s0 rfl rfl <| .s0 rfl rfl <| .s0 rfl rfl <| .s0 rfl rfl <| .s0 rfl rfl <| .s0 rfl rfl <| .s0 rfl rfl <| .sk rfl rfl rfl <| .yy (ys_pickT (.t rfl) Ev.c) rfl <| .mv rfl <| .sk rfl rfl rfl <| .sk rfl rfl rfl <| .sk rfl rfl rfl <| .sk rfl rfl rfl <| .sk rfl rfl rfl <| .sk rfl rfl rfl <| .sk rfl rfl rfl <| .sk rfl rfl rfl <| .yy (ys_pickT (.t rfl) Ev.c) rfl <| .z) fun a S => ?_)))))))))))
          (refine q_nil ?_; intro w W; replace S := St.mk S W; clear W)
          refine then_normal (hK4 _ _ (st_then S (.t rfl) (sg S (.ac rfl <| .z) fun a w S => wp_ret (in_ret (then_ret (then_ret (in_ret (then_ret (st_ret S (results1 S results27 (Rv.tmp rfl)) ?_)))))))))
          exact ⟨by rw [canL_C (by rw [← hno, hb]; rfl)], S.wd.below⟩
        | true =>
          have hlm := may_lim hb
          rcases k with _ | k
          · refine sg S (.lt (by omega) rfl rfl <| .z) fun a w S => wp_seq_k fun _ hK3 => st_then S (.t rfl) (wp_skip (then_normal (hK3 _ _ (wp_seq_k fun _ hK3 => wp_block (wp_seq_k fun _ hK4 => wp_region_lit (run S (.mv rfl <| .yy (ys_ixS (j := 0) underlying36 sizeOf62 (.t rfl) (.t rfl) (fun _ => by omega)) rfl <| .yy (ys_ldOA ⟨isAgg62, sizeOf62⟩ (.t rfl) (vs := [_, _, _]) rfl (fun _ => hc)) rfl <| .z) fun a w S => st_m (op_alloc S zeroValue62 (cs := _) rfl rfl fun g2 a w S => run S (.as rfl <| .z) fun a w S => st_m (op_stW S sizeOf62 (.t rfl) (.t rfl) (k := 0) rfl rfl rfl (by simp [Value.oneCell']) fun a w S => st_nil (then_normal (hK4 _ _ (wp_seq_k fun _ hK4 => st_quiet S (by kernel_rfl) (by kernel_rfl) fun a S => ?_)))))))))))
            refine qrun S (.la gt62 0 rfl rfl rfl <| .xx (ys_call call67 (.cons (.t rfl) .nil) (fun hp w W => c67 _ _ _ _ _ (by assumption))) rfl <| .nt rfl <| .mv rfl <| .gy rfl rfl (ys_move (.t rfl)) <| .gy rfl rfl (ys_F (by omega) (ys_gtr (.t rfl) Ev.c)) <| .gy rfl rfl (ys_move (.t rfl)) <| .sk rfl rfl rfl <| .sk rfl rfl rfl <| .sk rfl rfl rfl <| .sk rfl rfl rfl <| .sk rfl rfl rfl <| .sk rfl rfl rfl <| .sk rfl rfl rfl <| .sk rfl rfl rfl <| .sk rfl rfl rfl <| .gy rfl rfl (ys_pickF (.t rfl) Ev.c) <| .yy (ys_pickF (.t rfl) (.t rfl)) rfl <| .mv rfl <| .gy rfl rfl (ys_fieldN (FieldT.mk underlying62 rfl sizeOf3 rfl) (.t rfl) (i' := 2) rfl) <| .gy rfl rfl (ys_ld ⟨isAgg3, sizeOf3⟩ (.t rfl) (k := 0) rfl rfl) <| .gy rfl rfl (ys_ldA ⟨isAgg38, sizeOf38⟩ (.t rfl) (k := 1) rfl rfl) <| .gy rfl rfl (ys_ldA ⟨isAgg62, sizeOf62⟩ (.t rfl) (k := 0) rfl rfl) <| .gx rfl rfl (ys_call call65 (.cons (.t rfl) .nil) (fun hp w W => c65 _ _ _ _)) <| .gx rfl rfl (ys_call call69 (.cons (.t rfl) (.cons (.t rfl) .nil)) (fun hp w W => c69 _ _ _ _ _ _ (by exact .old W (by assumption)))) <| .gy rfl rfl (ys_addI (.t rfl) Ev.c (fun _ => by unfold I64; omega)) <| .gy rfl rfl (ys_leq (.t rfl) (.t rfl)) <| .yy (ys_pickF (.t rfl) (.t rfl)) rfl <| .z) fun a S => ?_
            (refine q_nil ?_; intro w W; replace S := St.mk S W; clear W)
            refine then_normal (hK4 _ _ ?_)
            refine st_if S (.t rfl) (fun h1 => ?_) (fun h1 => ?_)
            refine sg S (.ac rfl <| .z) fun a w S => wp_ret (in_ret (then_ret (then_ret (in_ret (then_ret (st_ret S (results1 S results27 (Rv.tmp rfl)) ?_))))))
            rotate_left
            refine wp_skip (in_normal (then_normal (hK3 _ _ (wp_region_lit (run S (.ad (by unfold I64; omega) rfl <| .mv rfl <| .z) fun a w S => st_nil (then_normal ?_))))))
            rotate_left
            · have hf : okC C.marks none C.cloud = false := by
                rw [← hno, Bool.eq_false_iff]
                intro hh
                simp [hb, prevD, gapC] at hh
                omega
              exact ⟨by rw [canL_C hf], S.wd.below⟩
            · exact ⟨0 + 1, ⟨by omega, all_step hmm hmy' hb, by rw [prevD, hmm, ← hno, hb, prevD, gapC, decide_eq_true (by omega)]; rfl⟩, by omega, S.wk⟩
          · obtain ⟨g', o', m', e', hmm', hd', hc'⟩ := row_at hA' (show k < C.cloud.length by omega)
            cases e'
            have hlm' := may_lim (hmy' m' (by rw [List.take_add_one, hmm']; simp))
            have e : orderD m' m = orderD ⟨m'.node, m'.life, m'.count⟩ ⟨m.node, m.life, m.count⟩ := rfl
            refine sg S (.lt (by omega) rfl rfl <| .z) fun a w S => wp_seq_k fun _ hK3 => st_then S (.t rfl) (wp_skip (then_normal (hK3 _ _ (wp_seq_k fun _ hK3 => wp_block (wp_seq_k fun _ hK4 => wp_region_lit (run S (.mv rfl <| .ix underlying36 sizeOf62 (by omega) rfl rfl <| .yy (ys_ldOA ⟨isAgg62, sizeOf62⟩ (.t rfl) (vs := [_, _, _]) rfl (fun _ => hc)) rfl <| .z) fun a w S => st_m (op_alloc S zeroValue62 (cs := _) rfl rfl fun g2 a w S => run S (.as rfl <| .z) fun a w S => st_m (op_stW S sizeOf62 (.t rfl) (.t rfl) (k := 0) rfl rfl rfl (by simp [Value.oneCell']) fun a w S => st_nil (then_normal (hK4 _ _ (wp_seq_k fun _ hK4 => st_quiet S (by kernel_rfl) (by kernel_rfl) fun a S => ?_)))))))))))
            refine qrun S (.la gt62 0 rfl rfl rfl <| .xx (ys_call call67 (.cons (.t rfl) .nil) (fun hp w W => c67 _ _ _ _ _ (by assumption))) rfl <| .nt rfl <| .mv rfl <| .gy rfl rfl (ys_move (.t rfl)) <| .gy rfl rfl (ys_T (by omega) (ys_gtr (.t rfl) Ev.c)) <| .gy rfl rfl (ys_move (.t rfl)) <| .gy rfl rfl (ys_fieldN (FieldT.mk underlying38 rfl sizeOf36 rfl) (.t rfl) (i' := 1) rfl) <| .gy rfl rfl (ys_ld ⟨isAgg36, sizeOf36⟩ (.t rfl) (k := 1) rfl rfl) <| .gy rfl rfl (ys_move (.t rfl)) <| .gy rfl rfl (ys_pred (.t rfl) Ev.c (by omega)) <| .gy rfl rfl (ys_ixS underlying36 sizeOf62 (.t rfl) (.t rfl) (fun _ => by omega)) <| .gy rfl rfl (ys_ldOA ⟨isAgg62, sizeOf62⟩ (.t rfl) (vs := [_, _, _]) rfl (fun _ => hc')) <| .gy rfl rfl (ys_ldA ⟨isAgg62, sizeOf62⟩ (.t rfl) (k := 0) rfl rfl) <| .gx rfl rfl (ys_call call68 (.cons (.t rfl) (.cons (.t rfl) .nil)) (fun hp w W => c68 _ _ _ _ _ _ _ (by omega) (by omega))) <| .gy rfl rfl (ys_geq (.t rfl) Ev.c) <| .gy rfl rfl (ys_pickT (.t rfl) (.t rfl)) <| .yy (ys_pickF (.t rfl) (.t rfl)) rfl <| .mv rfl <| .z) fun a S => q_yf S rfl rfl (Yr.ys (ys_fieldN (FieldT.mk underlying62 rfl sizeOf3 rfl) (.t rfl) (i' := 2) rfl)) rfl fun a S => q_yf S rfl rfl (Yr.ys (ys_ld ⟨isAgg3, sizeOf3⟩ (Ev.g rfl) (k := 0) rfl rfl)) rfl fun a S => q_yf S rfl rfl (Yr.ys (ys_ldA ⟨isAgg38, sizeOf38⟩ (.t rfl) (k := 1) rfl rfl)) rfl fun a S => ?_
            refine q_yf S rfl rfl (Yr.ys (ys_ldA ⟨isAgg62, sizeOf62⟩ (.t rfl) (k := 0) rfl rfl)) rfl fun a S => q_yf S rfl rfl (ys_call call65 (.cons (Ev.g rfl) .nil) (fun hp w W => c65 _ _ _ _)) rfl fun a S => q_yf S rfl rfl (ys_call call69 (.cons (Ev.g rfl) (.cons (Ev.g rfl) .nil)) (fun hp w W => c69 _ _ _ _ _ _ (by exact .old W (by assumption)))) rfl fun a S => q_yf S rfl rfl (Yr.ys (ys_addI (Ev.g rfl) Ev.c (fun _ => by unfold I64; omega))) rfl fun a S => q_yf S rfl rfl (Yr.ys (ys_leq (Ev.g rfl) (Ev.g rfl))) rfl fun a S => qrun S (.yy (ys_or (.t rfl) Ev.c (Ev.g rfl)) rfl <| .z) fun a S => ?_
            (refine q_nil ?_; intro w W; replace S := St.mk S W; clear W)
            refine then_normal (hK4 _ _ ?_)
            refine st_cond S (.t rfl) (fun h1 => ?_) (fun h1 => ?_)
            refine sg S (.ac rfl <| .z) fun a w S => wp_ret (in_ret (then_ret (then_ret (in_ret (then_ret (st_ret S (results1 S results27 (Rv.tmp rfl)) ?_))))))
            rotate_left
            refine wp_skip (in_normal (then_normal (hK3 _ _ (wp_region_lit (run S (.ad (by unfold I64; omega) rfl <| .mv rfl <| .z) fun a w S => st_nil (then_normal ?_))))))
            rotate_left
            · have hf : okC C.marks none C.cloud = false := by
                rw [← hno, Bool.eq_false_iff]
                intro hh
                simp [hb, prevD, hmm', gapC] at hh h1
                omega
              exact ⟨by rw [canL_C hf], S.wd.below⟩
            · simp at h1
              exact ⟨k + 1 + 1, ⟨by omega, all_step hmm hmy' hb, by rw [prevD, hmm, ← hno, hb, prevD, hmm', gapC, decide_eq_true (by omega), decide_eq_true (by omega)]; rfl⟩, by omega, S.wk⟩
      · have hend : k = C.cloud.length := by omega
        subst hend
        rw [List.drop_length, okC] at hno
        refine sg S (.ge (by omega) rfl rfl <| .z) fun a w S => wp_seq_k fun _ hK3 => st_else S (.t rfl) (wp_exit (then_exit (then_exit (in_here (then_normal (hK1 _ _ (sg S (.ac rfl <| .z) fun a w S => wp_ret (st_ret S (results1 S results27 (Rv.tmp rfl)) ?_))))))))
        exact ⟨by rw [canL_yes hbig hM hno.symm], S.wd.below⟩
end Go.Proofs.Ytfblmkocmnbdcaa
namespace Go.Fw
theorem Dot.enc_len (x : Dot) : (Dot.enc x).length = 3 := rfl
theorem Dot.enc_one (x : Dot) : ∀ u ∈ Dot.enc x, u.oneCell' = true := fun u hu => by simp [Dot.enc] at hu; rcases hu with rfl | rfl | rfl <;> rfl
end Go.Fw
set_option linter.unusedVariables false
set_option linter.unusedSimpArgs false
set_option maxRecDepth 100000
namespace Go.Proofs.Ytfblmkocmnbdcaa
open Go.Fw Go.Proofs Go.RowKit Go.Proofs.Try
theorem c82 (w0 : World) (v1 : Value) (l : List Dot) (h : Sl Dot.enc 3 w0 w0.heap.size v1 l) (hn : l.length ≤ 4194304) :
    Rets Try.prog 82 #[v1] w0 fun v L => ∃ A c, v = .slice A l.length c ∧ L = [rowOf 62 3 Dot.enc A c l] := by
  have h0 := h
  obtain ⟨A, cap, rfl, hl, hcap, hA⟩ := h
  unfold Go.Fw.Rets
  refine enter1 func82 rfl ntmps82 rfl fun a S => sg S (.ac rfl <| .z) fun a w S => wp_seq_k fun _ hK1 => sg S (.mv rfl <| .yy (ys_sNil underlying36 (.t rfl) Ev.c) rfl <| .z) fun a w S => ?_
  refine st_cond S (.t rfl) (fun h1 => ?_) (fun h1 => ?_)
  refine sg S (.ac rfl <| .z) fun a w S => wp_ret (then_ret (st_ret S (results1 S results82 (Rv.tmp rfl)) ?_))
  rotate_left
  refine wp_skip (then_normal (hK1 _ _ (wp_seq_k fun _ hK1 => wp_region_lit (st_m (op_bslice0 S underlying36 sizeOf62 rfl fun g1 a w S => run S (.mv rfl <| .z) fun a w S => st_m (op_extend _ (S.nil_ 62 _ Go.Fw.Dot.enc _) underlying36 underlying36 (.inr ⟨_, rfl⟩) inf62 rfl (k := 0) rfl (.t rfl) (.t rfl) (Src.sl (Sl.old S.wd h0) (by decide) Go.Fw.Dot.enc_len Go.Fw.Dot.enc_one) (by first | omega | (simp only [List.length_append, List.length_cons, List.length_nil]; omega) | (simp; omega)) rfl rfl rfl fun A1 cap1 a w S => ?_))))))
  simp only [List.nil_append] at S
  refine run S (.as rfl <| .z) fun a w S => st_nil (then_normal (hK1 _ _ (wp_ret (st_ret S (results1 S results82 (Rv.tmp rfl)) ?_))))
  rotate_left
  · have hnil : l = [] := by
      refine List.eq_nil_of_length_eq_zero (Decidable.byContradiction fun hne => ?_)
      obtain ⟨g, o, rfl, _⟩ := hA (by omega)
      cases h1
    subst hnil
    exact ⟨_, _, rfl, (S.nil_ 62 3 Dot.enc none).wd.sub (by repeat (first | exact List.Sublist.refl _ | exact List.nil_sublist _ | refine .cons_cons _ ?_ | refine .cons _ ?_)), none, 0, rfl, rfl⟩
  · try simp only [List.nil_append] at S ⊢
    exact ⟨_, _, rfl, S.wd.sub (by repeat (first | exact List.Sublist.refl _ | exact List.nil_sublist _ | refine .cons_cons _ ?_ | refine .cons _ ?_)), _, _, rfl, rfl⟩
end Go.Proofs.Ytfblmkocmnbdcaa
set_option linter.unusedVariables false
set_option linter.unusedSimpArgs false
set_option maxRecDepth 100000
namespace Go.Proofs.Ytfblmkocmnbdcaa
open Go.Fw Go.Proofs Go.RowKit Go.Proofs.Try
instance (a b : Dot) : Decidable (ltM a b) := inferInstanceAs (Decidable (_ ∨ _))
end Go.Proofs.Ytfblmkocmnbdcaa
set_option linter.unusedVariables false
set_option linter.unusedSimpArgs false
namespace Go.Ft
open Go.RowKit
abbrev KL := List (Nat × Bool × Value)
def look : KL → Nat → Option (Bool × Value)
  | [], _ => none
  | (j, v) :: r, i => bif Nat.beq i j then some v else look r i
structure Kn (n : Nat) (K : KL) (a : Act) : Prop where
  defers : a.defers = []
  size : a.tmps.size = n
  slot : ∀ i g v, look K i = some (g, v) → a.tmps[i]? = some (bif g then v else undef)
def Ev (n : Nat) (b : Bool) (K : KL) (x : Operand) (v : Value) : Prop := ∀ a, b = true → Kn n K a → a.eval x = v
section kn
variable {n : Nat} {K : KL} {a : Act} {b : Bool}
theorem Ev.t {t : Nat} {v : Value} (h : look K t = some (true, v)) : Ev n b K (.tmp t) v := fun a _ hk => by
  simp [Act.eval, hk.slot t true v h]
theorem Ev.g {t : Nat} {v : Value} (h : look K t = some (b, v)) : Ev n b K (.tmp t) v := fun a hb hk => by
  simp [Act.eval, hk.slot t b v h, hb]
theorem Ev.c {v : Value} : Ev n b K (.const v) v := fun _ _ _ => rfl
theorem Ev.f {f : Nat} : Ev n b K (.func f) (.func (.func f) #[] #[]) := fun _ _ _ => rfl
def Fits (sn : List Nat) (K : KL) : KL → Prop
  | [] => True
  | (i, g, v) :: r => (List.elem i sn = true ∨ look K i = some (g, v)) ∧ Fits (i :: sn) K r
theorem Fits.look {K : KL} : ∀ {K' : KL} {sn : List Nat}, Fits sn K K' → ∀ i v, List.elem i sn = false → Ft.look K' i = some v → Ft.look K i = some v
  | [], _, _, i, v, _, h => by simp [Ft.look] at h
  | (j, g, u) :: r, sn, hf, i, v, hn, h => by
    obtain ⟨h1, h2⟩ := hf
    unfold Ft.look at h
    by_cases hi : i = j
    · subst hi
      simp only [Nat.beq_refl, cond_true, Option.some.injEq] at h
      rw [← h]
      rcases h1 with h1 | h1
      · rw [h1] at hn; cases hn
      · exact h1
    · have : Nat.beq i j = false := by simpa [Nat.beq_eq_true_eq, ← Bool.not_eq_true] using hi
      simp only [this, cond_false] at h
      refine Fits.look h2 i v ?_ h
      have hne : (i == j) = false := by simpa using hi
      simp only [List.elem, hne]
      exact hn
end kn
abbrev Dle (a b : Nat) : Prop := a ≤ b
theorem Dle.succ (a : Nat) : Dle a (a + 1) := by unfold Dle; omega
structure Bel (B : Nat) (w w' : World) : Prop extends Below B w w' where
  drawn : Dle w.drawn w'.drawn
section bel
variable {B B' : Nat} {a b c : World}
theorem Bel.refl (B : Nat) (w : World) : Bel B w w := ⟨Below.refl B w, Nat.le_refl _⟩
theorem Bel.trans (h : Bel B a b) (k : Bel B b c) : Bel B a c := ⟨h.toBelow.trans k.toBelow, Nat.le_trans h.drawn k.drawn⟩
theorem Bel.mono (h : Bel B a b) (hB : B' ≤ B) : Bel B' a b := ⟨h.toBelow.mono hB, h.drawn⟩
theorem Bel.drew (h : Bel B a b) : Bel B a b.drew := ⟨h.toBelow.drew, Nat.le_trans h.drawn (Dle.succ _)⟩
end bel
structure Turned (S : Nat → Prop) (w w' : World) : Prop where
  os : w'.os = w.os
  tape : w'.tape = w.tape
  output : w'.output = w.output
  size : w.heap.size ≤ w'.heap.size
  block : ∀ k, k < w.heap.size → ¬ S k → w'.heap[k]? = w.heap[k]?
  drawn : Dle w.drawn w'.drawn
theorem Turned.mono {S S' : Nat → Prop} {w w' : World} (h : Turned S w w') (hS : ∀ k, S k → S' k) : Turned S' w w' :=
  ⟨h.os, h.tape, h.output, h.size, fun k hk hn => h.block k hk fun e => hn (hS k e), h.drawn⟩
def Owns (w : World) (B : Nat) (e size : Nat) (A : Option Addr) (n cap : Nat) (xs : List Value) : Prop :=
  xs.length = n * size ∧ ((n = 0 ∧ cap = 0) ∨ ∃ g cur, A = some ⟨g, 0, none⟩ ∧ 0 < cap ∧ B ≤ g ∧ w.heap[g]? = some (.cells cur e (0, 0)) ∧ n ≤ cap ∧ cap ≤ maxLen ∧ cur.size = cap * size ∧ cur.toList.take (n * size) = xs)
inductive Chunk where
  | blk (b : Nat) (o : Obj)
  | row (e size : Nat) (A : Option Addr) (n cap : Nat) (xs : List Value)
  | ice (w1 : World) (bs : List Nat)
def Chunk.holds (B : Nat) (w : World) : Chunk → Prop
  | .blk b o => B ≤ b ∧ w.heap[b]? = some o
  | .row e size A n cap xs => Owns w B e size A n cap xs
  | .ice w1 bs => ∀ b ∈ bs, B ≤ b ∧ b < w.heap.size ∧ w.heap[b]? = w1.heap[b]?
def Chunk.own : Chunk → Nat → Prop
  | .blk b _ => fun x => x = b
  | .row _ _ A _ cap _ => fun x => cap ≠ 0 ∧ A.map (·.block) = some x
  | .ice _ bs => fun x => x ∈ bs
def Chunk.apart (c d : Chunk) : Prop := ∀ b, c.own b → ¬ d.own b
theorem Chunk.holds.lt {B : Nat} {w : World} {c : Chunk} (h : c.holds B w) {b : Nat} (hb : c.own b) : B ≤ b ∧ b < w.heap.size := by
  cases c with
  | blk b' o =>
    obtain ⟨h1, h2⟩ := h
    simp only [Chunk.own] at hb
    subst hb
    exact ⟨h1, (Array.getElem?_eq_some_iff.1 h2).1⟩
  | row e size A n cap xs =>
    obtain ⟨h0, hb⟩ := hb
    rcases h.2 with ⟨_, hc⟩ | ⟨g, cur, rfl, hp, hB, hg, _⟩
    · exact absurd hc h0
    · simp only [Option.map_some, Option.some.injEq] at hb
      subst hb
      exact ⟨hB, (Array.getElem?_eq_some_iff.1 hg).1⟩
  | ice w1 bs => exact ⟨(h b hb).1, (h b hb).2.1⟩
theorem Chunk.holds.keep {B : Nat} {w w' : World} {c : Chunk} (h : c.holds B w) (hs : w.heap.size ≤ w'.heap.size) (hk : ∀ b, c.own b → w'.heap[b]? = w.heap[b]?) : c.holds B w' := by
  cases c with
  | blk b o => exact ⟨h.1, (hk b rfl).trans h.2⟩
  | row e size A n cap xs =>
    refine ⟨h.1, ?_⟩
    rcases h.2 with hn | ⟨g, cur, rfl, hp, hb, hgg, rest⟩
    · exact .inl hn
    · exact .inr ⟨g, cur, rfl, hp, hb, (hk g ⟨Nat.pos_iff_ne_zero.1 hp, rfl⟩).trans hgg, rest⟩
  | ice w1 bs => exact fun b hb => ⟨(h b hb).1, Nat.lt_of_lt_of_le (h b hb).2.1 hs, (hk b hb).trans (h b hb).2.2⟩
theorem Chunk.holds.mono {B B' : Nat} {w : World} {c : Chunk} (h : c.holds B w) (hB : B' ≤ B) : c.holds B' w := by
  cases c with
  | blk b o => exact ⟨Nat.le_trans hB h.1, h.2⟩
  | row e size A n cap xs =>
    refine ⟨h.1, ?_⟩
    rcases h.2 with hn | ⟨g, cur, rfl, hp, hb, rest⟩
    · exact .inl hn
    · exact .inr ⟨g, cur, rfl, hp, Nat.le_trans hB hb, rest⟩
  | ice w1 bs => exact fun b hb => ⟨Nat.le_trans hB (h b hb).1, (h b hb).2⟩
structure Wd (w0 : World) (L : List Chunk) (w : World) : Prop where
  below : Bel w0.heap.size w0 w
  all : ∀ c ∈ L, c.holds w0.heap.size w
  apart : L.Pairwise Chunk.apart
section wd
variable {w0 : World} {L : List Chunk} {w w' : World}
theorem Wd.get (h : Wd w0 L w) {k : Nat} {c : Chunk} (hk : L[k]? = some c) : c.holds w0.heap.size w := h.all c (List.mem_of_getElem? hk)
theorem Wd.step (h : Wd w0 L w) (hb : Bel w.heap.size w w') : Wd w0 L w' :=
  ⟨h.below.trans (hb.mono h.below.size), fun c hc => (h.all c hc).keep hb.size fun b hbk => hb.block b ((h.all c hc).lt hbk).2, h.apart⟩
theorem Wd.drew (h : Wd w0 L w) : Wd w0 L w.drew := h.step (Bel.refl _ _).drew
end wd
section code
variable {P : Program} {Q : Exit → Act → World → Prop} {n : Nat} {w0 : World} {K : KL} {L : List Chunk} {a : Act} {w : World}
section enters
variable {f : FuncId} {fn : Func} {c : Code} {R : Ending → World → Prop} {v0 v1 v2 v3 v4 v5 v6 v7 v8 : Value}
end enters
def Ys (P : Program) (o : Oper) (n : Nat) (K : KL) (w0 : World) (L : List Chunk) (b : Bool) (v : Value) : Prop :=
  ∀ a w, b = true → Kn n K a → Wd w0 L w → Oper.quietUpon P (Wd w0 L) w v ((execOp a.eval o).run P w)
def Yr (P : Program) (o : Oper) (n : Nat) (K : KL) (w0 : World) (L : List Chunk) (b : Bool) (v : Value) : Prop :=
  ∀ a w, b = true → Kn n K a → Wd w0 L w → (execOp a.eval o).run P w = .ok (.value v) w
theorem Yr.ys {o : Oper} {b : Bool} {v : Value} (h : Yr P o n K w0 L b v) : Ys P o n K w0 L b v := fun a w hb hk hw => by
  rw [h a w hb hk hw]; exact ⟨rfl, rfl⟩
section list
variable {ops : Array Oper} {rest : List Oper} {op : Op} {ty : TypeId} {pos : String} {aft : Array Edge} {v : Value} {d t j : Nat} {p : Bool}
variable {Z : Act → Prop} {C : World → Prop}
end list
section held
variable {ops : Array Oper} {Lr : List Chunk} {fuel i : Nat} {listed : Array Bool} {op : Op} {ty : TypeId} {pos : String} {aft : Array Edge} {gd : Option (Nat × Bool)} {v : Value} {d t j : Nat} {p : Bool} {md : Region.Mode}
end held
end code
end Go.Ft
set_option linter.unusedVariables false
set_option linter.unusedSimpArgs false
namespace Go.Ft
open Go.RowKit
section ops
variable {P : Program} {n : Nat} {w0 : World} {K : KL} {L : List Chunk} {b : Bool} {dst : Option Tmp} {ty : TypeId} {pos : String} {aft : Array Edge} {gd : Option (Nat × Bool)}
def Many (P : Program) (t : TypeId) (k : Nat) : Prop := (∀ w, (isAgg t).run P w = .ok true w) ∧ ∀ w, (sizeOf t).run P w = .ok k w
def nth : List Value → Nat → Option Value
  | [], _ => none
  | v :: _, 0 => some v
  | _ :: r, i + 1 => nth r i
theorem nth_eq : ∀ (cs : List Value) (i : Nat), nth cs i = cs[i]?
  | [], i => by simp [nth]
  | v :: r, 0 => by simp [nth]
  | v :: r, i + 1 => by simp [nth, nth_eq r i]
def upto : List Value → Nat → Option (List Value)
  | _, 0 => some []
  | [], _ + 1 => none
  | v :: r, k + 1 => match upto r k with
    | some l => some (v :: l)
    | none => none
def cellsAt : List Value → Nat → Nat → Option (List Value)
  | cs, 0, k => upto cs k
  | [], _ + 1, _ => none
  | _ :: r, i + 1, k => cellsAt r i k
theorem upto_eq : ∀ {cs : List Value} {k : Nat} {vs : List Value}, upto cs k = some vs → vs.length = k ∧ vs = cs.take k
  | cs, 0, vs, h => by cases cs <;> simp [upto] at h <;> simp [h]
  | [], k + 1, vs, h => by simp [upto] at h
  | v :: r, k + 1, vs, h => by
    unfold upto at h
    split at h
    · rename_i l hl
      obtain ⟨h1, h2⟩ := upto_eq hl
      simp only [Option.some.injEq] at h
      subst h
      exact ⟨by simp [h1], by simp [← h2]⟩
    · cases h
theorem cellsAt_eq : ∀ {cs : List Value} {i k : Nat} {vs : List Value}, cellsAt cs i k = some vs → vs.length = k ∧ vs = (cs.drop i).take k
  | cs, 0, k, vs, h => by cases cs <;> exact upto_eq h
  | [], i + 1, k, vs, h => by simp [cellsAt] at h
  | v :: r, i + 1, k, vs, h => by simpa using cellsAt_eq (cs := r) (i := i) h
theorem run_load_many {t : TypeId} {k : Nat} (h1 : Many P t k) {w : World} {ad : Addr} {vs : List Value} (hl : vs.length = k) (hc : ∀ j u, vs[j]? = some u → w.cell? (ad.add j) = some u) :
    (loadVar t ad).run P w = .ok (.agg vs.toArray) w := by
  have h := run_loadCells_list (P := P) w ad vs hc
  rw [hl] at h
  simp [loadVar, Sem.run_bind, h1.1, h1.2, h]
theorem Owns.cell {w : World} {B e size n cap g : Nat} {xs : List Value} (h : Owns w B e size (some ⟨g, 0, none⟩) n cap xs) {j : Nat} {u : Value} (hj : xs[j]? = some u) : w.cell? ⟨g, j, none⟩ = some u := by
  rcases h.2 with ⟨h0, _⟩ | ⟨g', cur, hA, _, _, hg, _, _, _, ht⟩
  · have h1 := h.1
    rw [h0] at h1
    have : xs = [] := List.eq_nil_of_length_eq_zero (by simpa using h1)
    subst this; simp at hj
  · simp only [Option.some.injEq, Addr.mk.injEq] at hA
    obtain ⟨rfl, _, _⟩ := hA
    rw [cell_of_row w _ j cur e (0, 0) hg]
    rw [← ht, List.getElem?_take] at hj
    split at hj
    · simpa using hj
    · cases hj
def FieldT (P : Program) (s : TypeId) (f o : Nat) : Prop := ∀ w ad, (Instr.fieldAt s (.pointer (some ad)) f).run P w = .ok (.pointer (some (ad.add o))) w
theorem FieldT.mk {s f : Nat} {fs : Array Field} {nm : String} {tt o : Nat} {em : Bool} {tg pp : String} {bo : Nat} {m : Nat} (hu : P.underlying s = some (.struct fs)) (hf : fs[f]? = some ⟨nm, tt, o, em, tg, pp, bo⟩) (hz : ∀ w, (sizeOf tt).run P w = .ok m w) (hm : Nat.blt 0 m = true) : FieldT P s f o := fun w ad => by
  have hm' : m ≠ 0 := by have := Nat.le_of_ble_eq_true hm; omega
  simp [Instr.fieldAt, run_underlying hu, hf, Instr.sureAddr, fieldPlace, hz, hm']
section cmp
variable {t t' : TypeId} {x y : Operand} {k : IntKind} {p q : Int} (hx : Ev n b K x (.int k p)) (hy : Ev n b K y (.int k q))
include hx hy
end cmp
def EqT (P : Program) (t : TypeId) (vs us : List Value) (r : Bool) : Prop :=
  ∀ w, (eqGuard .eql t (.tmp 0) (.tmp 0) (.agg vs.toArray) (.agg us.toArray)).run P w = .ok () w ∧ (Op.equalIn 10000 t (.agg vs.toArray) (.agg us.toArray)).run P w = .ok r w
def lay (cs : List Value) : Nat → List Value → List Value
  | _, [] => cs
  | i, v :: vs => lay (cs.set i v) (i + 1) vs
def fillL (places : Nat → Option (Nat × Nat)) (zs : List Value) : List (Nat × Value) → Option (List Value)
  | [] => some zs
  | (i, v) :: rest => match places i with
    | none => none
    | some (off, size) => bif Nat.beq v.cells.toList.length size && Nat.ble (off + size) zs.length then fillL places (lay zs off v.cells.toList) rest else none
theorem foldl_lay : ∀ (vs : List Value) (off j : Nat) (zs : List Value), (vs.zipIdx j).foldl (fun cs (x : Value × Nat) => cs.setIfInBounds (off + x.2) x.1) zs.toArray = (lay zs (off + j) vs).toArray
  | [], off, j, zs => rfl
  | v :: vs, off, j, zs => by
    simp only [List.zipIdx_cons, List.foldl_cons, lay]
    rw [List.setIfInBounds_toArray, foldl_lay vs off (j + 1)]
    rfl
theorem fill_of : ∀ {places : Nat → Option (Nat × Nat)} {parts : List (Nat × Value)} {zs us : List Value}, fillL places zs parts = some us → Instr.fill places zs.toArray parts = some us.toArray
  | places, [], zs, us, h => by simp [fillL] at h; simp [Instr.fill, h]
  | places, (i, v) :: rest, zs, us, h => by
    unfold fillL at h
    unfold Instr.fill
    split at h
    · cases h
    · rename_i off size hp
      simp only [hp]
      cases hc : (Nat.beq v.cells.toList.length size && Nat.ble (off + size) zs.length) with
      | false => rw [hc] at h; simp at h
      | true =>
        rw [hc] at h
        simp only [cond_true] at h
        simp only [Bool.and_eq_true, Nat.ble_eq] at hc
        obtain ⟨h1, h2⟩ := hc
        have h1' : v.cells.size = size := by simpa using h1
        have h3 : (decide (v.cells.size ≠ size) || decide (off + v.cells.size > zs.toArray.size)) = false := by
          simp [h1']; omega
        have h4 : v.cells.zipIdx.foldl (fun cs (x : Value × Nat) => cs.setIfInBounds (off + x.2) x.1) zs.toArray = (lay zs off v.cells.toList).toArray := by
          have := foldl_lay v.cells.toList off 0 zs
          rw [← Array.foldl_toList, Array.toList_zipIdx]
          simpa using this
        rw [if_neg (by rw [h3]; simp)]
        have h5 := fill_of (places := places) (parts := rest) h
        rw [← h4] at h5
        exact h5
def BuildT (P : Program) (t : TypeId) (zs : List Value) (places : List (Nat × Nat)) : Prop :=
  (∃ z, (∀ w, (zeroValue t).run P w = .ok z w) ∧ z.cells = zs.toArray) ∧ ∃ fs, P.underlying t = some (.struct fs) ∧ ∀ w, (fs.mapM (fun f => do pure (f.offset, ← sizeOf f.type)) : Sem (Array (Nat × Nat))).run P w = .ok places.toArray w
theorem BuildT.run {t : TypeId} {zs : List Value} {places : List (Nat × Nat)} (h : BuildT P t zs places) {parts : List (Nat × Value)} {us : List Value} (hf : fillL (places[·]?) zs parts = some us) (w : World) : (Instr.build t parts.toArray).run P w = .ok (.agg us.toArray) w := by
  obtain ⟨⟨z, hz, hc⟩, fs, hu, hm⟩ := h
  have h1 : Instr.fill (fun x => places[x]?) zs.toArray parts = some us.toArray := fill_of hf
  simp only [Instr.build, Sem.run_bind, hz, Result.andThen_ok, run_underlying hu, hm, hc]
  simp [h1]
end ops
section movers
variable {P : Program} {n : Nat} {w0 : World} {K : KL} {L : List Chunk} {ty : TypeId} {pos : String} {aft : Array Edge} {gd : Option (Nat × Bool)} {a : Act} {w : World} {Z : Act → World → Prop} {Q : Exit → Act → World → Prop} {d : Nat}
end movers
section ends
variable {P : Program} {n : Nat} {w0 : World} {K : KL} {L : List Chunk} {a : Act} {w : World} {fn : Func} {R : Ending → World → Prop} {t : Nat} {v : Value}
def res1 (tmps : Array Value) (r : ResultVar) : Sem Value := match r with
  | .tmp t => pure (tmps.getD t undef)
  | .cell a t => do loadVar t (← asAddr (tmps.getD a undef))
def Rv (P : Program) (n : Nat) (w0 : World) (K : KL) (L : List Chunk) (r : ResultVar) (v : Value) : Prop :=
  ∀ a w, Kn n K a → Wd w0 L w → (res1 a.tmps r).run P w = .ok v w
theorem Rv.tmp (h : look K t = some (true, v)) : Rv P n w0 K L (.tmp t) v := fun a w hk _ => by
  simp [res1, hk.slot t true v h]
theorem Rv.cell {ty m : Nat} {g k : Nat} {cs : List Value} {e : TypeId} {fr : Nat × Nat} (h1 : Many P ty m) (h : look K t = some (true, .pointer (some ⟨g, 0, none⟩))) (hk : L[k]? = some (.blk g (.cells cs.toArray e fr))) (hm : cs.length = m) :
    Rv P n w0 K L (.cell t ty) (.agg cs.toArray) := fun a w hkn hw => by
  have hg := (hw.get hk).2
  have h2 := run_load_many (P := P) (ad := ⟨g, 0, none⟩) h1 hm (w := w) (fun j u hj => by
    rw [Addr.add_mid, cell_of_row w g (0 + j) _ e fr hg]; simpa using hj)
  simp [res1, hkn.slot t true _ h, asAddr, h2]
end ends
end Go.Ft
namespace Go.Ft
open Go.RowKit
section exits
variable {K : Act → World → Prop} {Q : Exit → Act → World → Prop} {a : Act} {w : World} {i j : Nat}
end exits
def Sl {α : Type} (enc : α → List Value) (size : Nat) (w : World) (B : Nat) (v : Value) (l : List α) : Prop :=
  ∃ A cap, v = .slice A l.length cap ∧ l.length ≤ cap ∧ cap ≤ 9223372036854775807 ∧
    (0 < l.length → ∃ g o, A = some ⟨g, o, none⟩ ∧ g < B ∧ ∀ k x, l[k]? = some x → ∀ j u, (enc x)[j]? = some u → w.cell? ⟨g, o + k * size + j, none⟩ = some u)
section sl
variable {α : Type} {enc : α → List Value} {size : Nat} {w w' w0 : World} {B B' : Nat} {v : Value} {l : List α} {L : List Chunk}
theorem Sl.keep (h : Sl enc size w B v l) (hk : Below B w w') : Sl enc size w' B v l := by
  obtain ⟨A, cap, rfl, h1, h2, h3⟩ := h
  refine ⟨A, cap, rfl, h1, h2, fun hl => ?_⟩
  obtain ⟨g, o, hA, hg, hc⟩ := h3 hl
  exact ⟨g, o, hA, hg, fun k x hx j u hu => (hk.cell (p := ⟨g, o + k * size + j, none⟩) hg).trans (hc k x hx j u hu)⟩
theorem Sl.mono (h : Sl enc size w B v l) (hB : B ≤ B') : Sl enc size w B' v l := by
  obtain ⟨A, cap, rfl, h1, h2, h3⟩ := h
  refine ⟨A, cap, rfl, h1, h2, fun hl => ?_⟩
  obtain ⟨g, o, hA, hg, hc⟩ := h3 hl
  exact ⟨g, o, hA, by omega, hc⟩
end sl
end Go.Ft
set_option linter.unusedVariables false
set_option linter.unusedSimpArgs false
namespace Go.Ft
open Go.RowKit
def InfoT (P : Program) (e : TypeId) (z : Value) (size bytes : Nat) : Prop := (P.info? e).map (fun i => (i.zero, i.size, i.bytes)) = some (some z, size, bytes)
theorem InfoT.parts {P : Program} {e : TypeId} {z : Value} {size bytes : Nat} (h : InfoT P e z size bytes) : ∃ i, P.info? e = some i ∧ i.zero = some z ∧ i.size = size ∧ i.bytes = bytes := by
  unfold InfoT at h
  cases hi : P.info? e with
  | none => rw [hi] at h; simp at h
  | some i => rw [hi] at h; simp at h; exact ⟨i, rfl, h⟩
structure Src (P : Program) (w : World) (size : Nat) (x : Value) (m : Nat) (news : List Value) : Prop where
  len : ∀ W, (Builtin.lenOf x).run P W = .ok m W
  here : (Builtin.firstCells size m x).run P w = .ok news.toArray w
  drew : (Builtin.firstCells size m x).run P w.drew = .ok news.toArray w.drew
  length : news.length = m * size
  one : ∀ u ∈ news, u.oneCell' = true
section src
variable {P : Program} {w : World} {size m : Nat} {news : List Value}
theorem Src.at_ {g o c : Nat} (hl : news.length = m * size) (h1 : ∀ u ∈ news, u.oneCell' = true) (h : ∀ j u, news[j]? = some u → w.cell? ⟨g, o + j, none⟩ = some u) : Src P w size (.slice (some ⟨g, o, none⟩) m c) m news :=
  ⟨fun W => by simp [Builtin.lenOf],
   run_firstCells_some (P := P) w size m ⟨g, o, none⟩ m c news hl (fun j u hj => by rw [Addr.add_mid]; exact h j u hj),
   run_firstCells_some (P := P) w.drew size m ⟨g, o, none⟩ m c news hl (fun j u hj => by rw [Addr.add_mid]; exact h j u hj), hl, h1⟩
theorem Src.none_ {A : Option Addr} {c : Nat} : Src P w size (.slice A 0 c) 0 [] := by
  cases A with
  | none => exact ⟨fun W => by simp [Builtin.lenOf], by simp [Builtin.firstCells], by simp [Builtin.firstCells], by simp, by simp⟩
  | some a => exact ⟨fun W => by simp [Builtin.lenOf], by simp [Builtin.firstCells, loadCells, loadCellsFrom], by simp [Builtin.firstCells, loadCells, loadCellsFrom], by simp, by simp⟩
theorem Src.blk {L : List Chunk} {w0 : World} (hw : Wd w0 L w) {k g c : Nat} {e : TypeId} {fr : Nat × Nat} (hk : L[k]? = some (.blk g (.cells news.toArray e fr))) (hl : news.length = m * size) (h1 : ∀ u ∈ news, u.oneCell' = true) : Src P w size (.slice (some ⟨g, 0, none⟩) m c) m news :=
  Src.at_ hl h1 (fun j u hj => by rw [cell_of_row w g (0 + j) _ e fr (hw.get hk).2]; simpa using hj)
theorem Src.row {L : List Chunk} {w0 : World} (hw : Wd w0 L w) {k e cap c : Nat} {A : Option Addr} (hk : L[k]? = some (.row e size A m cap news)) (h1 : ∀ u ∈ news, u.oneCell' = true) : Src P w size (.slice A m c) m news := by
  have h := hw.get hk
  rcases h.2 with ⟨rfl, _⟩ | ⟨g, cur, rfl, _⟩
  · have : news = [] := List.eq_nil_of_length_eq_zero (by simpa using h.1)
    subst this
    exact Src.none_
  · exact Src.at_ h.1 h1 (fun j u hj => by rw [Nat.zero_add]; exact Owns.cell h hj)
end src
section app
variable {P : Program} {w : World}
end app
end Go.Ft
set_option linter.unusedVariables false
set_option linter.unusedSimpArgs false
namespace Go.Ft
open Go.RowKit
section ldw
variable {P : Program} {n : Nat} {w0 : World} {K : KL} {L : List Chunk} {b : Bool} {dst : Option Tmp} {ty : TypeId} {pos : String} {aft : Array Edge} {gd : Option (Nat × Bool)}
end ldw
section movers
variable {P : Program} {n : Nat} {w0 : World} {K : KL} {L : List Chunk} {ty : TypeId} {pos : String} {aft : Array Edge} {gd : Option (Nat × Bool)} {a : Act} {w : World} {Z : Act → World → Prop} {Q : Exit → Act → World → Prop} {d : Nat}
end movers
section ops
variable {P : Program} {n : Nat} {w0 : World} {K : KL} {L : List Chunk} {b : Bool} {dst : Option Tmp} {ty : TypeId} {pos : String} {aft : Array Edge} {gd : Option (Nat × Bool)}
end ops
section eq
variable {P : Program}
def FEq (P : Program) (k : Nat) (xs ys : List Value) (fs : List Field) (r : Bool) : Prop := ∀ d w, (Op.eqFields (d + k) xs.toArray ys.toArray fs).run P w = .ok r w
section fields
variable {xs ys : List Value} {nm : String} {tt o : Nat} {em : Bool} {tg pp : String} {bo : Nat} {fs : List Field} {r : Bool} {k : Nat}
theorem FEq.int {ik ik' : IntKind} {p q : Int} (hn : (nm != "_") = true) (ht : P.underlying tt = some (.int ik')) (ha : ∀ w, (isAgg tt).run P w = .ok false w) (hx : nth xs o = some (.int ik p)) (hy : nth ys o = some (.int ik q)) (h : FEq P (k + 1) xs ys fs r) :
    FEq P (k + 1) xs ys (⟨nm, tt, o, em, tg, pp, bo⟩ :: fs) (decide (p = q) && r) := fun d w => by
  have hn' : nm ≠ "_" := by simpa using hn
  rw [nth_eq] at hx hy
  have hpq : (p == q) = decide (p = q) := rfl
  have hh := run_equalIn_int (P := P) w (d + k) tt ik ik' p q ht
  rw [Nat.add_assoc] at hh
  simp only [Op.eqFields, ne_eq, hn', not_false_eq_true, if_true, Sem.run_bind, part, ha, Result.andThen_ok]
  simp [hx, hy, hh, hpq]
  by_cases e : p = q <;> simp [e, h d w]
theorem FEq.agg {fs' : List Field} {m : Nat} {us vs : List Value} {r' : Bool} (hn : (nm != "_") = true) (ht : P.underlying tt = some (.struct fs'.toArray)) (hp : P.stoodInHeld tt = false) (ha : ∀ w, (isAgg tt).run P w = .ok true w) (hz : ∀ w, (sizeOf tt).run P w = .ok m w) (hx : cellsAt xs o m = some us) (hy : cellsAt ys o m = some vs)
    (h' : FEq P k us vs fs' r') (h : FEq P (k + 1) xs ys fs r) : FEq P (k + 1) xs ys (⟨nm, tt, o, em, tg, pp, bo⟩ :: fs) (r' && r) := fun d w => by
  have hn' : nm ≠ "_" := by simpa using hn
  have e1 : xs.toArray.extract o (o + m) = us.toArray := by
    rw [(cellsAt_eq hx).2]; simp [List.extract_eq_take_drop, List.extract_toArray]
  have e2 : ys.toArray.extract o (o + m) = vs.toArray := by
    rw [(cellsAt_eq hy).2]; simp [List.extract_eq_take_drop, List.extract_toArray]
  have hh := run_equalIn_struct (P := P) w (d + k) tt us.toArray vs.toArray (by simp [Program.fieldsOf, ht]) hp
  rw [Nat.add_assoc] at hh
  have hf := h' d w
  simp only [Op.eqFields, ne_eq, hn', not_false_eq_true, if_true, Sem.run_bind, part, ha, hz, Result.andThen_ok, Sem.run_pure, e1, e2, hh, Program.fieldsOf, ht, hf]
  cases r' <;> simp [h d w]
end fields
theorem EqT.mk {t k d : Nat} {fs : List Field} {xs ys : List Value} {r r' : Bool} (hu : P.underlying t = some (.struct fs.toArray)) (hs : P.stoodInHeld t = false) (hg : P.eqGuardType P.depth t = false) (hk : d + k = 9999) (h : FEq P k xs ys fs r) (hr : r = r') : EqT P t xs ys r' := fun w => by
  subst hr
  refine ⟨by simp [eqGuard, hg], ?_⟩
  rw [run_equalIn_struct w 9999 t _ _ (by simp [Program.fieldsOf, hu]) hs]
  simp only [Program.fieldsOf, hu]
  rw [← hk]
  exact h d w
end eq
end Go.Ft
set_option linter.unusedVariables false
set_option linter.unusedSimpArgs false
namespace Go.Ft
open Go.RowKit
structure Dot where
  node : Int
  life : Int
  count : Int
deriving DecidableEq
abbrev Dot.enc (d : Dot) : List Value := [.int .i64 d.node, .int .i64 d.life, .int .i64 d.count]
structure Ctx where
  marks : List Dot
  cloud : List Dot
deriving DecidableEq
def markOf : List Dot → Int → Int → Int
  | [], _, _ => 0
  | m :: r, x, y => if m.node = x ∧ m.life = y then m.count else markOf r x y
def keep (x y : Int) (l : List Dot) : List Dot := l.filter fun d => !decide (d.node = x ∧ d.life = y)
def mayD (d : Dot) : Bool := decide (0 ≤ d.node ∧ d.node < 8 ∧ 1 ≤ d.life ∧ d.life ≤ 1099511627776 ∧ 1 ≤ d.count ∧ d.count ≤ 1099511627776)
def belowD (a b : Dot) : Bool := if a.node ≠ b.node then decide (a.node < b.node) else if a.life ≠ b.life then decide (a.life < b.life) else decide (a.count < b.count)
end Go.Ft
set_option linter.unusedVariables false
set_option linter.unusedSimpArgs false
set_option maxRecDepth 100000
namespace Go.Proofs.Ytfblmkocmnbdcaa
open Go.Fw Go.Proofs Go.RowKit Go.Sort Go.Proofs.Try
abbrev MDot := {d : Dot // mayD d = true}
instance : Inhabited MDot := ⟨⟨⟨0, 1, 1⟩, rfl⟩⟩
abbrev MDot.enc (d : MDot) : List Value := Dot.enc d.1
end Go.Proofs.Ytfblmkocmnbdcaa
set_option linter.unusedVariables false
set_option linter.unusedSimpArgs false
set_option maxRecDepth 100000
set_option maxHeartbeats 4000000
namespace Go.Fw
theorem cov_may {C : Ctx} {d : Dot} (hC : canL C = true) (h : C.covers d = true) : mayD d = true := by
  have hN := can_nf hC
  obtain ⟨h1, h2⟩ := (covers_iff C d).1 h
  rcases h2 with h2 | h2
  · have hm := hN.mayM _ (markOf_pos (x := d.node) (y := d.life) (l := C.marks) (by omega))
    have := may_lim hm
    unfold mayD
    simp only [decide_eq_true_eq]
    dsimp only at this
    omega
  · exact hN.mayC _ h2
end Go.Fw
namespace Go.Proofs.Ytfblmkocmnbdcaa
open Go.Fw Go.Proofs Go.RowKit Go.Proofs.Try
theorem c28 (w0 : World) (v1 v2 v3 : Value) (l : List Ent) (C : Ctx) (k : Nat) (x : Ent) (h : Sl Ent.enc 6 w0 w0.heap.size v1 l) (hr : RdCtx w0 w0.heap.size v2 v3 C) (hx : l[k]? = some x) (hC : canL C = true) (hp : ∀ y ∈ l.take k, C.covers y.dot = true) (hk64 : k ≤ 64) :
    Calls Try.prog 28 #[.agg #[v1, v2, v3], .int .i64 (k : Int)] w0 fun e w' => e = .returned (.int .i64 (entE C (l.take k) x)) ∧ Bel w0.heap.size w0 w' := by
  have hs := h
  obtain ⟨A, cap, rfl, hl, hcap, hA⟩ := h
  have hlt : k < l.length := (List.getElem?_eq_some_iff.1 hx).1
  obtain ⟨g, o, x', rfl, hx', hd, hc⟩ := row_at hA hlt
  rw [hx] at hx'
  cases hx'
  cases rw_n : nameB x.item with
  | false =>
    have he : entE C (l.take k) x = 6 := by unfold entE; rw [if_pos rw_n]
    rw [he]
    refine enter2 func28 rfl ntmps28 rfl fun a S => wp_seq_k fun _ hK1 => wp_region_lit (st_m (op_box S (.t rfl) rfl fun g1 a w S => run S (.ac rfl <| .z) fun a w S => st_nil (then_normal (hK1 _ _ (wp_seq_k fun _ hK1 => wp_region_lit (run S (.fa underlying40 sizeOf34 0 rfl rfl rfl <| .ld gt34 0 rfl rfl rfl <| .mv rfl <| .ix underlying34 sizeOf74 (by omega) rfl rfl <| .yy (ys_ldOA ⟨isAgg74, sizeOf74⟩ (.t rfl) (vs := [_, _, _, _, _, _]) rfl (fun _ => hc)) rfl <| .z) fun a w S => st_m (op_alloc S zeroValue74 (cs := _) rfl rfl fun g2 a w S => st_m (op_stW S sizeOf74 (.t rfl) (.t rfl) (k := 0) rfl rfl rfl (by simp [Value.oneCell']) fun a w S => st_nil (then_normal (hK1 _ _ (wp_seq_k fun _ hK1 => wp_block (wp_seq_k fun _ hK2 => wp_region_lit (run S (.fa underlying74 sizeOf9 0 rfl rfl rfl <| .ld gt9 0 rfl rfl rfl <| .xx (ys_call call55 (.cons (.t rfl) .nil) (fun hp w W => c55 _ _)) rfl <| .z) fun a w S => ?_)))))))))))))
    rw [rw_n] at S
    refine run S (.nt rfl <| .as rfl <| .z) fun a w S => st_nil (then_normal (hK2 _ _ (st_then S (.t rfl) (sg S (.ac rfl <| .z) fun a w S => wp_ret (in_ret (then_ret (st_ret S (results1 S results28 (Rv.tmp rfl)) ?_)))))))
    exact ⟨rfl, S.wd.below⟩
  | true =>
  by_cases hq : x.qty < 1 ∨ 1000000 < x.qty
  · have he : entE C (l.take k) x = 52 := by unfold entE; rw [if_neg (by simp [rw_n]), if_pos hq]
    rw [he]
    have rw_q : (decide (x.qty < 1) || decide (1000000 < x.qty)) = true := by simp; omega
    refine enter2 func28 rfl ntmps28 rfl fun a S => wp_seq_k fun _ hK1 => wp_region_lit (st_m (op_box S (.t rfl) rfl fun g1 a w S => run S (.ac rfl <| .z) fun a w S => st_nil (then_normal (hK1 _ _ (wp_seq_k fun _ hK1 => wp_region_lit (run S (.fa underlying40 sizeOf34 0 rfl rfl rfl <| .ld gt34 0 rfl rfl rfl <| .mv rfl <| .ix underlying34 sizeOf74 (by omega) rfl rfl <| .yy (ys_ldOA ⟨isAgg74, sizeOf74⟩ (.t rfl) (vs := [_, _, _, _, _, _]) rfl (fun _ => hc)) rfl <| .z) fun a w S => st_m (op_alloc S zeroValue74 (cs := _) rfl rfl fun g2 a w S => st_m (op_stW S sizeOf74 (.t rfl) (.t rfl) (k := 0) rfl rfl rfl (by simp [Value.oneCell']) fun a w S => st_nil (then_normal (hK1 _ _ (wp_seq_k fun _ hK1 => wp_block (wp_seq_k fun _ hK2 => wp_region_lit (run S (.fa underlying74 sizeOf9 0 rfl rfl rfl <| .ld gt9 0 rfl rfl rfl <| .xx (ys_call call55 (.cons (.t rfl) .nil) (fun hp w W => c55 _ _)) rfl <| .z) fun a w S => ?_)))))))))))))
    rw [rw_n] at S
    refine run S (.nt rfl <| .as rfl <| .z) fun a w S => st_nil (then_normal (hK2 _ _ (st_else S (.t rfl) (wp_seq_k fun _ hK2 => wp_region_lit (run S (.fa underlying74 sizeOf3 4 rfl rfl rfl <| .ld gt3 0 rfl rfl rfl <| .yy (ys_lss (.t rfl) Ev.c) rfl <| .mv rfl <| .z) fun a w S => st_yf S rfl rfl (Yr.ys (ys_fieldN (FieldT.mk underlying74 rfl sizeOf3 rfl) (.t rfl) (i' := 4) rfl)) rfl fun a w S => st_yf S rfl rfl (Yr.ys (ys_ld ⟨isAgg3, sizeOf3⟩ (Ev.g rfl) (k := 0) rfl rfl)) rfl fun a w S => st_yf S rfl rfl (Yr.ys (ys_gtr (Ev.g rfl) Ev.c)) rfl fun a w S => run S (.yy (ys_or (.t rfl) Ev.c (Ev.g rfl)) rfl <| .z) fun a w S => ?_)))))
    rw [rw_q] at S
    refine run S (.as rfl <| .z) fun a w S => st_nil (then_normal (hK2 _ _ (st_then S (.t rfl) (sg S (.ac rfl <| .z) fun a w S => wp_ret (in_ret (then_ret (st_ret S (results1 S results28 (Rv.tmp rfl)) ?_)))))))
    exact ⟨rfl, S.wd.below⟩
  have rw_q : (decide (x.qty < 1) || decide (1000000 < x.qty)) = false := by simp; omega
  cases rw_p : priceB x.price with
  | false =>
    have he : entE C (l.take k) x = 53 := by unfold entE; rw [if_neg (by simp [rw_n]), if_neg hq, if_pos rw_p]
    rw [he]
    refine enter2 func28 rfl ntmps28 rfl fun a S => wp_seq_k fun _ hK1 => wp_region_lit (st_m (op_box S (.t rfl) rfl fun g1 a w S => run S (.ac rfl <| .z) fun a w S => st_nil (then_normal (hK1 _ _ (wp_seq_k fun _ hK1 => wp_region_lit (run S (.fa underlying40 sizeOf34 0 rfl rfl rfl <| .ld gt34 0 rfl rfl rfl <| .mv rfl <| .ix underlying34 sizeOf74 (by omega) rfl rfl <| .yy (ys_ldOA ⟨isAgg74, sizeOf74⟩ (.t rfl) (vs := [_, _, _, _, _, _]) rfl (fun _ => hc)) rfl <| .z) fun a w S => st_m (op_alloc S zeroValue74 (cs := _) rfl rfl fun g2 a w S => st_m (op_stW S sizeOf74 (.t rfl) (.t rfl) (k := 0) rfl rfl rfl (by simp [Value.oneCell']) fun a w S => st_nil (then_normal (hK1 _ _ (wp_seq_k fun _ hK1 => wp_block (wp_seq_k fun _ hK2 => wp_region_lit (run S (.fa underlying74 sizeOf9 0 rfl rfl rfl <| .ld gt9 0 rfl rfl rfl <| .xx (ys_call call55 (.cons (.t rfl) .nil) (fun hp w W => c55 _ _)) rfl <| .z) fun a w S => ?_)))))))))))))
    rw [rw_n] at S
    refine run S (.nt rfl <| .as rfl <| .z) fun a w S => st_nil (then_normal (hK2 _ _ (st_else S (.t rfl) (sg S (.fa underlying74 sizeOf3 4 rfl rfl rfl <| .ld gt3 0 rfl rfl rfl <| .yy (ys_F (by omega) (ys_lss (.t rfl) Ev.c)) rfl <| .mv rfl <| .gy rfl rfl (ys_fieldN (FieldT.mk underlying74 rfl sizeOf3 rfl) (.t rfl) (i' := 4) rfl) <| .gy rfl rfl (ys_ld ⟨isAgg3, sizeOf3⟩ (.t rfl) (k := 0) rfl rfl) <| .gy rfl rfl (ys_F (by omega) (ys_gtr (.t rfl) Ev.c)) <| .yy (ys_pickF (.t rfl) (.t rfl)) rfl <| .as rfl <| .z) fun a w S => st_else S (.t rfl) (wp_seq_k fun _ hK2 => wp_region_lit (run S (.fa underlying74 sizeOf27 5 rfl rfl rfl <| .ld gt27 0 rfl rfl rfl <| .xx (ys_call call56 (.cons (.t rfl) .nil) (fun hp w W => c56 _ _)) rfl <| .z) fun a w S => ?_))))))
    rw [rw_p] at S
    refine run S (.nt rfl <| .as rfl <| .z) fun a w S => st_nil (then_normal (hK2 _ _ (st_then S (.t rfl) (sg S (.ac rfl <| .z) fun a w S => wp_ret (in_ret (then_ret (st_ret S (results1 S results28 (Rv.tmp rfl)) ?_)))))))
    exact ⟨rfl, S.wd.below⟩
  | true =>
  have he0 : entE C (l.take k) x = if C.covers x.dot = false ∨ backE (l.take k).getLast? x = true then 50 else if x.dot ∈ (l.take k).map (·.dot) then 50 else 0 := by unfold entE; rw [if_neg (by simp [rw_n]), if_neg hq, if_neg (by simp [rw_p])]
  cases rw_c : C.covers x.dot with
  | false =>
    rw [if_pos (.inl rw_c)] at he0
    rw [he0]
    have rw_c2 : C.covers ⟨x.dot.node, x.dot.life, x.dot.count⟩ = false := rw_c
    refine enter2 func28 rfl ntmps28 rfl fun a S => wp_seq_k fun _ hK1 => wp_region_lit (st_m (op_box S (.t rfl) rfl fun g1 a w S => run S (.ac rfl <| .z) fun a w S => st_nil (then_normal (hK1 _ _ (wp_seq_k fun _ hK1 => wp_region_lit (run S (.fa underlying40 sizeOf34 0 rfl rfl rfl <| .ld gt34 0 rfl rfl rfl <| .mv rfl <| .ix underlying34 sizeOf74 (by omega) rfl rfl <| .yy (ys_ldOA ⟨isAgg74, sizeOf74⟩ (.t rfl) (vs := [_, _, _, _, _, _]) rfl (fun _ => hc)) rfl <| .z) fun a w S => st_m (op_alloc S zeroValue74 (cs := _) rfl rfl fun g2 a w S => st_m (op_stW S sizeOf74 (.t rfl) (.t rfl) (k := 0) rfl rfl rfl (by simp [Value.oneCell']) fun a w S => st_nil (then_normal (hK1 _ _ (wp_seq_k fun _ hK1 => wp_block (wp_seq_k fun _ hK2 => wp_region_lit (run S (.fa underlying74 sizeOf9 0 rfl rfl rfl <| .ld gt9 0 rfl rfl rfl <| .xx (ys_call call55 (.cons (.t rfl) .nil) (fun hp w W => c55 _ _)) rfl <| .z) fun a w S => ?_)))))))))))))
    rw [rw_n] at S
    refine run S (.nt rfl <| .as rfl <| .z) fun a w S => st_nil (then_normal (hK2 _ _ (st_else S (.t rfl) (sg S (.fa underlying74 sizeOf3 4 rfl rfl rfl <| .ld gt3 0 rfl rfl rfl <| .yy (ys_F (by omega) (ys_lss (.t rfl) Ev.c)) rfl <| .mv rfl <| .gy rfl rfl (ys_fieldN (FieldT.mk underlying74 rfl sizeOf3 rfl) (.t rfl) (i' := 4) rfl) <| .gy rfl rfl (ys_ld ⟨isAgg3, sizeOf3⟩ (.t rfl) (k := 0) rfl rfl) <| .gy rfl rfl (ys_F (by omega) (ys_gtr (.t rfl) Ev.c)) <| .yy (ys_pickF (.t rfl) (.t rfl)) rfl <| .as rfl <| .z) fun a w S => st_else S (.t rfl) (wp_seq_k fun _ hK2 => wp_region_lit (run S (.fa underlying74 sizeOf27 5 rfl rfl rfl <| .ld gt27 0 rfl rfl rfl <| .xx (ys_call call56 (.cons (.t rfl) .nil) (fun hp w W => c56 _ _)) rfl <| .z) fun a w S => ?_))))))
    rw [rw_p] at S
    refine run S (.nt rfl <| .as rfl <| .z) fun a w S => st_nil (then_normal (hK2 _ _ (st_else S (.t rfl) (wp_seq_k fun _ hK2 => st_quiet S (by kernel_rfl) (by kernel_rfl) fun a S => qrun S (.fa underlying40 sizeOf38 1 rfl rfl rfl <| .la gt38 1 rfl rfl rfl <| .fa underlying74 sizeOf62 1 rfl rfl rfl <| .la gt62 0 rfl rfl rfl <| .xx (ys_call call58 (.cons (.t rfl) (.cons (.t rfl) .nil)) (fun hp w W => c58 _ _ _ _ _ _ _ (by exact .old W (by assumption)))) rfl <| .z) fun a S => ?_))))
    rw [rw_c] at S
    refine qrun S (.nt rfl <| .mv rfl <| .sk rfl rfl rfl <| .sk rfl rfl rfl <| .sk rfl rfl rfl <| .s0 rfl rfl <| .s0 rfl rfl <| .s0 rfl rfl <| .s0 rfl rfl <| .s0 rfl rfl <| .s0 rfl rfl <| .s0 rfl rfl <| .s0 rfl rfl <| .s0 rfl rfl <| .sk rfl rfl rfl <| .yy (ys_pickT (.t rfl) Ev.c) rfl <| .as rfl <| .z) fun a S => ?_
    (refine q_nil ?_; intro w W; replace S := St.mk S W; clear W)
    refine then_normal (hK2 _ _ (st_then S (.t rfl) (sg S (.ac rfl <| .z) fun a w S => wp_ret (in_ret (then_ret (st_ret S (results1 S results28 (Rv.tmp rfl)) ?_))))))
    exact ⟨rfl, S.wd.below⟩
  | true =>
  have rw_c2 : C.covers ⟨x.dot.node, x.dot.life, x.dot.count⟩ = true := rw_c
  rcases k with _ | k
  · have hnb : ¬ (C.covers x.dot = false ∨ backE (l.take 0).getLast? x = true) := by simp [rw_c, backE]
    refine enter2 func28 rfl ntmps28 rfl fun a S => wp_seq_k fun _ hK1 => wp_region_lit (st_m (op_box S (.t rfl) rfl fun g1 a w S => run S (.ac rfl <| .z) fun a w S => st_nil (then_normal (hK1 _ _ (wp_seq_k fun _ hK1 => wp_region_lit (run S (.fa underlying40 sizeOf34 0 rfl rfl rfl <| .ld gt34 0 rfl rfl rfl <| .mv rfl <| .yy (ys_ixS (j := 0) underlying34 sizeOf74 (.t rfl) (.t rfl) (fun _ => by omega)) rfl <| .yy (ys_ldOA ⟨isAgg74, sizeOf74⟩ (.t rfl) (vs := [_, _, _, _, _, _]) rfl (fun _ => hc)) rfl <| .z) fun a w S => st_m (op_alloc S zeroValue74 (cs := _) rfl rfl fun g2 a w S => st_m (op_stW S sizeOf74 (.t rfl) (.t rfl) (k := 0) rfl rfl rfl (by simp [Value.oneCell']) fun a w S => st_nil (then_normal (hK1 _ _ (wp_seq_k fun _ hK1 => wp_block (wp_seq_k fun _ hK2 => wp_region_lit (run S (.fa underlying74 sizeOf9 0 rfl rfl rfl <| .ld gt9 0 rfl rfl rfl <| .xx (ys_call call55 (.cons (.t rfl) .nil) (fun hp w W => c55 _ _)) rfl <| .z) fun a w S => ?_)))))))))))))
    rw [rw_n] at S
    refine run S (.nt rfl <| .as rfl <| .z) fun a w S => st_nil (then_normal (hK2 _ _ (st_else S (.t rfl) (sg S (.fa underlying74 sizeOf3 4 rfl rfl rfl <| .ld gt3 0 rfl rfl rfl <| .yy (ys_F (by omega) (ys_lss (.t rfl) Ev.c)) rfl <| .mv rfl <| .gy rfl rfl (ys_fieldN (FieldT.mk underlying74 rfl sizeOf3 rfl) (.t rfl) (i' := 4) rfl) <| .gy rfl rfl (ys_ld ⟨isAgg3, sizeOf3⟩ (.t rfl) (k := 0) rfl rfl) <| .gy rfl rfl (ys_F (by omega) (ys_gtr (.t rfl) Ev.c)) <| .yy (ys_pickF (.t rfl) (.t rfl)) rfl <| .as rfl <| .z) fun a w S => st_else S (.t rfl) (wp_seq_k fun _ hK2 => wp_region_lit (run S (.fa underlying74 sizeOf27 5 rfl rfl rfl <| .ld gt27 0 rfl rfl rfl <| .xx (ys_call call56 (.cons (.t rfl) .nil) (fun hp w W => c56 _ _)) rfl <| .z) fun a w S => ?_))))))
    rw [rw_p] at S
    refine run S (.nt rfl <| .as rfl <| .z) fun a w S => st_nil (then_normal (hK2 _ _ (st_else S (.t rfl) (wp_seq_k fun _ hK2 => st_quiet S (by kernel_rfl) (by kernel_rfl) fun a S => qrun S (.fa underlying40 sizeOf38 1 rfl rfl rfl <| .la gt38 1 rfl rfl rfl <| .fa underlying74 sizeOf62 1 rfl rfl rfl <| .la gt62 0 rfl rfl rfl <| .xx (ys_call call58 (.cons (.t rfl) (.cons (.t rfl) .nil)) (fun hp w W => c58 _ _ _ _ _ _ _ (by exact .old W (by assumption)))) rfl <| .z) fun a S => ?_))))
    rw [rw_c] at S
    refine qrun S (.nt rfl <| .mv rfl <| .gy rfl rfl (ys_move (.t rfl)) <| .gy rfl rfl (ys_F (by omega) (ys_gtr (.t rfl) Ev.c)) <| .gy rfl rfl (ys_move (.t rfl)) <| .sk rfl rfl rfl <| .sk rfl rfl rfl <| .sk rfl rfl rfl <| .sk rfl rfl rfl <| .sk rfl rfl rfl <| .sk rfl rfl rfl <| .sk rfl rfl rfl <| .sk rfl rfl rfl <| .sk rfl rfl rfl <| .gy rfl rfl (ys_pickF (.t rfl) Ev.c) <| .yy (ys_pickF (.t rfl) (.t rfl)) rfl <| .as rfl <| .z) fun a S => ?_
    (refine q_nil ?_; intro w W; replace S := St.mk S W; clear W)
    refine then_normal (hK2 _ _ (st_else S (.t rfl) (wp_skip (in_normal (then_normal (hK1 _ _ (wp_seq_k fun _ hK1 => sg S (.fa underlying40 sizeOf34 0 rfl rfl rfl <| .ld gt34 1 rfl rfl rfl <| .mv rfl <| .yy (ys_slHi underlying34 sizeOf74 (.t rfl) (.t rfl) (fun _ => by first | omega | (simp; done) | (simp; omega))) rfl <| .ln underlying34 rfl <| .mc rfl <| .z) fun a w S => wp_block ?_)))))))
    refine st_lpM S [7, 59] (X := Nat) (fun j => [(59, true, .int .i64 (j : Int))]) (fun _ => [.blk g2 (.cells (Ent.enc x).toArray 74), .blk g1 (.cells #[.slice (some ⟨g, o, none⟩) l.length cap, v2, v3] 40)])
      (fun j => j ≤ 0 ∧ x.dot ∉ (l.take j).map (·.dot)) (fun j => 0 - j) 0 ⟨Nat.zero_le _, by simp⟩ ?_
    clear S
    intro j a w ⟨hj, hdup⟩ S
    by_cases hjk : j < 0
    · obtain ⟨g3, o3, y, e3, hy, hdy, hcy⟩ := row_at hA (show j < l.length by omega)
      cases e3
      by_cases he : y.dot = x.dot
      · have hin : x.dot ∈ (l.take (0)).map (·.dot) := he ▸ dup_at hjk hy
        rw [if_neg hnb, if_pos hin] at he0
        rw [he0]
        have rw_e := decide_eq_true (dot_iff3.1 he)
        refine sg S (.lt (by omega) rfl rfl <| .z) fun a w S => wp_seq_k fun _ hK2 => st_then S (.t rfl) (wp_skip (then_normal (hK2 _ _ (wp_seq_k fun _ hK2 => wp_block (wp_seq_k fun _ hK3 => wp_region_lit (run S (.ix underlying34 sizeOf74 (by omega) rfl rfl <| .yy (ys_ldOA ⟨isAgg74, sizeOf74⟩ (.t rfl) (vs := [_, _, _, _, _, _]) rfl (fun _ => hcy)) rfl <| .z) fun a w S => st_m (op_alloc S zeroValue74 (cs := _) rfl rfl fun g3 a w S => st_m (op_stW S sizeOf74 (.t rfl) (.t rfl) (k := 0) rfl rfl rfl (by simp [Value.oneCell']) fun a w S => st_nil (then_normal (hK3 _ _ (wp_seq_k fun _ hK3 => wp_region_lit (run S (.fa underlying74 sizeOf62 1 rfl rfl rfl <| .la gt62 0 rfl rfl rfl <| .fa underlying74 sizeOf62 1 rfl rfl rfl <| .la gt62 1 rfl rfl rfl <| .yy (ys_eqA (.t rfl) (.t rfl) eq62) rfl <| .z) fun a w S => ?_))))))))))))
        rw [rw_e] at S
        refine st_nil (then_normal (hK3 _ _ (st_then S (.t rfl) (sg S (.ac rfl <| .z) fun a w S => wp_ret (in_ret (then_ret (then_ret (in_ret (then_ret (st_ret S (results1 S results28 (Rv.tmp rfl)) ?_))))))))))
        exact ⟨rfl, S.wd.below⟩
      · have rw_e := decide_eq_false (fun h => he (dot_iff3.2 h))
        refine sg S (.lt (by omega) rfl rfl <| .z) fun a w S => wp_seq_k fun _ hK2 => st_then S (.t rfl) (wp_skip (then_normal (hK2 _ _ (wp_seq_k fun _ hK2 => wp_block (wp_seq_k fun _ hK3 => wp_region_lit (run S (.ix underlying34 sizeOf74 (by omega) rfl rfl <| .yy (ys_ldOA ⟨isAgg74, sizeOf74⟩ (.t rfl) (vs := [_, _, _, _, _, _]) rfl (fun _ => hcy)) rfl <| .z) fun a w S => st_m (op_alloc S zeroValue74 (cs := _) rfl rfl fun g3 a w S => st_m (op_stW S sizeOf74 (.t rfl) (.t rfl) (k := 0) rfl rfl rfl (by simp [Value.oneCell']) fun a w S => st_nil (then_normal (hK3 _ _ (wp_seq_k fun _ hK3 => wp_region_lit (run S (.fa underlying74 sizeOf62 1 rfl rfl rfl <| .la gt62 0 rfl rfl rfl <| .fa underlying74 sizeOf62 1 rfl rfl rfl <| .la gt62 1 rfl rfl rfl <| .yy (ys_eqA (.t rfl) (.t rfl) eq62) rfl <| .z) fun a w S => ?_))))))))))))
        rw [rw_e] at S
        refine st_nil (then_normal (hK3 _ _ (st_else S (.t rfl) (wp_skip (in_normal (then_normal (hK2 _ _ (wp_region_lit (run S (.ad (by unfold I64; omega) rfl <| .mv rfl <| .z) fun a w S => st_nil (then_normal ?_))))))))))
        exact ⟨j + 1, ⟨by omega, dup_step hy hdup he⟩, by omega, S.pk⟩
    · obtain rfl : j = 0 := by omega
      rw [if_neg hnb, if_neg hdup] at he0
      refine sg S (.ge (by omega) rfl rfl <| .z) fun a w S => wp_seq_k fun _ hK2 => st_else S (.t rfl) (wp_exit (then_exit (then_exit (in_here (then_normal (hK1 _ _ (sg S (.ac rfl <| .z) fun a w S => wp_ret (st_ret S (results1 S results28 (Rv.tmp rfl)) ?_))))))))
      exact ⟨by rw [he0], S.wd.below⟩
  obtain ⟨g4, o4, p, e4, hp4, hdp, hcp⟩ := row_at hA (show k < l.length by omega)
  cases e4
  rw [take_last hp4] at he0
  have hmp : mayD p.dot = true := cov_may hC (hp p (List.mem_of_getElem? (i := k) (by rw [List.getElem?_take, if_pos (by omega), hp4])))
  have hmx : mayD x.dot = true := cov_may hC rw_c
  by_cases hlt2 : ltE p x
  · have hnb : ¬ (C.covers x.dot = false ∨ backE (some p) x = true) := by simp [rw_c, backE, hlt2]
    have rw_l : decide (0 ≤ ordE p x) = false := decide_eq_false (by have := (ordE_iff p x).2 hlt2; omega)
    refine enter2 func28 rfl ntmps28 rfl fun a S => wp_seq_k fun _ hK1 => wp_region_lit (st_m (op_box S (.t rfl) rfl fun g1 a w S => run S (.ac rfl <| .z) fun a w S => st_nil (then_normal (hK1 _ _ (wp_seq_k fun _ hK1 => wp_region_lit (run S (.fa underlying40 sizeOf34 0 rfl rfl rfl <| .ld gt34 0 rfl rfl rfl <| .mv rfl <| .ix underlying34 sizeOf74 (by omega) rfl rfl <| .yy (ys_ldOA ⟨isAgg74, sizeOf74⟩ (.t rfl) (vs := [_, _, _, _, _, _]) rfl (fun _ => hc)) rfl <| .z) fun a w S => st_m (op_alloc S zeroValue74 (cs := _) rfl rfl fun g2 a w S => st_m (op_stW S sizeOf74 (.t rfl) (.t rfl) (k := 0) rfl rfl rfl (by simp [Value.oneCell']) fun a w S => st_nil (then_normal (hK1 _ _ (wp_seq_k fun _ hK1 => wp_block (wp_seq_k fun _ hK2 => wp_region_lit (run S (.fa underlying74 sizeOf9 0 rfl rfl rfl <| .ld gt9 0 rfl rfl rfl <| .xx (ys_call call55 (.cons (.t rfl) .nil) (fun hp w W => c55 _ _)) rfl <| .z) fun a w S => ?_)))))))))))))
    rw [rw_n] at S
    refine run S (.nt rfl <| .as rfl <| .z) fun a w S => st_nil (then_normal (hK2 _ _ (st_else S (.t rfl) (sg S (.fa underlying74 sizeOf3 4 rfl rfl rfl <| .ld gt3 0 rfl rfl rfl <| .yy (ys_F (by omega) (ys_lss (.t rfl) Ev.c)) rfl <| .mv rfl <| .gy rfl rfl (ys_fieldN (FieldT.mk underlying74 rfl sizeOf3 rfl) (.t rfl) (i' := 4) rfl) <| .gy rfl rfl (ys_ld ⟨isAgg3, sizeOf3⟩ (.t rfl) (k := 0) rfl rfl) <| .gy rfl rfl (ys_F (by omega) (ys_gtr (.t rfl) Ev.c)) <| .yy (ys_pickF (.t rfl) (.t rfl)) rfl <| .as rfl <| .z) fun a w S => st_else S (.t rfl) (wp_seq_k fun _ hK2 => wp_region_lit (run S (.fa underlying74 sizeOf27 5 rfl rfl rfl <| .ld gt27 0 rfl rfl rfl <| .xx (ys_call call56 (.cons (.t rfl) .nil) (fun hp w W => c56 _ _)) rfl <| .z) fun a w S => ?_))))))
    rw [rw_p] at S
    refine run S (.nt rfl <| .as rfl <| .z) fun a w S => st_nil (then_normal (hK2 _ _ (st_else S (.t rfl) (wp_seq_k fun _ hK2 => st_quiet S (by kernel_rfl) (by kernel_rfl) fun a S => qrun S (.fa underlying40 sizeOf38 1 rfl rfl rfl <| .la gt38 1 rfl rfl rfl <| .fa underlying74 sizeOf62 1 rfl rfl rfl <| .la gt62 0 rfl rfl rfl <| .xx (ys_call call58 (.cons (.t rfl) (.cons (.t rfl) .nil)) (fun hp w W => c58 _ _ _ _ _ _ _ (by exact .old W (by assumption)))) rfl <| .z) fun a S => ?_))))
    rw [rw_c] at S
    refine qrun S (.nt rfl <| .mv rfl <| .gy rfl rfl (ys_move (.t rfl)) <| .gy rfl rfl (ys_T (by omega) (ys_gtr (.t rfl) Ev.c)) <| .gy rfl rfl (ys_move (.t rfl)) <| .gy rfl rfl (ys_fieldN (FieldT.mk underlying40 rfl sizeOf34 rfl) (.t rfl) (i' := 0) rfl) <| .gy rfl rfl (ys_ld ⟨isAgg34, sizeOf34⟩ (.t rfl) (k := 1) rfl rfl) <| .gy rfl rfl (ys_move (.t rfl)) <| .gy rfl rfl (ys_pred (.t rfl) Ev.c (by omega)) <| .gy rfl rfl (ys_ixS underlying34 sizeOf74 (.t rfl) (.t rfl) (fun _ => by omega)) <| .gy rfl rfl (ys_ldOA ⟨isAgg74, sizeOf74⟩ (.t rfl) (vs := [_, _, _, _, _, _]) rfl (fun _ => hcp)) <| .gy rfl rfl (ys_ldA ⟨isAgg74, sizeOf74⟩ (.t rfl) (k := 0) rfl rfl) <| .gx rfl rfl (ys_call call70 (.cons (.t rfl) (.cons (.t rfl) .nil)) (fun hp w W => c70 _ _ _ (by assumption) (by assumption))) <| .gy rfl rfl (ys_geq (.t rfl) Ev.c) <| .z) fun a S => ?_
    rw [rw_l] at S
    refine qrun S (.gy rfl rfl (ys_pickT (.t rfl) (.t rfl)) <| .yy (ys_pickF (.t rfl) (.t rfl)) rfl <| .as rfl <| .z) fun a S => ?_
    (refine q_nil ?_; intro w W; replace S := St.mk S W; clear W)
    refine then_normal (hK2 _ _ (st_else S (.t rfl) (wp_skip (in_normal (then_normal (hK1 _ _ (wp_seq_k fun _ hK1 => sg S (.fa underlying40 sizeOf34 0 rfl rfl rfl <| .ld gt34 1 rfl rfl rfl <| .mv rfl <| .yy (ys_slHi underlying34 sizeOf74 (.t rfl) (.t rfl) (fun _ => by first | omega | (simp; done) | (simp; omega))) rfl <| .ln underlying34 rfl <| .mc rfl <| .z) fun a w S => wp_block ?_)))))))
    refine st_lpM S [7, 59] (X := Nat) (fun j => [(59, true, .int .i64 (j : Int))]) (fun _ => [.blk g2 (.cells (Ent.enc x).toArray 74), .blk g1 (.cells #[.slice (some ⟨g, o, none⟩) l.length cap, v2, v3] 40)])
      (fun j => j ≤ (k + 1) ∧ x.dot ∉ (l.take j).map (·.dot)) (fun j => (k + 1) - j) 0 ⟨Nat.zero_le _, by simp⟩ ?_
    clear S
    intro j a w ⟨hj, hdup⟩ S
    by_cases hjk : j < (k + 1)
    · obtain ⟨g3, o3, y, e3, hy, hdy, hcy⟩ := row_at hA (show j < l.length by omega)
      cases e3
      by_cases he : y.dot = x.dot
      · have hin : x.dot ∈ (l.take ((k + 1))).map (·.dot) := he ▸ dup_at hjk hy
        rw [if_neg hnb, if_pos hin] at he0
        rw [he0]
        have rw_e := decide_eq_true (dot_iff3.1 he)
        refine sg S (.lt (by omega) rfl rfl <| .z) fun a w S => wp_seq_k fun _ hK2 => st_then S (.t rfl) (wp_skip (then_normal (hK2 _ _ (wp_seq_k fun _ hK2 => wp_block (wp_seq_k fun _ hK3 => wp_region_lit (run S (.ix underlying34 sizeOf74 (by omega) rfl rfl <| .yy (ys_ldOA ⟨isAgg74, sizeOf74⟩ (.t rfl) (vs := [_, _, _, _, _, _]) rfl (fun _ => hcy)) rfl <| .z) fun a w S => st_m (op_alloc S zeroValue74 (cs := _) rfl rfl fun g3 a w S => st_m (op_stW S sizeOf74 (.t rfl) (.t rfl) (k := 0) rfl rfl rfl (by simp [Value.oneCell']) fun a w S => st_nil (then_normal (hK3 _ _ (wp_seq_k fun _ hK3 => wp_region_lit (run S (.fa underlying74 sizeOf62 1 rfl rfl rfl <| .la gt62 0 rfl rfl rfl <| .fa underlying74 sizeOf62 1 rfl rfl rfl <| .la gt62 1 rfl rfl rfl <| .yy (ys_eqA (.t rfl) (.t rfl) eq62) rfl <| .z) fun a w S => ?_))))))))))))
        rw [rw_e] at S
        refine st_nil (then_normal (hK3 _ _ (st_then S (.t rfl) (sg S (.ac rfl <| .z) fun a w S => wp_ret (in_ret (then_ret (then_ret (in_ret (then_ret (st_ret S (results1 S results28 (Rv.tmp rfl)) ?_))))))))))
        exact ⟨rfl, S.wd.below⟩
      · have rw_e := decide_eq_false (fun h => he (dot_iff3.2 h))
        refine sg S (.lt (by omega) rfl rfl <| .z) fun a w S => wp_seq_k fun _ hK2 => st_then S (.t rfl) (wp_skip (then_normal (hK2 _ _ (wp_seq_k fun _ hK2 => wp_block (wp_seq_k fun _ hK3 => wp_region_lit (run S (.ix underlying34 sizeOf74 (by omega) rfl rfl <| .yy (ys_ldOA ⟨isAgg74, sizeOf74⟩ (.t rfl) (vs := [_, _, _, _, _, _]) rfl (fun _ => hcy)) rfl <| .z) fun a w S => st_m (op_alloc S zeroValue74 (cs := _) rfl rfl fun g3 a w S => st_m (op_stW S sizeOf74 (.t rfl) (.t rfl) (k := 0) rfl rfl rfl (by simp [Value.oneCell']) fun a w S => st_nil (then_normal (hK3 _ _ (wp_seq_k fun _ hK3 => wp_region_lit (run S (.fa underlying74 sizeOf62 1 rfl rfl rfl <| .la gt62 0 rfl rfl rfl <| .fa underlying74 sizeOf62 1 rfl rfl rfl <| .la gt62 1 rfl rfl rfl <| .yy (ys_eqA (.t rfl) (.t rfl) eq62) rfl <| .z) fun a w S => ?_))))))))))))
        rw [rw_e] at S
        refine st_nil (then_normal (hK3 _ _ (st_else S (.t rfl) (wp_skip (in_normal (then_normal (hK2 _ _ (wp_region_lit (run S (.ad (by unfold I64; omega) rfl <| .mv rfl <| .z) fun a w S => st_nil (then_normal ?_))))))))))
        exact ⟨j + 1, ⟨by omega, dup_step hy hdup he⟩, by omega, S.pk⟩
    · obtain rfl : j = (k + 1) := by omega
      rw [if_neg hnb, if_neg hdup] at he0
      refine sg S (.ge (by omega) rfl rfl <| .z) fun a w S => wp_seq_k fun _ hK2 => st_else S (.t rfl) (wp_exit (then_exit (then_exit (in_here (then_normal (hK1 _ _ (sg S (.ac rfl <| .z) fun a w S => wp_ret (st_ret S (results1 S results28 (Rv.tmp rfl)) ?_))))))))
      exact ⟨by rw [he0], S.wd.below⟩
  · rw [if_pos (.inr (by simp [backE, hlt2]))] at he0
    rw [he0]
    have rw_l : decide (0 ≤ ordE p x) = true := decide_eq_true (by have : ¬ ordE p x < 0 := fun h => hlt2 ((ordE_iff p x).1 h); omega)
    refine enter2 func28 rfl ntmps28 rfl fun a S => wp_seq_k fun _ hK1 => wp_region_lit (st_m (op_box S (.t rfl) rfl fun g1 a w S => run S (.ac rfl <| .z) fun a w S => st_nil (then_normal (hK1 _ _ (wp_seq_k fun _ hK1 => wp_region_lit (run S (.fa underlying40 sizeOf34 0 rfl rfl rfl <| .ld gt34 0 rfl rfl rfl <| .mv rfl <| .ix underlying34 sizeOf74 (by omega) rfl rfl <| .yy (ys_ldOA ⟨isAgg74, sizeOf74⟩ (.t rfl) (vs := [_, _, _, _, _, _]) rfl (fun _ => hc)) rfl <| .z) fun a w S => st_m (op_alloc S zeroValue74 (cs := _) rfl rfl fun g2 a w S => st_m (op_stW S sizeOf74 (.t rfl) (.t rfl) (k := 0) rfl rfl rfl (by simp [Value.oneCell']) fun a w S => st_nil (then_normal (hK1 _ _ (wp_seq_k fun _ hK1 => wp_block (wp_seq_k fun _ hK2 => wp_region_lit (run S (.fa underlying74 sizeOf9 0 rfl rfl rfl <| .ld gt9 0 rfl rfl rfl <| .xx (ys_call call55 (.cons (.t rfl) .nil) (fun hp w W => c55 _ _)) rfl <| .z) fun a w S => ?_)))))))))))))
    rw [rw_n] at S
    refine run S (.nt rfl <| .as rfl <| .z) fun a w S => st_nil (then_normal (hK2 _ _ (st_else S (.t rfl) (sg S (.fa underlying74 sizeOf3 4 rfl rfl rfl <| .ld gt3 0 rfl rfl rfl <| .yy (ys_F (by omega) (ys_lss (.t rfl) Ev.c)) rfl <| .mv rfl <| .gy rfl rfl (ys_fieldN (FieldT.mk underlying74 rfl sizeOf3 rfl) (.t rfl) (i' := 4) rfl) <| .gy rfl rfl (ys_ld ⟨isAgg3, sizeOf3⟩ (.t rfl) (k := 0) rfl rfl) <| .gy rfl rfl (ys_F (by omega) (ys_gtr (.t rfl) Ev.c)) <| .yy (ys_pickF (.t rfl) (.t rfl)) rfl <| .as rfl <| .z) fun a w S => st_else S (.t rfl) (wp_seq_k fun _ hK2 => wp_region_lit (run S (.fa underlying74 sizeOf27 5 rfl rfl rfl <| .ld gt27 0 rfl rfl rfl <| .xx (ys_call call56 (.cons (.t rfl) .nil) (fun hp w W => c56 _ _)) rfl <| .z) fun a w S => ?_))))))
    rw [rw_p] at S
    refine run S (.nt rfl <| .as rfl <| .z) fun a w S => st_nil (then_normal (hK2 _ _ (st_else S (.t rfl) (wp_seq_k fun _ hK2 => st_quiet S (by kernel_rfl) (by kernel_rfl) fun a S => qrun S (.fa underlying40 sizeOf38 1 rfl rfl rfl <| .la gt38 1 rfl rfl rfl <| .fa underlying74 sizeOf62 1 rfl rfl rfl <| .la gt62 0 rfl rfl rfl <| .xx (ys_call call58 (.cons (.t rfl) (.cons (.t rfl) .nil)) (fun hp w W => c58 _ _ _ _ _ _ _ (by exact .old W (by assumption)))) rfl <| .z) fun a S => ?_))))
    rw [rw_c] at S
    refine qrun S (.nt rfl <| .mv rfl <| .gy rfl rfl (ys_move (.t rfl)) <| .gy rfl rfl (ys_T (by omega) (ys_gtr (.t rfl) Ev.c)) <| .gy rfl rfl (ys_move (.t rfl)) <| .gy rfl rfl (ys_fieldN (FieldT.mk underlying40 rfl sizeOf34 rfl) (.t rfl) (i' := 0) rfl) <| .gy rfl rfl (ys_ld ⟨isAgg34, sizeOf34⟩ (.t rfl) (k := 1) rfl rfl) <| .gy rfl rfl (ys_move (.t rfl)) <| .gy rfl rfl (ys_pred (.t rfl) Ev.c (by omega)) <| .gy rfl rfl (ys_ixS underlying34 sizeOf74 (.t rfl) (.t rfl) (fun _ => by omega)) <| .gy rfl rfl (ys_ldOA ⟨isAgg74, sizeOf74⟩ (.t rfl) (vs := [_, _, _, _, _, _]) rfl (fun _ => hcp)) <| .gy rfl rfl (ys_ldA ⟨isAgg74, sizeOf74⟩ (.t rfl) (k := 0) rfl rfl) <| .gx rfl rfl (ys_call call70 (.cons (.t rfl) (.cons (.t rfl) .nil)) (fun hp w W => c70 _ _ _ (by assumption) (by assumption))) <| .gy rfl rfl (ys_geq (.t rfl) Ev.c) <| .z) fun a S => ?_
    rw [rw_l] at S
    refine qrun S (.gy rfl rfl (ys_pickT (.t rfl) (.t rfl)) <| .yy (ys_pickF (.t rfl) (.t rfl)) rfl <| .as rfl <| .z) fun a S => ?_
    (refine q_nil ?_; intro w W; replace S := St.mk S W; clear W)
    refine then_normal (hK2 _ _ (st_then S (.t rfl) (sg S (.ac rfl <| .z) fun a w S => wp_ret (in_ret (then_ret (st_ret S (results1 S results28 (Rv.tmp rfl)) ?_))))))
    exact ⟨rfl, S.wd.below⟩
theorem c9 (w0 : World) (v1 v2 v3 : Value) (c : Cart) (h : Sl Ent.enc 6 w0 w0.heap.size v1 c.ents) (hr : RdCtx w0 w0.heap.size v2 v3 c.ctx) :
    Calls Try.prog 9 #[.agg #[v1, v2, v3]] w0 fun e w' => e = .returned (.int .i64 (canE c)) ∧ Bel w0.heap.size w0 w' := by
  obtain ⟨l, C⟩ := c
  dsimp only at h hr
  have hs := h
  obtain ⟨A, cap, rfl, hl, hcap, hA⟩ := h
  unfold canE
  dsimp only
  cases rw_C : canL C with
  | false =>
    refine enter1 func9 rfl ntmps9 rfl fun a S => wp_seq_k fun _ hK1 => wp_region_lit (st_m (op_box S (.t rfl) rfl fun g1 a w S => run S (.ac rfl <| .z) fun a w S => st_nil (then_normal (hK1 _ _ (wp_seq_k fun _ hK1 => wp_block (wp_seq_k fun _ hK2 => wp_region_lit (run S (.fa underlying40 sizeOf38 1 rfl rfl rfl <| .la gt38 0 rfl rfl rfl <| .xx (ys_call call27 (.cons (.t rfl) .nil) (fun hp w W => c27 _ _ _ _ (by exact .old W (by assumption)))) rfl <| .z) fun a w S => ?_)))))))
    rw [rw_C] at S
    refine run S (.nt rfl <| .as rfl <| .z) fun a w S => st_nil (then_normal (hK2 _ _ (st_then S (.t rfl) (sg S (.ac rfl <| .z) fun a w S => wp_ret (in_ret (then_ret (st_ret S (results1 S results9 (Rv.tmp rfl)) ?_)))))))
    exact ⟨rfl, S.wd.below⟩
  | true =>
  rw [if_neg (by simp)]
  by_cases hbig : 64 < l.length
  · refine enter1 func9 rfl ntmps9 rfl fun a S => wp_seq_k fun _ hK1 => wp_region_lit (st_m (op_box S (.t rfl) rfl fun g1 a w S => run S (.ac rfl <| .z) fun a w S => st_nil (then_normal (hK1 _ _ (wp_seq_k fun _ hK1 => wp_block (wp_seq_k fun _ hK2 => wp_region_lit (run S (.fa underlying40 sizeOf38 1 rfl rfl rfl <| .la gt38 0 rfl rfl rfl <| .xx (ys_call call27 (.cons (.t rfl) .nil) (fun hp w W => c27 _ _ _ _ (by exact .old W (by assumption)))) rfl <| .z) fun a w S => ?_)))))))
    rw [rw_C] at S
    refine run S (.nt rfl <| .as rfl <| .z) fun a w S => st_nil (then_normal (hK2 _ _ (st_else S (.t rfl) (sg S (.fa underlying40 sizeOf34 0 rfl rfl rfl <| .ld gt34 0 rfl rfl rfl <| .ln underlying34 rfl <| .yy (ys_T (by omega) (ys_gtr (.t rfl) Ev.c)) rfl <| .as rfl <| .z) fun a w S => st_then S (.t rfl) (sg S (.ac rfl <| .z) fun a w S => wp_ret (in_ret (then_ret (st_ret S (results1 S results9 (Rv.tmp rfl)) ?_))))))))
    exact ⟨by rw [if_pos hbig], S.wd.below⟩
  rw [if_neg hbig]
  refine enter1 func9 rfl ntmps9 rfl fun a S => wp_seq_k fun _ hK1 => wp_region_lit (st_m (op_box S (.t rfl) rfl fun g1 a w S => run S (.ac rfl <| .z) fun a w S => st_nil (then_normal (hK1 _ _ (wp_seq_k fun _ hK1 => wp_block (wp_seq_k fun _ hK2 => wp_region_lit (run S (.fa underlying40 sizeOf38 1 rfl rfl rfl <| .la gt38 0 rfl rfl rfl <| .xx (ys_call call27 (.cons (.t rfl) .nil) (fun hp w W => c27 _ _ _ _ (by exact .old W (by assumption)))) rfl <| .z) fun a w S => ?_)))))))
  rw [rw_C] at S
  refine run S (.nt rfl <| .as rfl <| .z) fun a w S => st_nil (then_normal (hK2 _ _ (st_else S (.t rfl) (sg S (.fa underlying40 sizeOf34 0 rfl rfl rfl <| .ld gt34 0 rfl rfl rfl <| .ln underlying34 rfl <| .yy (ys_F (by omega) (ys_gtr (.t rfl) Ev.c)) rfl <| .as rfl <| .z) fun a w S => st_else S (.t rfl) (wp_skip (in_normal (then_normal (hK1 _ _ (wp_seq_k fun _ hK1 => sg S (.fa underlying40 sizeOf34 0 rfl rfl rfl <| .ld gt34 0 rfl rfl rfl <| .ln underlying34 rfl <| .mc rfl <| .z) fun a w S => wp_block ?_)))))))))
  refine st_lpM S [3, 4, 18] (X := Nat) (fun k => [(18, true, .int .i64 (k : Int))]) (fun _ => [.blk g1 (.cells #[.slice A l.length cap, v2, v3] 40)])
    (fun k => k ≤ l.length ∧ (∀ y ∈ l.take k, C.covers y.dot = true) ∧ entsE C (l.take k) (l.drop k) = entsE C [] l) (fun k => l.length - k) 0 ⟨Nat.zero_le _, by simp, rfl⟩ ?_
  clear S
  intro k a w ⟨hk, hcov, hno⟩ S
  by_cases hlt : k < l.length
  rotate_left
  · obtain rfl : k = l.length := by omega
    rw [List.drop_length, entsE] at hno
    by_cases hi : 32 < itemsN l
    · refine sg S (.ge (by omega) rfl rfl <| .z) fun a w S => wp_seq_k fun _ hK2 => st_else S (.t rfl) (wp_exit (then_exit (then_exit (in_here (then_normal (hK1 _ _ (wp_seq_k fun _ hK1 => sg S (.fa underlying40 sizeOf34 0 rfl rfl rfl <| .ld gt34 0 rfl rfl rfl <| .xx (ys_call call29 (.cons (.t rfl) .nil) (fun hp w W => c29 _ _ _ (by exact .old W (by assumption)) (by omega))) rfl <| .yy (ys_T (by omega) (ys_gtr (.t rfl) Ev.c)) rfl <| .z) fun a w S => st_then S (.t rfl) (sg S (.ac rfl <| .z) fun a w S => wp_ret (then_ret (st_ret S (results1 S results9 (Rv.tmp rfl)) ?_))))))))))
      exact ⟨by rw [if_pos hno.symm, if_pos hi], S.wd.below⟩
    · refine sg S (.ge (by omega) rfl rfl <| .z) fun a w S => wp_seq_k fun _ hK2 => st_else S (.t rfl) (wp_exit (then_exit (then_exit (in_here (then_normal (hK1 _ _ (wp_seq_k fun _ hK1 => sg S (.fa underlying40 sizeOf34 0 rfl rfl rfl <| .ld gt34 0 rfl rfl rfl <| .xx (ys_call call29 (.cons (.t rfl) .nil) (fun hp w W => c29 _ _ _ (by exact .old W (by assumption)) (by omega))) rfl <| .yy (ys_F (by omega) (ys_gtr (.t rfl) Ev.c)) rfl <| .z) fun a w S => st_else S (.t rfl) (wp_skip (then_normal (hK1 _ _ (sg S (.ac rfl <| .z) fun a w S => wp_ret (st_ret S (results1 S results9 (Rv.tmp rfl)) ?_))))))))))))
      exact ⟨by rw [if_pos hno.symm, if_neg hi], S.wd.below⟩
  obtain ⟨x, hx⟩ : ∃ x, l[k]? = some x := ⟨_, List.getElem?_eq_getElem hlt⟩
  have hst := ents_step (C := C) hx
  rw [hno] at hst
  by_cases he : entE C (l.take k) x = 0
  · have hcx := (entE_ok.1 he).1.cov
    rw [if_pos he] at hst
    have rw_e := he
    refine sg S (.lt (by omega) rfl rfl <| .z) fun a w S => wp_seq_k fun _ hK2 => st_then S (.t rfl) (wp_skip (then_normal (hK2 _ _ (wp_seq_k fun _ hK2 => wp_block (sg S (.mv rfl <| .as rfl <| .z) fun a w S => wp_seq_k fun _ hK3 => wp_region_lit (run S (.la gt40 0 rfl rfl rfl <| .mv rfl <| .xx (ys_call call28 (.cons (.t rfl) (.cons (.t rfl) .nil)) (fun hp w W => c28 _ _ _ _ _ _ _ _ (by exact .old W (by assumption)) (by exact .old W (by assumption)) (by assumption) (by assumption) (by assumption) (by omega))) rfl <| .z) fun a w S => ?_))))))
    rw [rw_e] at S
    refine run S (.as rfl <| .z) fun a w S => st_nil (then_normal (hK3 _ _ (sg S (.mv rfl <| .yy (ys_F (by omega) (ys_neq (.t rfl) Ev.c)) rfl <| .z) fun a w S => st_else S (.t rfl) (wp_skip (in_normal (then_normal (hK2 _ _ (wp_region_lit (run S (.ad (by unfold I64; omega) rfl <| .mv rfl <| .z) fun a w S => st_nil (then_normal ?_))))))))))
    refine ⟨k + 1, ⟨by omega, fun y hy => ?_, hst.symm⟩, by omega, S.pk⟩
    rw [List.take_add_one, hx, Option.toList_some] at hy
    rcases List.mem_append.1 hy with hy | hy
    · exact hcov y hy
    · simp at hy; exact hy ▸ hcx
  · rw [if_neg he] at hst
    refine sg S (.lt (by omega) rfl rfl <| .z) fun a w S => wp_seq_k fun _ hK2 => st_then S (.t rfl) (wp_skip (then_normal (hK2 _ _ (wp_seq_k fun _ hK2 => wp_block (sg S (.mv rfl <| .as rfl <| .z) fun a w S => sg S (.la gt40 0 rfl rfl rfl <| .mv rfl <| .xx (ys_call call28 (.cons (.t rfl) (.cons (.t rfl) .nil)) (fun hp w W => c28 _ _ _ _ _ _ _ _ (by exact .old W (by assumption)) (by exact .old W (by assumption)) (by assumption) (by assumption) (by assumption) (by omega))) rfl <| .as rfl <| .z) fun a w S => sg S (.mv rfl <| .yy (ys_T (by omega) (ys_neq (.t rfl) Ev.c)) rfl <| .z) fun a w S => st_then S (.t rfl) (sg S (.mv rfl <| .as rfl <| .z) fun a w S => wp_ret (in_ret (then_ret (then_ret (in_ret (then_ret (st_ret S (results1 S results9 (Rv.tmp rfl)) ?_))))))))))))
    exact ⟨by rw [hst, if_neg he], S.wd.below⟩
end Go.Proofs.Ytfblmkocmnbdcaa
set_option linter.unusedVariables false
set_option linter.unusedSimpArgs false
set_option maxRecDepth 100000
set_option maxHeartbeats 4000000
namespace Go.Fw
abbrev Upd.enc (u : Upd) (v1 v2 v3 : Value) : List Value := [.string (bs u.key), .int .i64 u.dot.node, .int .i64 u.dot.life, .int .i64 u.dot.count, .string (bs u.item), .int .i64 u.qty, .int .u64 (u.price.toNat : Int), v1, v2, v3]
end Go.Fw
namespace Go.Proofs.Ytfblmkocmnbdcaa
open Go.Fw Go.Proofs Go.RowKit Go.Proofs.Try
end Go.Proofs.Ytfblmkocmnbdcaa
set_option linter.unusedVariables false
set_option linter.unusedSimpArgs false
set_option maxRecDepth 100000
namespace Go.Proofs.Ytfblmkocmnbdcaa
open Go.Fw Go.Proofs Go.RowKit Go.ChangeShapes Go.WideShapes Go.ChangeAt Go.Deep Go.Joins Go.Proofs.Try
section
variable {H : Type} {enc : TypeId × Value → H} {w : World}
theorem Rdr.dot {t : TypeId} {i1 i2 i3 : TypeId} {k : IntKind} {f1 f2 f3 : Field} (ht : Try.prog.underlying t = some (.struct #[f1, f2, f3])) (ho : offs Try.prog [f1, f2, f3] 0 (Try.prog.cellsOf t) = true) (h1 : Try.prog.underlying f1.type = some (.int .i64)) (h2 : Try.prog.underlying f2.type = some (.int .i64)) (h3 : Try.prog.underlying f3.type = some (.int .i64)) :
    Rdr enc Try.prog w t fun cs _ => ∃ d : Dot, cs = Dot.enc d ∧ True := by
  refine (Rdr.struct ht ho (.cons (Rdr.int h1) (.cons (Rdr.int h2) (.cons (Rdr.int h3) .nil)))).mono ?_
  rintro cs b ⟨_, _, rfl, ⟨_, _, x, rfl, _⟩, _, _, rfl, ⟨_, _, y, rfl, _⟩, _, _, rfl, ⟨_, _, z, rfl, _⟩, rfl⟩
  exact ⟨⟨x, y, z⟩, rfl, trivial⟩
theorem rdDot : Rdr enc Try.prog w 62 fun cs _ => ∃ d : Dot, cs = Dot.enc d ∧ True := Rdr.dot (i1 := 0) (i2 := 0) (i3 := 0) (k := .i64) underlying62 (by kernel_rfl) underlying3 underlying3 underlying3
theorem rdMark : Rdr enc Try.prog w 110 fun cs _ => ∃ d : Dot, cs = Dot.enc d ∧ True := Rdr.dot (i1 := 0) (i2 := 0) (i3 := 0) (k := .i64) underlying110 (by kernel_rfl) underlying3 underlying3 underlying3
theorem u64_wf {n : Int} (h : (Lit.int .u64 n).wf = true) : ∃ p : UInt64, n = (p.toNat : Int) := by
  simp only [Lit.wf, IntKind.min, IntKind.max, IntKind.signed, IntKind.bits, Bool.and_eq_true, decide_eq_true_eq, Bool.false_eq_true, if_false] at h
  have h2 : n.toNat < 18446744073709551616 := by omega
  refine ⟨UInt64.ofNat n.toNat, ?_⟩
  rw [UInt64.toNat_ofNat', Nat.mod_eq_of_lt h2]
  omega
theorem rdEnt : Rdr enc Try.prog w 74 fun cs b => ∃ x : Ent, cs = Ent.enc x ∧ x.item.length ≤ b := by
  refine (Rdr.struct underlying74 (by kernel_rfl) (.cons (Rdr.str underlying9) (.cons rdDot (.cons (Rdr.int underlying3) (.cons (Rdr.int underlying27) .nil))))).mono ?_
  rintro cs b ⟨_, _, rfl, ⟨_, hb, s, rfl, hs⟩, _, _, rfl, ⟨_, _, d, rfl, _⟩, _, _, rfl, ⟨_, _, q, rfl, _⟩, _, _, rfl, ⟨_, _, n, rfl, hn⟩, rfl⟩
  obtain ⟨p, rfl⟩ := u64_wf hn
  exact ⟨⟨s, d, q, p⟩, rfl, by dsimp only; omega⟩
theorem rdCtx : Rdr enc Try.prog w 38 fun cs b => ∃ v2 v3 C, cs = [v2, v3] ∧ RdCtx w w.heap.size v2 v3 C ∧ C.marks.length + 1 ≤ b ∧ C.cloud.length + 1 ≤ b := by
  refine (Rdr.struct underlying38 (by kernel_rfl) (.cons (Rdr.slice (k := 3) underlying35 (by kernel_rfl) rfl (fun _ => rfl) rdMark) (.cons (Rdr.slice (k := 3) underlying36 (by kernel_rfl) rfl (fun _ => rfl) rdDot) .nil))).mono ?_
  rintro cs b ⟨_, _, rfl, ⟨_, hb, v, m, rfl, hm, hm1, _⟩, _, _, rfl, ⟨_, hb', v', d, rfl, hd, hd1, _⟩, rfl⟩
  exact ⟨v, v', ⟨m, d⟩, rfl, ⟨hm, hd⟩, by dsimp only; omega, by dsimp only; omega⟩
structure RdCart (w : World) (v1 v2 v3 : Value) (X : Cart) (b : Nat) : Prop where
  ents : Sl Ent.enc 6 w w.heap.size v1 X.ents
  ctx : RdCtx w w.heap.size v2 v3 X.ctx
  l1 : X.ents.length + 1 ≤ b
  l2 : X.ctx.marks.length + 1 ≤ b
  l3 : X.ctx.cloud.length + 1 ≤ b
  items : ∀ x ∈ X.ents, x.item.length ≤ b
theorem rdCart : Rdr enc Try.prog w 40 fun cs b => ∃ v1 v2 v3 X, cs = [v1, v2, v3] ∧ RdCart w v1 v2 v3 X b := by
  refine (Rdr.struct underlying40 (by kernel_rfl) (.cons (Rdr.slice (k := 6) underlying34 (by kernel_rfl) rfl (fun _ => rfl) rdEnt) (.cons rdCtx .nil))).mono ?_
  rintro cs b ⟨_, _, rfl, ⟨_, hb, v, l, rfl, hl, hl1, hli⟩, _, _, rfl, ⟨_, hb', v2, v3, C, rfl, hC, h1, h2⟩, rfl⟩
  exact ⟨v, v2, v3, ⟨l, C⟩, rfl, hl, hC, by dsimp only; omega, by dsimp only; omega, by dsimp only; omega, fun x hx => by obtain ⟨b', h3, h4⟩ := hli x hx; omega⟩
theorem read_cart {t : TypeId} (e : t = 40) {r : Reach} {b0 : Nat} {v : Value} {d : DataW H} {p : List MemPlace} (hv : Value.okWide Try.prog w r b0 t v) (h : DataW.Trod enc Try.prog w 0 (fun _ => true) true t v d p) :
    ∃ v1 v2 v3 X, v = .agg #[v1, v2, v3] ∧ RdCart w v1 v2 v3 X (Rows.uptoBulk d) := by
  subst e
  obtain ⟨v1, v2, v3, X, hc, hX⟩ := Rdr.top rdCart h
  exact ⟨v1, v2, v3, X, top_agg underlying40 hv hc, hX⟩
end
end Go.Proofs.Ytfblmkocmnbdcaa
set_option linter.unusedVariables false
set_option linter.unusedSimpArgs false
namespace Go.Fw
open Go.RowKit
def numB (x : Nat) : List UInt8 := if x < 128 then [b8 (x : Int)] else b8 ((x % 128 + 128 : Nat) : Int) :: numB (x / 128)
termination_by x
decreasing_by omega
theorem numB_small {x : Nat} (h : x < 128) : numB x = [b8 (x : Int)] := by rw [numB, if_pos h]
theorem numB_big {x : Nat} (h : ¬ x < 128) : numB x = b8 ((x % 128 + 128 : Nat) : Int) :: numB (x / 128) := by rw [numB, if_neg h]
theorem numB_len : ∀ (k x : Nat), x < 128 ^ (k + 1) → (numB x).length ≤ k + 1
  | 0, x, h => by rw [numB_small (by simpa using h)]; simp
  | k + 1, x, h => by
    by_cases hx : x < 128
    · rw [numB_small hx]; simp
    · rw [numB_big hx]
      have := numB_len k (x / 128) (by rw [Nat.pow_succ] at h; omega)
      simp; omega
theorem numB_len10 {x : Nat} (h : x < 9223372036854775808) : (numB x).length ≤ 9 := numB_len 8 x (by simpa using h)
def putL (l : List UInt8) (n : Int) : List UInt8 := l ++ numB n.toNat
theorem putL_len (l : List UInt8) {n : Int} (h : n < 9223372036854775808) : (putL l n).length ≤ l.length + 9 := by
  have := numB_len10 (x := n.toNat) (by omega)
  unfold putL
  rw [List.length_append]; omega
theorem or128 : ∀ y : Fin 256, orK .u8 ((y : Nat) : Int) 128 = (((y : Nat) % 128 + 128 : Nat) : Int) := by decide +kernel
theorem or_put (x : Nat) : orK .u8 ((b8 (x : Int)).toNat : Int) 128 = ((b8 ((x % 128 + 128 : Nat) : Int)).toNat : Int) := by
  have h1 := b8_val (x : Int)
  have h2 := b8_val ((x % 128 + 128 : Nat) : Int)
  have h3 : (b8 (x : Int)).toNat < 256 := by omega
  have h4 := or128 ⟨(b8 (x : Int)).toNat, h3⟩
  dsimp only at h4
  rw [h4]
  omega
end Go.Fw
set_option linter.unusedVariables false
set_option linter.unusedSimpArgs false
namespace Go.Fw
open Go.RowKit
def numR (i : Nat) (n : Int) : List UInt8 → Int × Nat × Int
  | [] => (0, 0, 2)
  | x :: r =>
    if i = 8 ∧ 128 ≤ x.toNat then (0, 0, 5)
    else if x.toNat < 128 then (if 0 < i ∧ x.toNat = 0 then (0, 0, 10) else (n + (x.toNat : Int) % 128 * 128 ^ i, i + 1, 0))
    else numR (i + 1) (n + (x.toNat : Int) % 128 * 128 ^ i) r
theorem numR_nil (i : Nat) (n : Int) : numR i n [] = (0, 0, 2) := rfl
theorem numR_len : ∀ (l : List UInt8) (i : Nat) (n : Int), (numR i n l).2.1 ≤ i + l.length
  | [], _, _ => by simp [numR]
  | x :: r, i, n => by
    unfold numR
    split
    · simp
    · split
      · split <;> simp
      · have := numR_len r (i + 1) (n + (x.toNat : Int) % 128 * 128 ^ i)
        simp only [List.length_cons]; omega
theorem numR_val : ∀ (l : List UInt8) (i : Nat) (n : Int), i ≤ 8 → 0 ≤ n → n < 128 ^ i → 0 ≤ (numR i n l).1 ∧ (numR i n l).1 ≤ 9223372036854775807
  | [], _, _, _, _, _ => by simp [numR]
  | x :: r, i, n, hi, h0, h1 => by
    have hx : x.toNat < 256 := x.toNat_lt
    have hp : (0 : Int) < 128 ^ i := Int.pow_pos (by decide)
    have hm0 : 0 ≤ (x.toNat : Int) % 128 := by omega
    have hm1 : (x.toNat : Int) % 128 ≤ 127 := by omega
    have h2 : (x.toNat : Int) % 128 * 128 ^ i ≤ 127 * 128 ^ i := Int.mul_le_mul_of_nonneg_right hm1 (by omega)
    have h3 : 0 ≤ (x.toNat : Int) % 128 * 128 ^ i := Int.mul_nonneg hm0 (by omega)
    have h4 : (128 : Int) ^ (i + 1) = 128 * 128 ^ i := by rw [Int.pow_succ]; omega
    have h5 : (128 : Int) ^ (i + 1) ≤ 128 ^ 9 := by
      have : i = 0 ∨ i = 1 ∨ i = 2 ∨ i = 3 ∨ i = 4 ∨ i = 5 ∨ i = 6 ∨ i = 7 ∨ i = 8 := by omega
      rcases this with h | h | h | h | h | h | h | h | h <;> subst h <;> decide
    unfold numR
    split
    · simp
    · split
      · split
        · simp
        · simp only; omega
      · rename_i hn _
        exact numR_val r (i + 1) _ (by omega) (by omega) (by omega)
theorem numR_bad : ∀ {l : List UInt8} {i : Nat} {n : Int}, (numR i n l).2.2 ≠ 0 → (numR i n l).1 = 0 ∧ (numR i n l).2.1 = 0
  | [], _, _, _ => ⟨rfl, rfl⟩
  | x :: r, i, n, h => by
    unfold numR at h ⊢
    split
    · exact ⟨rfl, rfl⟩
    · rename_i h1
      rw [if_neg h1] at h
      split
      · rename_i h2
        rw [if_pos h2] at h
        split
        · exact ⟨rfl, rfl⟩
        · rename_i h3
          rw [if_neg h3] at h
          exact absurd rfl h
      · rename_i h2
        rw [if_neg h2] at h
        exact numR_bad h
def byteR (b : List UInt8) (k : Nat) : Int × Nat × Int := match b[k]? with | some x => ((x.toNat : Int), 1, 0) | none => (0, 0, 2)
theorem byteR_some {b : List UInt8} {k : Nat} {x : UInt8} (h : b[k]? = some x) : byteR b k = ((x.toNat : Int), 1, 0) := by unfold byteR; rw [h]
theorem byteR_none {b : List UInt8} {k : Nat} (h : k = b.length) : byteR b k = (0, 0, 2) := by unfold byteR; rw [List.getElem?_eq_none (by omega)]
def numAt (b : List UInt8) (k : Nat) : Int × Nat × Int := ((numR 0 0 (b.drop k)).1, k + (numR 0 0 (b.drop k)).2.1, (numR 0 0 (b.drop k)).2.2)
theorem numAt_le {b : List UInt8} {k : Nat} (h : k ≤ b.length) : k ≤ (numAt b k).2.1 ∧ (numAt b k).2.1 ≤ b.length := by
  have := numR_len (b.drop k) 0 0
  rw [List.length_drop] at this
  unfold numAt
  dsimp only
  omega
theorem numAt_val (b : List UInt8) (k : Nat) : 0 ≤ (numAt b k).1 ∧ (numAt b k).1 ≤ 9223372036854775807 := numR_val (b.drop k) 0 0 (by omega) (by omega) (by decide)
theorem pow_num {i : Nat} (hi : i ≤ 8) : (0 : Int) < 128 ^ i ∧ (128 : Int) ^ i ≤ 72057594037927936 ∧ (2 : Int) ^ (7 * i) = 128 ^ i := by
  have : i = 0 ∨ i = 1 ∨ i = 2 ∨ i = 3 ∨ i = 4 ∨ i = 5 ∨ i = 6 ∨ i = 7 ∨ i = 8 := by omega
  rcases this with h | h | h | h | h | h | h | h | h <;> subst h <;> decide
theorem sh_num {i : Nat} {y : Int} (hi : i ≤ 8) (h0 : 0 ≤ y) (h1 : y ≤ 127) : IntKind.i64.wrap (y * 2 ^ (7 * i)) = y * 128 ^ i ∧ 0 ≤ y * 128 ^ i ∧ y * 128 ^ i ≤ 9223372036854775807 := by
  obtain ⟨p1, p2, p3⟩ := pow_num hi
  have h2 : y * 128 ^ i ≤ 127 * 128 ^ i := Int.mul_le_mul_of_nonneg_right h1 (by omega)
  have h3 : 0 ≤ y * 128 ^ i := Int.mul_nonneg h0 (by omega)
  rw [p3]
  exact ⟨wrap_i64 ⟨by omega, by omega⟩, h3, by omega⟩
theorem andK_comm (k : IntKind) (p q : Int) : orK k p q = orK k q p := by unfold orK; rw [BitVec.or_comm]
theorem or_num {i : Nat} {m y : Int} (hi : i ≤ 8) (hm0 : 0 ≤ m) (hm1 : m < 128 ^ i) (h0 : 0 ≤ y) (h1 : y ≤ 127) : orK .i64 m (y * 128 ^ i) = m + y * 128 ^ i := by
  obtain ⟨p1, p2, p3⟩ := pow_num hi
  obtain ⟨_, h2, h3⟩ := sh_num hi h0 h1
  rw [andK_comm, orK_add (7 * i) (by omega) h2 h3 (by rw [p3]; exact Int.mul_emod_left _ _) hm0 (by rw [p3]; exact hm1), Int.add_comm]
theorem numR_step {l : List UInt8} {x : UInt8} {k i : Nat} {n : Int} (hx : l[k]? = some x) : numR i n (l.drop k) = if i = 8 ∧ 128 ≤ x.toNat then (0, 0, 5)
    else if x.toNat < 128 then (if 0 < i ∧ x.toNat = 0 then (0, 0, 10) else (n + (x.toNat : Int) % 128 * 128 ^ i, i + 1, 0))
    else numR (i + 1) (n + (x.toNat : Int) % 128 * 128 ^ i) (l.drop (k + 1)) := by
  obtain ⟨h, rfl⟩ := List.getElem?_eq_some_iff.1 hx
  rw [List.drop_eq_getElem_cons h, numR]
end Go.Fw
set_option linter.unusedVariables false
set_option linter.unusedSimpArgs false
namespace Go.Fw
open Go.RowKit
def dotB (b : List UInt8) (d : Dot) : List UInt8 := putL (putL (putL b d.node) d.life) d.count
def dotsB (b : List UInt8) (l : List Dot) : List UInt8 := l.foldl dotB (putL b (l.length : Int))
def encC (b : List UInt8) (C : Ctx) : List UInt8 := dotsB (dotsB b C.marks) C.cloud
theorem dotB_len {b : List UInt8} {d : Dot} (h : mayD d = true) : (dotB b d).length ≤ b.length + 27 := by
  have hl := may_lim h
  have h1 := putL_len b (n := d.node) (by omega)
  have h2 := putL_len (putL b d.node) (n := d.life) (by omega)
  have h3 := putL_len (putL (putL b d.node) d.life) (n := d.count) (by omega)
  unfold dotB
  omega
theorem dotF_len : ∀ {l : List Dot} {b : List UInt8}, (∀ x ∈ l, mayD x = true) → (l.foldl dotB b).length ≤ b.length + 27 * l.length
  | [], b, _ => by simp
  | d :: r, b, h => by
    have h1 := dotB_len (b := b) (h d (by simp))
    have h2 := dotF_len (l := r) (b := dotB b d) fun x hx => h x (by simp [hx])
    rw [List.foldl_cons, List.length_cons]
    omega
theorem dotF_take {l : List Dot} {b : List UInt8} {k : Nat} {m : Dot} (hm : l[k]? = some m) : (l.take (k + 1)).foldl dotB b = dotB ((l.take k).foldl dotB b) m := by
  rw [List.take_add_one, hm, List.foldl_append]; rfl
theorem dotsB_len {l : List Dot} {b : List UInt8} (h : ∀ x ∈ l, mayD x = true) (hl : l.length ≤ 64) : (dotsB b l).length ≤ b.length + 1737 := by
  have h1 := dotF_len (l := l) (b := putL b (l.length : Int)) h
  have h2 := putL_len b (n := (l.length : Int)) (by omega)
  unfold dotsB
  omega
end Go.Fw
set_option linter.unusedVariables false
set_option linter.unusedSimpArgs false
namespace Go.Fw
open Go.RowKit
def bindR {α β : Type} (r : α × Nat × Int) (z : β) (f : α → Nat → β × Nat × Int) : β × Nat × Int := if r.2.2 = 0 then f r.1 r.2.1 else (z, r.2.1, r.2.2)
theorem bindR_ok {α β : Type} {r : α × Nat × Int} {z : β} {f : α → Nat → β × Nat × Int} (h : r.2.2 = 0) : bindR r z f = f r.1 r.2.1 := if_pos h
theorem bindR_bad {α β : Type} {r : α × Nat × Int} {z : β} {f : α → Nat → β × Nat × Int} (h : r.2.2 ≠ 0) : bindR r z f = (z, r.2.1, r.2.2) := if_neg h
theorem bindR_bad' {α β : Type} {x : α} {k : Nat} {e : Int} {z : β} {f : α → Nat → β × Nat × Int} (h : e ≠ 0) : bindR (x, k, e) z f = (z, k, e) := bindR_bad h
theorem bindR_le {α β : Type} {r : α × Nat × Int} {z : β} {f : α → Nat → β × Nat × Int} {k n : Nat} (h : k ≤ r.2.1 ∧ r.2.1 ≤ n) (hf : ∀ x k1, k ≤ k1 → k1 ≤ n → k ≤ (f x k1).2.1 ∧ (f x k1).2.1 ≤ n) : k ≤ (bindR r z f).2.1 ∧ (bindR r z f).2.1 ≤ n := by
  unfold bindR
  split
  · exact hf _ _ h.1 h.2
  · exact h
def dotAt (b : List UInt8) (k : Nat) : Dot × Nat × Int := bindR (numAt b k) ⟨0, 0, 0⟩ fun x k1 => bindR (numAt b k1) ⟨0, 0, 0⟩ fun y k2 => bindR (numAt b k2) ⟨0, 0, 0⟩ fun z k3 => (⟨x, y, z⟩, k3, 0)
theorem dotAt_le {b : List UInt8} {k : Nat} (h : k ≤ b.length) : k ≤ (dotAt b k).2.1 ∧ (dotAt b k).2.1 ≤ b.length :=
  bindR_le (numAt_le h) fun x k1 h1 h2 => bindR_le ⟨by have := numAt_le h2; omega, (numAt_le h2).2⟩ fun y k2 h3 h4 => bindR_le ⟨by have := numAt_le h4; omega, (numAt_le h4).2⟩ fun z k3 h5 h6 => ⟨h5, h6⟩
def dotsAt (b : List UInt8) : Nat → List Dot → Nat → List Dot × Nat × Int
  | 0, acc, k => (acc, k, 0)
  | n + 1, acc, k => bindR (dotAt b k) [] fun d k1 => dotsAt b n (acc ++ [d]) k1
theorem dotsAt_le {b : List UInt8} : ∀ {n k : Nat} {acc : List Dot}, k ≤ b.length → k ≤ (dotsAt b n acc k).2.1 ∧ (dotsAt b n acc k).2.1 ≤ b.length
  | 0, k, _, h => ⟨Nat.le_refl _, h⟩
  | n + 1, k, acc, h => bindR_le (dotAt_le h) fun d k1 h1 h2 => by have := dotsAt_le (n := n) (acc := acc ++ [d]) h2; omega
theorem dotsAt_len {b : List UInt8} : ∀ {n k : Nat} {acc : List Dot}, (dotsAt b n acc k).1.length ≤ acc.length + n
  | 0, k, _ => Nat.le_refl _
  | n + 1, k, acc => by
    unfold dotsAt bindR
    split
    · dsimp only
      have := dotsAt_len (b := b) (n := n) (k := (dotAt b k).2.1) (acc := acc ++ [(dotAt b k).1])
      rw [List.length_append, List.length_singleton] at this
      omega
    · exact Nat.zero_le _
def listAt (b : List UInt8) (k : Nat) : List Dot × Nat × Int := bindR (numAt b k) [] fun n k1 => if 64 < n then ([], k1, 4) else dotsAt b n.toNat [] k1
theorem listAt_le {b : List UInt8} {k : Nat} (h : k ≤ b.length) : k ≤ (listAt b k).2.1 ∧ (listAt b k).2.1 ≤ b.length :=
  bindR_le (numAt_le h) fun x k1 h1 h2 => by
    split
    · exact ⟨h1, h2⟩
    · have := dotsAt_le (n := x.toNat) (acc := []) h2
      omega
theorem listAt_len (b : List UInt8) (k : Nat) : (listAt b k).1.length ≤ 64 := by
  unfold listAt bindR
  split
  · dsimp only
    split
    · exact Nat.zero_le _
    · refine Nat.le_trans dotsAt_len ?_
      simp only [List.length_nil]; omega
  · exact Nat.zero_le _
def ctxAt (b : List UInt8) (k : Nat) : Ctx × Nat × Int := bindR (listAt b k) ⟨[], []⟩ fun l k1 => bindR (listAt b k1) ⟨[], []⟩ fun m k2 => if canL ⟨l, m⟩ then (⟨l, m⟩, k2, 0) else (⟨[], []⟩, k2, 30)
theorem ctxAt_le {b : List UInt8} {k : Nat} (h : k ≤ b.length) : k ≤ (ctxAt b k).2.1 ∧ (ctxAt b k).2.1 ≤ b.length :=
  bindR_le (listAt_le h) fun l k1 h1 h2 => bindR_le ⟨by have := listAt_le h2; omega, (listAt_le h2).2⟩ fun m k2 h3 h4 => by split <;> exact ⟨h3, h4⟩
def decAt (b : List UInt8) (k : Nat) : Ctx × Nat × Int := if (ctxAt b k).2.2 = 0 then ctxAt b k else (⟨[], []⟩, k, (ctxAt b k).2.2)
end Go.Fw
set_option linter.unusedVariables false
set_option linter.unusedSimpArgs false
set_option maxRecDepth 100000
namespace Go.Proofs.Ytfblmkocmnbdcaa
open Go.Fw Go.Proofs Go.RowKit Go.Proofs.Try
theorem c77 (w0 : World) (v1 : Value) (l : List UInt8) (n : Int) (h : Sl encB 1 w0 w0.heap.size v1 l) (hl : l.length ≤ 16777216) (hn : n < 9223372036854775808) :
    Rets Try.prog 77 #[v1, .int .i64 n] w0 fun v L => ∃ A c, v = .slice A (putL l n).length c ∧ L = [rowOf 5 1 encB A c (putL l n)] := by
  obtain ⟨A, cap, rfl, _⟩ := id h
  unfold Go.Fw.Rets
  refine enter2 func77 rfl ntmps77 rfl fun a S => sg S (.ac rfl <| .z) fun a w S => wp_seq_k fun _ hK1 => wp_region_lit (run S (.mv rfl <| .z) fun a w S => st_m (op_extend _ (S.nil_ 5 _ Go.Fw.encB _) underlying57 underlying57 (.inr ⟨_, rfl⟩) inf5 rfl (k := 0) rfl Ev.c (.t rfl) (Src.sl (Sl.old S.wd h) (by decide) Go.Fw.encB_len Go.Fw.encB_one) (by first | omega | (simp only [List.length_append, List.length_cons, List.length_nil]; omega) | (simp; omega)) rfl rfl rfl fun A1 cap1 a w S => ?_))
  simp only [List.nil_append] at S
  refine run S (.as rfl <| .z) fun a w S => st_nil (then_normal (hK1 _ _ (sg S (.mv rfl <| .yy (ys_max (.t rfl) Ev.c) rfl <| .yy (ys_cvU underlying3 underlying27 (.t rfl) (fun _ => by omega)) rfl <| .as rfl <| .z) fun a w S => wp_seq_k fun _ hK1 => wp_block ?_)))
  try simp only [List.nil_append] at S
  have eN : max n 0 = (n.toNat : Int) := by omega
  rw [eN] at S
  refine st_lpK S (X := Nat × List UInt8 × Option Addr × Nat) (fun q => [(6, true, .int .u64 (q.1 : Int)), (5, true, .slice q.2.2.1 q.2.1.length q.2.2.2)]) (fun q _ => [rowOf 5 1 encB q.2.2.1 q.2.2.2 q.2.1]) (fun q => q.1 < 9223372036854775808 ∧ q.2.1 ++ numB q.1 = putL l n) (fun q => q.1) (n.toNat, l, A1, cap1) ⟨by dsimp only; omega, rfl⟩ ?_
  clear S
  intro ⟨x, out, B, cB⟩ a w ⟨hx, hno⟩ S
  dsimp only at hx hno S
  have hout : out.length ≤ l.length + 9 := by
    have h1 := congrArg List.length hno
    have h2 := putL_len l hn
    simp only [List.length_append] at h1
    omega
  by_cases hlt : x < 128
  · refine wp_seq_k fun _ hK2 => sg S (.mv rfl <| .yy (ys_F (by omega) (ys_geq (.t rfl) Ev.c)) rfl <| .z) fun a w S => st_else S (.t rfl) (wp_exit (then_exit (then_exit (in_here (then_normal (hK1 _ _ (wp_seq_k fun _ hK1 => wp_region_lit (run S (.mv rfl <| .mv rfl <| .yy (ys_cvB underlying27 underlying5 (.t rfl)) rfl <| .z) fun a w S => st_m (op_bslice1 S underlying57 inf5 rfl rfl rfl (.t rfl) rfl rfl rfl fun g1 a w S => st_m (op_push S underlying57 inf5 rfl (k := 1) (j := 0) rfl (.t rfl) (.t rfl) rfl rfl rfl rfl (by first | omega | (simp only [List.length_append, List.length_cons, List.length_nil]; omega)) rfl rfl rfl fun A2 cap2 a w S => run S (.as rfl <| .z) fun a w S => st_nil (then_normal (hK1 _ _ (wp_ret (st_ret S (results1 S results77 (Rv.tmp rfl)) ?_))))))))))))))
    rw [numB_small hlt] at hno
    rw [hno] at S
    rw [hno]
    exact ⟨_, _, rfl, S.wd.sub (by repeat (first | exact List.Sublist.refl _ | exact List.nil_sublist _ | refine .cons_cons _ ?_ | refine .cons _ ?_)), _, _, rfl, rfl⟩
  · have rw_o := or_put x
    refine wp_seq_k fun _ hK2 => sg S (.mv rfl <| .yy (ys_T (by omega) (ys_geq (.t rfl) Ev.c)) rfl <| .z) fun a w S => st_then S (.t rfl) (wp_skip (then_normal (hK2 _ _ (wp_block (wp_seq_k fun _ hK2 => wp_region_lit (run S (.mv rfl <| .mv rfl <| .yy (ys_cvB underlying27 underlying5 (.t rfl)) rfl <| .yy (ys_bor (.t rfl) Ev.c) rfl <| .z) fun a w S => ?_))))))
    rw [rw_o] at S
    refine st_m (op_bslice1 S underlying57 inf5 rfl rfl rfl (.t rfl) rfl rfl rfl fun g1 a w S => st_m (op_push S underlying57 inf5 rfl (k := 1) (j := 0) rfl (.t rfl) (.t rfl) rfl rfl rfl rfl (by first | omega | (simp only [List.length_append, List.length_cons, List.length_nil]; omega)) rfl rfl rfl fun A2 cap2 a w S => run S (.as rfl <| .z) fun a w S => st_nil (then_normal (hK2 _ _ (wp_region_lit (run S (.mv rfl <| .yy (ys_shrC (m := 7) (c := 128) (.t rfl) Ev.c rfl rfl) rfl <| .as rfl <| .z) fun a w S => st_nil (in_normal (then_normal ?_))))))))
    have e7 : (x : Int) / 128 = ((x / 128 : Nat) : Int) := by omega
    rw [e7] at S
    exact ⟨(x / 128, out ++ [b8 ((x % 128 + 128 : Nat) : Int)], A2, cap2), ⟨by dsimp only; omega, by dsimp only; rw [← hno, numB_big hlt, List.append_assoc]; rfl⟩, by dsimp only; omega, S.wk⟩
theorem c83 (w0 : World) (v1 : Value) (l : List UInt8) (n : Int) (h : Sl encB 1 w0 w0.heap.size v1 l) (hl : l.length ≤ 16777216) (hn : n < 9223372036854775808) :
    Rets Try.prog 83 #[v1, .int .i64 n] w0 fun v L => ∃ A c, v = .slice A (putL l n).length c ∧ L = [rowOf 5 1 encB A c (putL l n)] := by
  obtain ⟨A, cap, rfl, _⟩ := id h
  by_cases h0 : n < 0
  · unfold Go.Fw.Rets
    refine enter2 func83 rfl ntmps83 rfl fun a S => sg S (.ac rfl <| .z) fun a w S => wp_seq_k fun _ hK1 => wp_region_lit (st_m (op_bslice0 S underlying57 sizeOf5 rfl fun g1 a w S => run S (.mv rfl <| .z) fun a w S => st_m (op_extend _ (S.nil_ 5 _ Go.Fw.encB _) underlying57 underlying57 (.inr ⟨_, rfl⟩) inf5 rfl (k := 0) rfl (.t rfl) (.t rfl) (Src.sl (Sl.old S.wd h) (by decide) Go.Fw.encB_len Go.Fw.encB_one) (by first | omega | (simp only [List.length_append, List.length_cons, List.length_nil]; omega) | (simp; omega)) rfl rfl rfl fun A1 cap1 a w S => ?_)))
    simp only [List.nil_append] at S
    refine run S (.as rfl <| .z) fun a w S => st_nil (then_normal (hK1 _ _ (wp_seq_k fun _ hK1 => sg S (.mv rfl <| .yy (ys_T (by omega) (ys_lss (.t rfl) Ev.c)) rfl <| .z) fun a w S => st_then S (.t rfl) (rg S (.ac rfl <| .z) hK1 fun a w S => wp_seq_k fun _ hK1 => wp_block ?_))))
    have eN : n.toNat = 0 := by omega
    try simp only [List.nil_append] at S
    replace S := S.wk (K' := [(1, true, .int .i64 (0 : Int)), (5, true, .slice A1 l.length cap1), (4, true, .slice none 0 0), (0, true, .slice A l.length cap)]) (L' := [rowOf 5 1 encB A1 cap1 l])
    refine st_lpK S (X := Nat × List UInt8 × Option Addr × Nat) (fun q => [(1, true, .int .i64 (q.1 : Int)), (5, true, .slice q.2.2.1 q.2.1.length q.2.2.2)]) (fun q _ => [rowOf 5 1 encB q.2.2.1 q.2.2.2 q.2.1]) (fun q => q.1 < 9223372036854775808 ∧ q.2.1 ++ numB q.1 = putL l n) (fun q => q.1) (0, l, A1, cap1) ⟨by dsimp only; omega, by unfold putL; rw [eN]⟩ ?_
    clear S
    intro ⟨x, out, B, cB⟩ a w ⟨hx, hno⟩ S
    dsimp only at hx hno S
    have hout : out.length ≤ l.length + 9 := by
      have h1 := congrArg List.length hno
      have h2 := putL_len l hn
      simp only [List.length_append] at h1
      omega
    by_cases hlt : x < 128
    · refine wp_seq_k fun _ hK2 => sg S (.mv rfl <| .yy (ys_F (by omega) (ys_geq (.t rfl) Ev.c)) rfl <| .z) fun a w S => st_else S (.t rfl) (wp_exit (then_exit (then_exit (in_here (then_normal (hK1 _ _ (wp_seq_k fun _ hK1 => wp_region_lit (run S (.mv rfl <| .mv rfl <| .yy (ys_cvB underlying3 underlying5 (.t rfl)) rfl <| .z) fun a w S => st_m (op_bslice1 S underlying57 inf5 rfl rfl rfl (.t rfl) rfl rfl rfl fun g2 a w S => st_m (op_push S underlying57 inf5 rfl (k := 1) (j := 0) rfl (.t rfl) (.t rfl) rfl rfl rfl rfl (by first | omega | (simp only [List.length_append, List.length_cons, List.length_nil]; omega)) rfl rfl rfl fun A2 cap2 a w S => run S (.as rfl <| .z) fun a w S => st_nil (then_normal (hK1 _ _ (wp_ret (st_ret S (results1 S results83 (Rv.tmp rfl)) ?_))))))))))))))
      rw [numB_small hlt] at hno
      rw [hno] at S
      rw [hno]
      exact ⟨_, _, rfl, S.wd.sub (by repeat (first | exact List.Sublist.refl _ | exact List.nil_sublist _ | refine .cons_cons _ ?_ | refine .cons _ ?_)), _, _, rfl, rfl⟩
    · have rw_p : (x : Int) % 128 + 128 = ((x % 128 + 128 : Nat) : Int) := by omega
      refine wp_seq_k fun _ hK2 => sg S (.mv rfl <| .yy (ys_T (by omega) (ys_geq (.t rfl) Ev.c)) rfl <| .z) fun a w S => st_then S (.t rfl) (wp_skip (then_normal (hK2 _ _ (wp_block (wp_seq_k fun _ hK2 => wp_region_lit (run S (.mv rfl <| .mv rfl <| .yy (ys_remE (.t rfl) Ev.c (fun _ => by omega)) rfl <| .ad (by unfold I64; omega) rfl <| .z) fun a w S => ?_))))))
      rw [rw_p] at S
      refine run S (.yy (ys_cvB underlying3 underlying5 (.t rfl)) rfl <| .z) fun a w S => st_m (op_bslice1 S underlying57 inf5 rfl rfl rfl (.t rfl) rfl rfl rfl fun g2 a w S => st_m (op_push S underlying57 inf5 rfl (k := 1) (j := 0) rfl (.t rfl) (.t rfl) rfl rfl rfl rfl (by first | omega | (simp only [List.length_append, List.length_cons, List.length_nil]; omega)) rfl rfl rfl fun A2 cap2 a w S => run S (.as rfl <| .z) fun a w S => st_nil (then_normal (hK2 _ _ (wp_region_lit (run S (.mv rfl <| .yy (ys_quoE (.t rfl) Ev.c (fun _ => by omega)) rfl <| .as rfl <| .z) fun a w S => st_nil (in_normal (then_normal ?_))))))))
      have e7 : (x : Int) / 128 = ((x / 128 : Nat) : Int) := by omega
      rw [e7] at S
      exact ⟨(x / 128, out ++ [b8 ((x % 128 + 128 : Nat) : Int)], A2, cap2), ⟨by dsimp only; omega, by dsimp only; rw [← hno, numB_big hlt, List.append_assoc]; rfl⟩, by dsimp only; omega, S.wk⟩
  · obtain ⟨m, rfl⟩ : ∃ m : Nat, n = (m : Int) := ⟨n.toNat, by omega⟩
    unfold Go.Fw.Rets
    refine enter2 func83 rfl ntmps83 rfl fun a S => sg S (.ac rfl <| .z) fun a w S => wp_seq_k fun _ hK1 => wp_region_lit (st_m (op_bslice0 S underlying57 sizeOf5 rfl fun g1 a w S => run S (.mv rfl <| .z) fun a w S => st_m (op_extend _ (S.nil_ 5 _ Go.Fw.encB _) underlying57 underlying57 (.inr ⟨_, rfl⟩) inf5 rfl (k := 0) rfl (.t rfl) (.t rfl) (Src.sl (Sl.old S.wd h) (by decide) Go.Fw.encB_len Go.Fw.encB_one) (by first | omega | (simp only [List.length_append, List.length_cons, List.length_nil]; omega) | (simp; omega)) rfl rfl rfl fun A1 cap1 a w S => ?_)))
    simp only [List.nil_append] at S
    refine run S (.as rfl <| .z) fun a w S => st_nil (then_normal (hK1 _ _ (wp_seq_k fun _ hK1 => sg S (.mv rfl <| .yy (ys_F (by omega) (ys_lss (.t rfl) Ev.c)) rfl <| .z) fun a w S => st_else S (.t rfl) (wp_skip (then_normal (hK1 _ _ (wp_seq_k fun _ hK1 => wp_block ?_)))))))
    try simp only [List.nil_append] at S
    replace S := S.wk (K' := [(1, true, .int .i64 (m : Int)), (5, true, .slice A1 l.length cap1), (4, true, .slice none 0 0), (0, true, .slice A l.length cap)]) (L' := [rowOf 5 1 encB A1 cap1 l])
    refine st_lpK S (X := Nat × List UInt8 × Option Addr × Nat) (fun q => [(1, true, .int .i64 (q.1 : Int)), (5, true, .slice q.2.2.1 q.2.1.length q.2.2.2)]) (fun q _ => [rowOf 5 1 encB q.2.2.1 q.2.2.2 q.2.1]) (fun q => q.1 < 9223372036854775808 ∧ q.2.1 ++ numB q.1 = putL l m) (fun q => q.1) (m, l, A1, cap1) ⟨by dsimp only; omega, rfl⟩ ?_
    clear S
    intro ⟨x, out, B, cB⟩ a w ⟨hx, hno⟩ S
    dsimp only at hx hno S
    have hout : out.length ≤ l.length + 9 := by
      have h1 := congrArg List.length hno
      have h2 := putL_len l hn
      simp only [List.length_append] at h1
      omega
    by_cases hlt : x < 128
    · refine wp_seq_k fun _ hK2 => sg S (.mv rfl <| .yy (ys_F (by omega) (ys_geq (.t rfl) Ev.c)) rfl <| .z) fun a w S => st_else S (.t rfl) (wp_exit (then_exit (then_exit (in_here (then_normal (hK1 _ _ (wp_seq_k fun _ hK1 => wp_region_lit (run S (.mv rfl <| .mv rfl <| .yy (ys_cvB underlying3 underlying5 (.t rfl)) rfl <| .z) fun a w S => st_m (op_bslice1 S underlying57 inf5 rfl rfl rfl (.t rfl) rfl rfl rfl fun g2 a w S => st_m (op_push S underlying57 inf5 rfl (k := 1) (j := 0) rfl (.t rfl) (.t rfl) rfl rfl rfl rfl (by first | omega | (simp only [List.length_append, List.length_cons, List.length_nil]; omega)) rfl rfl rfl fun A2 cap2 a w S => run S (.as rfl <| .z) fun a w S => st_nil (then_normal (hK1 _ _ (wp_ret (st_ret S (results1 S results83 (Rv.tmp rfl)) ?_))))))))))))))
      rw [numB_small hlt] at hno
      rw [hno] at S
      rw [hno]
      exact ⟨_, _, rfl, S.wd.sub (by repeat (first | exact List.Sublist.refl _ | exact List.nil_sublist _ | refine .cons_cons _ ?_ | refine .cons _ ?_)), _, _, rfl, rfl⟩
    · have rw_p : (x : Int) % 128 + 128 = ((x % 128 + 128 : Nat) : Int) := by omega
      refine wp_seq_k fun _ hK2 => sg S (.mv rfl <| .yy (ys_T (by omega) (ys_geq (.t rfl) Ev.c)) rfl <| .z) fun a w S => st_then S (.t rfl) (wp_skip (then_normal (hK2 _ _ (wp_block (wp_seq_k fun _ hK2 => wp_region_lit (run S (.mv rfl <| .mv rfl <| .yy (ys_remE (.t rfl) Ev.c (fun _ => by omega)) rfl <| .ad (by unfold I64; omega) rfl <| .z) fun a w S => ?_))))))
      rw [rw_p] at S
      refine run S (.yy (ys_cvB underlying3 underlying5 (.t rfl)) rfl <| .z) fun a w S => st_m (op_bslice1 S underlying57 inf5 rfl rfl rfl (.t rfl) rfl rfl rfl fun g2 a w S => st_m (op_push S underlying57 inf5 rfl (k := 1) (j := 0) rfl (.t rfl) (.t rfl) rfl rfl rfl rfl (by first | omega | (simp only [List.length_append, List.length_cons, List.length_nil]; omega)) rfl rfl rfl fun A2 cap2 a w S => run S (.as rfl <| .z) fun a w S => st_nil (then_normal (hK2 _ _ (wp_region_lit (run S (.mv rfl <| .yy (ys_quoE (.t rfl) Ev.c (fun _ => by omega)) rfl <| .as rfl <| .z) fun a w S => st_nil (in_normal (then_normal ?_))))))))
      have e7 : (x : Int) / 128 = ((x / 128 : Nat) : Int) := by omega
      rw [e7] at S
      exact ⟨(x / 128, out ++ [b8 ((x % 128 + 128 : Nat) : Int)], A2, cap2), ⟨by dsimp only; omega, by dsimp only; rw [← hno, numB_big hlt, List.append_assoc]; rfl⟩, by dsimp only; omega, S.wk⟩
end Go.Proofs.Ytfblmkocmnbdcaa
set_option linter.unusedVariables false
set_option linter.unusedSimpArgs false
set_option maxRecDepth 100000
set_option maxHeartbeats 4000000
namespace Go.Proofs.Ytfblmkocmnbdcaa
open Go.Fw Go.Proofs Go.RowKit Go.Proofs.Try
theorem c85 (w0 : World) (v0 v1 v2 : Value) (b : List UInt8) (C : Ctx) (hs : Sl encB 1 w0 w0.heap.size v0 b) (h : RdCtx w0 w0.heap.size v1 v2 C) (hb : b.length ≤ 4194304) :
    Rets Try.prog 85 #[v0, .agg #[v1, v2]] w0 fun v L => ∃ A c, v = .tuple #[.slice A (if canL C then encC b C else []).length c, .int .i64 (if canL C then 0 else 30)] ∧ L = [rowOf 5 1 encB A c (if canL C then encC b C else [])] := by
  obtain ⟨A0, q0, rfl, _⟩ := id hs
  obtain ⟨h1, h2⟩ := id h
  obtain ⟨B1, q1, rfl, _, _, hA⟩ := id h1
  obtain ⟨B2, q2, rfl, _, _, hA2⟩ := id h2
  cases rw_c : canL C with
  | false =>
    unfold Go.Fw.Rets
    refine enter2 func85 rfl ntmps85 rfl fun a S => wp_seq_k fun _ hK1 => wp_region_lit (st_m (op_box S (.t rfl) rfl fun g1 a w S => run S (.ac rfl <| .ac rfl <| .z) fun a w S => st_nil (then_normal (hK1 _ _ (wp_seq_k fun _ hK1 => wp_seq_k fun _ hK2 => wp_region_lit (run S (.la gt38 0 rfl rfl rfl <| .xx (ys_call call48 (.cons (.t rfl) .nil) (fun hp w W => c48 _ _ _ _ (by exact .old W (by assumption)))) rfl <| .z) fun a w S => ?_))))))
    rw [rw_c] at S
    refine run S (.nt rfl <| .z) fun a w S => st_nil (then_normal (hK2 _ _ (st_then S (.t rfl) (sg S (.ac rfl <| .ac rfl <| .z) fun a w S => wp_ret (then_ret (st_ret S (results2 S results85 (Rv.tmp rfl) (Rv.tmp rfl)) ?_))))))
    exact ⟨_, _, rfl, (S.nil_ 5 1 encB none).wd.sub (by repeat (first | exact List.Sublist.refl _ | exact List.nil_sublist _ | refine .cons_cons _ ?_ | refine .cons _ ?_)), none, 0, rfl, rfl⟩
  | true =>
    have hmM := (can_nf rw_c).mayM
    have hmC := (can_nf rw_c).mayC
    have hlen := can_len rw_c
    have hb1 := putL_len b (n := (C.marks.length : Int)) (by omega)
    have hd1 := dotsB_len (b := b) hmM hlen.1
    have hb2 := putL_len (dotsB b C.marks) (n := (C.cloud.length : Int)) (by omega)
    unfold Go.Fw.Rets
    refine enter2 func85 rfl ntmps85 rfl fun a S => wp_seq_k fun _ hK1 => wp_region_lit (st_m (op_box S (.t rfl) rfl fun g1 a w S => run S (.ac rfl <| .ac rfl <| .z) fun a w S => st_nil (then_normal (hK1 _ _ (wp_seq_k fun _ hK1 => wp_seq_k fun _ hK2 => wp_region_lit (run S (.la gt38 0 rfl rfl rfl <| .xx (ys_call call48 (.cons (.t rfl) .nil) (fun hp w W => c48 _ _ _ _ (by exact .old W (by assumption)))) rfl <| .z) fun a w S => ?_))))))
    rw [rw_c] at S
    refine run S (.nt rfl <| .z) fun a w S => st_nil (then_normal (hK2 _ _ (st_else S (.t rfl) (wp_skip (then_normal (hK1 _ _ (wp_seq_k fun _ hK1 => wp_region_lit (run S (.mv rfl <| .fa underlying38 sizeOf35 0 rfl rfl rfl <| .ld gt35 0 rfl rfl rfl <| .ln underlying35 rfl <| .z) fun a w S => ?_))))))))
    (refine st_m (op_calls S call83 (.cons (.t rfl) (.cons (.t rfl) .nil)) (c83 _ _ _ _ (by exact .old S.wd (by assumption)) (by omega) (by omega)) rfl ?_); clear S a w; rintro _ _ ⟨A1, c1, rfl, rfl⟩ a w S)
    refine run S (.as rfl <| .z) fun a w S => st_nil (then_normal (hK1 _ _ (wp_seq_k fun _ hK1 => sg S (.fa underlying38 sizeOf35 0 rfl rfl rfl <| .ld gt35 1 rfl rfl rfl <| .ln underlying35 rfl <| .mc rfl <| .z) fun a w S => wp_block ?_)))
    replace S := S.wk (K' := [(21, true, .int .i64 ((0 : Nat) : Int)), (20, true, .int .i64 (C.marks.length : Int)), (19, true, .slice B1 C.marks.length q1), (0, true, .slice A1 (putL b (C.marks.length : Int)).length c1), (3, true, .pointer (some ⟨g1, 0, none⟩)), (4, true, .slice none 0 0), (5, true, .int .i64 0)])
      (L' := [rowOf 5 1 encB A1 c1 (putL b (C.marks.length : Int)), .blk g1 (.cells #[.slice B1 C.marks.length q1, .slice B2 C.cloud.length q2] 38)])
    refine st_lpK S (X := Nat × Option Addr × Nat × List UInt8) (fun q => [(21, true, .int .i64 (q.1 : Int)), (0, true, .slice q.2.1 q.2.2.2.length q.2.2.1)]) (fun q _ => [rowOf 5 1 encB q.2.1 q.2.2.1 q.2.2.2, .blk g1 (.cells #[.slice B1 C.marks.length q1, .slice B2 C.cloud.length q2] 38)])
      (fun q => q.1 ≤ C.marks.length ∧ q.2.2.2 = (C.marks.take q.1).foldl dotB (putL b (C.marks.length : Int))) (fun q => C.marks.length - q.1) (0, A1, c1, putL b (C.marks.length : Int)) ⟨Nat.zero_le _, by simp⟩ ?_
    clear S
    intro ⟨k, B, cB, out⟩ a w ⟨hk, hno⟩ S
    dsimp only at hk hno S
    have hout : out.length ≤ b.length + 1737 := by
      have h1 := dotF_len (l := C.marks.take k) (b := putL b (C.marks.length : Int)) fun x hx => hmM x (List.mem_of_mem_take hx)
      have h2 : (C.marks.take k).length ≤ 64 := by rw [List.length_take]; omega
      rw [← hno] at h1
      omega
    by_cases hlt : k < C.marks.length
    · obtain ⟨gq, oq, m, rfl, hmm, hdq, hc⟩ := row_at hA hlt
      have hlm := may_lim (hmM m (List.mem_of_getElem? hmm))
      have hq1 := putL_len out (n := m.node) (by omega)
      have hq2 := putL_len (putL out m.node) (n := m.life) (by omega)
      refine sg S (.lt (by omega) rfl rfl <| .z) fun a w S => wp_seq_k fun _ hK2 => st_then S (.t rfl) (wp_skip (then_normal (hK2 _ _ (wp_seq_k fun _ hK2 => wp_block (wp_seq_k fun _ hK3 => wp_region_lit (run S (.ix underlying35 sizeOf110 (by omega) rfl rfl <| .yy (ys_ldOA ⟨isAgg110, sizeOf110⟩ (.t rfl) (vs := [_, _, _]) rfl (fun _ => hc)) rfl <| .z) fun a w S => st_m (op_alloc S zeroValue110 (cs := _) rfl rfl fun g2 a w S => st_m (op_stW S sizeOf110 (.t rfl) (.t rfl) (k := 0) rfl rfl rfl (by simp [Value.oneCell']) fun a w S => st_nil (then_normal (hK3 _ _ (h_begin0 S (by kernel_rfl) fun a w S => hy 0 S rfl (ys_move (.t rfl)) rfl fun a w S => hy 1 S rfl (ys_fieldN (FieldT.mk underlying110 rfl sizeOf3 rfl) (.t rfl) (i' := 0) rfl) rfl fun a w S => ?_)))))))))))
      refine hy 2 S rfl (ys_ld ⟨isAgg3, sizeOf3⟩ (.t rfl) (k := 0) rfl rfl) rfl fun a w S => hy 4 S rfl (ys_fieldN (FieldT.mk underlying110 rfl sizeOf3 rfl) (.t rfl) (i' := 1) rfl) rfl fun a w S => hy 5 S rfl (ys_ld ⟨isAgg3, sizeOf3⟩ (.t rfl) (k := 0) rfl rfl) rfl fun a w S => hy 7 S rfl (ys_fieldN (FieldT.mk underlying110 rfl sizeOf3 rfl) (.t rfl) (i' := 2) rfl) rfl fun a w S => hy 8 S rfl (ys_ld ⟨isAgg3, sizeOf3⟩ (.t rfl) (k := 0) rfl rfl) rfl fun a w S => ?_
      (refine h_m (i := 3) rfl (by kernel_rfl) (op_calls S call83 (.cons (.t rfl) (.cons (.t rfl) .nil)) (c83 _ _ _ _ (by exact Sl.of_own S.wd (k := 1) rfl (fun _ => rfl)) (by omega) (by omega)) rfl ?_); clear S a w; rintro _ _ ⟨A2, c2, rfl, rfl⟩ a w S; refine h_n2 S ?_)
      (refine h_m (i := 6) rfl (by kernel_rfl) (op_calls S call83 (.cons (.t rfl) (.cons (.t rfl) .nil)) (c83 _ _ _ _ (by exact Sl.of_own S.wd (k := 0) rfl (fun _ => rfl)) (by omega) (by omega)) rfl ?_); clear S a w; rintro _ _ ⟨A3, c3, rfl, rfl⟩ a w S; refine h_n2 S ?_)
      (refine h_m (i := 9) rfl (by kernel_rfl) (op_calls S call83 (.cons (.t rfl) (.cons (.t rfl) .nil)) (c83 _ _ _ _ (by exact Sl.of_own S.wd (k := 0) rfl (fun _ => rfl)) (by omega) (by omega)) rfl ?_); clear S a w; rintro _ _ ⟨A4, c4, rfl, rfl⟩ a w S; refine h_n2 S ?_)
      refine hy 10 S rfl (ys_assign (.t rfl)) rfl fun a w S => h_done (by kernel_rfl) (in_normal (then_normal (hK2 _ _ (wp_region_lit (run S (.ad (by unfold I64; omega) rfl <| .mv rfl <| .z) fun a w S => st_nil (then_normal ?_))))))
      exact ⟨(k + 1, A4, c4, dotB out m), ⟨by dsimp only; omega, by dsimp only; rw [dotF_take hmm, ← hno]⟩, by dsimp only; omega, S.wk⟩
    have hend : k = C.marks.length := by omega
    subst hend
    rw [List.take_length] at hno
    obtain rfl : out = dotsB b C.marks := hno
    clear hlt
    refine sg S (.ge (by omega) rfl rfl <| .z) fun a w S => wp_seq_k fun _ hK2 => st_else S (.t rfl) (wp_exit (then_exit (then_exit (in_here (then_normal (hK1 _ _ (wp_seq_k fun _ hK1 => wp_region_lit (run S (.mv rfl <| .fa underlying38 sizeOf36 1 rfl rfl rfl <| .ld gt36 1 rfl rfl rfl <| .ln underlying36 rfl <| .z) fun a w S => ?_))))))))
    (refine st_m (op_calls S call83 (.cons (.t rfl) (.cons (.t rfl) .nil)) (c83 _ _ _ _ (by exact Sl.of_own S.wd (k := 0) rfl (fun _ => rfl)) (by omega) (by omega)) rfl ?_); clear S a w; rintro _ _ ⟨A2, c2, rfl, rfl⟩ a w S)
    refine run S (.as rfl <| .z) fun a w S => st_nil (then_normal (hK1 _ _ (wp_seq_k fun _ hK1 => sg S (.fa underlying38 sizeOf36 1 rfl rfl rfl <| .ld gt36 2 rfl rfl rfl <| .ln underlying36 rfl <| .mc rfl <| .z) fun a w S => wp_block ?_)))
    replace S := S.wk (K' := [(44, true, .int .i64 ((0 : Nat) : Int)), (43, true, .int .i64 (C.cloud.length : Int)), (42, true, .slice B2 C.cloud.length q2), (0, true, .slice A2 (putL (dotsB b C.marks) (C.cloud.length : Int)).length c2), (3, true, .pointer (some ⟨g1, 0, none⟩)), (4, true, .slice none 0 0), (5, true, .int .i64 0)])
      (L' := [rowOf 5 1 encB A2 c2 (putL (dotsB b C.marks) (C.cloud.length : Int)), .blk g1 (.cells #[.slice B1 C.marks.length q1, .slice B2 C.cloud.length q2] 38)])
    refine st_lpK S (X := Nat × Option Addr × Nat × List UInt8) (fun q => [(44, true, .int .i64 (q.1 : Int)), (0, true, .slice q.2.1 q.2.2.2.length q.2.2.1)]) (fun q _ => [rowOf 5 1 encB q.2.1 q.2.2.1 q.2.2.2, .blk g1 (.cells #[.slice B1 C.marks.length q1, .slice B2 C.cloud.length q2] 38)])
      (fun q => q.1 ≤ C.cloud.length ∧ q.2.2.2 = (C.cloud.take q.1).foldl dotB (putL (dotsB b C.marks) (C.cloud.length : Int))) (fun q => C.cloud.length - q.1) (0, A2, c2, putL (dotsB b C.marks) (C.cloud.length : Int)) ⟨Nat.zero_le _, by simp⟩ ?_
    clear S
    intro ⟨k, B, cB, out⟩ a w ⟨hk, hno⟩ S
    dsimp only at hk hno S
    have hout : out.length ≤ b.length + 3474 := by
      have h1 := dotF_len (l := C.cloud.take k) (b := putL (dotsB b C.marks) (C.cloud.length : Int)) fun x hx => hmC x (List.mem_of_mem_take hx)
      have h2 : (C.cloud.take k).length ≤ 64 := by rw [List.length_take]; omega
      rw [← hno] at h1
      omega
    by_cases hlt : k < C.cloud.length
    · obtain ⟨gq, oq, m, rfl, hmm, hdq, hc⟩ := row_at hA2 hlt
      have hlm := may_lim (hmC m (List.mem_of_getElem? hmm))
      have hq1 := putL_len out (n := m.node) (by omega)
      have hq2 := putL_len (putL out m.node) (n := m.life) (by omega)
      refine sg S (.lt (by omega) rfl rfl <| .z) fun a w S => wp_seq_k fun _ hK3 => st_then S (.t rfl) (wp_skip (then_normal (hK3 _ _ (wp_seq_k fun _ hK3 => wp_block (wp_seq_k fun _ hK4 => wp_region_lit (run S (.ix underlying36 sizeOf62 (by omega) rfl rfl <| .yy (ys_ldOA ⟨isAgg62, sizeOf62⟩ (.t rfl) (vs := [_, _, _]) rfl (fun _ => hc)) rfl <| .z) fun a w S => st_m (op_alloc S zeroValue62 (cs := _) rfl rfl fun g2 a w S => st_m (op_stW S sizeOf62 (.t rfl) (.t rfl) (k := 0) rfl rfl rfl (by simp [Value.oneCell']) fun a w S => st_nil (then_normal (hK4 _ _ (h_begin0 S (by kernel_rfl) fun a w S => hy 0 S rfl (ys_move (.t rfl)) rfl fun a w S => hy 1 S rfl (ys_fieldN (FieldT.mk underlying62 rfl sizeOf3 rfl) (.t rfl) (i' := 0) rfl) rfl fun a w S => ?_)))))))))))
      refine hy 2 S rfl (ys_ld ⟨isAgg3, sizeOf3⟩ (.t rfl) (k := 0) rfl rfl) rfl fun a w S => hy 4 S rfl (ys_fieldN (FieldT.mk underlying62 rfl sizeOf3 rfl) (.t rfl) (i' := 1) rfl) rfl fun a w S => hy 5 S rfl (ys_ld ⟨isAgg3, sizeOf3⟩ (.t rfl) (k := 0) rfl rfl) rfl fun a w S => hy 7 S rfl (ys_fieldN (FieldT.mk underlying62 rfl sizeOf3 rfl) (.t rfl) (i' := 2) rfl) rfl fun a w S => hy 8 S rfl (ys_ld ⟨isAgg3, sizeOf3⟩ (.t rfl) (k := 0) rfl rfl) rfl fun a w S => ?_
      (refine h_m (i := 3) rfl (by kernel_rfl) (op_calls S call83 (.cons (.t rfl) (.cons (.t rfl) .nil)) (c83 _ _ _ _ (by exact Sl.of_own S.wd (k := 1) rfl (fun _ => rfl)) (by omega) (by omega)) rfl ?_); clear S a w; rintro _ _ ⟨A3, c3, rfl, rfl⟩ a w S; refine h_n2 S ?_)
      (refine h_m (i := 6) rfl (by kernel_rfl) (op_calls S call83 (.cons (.t rfl) (.cons (.t rfl) .nil)) (c83 _ _ _ _ (by exact Sl.of_own S.wd (k := 0) rfl (fun _ => rfl)) (by omega) (by omega)) rfl ?_); clear S a w; rintro _ _ ⟨A4, c4, rfl, rfl⟩ a w S; refine h_n2 S ?_)
      (refine h_m (i := 9) rfl (by kernel_rfl) (op_calls S call83 (.cons (.t rfl) (.cons (.t rfl) .nil)) (c83 _ _ _ _ (by exact Sl.of_own S.wd (k := 0) rfl (fun _ => rfl)) (by omega) (by omega)) rfl ?_); clear S a w; rintro _ _ ⟨A5, c5, rfl, rfl⟩ a w S; refine h_n2 S ?_)
      refine hy 10 S rfl (ys_assign (.t rfl)) rfl fun a w S => h_done (by kernel_rfl) (in_normal (then_normal (hK3 _ _ (wp_region_lit (run S (.ad (by unfold I64; omega) rfl <| .mv rfl <| .z) fun a w S => st_nil (then_normal ?_))))))
      exact ⟨(k + 1, A5, c5, dotB out m), ⟨by dsimp only; omega, by dsimp only; rw [dotF_take hmm, ← hno]⟩, by dsimp only; omega, S.wk⟩
    have hend : k = C.cloud.length := by omega
    subst hend
    rw [List.take_length] at hno
    obtain rfl : out = encC b C := hno
    clear hlt
    refine sg S (.ge (by omega) rfl rfl <| .z) fun a w S => wp_seq_k fun _ hK3 => st_else S (.t rfl) (wp_exit (then_exit (then_exit (in_here (then_normal (hK1 _ _ (sg S (.mv rfl <| .as rfl <| .ac rfl <| .z) fun a w S => wp_ret (st_ret S (results2 S results85 (Rv.tmp rfl) (Rv.tmp rfl)) ?_))))))))
    exact ⟨_, _, rfl, S.wd.sub (by repeat (first | exact List.Sublist.refl _ | exact List.nil_sublist _ | refine .cons_cons _ ?_ | refine .cons _ ?_)), B, cB, rfl, rfl⟩
end Go.Proofs.Ytfblmkocmnbdcaa
set_option linter.unusedVariables false
set_option linter.unusedSimpArgs false
set_option maxRecDepth 100000
set_option maxHeartbeats 4000000
namespace Go.Proofs.Ytfblmkocmnbdcaa
open Go.Fw Go.Proofs Go.RowKit Go.Proofs.Try
theorem c92 {w0 w : World} {L : List Chunk} (W : Wd w0 L w) (e : Int) : RetsP Try.prog 92 #[.int .i64 e] 43 w0 w (fun _ _ => False) (fun x L' => x = e ∧ L' = L) := by
  unfold Go.Fw.RetsP
  refine enterW1 W func92 rfl ntmps92 rfl fun a S => wp_region_lit (run S (.mv rfl <| .yy (ys_iface underlying43 (.t rfl)) rfl <| .z) fun a w S => st_m (op_panic S (.t rfl) ?_))
  refine post_panic S ?_
  exact .inr ⟨_, _, rfl, S.wd, rfl, rfl⟩
theorem c117 (w0 : World) (g : Nat) (h2 : w0.cell? ⟨g, 2, none⟩ = some (.bool true)) : Calls Try.prog 117 #[.pointer (some ⟨g, 0, none⟩)] w0 fun r w' => r = .returned (.bool true) ∧ Bel w0.heap.size w0 w' := by
  refine enter1 func117 rfl ntmps117 rfl fun a S => sg S (.ac rfl <| .z) fun a w S => sg S (.mv rfl <| .yy (ys_pNotS underlying133 (.t rfl) Ev.c) rfl <| .mv rfl <| .gy rfl rfl (ys_move (.t rfl)) <| .gy rfl rfl (ys_nilc (.t rfl)) <| .gy rfl rfl (ys_fieldN (FieldT.mk underlying160 rfl sizeOf4 rfl) (.t rfl) (i' := 2) rfl) <| .gy rfl rfl (ys_ldO ⟨isAgg4, sizeOf4⟩ (.t rfl) (fun _ => h2)) <| .yy (ys_pickT (.t rfl) (.t rfl)) rfl <| .as rfl <| .z) fun a w S => wp_ret (st_ret S (results1 S results117 (Rv.tmp rfl)) ?_)
  exact ⟨rfl, S.wd.below⟩
theorem c93 (w0 : World) (g : Nat) (A : Option Addr) (cap k n : Nat) (h0 : w0.cell? ⟨g, 0, none⟩ = some (.slice A n cap)) (h1 : w0.cell? ⟨g, 1, none⟩ = some (.int .i64 (k : Int))) (h2 : w0.cell? ⟨g, 2, none⟩ = some (.bool true)) (hk : k ≤ n) (hn : n ≤ 16777216) :
    Calls Try.prog 93 #[.pointer (some ⟨g, 0, none⟩)] w0 fun r w' => r = .returned (.int .i64 ((n - k : Nat) : Int)) ∧ Bel w0.heap.size w0 w' := by
  refine enter1 func93 rfl ntmps93 rfl fun a S => sg S (.ac rfl <| .z) fun a w S => wp_seq_k fun _ hK1 => sg S (.mv rfl <| .xx (ys_call call117 (.cons (.t rfl) .nil) (fun hp w W => c117 _ _ (by exact Wd.cellOld W (by assumption)))) rfl <| .nt rfl <| .z) fun a w S => st_else S (.t rfl) (wp_skip (then_normal (hK1 _ _ (wp_seq_k fun _ hK1 => st_quiet S (by kernel_rfl) (by kernel_rfl) fun a S => qrun S (.mv rfl <| .yy (ys_nilc (.t rfl)) rfl <| .fa underlying160 sizeOf57 0 rfl rfl rfl <| .yy (ys_ldO ⟨isAgg57, sizeOf57⟩ (.t rfl) (fun _ => h0)) rfl <| .ln underlying57 rfl <| .mv rfl <| .yy (ys_nilc (.t rfl)) rfl <| .fa underlying160 sizeOf3 1 rfl rfl rfl <| .yy (ys_ldO ⟨isAgg3, sizeOf3⟩ (.t rfl) (fun _ => h1)) rfl <| .yy (ys_subI (.t rfl) (.t rfl) (fun _ => by unfold I64; omega)) rfl <| .as rfl <| .z) fun a S => ?_))))
  (refine q_nil ?_; intro w W; replace S := St.mk S W; clear W)
  refine then_normal (hK1 _ _ (wp_ret (st_ret S (results1 S results93 (Rv.tmp rfl)) ?_)))
  have e : (n : Int) - (k : Int) = ((n - k : Nat) : Int) := by omega
  rw [e]
  exact ⟨rfl, S.wd.below⟩
abbrev rdr (g : Nat) (A : Option Addr) (cap : Nat) (b : List UInt8) (k : Nat) (L : List Chunk) : List Chunk := .blk g (.cells #[.slice A b.length cap, .int .i64 (k : Int), .bool true] 160) :: rowOf 5 1 encB A cap b :: L
theorem c88 (w0 : World) (v1 : Value) (l : List UInt8) (h : Sl encB 1 w0 w0.heap.size v1 l) (hl : l.length ≤ 16777216) :
    Rets Try.prog 88 #[v1] w0 fun v L => ∃ g A c, v = .pointer (some ⟨g, 0, none⟩) ∧ L = rdr g A c l 0 [] := by
  obtain ⟨A, cap, rfl, _⟩ := id h
  unfold Go.Fw.Rets
  refine enter1 func88 rfl ntmps88 rfl fun a S => sg S (.ac rfl <| .z) fun a w S => wp_seq_k fun _ hK1 => wp_region_lit (run S (.mv rfl <| .z) fun a w S => st_m (op_extend _ (S.nil_ 5 _ Go.Fw.encB _) underlying57 underlying57 (.inr ⟨_, rfl⟩) inf5 rfl (k := 0) rfl Ev.c (.t rfl) (Src.sl (Sl.old S.wd h) (by decide) Go.Fw.encB_len Go.Fw.encB_one) (by first | omega | (simp only [List.length_append, List.length_cons, List.length_nil]; omega) | (simp; omega)) rfl rfl rfl fun A1 cap1 a w S => ?_))
  simp only [List.nil_append] at S
  refine run S (.yy (ys_bld (ps := [(0, Go.Operand.tmp 4), (2, _)]) (us := [_, _, _]) bld160 (.cons (.t rfl) (.cons Ev.c .nil)) rfl) rfl <| .z) fun a w S => st_m (op_box S (.t rfl) rfl fun g1 a w S => run S (.as rfl <| .z) fun a w S => st_nil (then_normal (hK1 _ _ (wp_ret (st_ret S (results1 S results88 (Rv.tmp rfl)) ?_)))))
  exact ⟨_, _, rfl, S.wd, _, _, _, rfl, rfl⟩
theorem c94 {w0 w : World} {L : List Chunk} {g cap k : Nat} {A : Option Addr} {b : List UInt8} (W : Wd w0 (rdr g A cap b k L) w) (n : Nat) (hn : k + n ≤ b.length) (hb : b.length ≤ 16777216) :
    RetsO Try.prog 94 #[.pointer (some ⟨g, 0, none⟩), .int .i64 (n : Int)] w0 w fun v L' => ∃ A1 c1, v = .slice A1 ((b.drop k).take n).length c1 ∧ L' = rdr g A cap b (k + n) (rowOf 5 1 encB A1 c1 ((b.drop k).take n) :: L) := by
  have hr := (W.room (k := 1) rfl).1
  have rw_k : (k : Int) + (n : Int) = ((k + n : Nat) : Int) := by omega
  unfold Go.Fw.RetsO
  refine enterW2 W func94 rfl ntmps94 rfl fun a S => sg S (.ac rfl <| .z) fun a w S => wp_seq_k fun _ hK1 => h_begin0 S (by kernel_rfl) fun a w S => hy 0 S rfl (ys_move (.t rfl)) rfl fun a w S => hy 1 S rfl (ys_nilc (.t rfl)) rfl fun a w S => hy 2 S rfl (ys_fieldN (FieldT.mk underlying160 rfl sizeOf57 rfl) (.t rfl) (i' := 0) rfl) rfl fun a w S => hy 3 S rfl (ys_ld ⟨isAgg57, sizeOf57⟩ (.t rfl) (k := 0) rfl rfl) rfl fun a w S => ?_
  refine hy 4 S rfl (ys_move (.t rfl)) rfl fun a w S => hy 5 S rfl (ys_nilc (.t rfl)) rfl fun a w S => hy 6 S rfl (ys_fieldN (FieldT.mk underlying160 rfl sizeOf3 rfl) (.t rfl) (i' := 1) rfl) rfl fun a w S => hy 7 S rfl (ys_ld ⟨isAgg3, sizeOf3⟩ (.t rfl) (k := 0) rfl rfl) rfl fun a w S => hy 8 S rfl (ys_move (.t rfl)) rfl fun a w S => ?_
  refine hy 9 S rfl (ys_nilc (.t rfl)) rfl fun a w S => hy 10 S rfl (ys_fieldN (FieldT.mk underlying160 rfl sizeOf3 rfl) (.t rfl) (i' := 1) rfl) rfl fun a w S => hy 11 S rfl (ys_ld ⟨isAgg3, sizeOf3⟩ (.t rfl) (k := 0) rfl rfl) rfl fun a w S => hy 12 S rfl (ys_move (.t rfl)) rfl fun a w S => hy 13 S rfl (ys_addI (.t rfl) (.t rfl) (fun _ => by unfold I64; omega)) rfl fun a w S => ?_
  rw [rw_k] at S
  refine hy 14 S rfl (ys_slLH underlying57 sizeOf5 (.t rfl) (.t rfl) (.t rfl) (fun _ => by first | omega | (simp; done) | (simp; omega))) rfl fun a w S => ?_
  (refine h_m (i := 15) rfl (by kernel_rfl) (op_extend _ (S.nil_ 5 _ Go.Fw.encB _) underlying57 underlying57 (.inr ⟨_, rfl⟩) inf5 rfl (k := 0) rfl Ev.c (.t rfl) (by exact Src.sub S.wd (k := 1) rfl (by decide) Go.Fw.encB_len Go.Fw.encB_one (by omega) (by omega)) (by first | omega | (simp only [List.length_append, List.length_cons, List.length_nil]; omega) | (simp; omega)) rfl rfl rfl ?_); clear S a w; intro A1 cap1 a w S; refine h_n2 S ?_)
  simp only [List.nil_append] at S
  refine hy 16 S rfl (ys_assign (.t rfl)) rfl fun a w S => h_done (by kernel_rfl) (then_normal (hK1 _ _ (wp_seq_k fun _ hK1 => wp_region_lit (run S (.mv rfl <| .yy (ys_nilc (.t rfl)) rfl <| .fa underlying160 sizeOf3 1 rfl rfl rfl <| .ld gt3 1 rfl rfl rfl <| .mv rfl <| .yy (ys_addI (.t rfl) (.t rfl) (fun _ => by unfold I64; omega)) rfl <| .z) fun a w S => ?_))))
  rw [rw_k] at S
  refine run S (.yy (ys_nilc (.t rfl)) rfl <| .fa underlying160 sizeOf3 1 rfl rfl rfl <| .z) fun a w S => st_m (op_st S sizeOf3 (.t rfl) (.t rfl) (k := 1) rfl rfl (by simp) fun a w S => st_nil (then_normal (hK1 _ _ (sg S (.mv rfl <| .as rfl <| .z) fun a w S => wp_ret (st_ret S (results1 S results94 (Rv.tmp rfl)) ?_)))))
  have e : k + n - k = n := by omega
  rw [e] at S
  exact ⟨_, _, by rw [e], (S.wd.picks (L' := rdr g A cap b (k + n) (rowOf 5 1 encB A1 cap1 ((b.drop k).take n) :: L)) (by repeat (first | exact Picks.nil | (refine Picks.rest ?_; (repeat (first | exact List.Sublist.refl _ | refine List.Sublist.cons_cons _ ?_ | refine List.Sublist.cons _ ?_)); done) | refine Picks.take 0 rfl ?_ | refine Picks.take 1 rfl ?_ | refine Picks.take 2 rfl ?_ | refine Picks.take 3 rfl ?_ | refine Picks.take 4 rfl ?_ | refine Picks.take 5 rfl ?_ | refine Picks.take 6 rfl ?_ | refine Picks.take 7 rfl ?_ | refine Picks.take 8 rfl ?_ | refine Picks.take 9 rfl ?_ | refine Picks.take 10 rfl ?_ | refine Picks.take 11 rfl ?_))), _, _, rfl, rfl⟩
theorem c91 {w0 w : World} {L : List Chunk} {g cap k : Nat} {A : Option Addr} {b : List UInt8} (W : Wd w0 (rdr g A cap b k L) w) (hk : k ≤ b.length) (hb : b.length ≤ 16777216) :
    RetsP Try.prog 91 #[.pointer (some ⟨g, 0, none⟩)] 43 w0 w (fun v L' => (numR 0 0 (b.drop k)).2.2 = 0 ∧ v = .int .i64 (numR 0 0 (b.drop k)).1 ∧ L' = rdr g A cap b (k + (numR 0 0 (b.drop k)).2.1) L) (fun x L' => x = (numR 0 0 (b.drop k)).2.2 ∧ x ≠ 0 ∧ L' = rdr g A cap b k L) := by
  unfold Go.Fw.RetsP
  refine enterW1 W func91 rfl ntmps91 rfl fun a S => sg S (.ac rfl <| .z) fun a w S => wp_seq_k fun _ hK1 => st_quiet S (by kernel_rfl) (by kernel_rfl) fun a S => qrun S (.mv rfl <| .yy (ys_nilc (.t rfl)) rfl <| .fa underlying160 sizeOf3 1 rfl rfl rfl <| .ld gt3 0 rfl rfl rfl <| .ac rfl <| .as rfl <| .z) fun a S => ?_
  (refine q_nil ?_; intro w W; replace S := St.mk S W; clear W)
  refine then_normal (hK1 _ _ (sg S (.ac rfl <| .z) fun a w S => wp_block ?_))
  replace S := S.wk (K' := [(5, true, .int .i64 ((0 : Nat) : Int)), (4, true, .int .i64 ((k + 0 : Nat) : Int)), (3, true, .int .i64 (0 : Int)), (0, true, .pointer (some ⟨g, 0, none⟩))]) (L' := rdr g A cap b k L)
  refine st_lpK S (X := Nat × Int) (fun q => [(5, true, .int .i64 (q.1 : Int)), (4, true, .int .i64 ((k + q.1 : Nat) : Int)), (3, true, .int .i64 q.2)]) (fun _ L => L)
    (fun q => q.1 ≤ 8 ∧ k + q.1 ≤ b.length ∧ 0 ≤ q.2 ∧ q.2 < 128 ^ q.1 ∧ numR q.1 q.2 (b.drop (k + q.1)) = numR 0 0 (b.drop k)) (fun q => 9 - q.1) (0, 0) ⟨by simp, by omega, by simp, by simp, rfl⟩ ?_
  clear S
  intro ⟨i, m⟩ a w ⟨hi8, hik, hm0, hm1, hno⟩ S
  dsimp only at hi8 hik hm0 hm1 hno S
  by_cases hlt : k + i < b.length
  · obtain ⟨ga, rfl⟩ := S.wd.row_at (k := 1) rfl (by have := (S.wd.room (k := 1) rfl).1; omega)
    obtain ⟨x, hx⟩ : ∃ x, b[k + i]? = some x := ⟨b[k + i], by simp⟩
    have hx8 : x.toNat < 256 := x.toNat_lt
    have hst := numR_step (i := i) (n := m) hx
    rw [hno] at hst
    obtain ⟨p1, p2, p3⟩ := pow_num hi8
    obtain ⟨rw_s, hs0, hs1⟩ := sh_num (i := i) (y := (x.toNat : Int) % 128) hi8 (by omega) (by omega)
    have rw_o := or_num (i := i) (m := m) (y := (x.toNat : Int) % 128) hi8 hm0 hm1 (by omega) (by omega)
    have rw_7 : 7 * (i : Int) = ((7 * i : Nat) : Int) := by omega
    have rw_k : ((k + i : Nat) : Int) + 1 = ((k + (i + 1) : Nat) : Int) := by omega
    by_cases h128 : x.toNat < 128
    · rw [if_neg (by omega), if_pos h128] at hst
      by_cases h0 : 0 < i ∧ x.toNat = 0
      · rw [if_pos h0] at hst
        obtain ⟨h0a, h0b⟩ := h0
        refine wp_seq_k fun _ hK1 => wp_block (wp_seq_k fun _ hK2 => sg S (.mv rfl <| .mv rfl <| .yy (ys_nilc (.t rfl)) rfl <| .fa underlying160 sizeOf57 0 rfl rfl rfl <| .ld gt57 0 rfl rfl rfl <| .ln underlying57 rfl <| .yy (ys_F (by omega) (ys_eql (.t rfl) (.t rfl))) rfl <| .z) fun a w S => st_else S (.t rfl) (wp_skip (then_normal (hK2 _ _ (sg S (.mv rfl <| .yy (ys_nilc (.t rfl)) rfl <| .fa underlying160 sizeOf57 0 rfl rfl rfl <| .ld gt57 0 rfl rfl rfl <| .mv rfl <| .ix underlying57 sizeOf5 (by omega) rfl rfl <| .yy (ys_ldW0 ⟨isAgg5, sizeOf5⟩ (.t rfl) (k := 1) rfl hx (fun _ => rfl) rfl) rfl <| .yy (ys_cvI underlying5 underlying3 (.t rfl) (fun _ => by unfold I64; omega)) rfl <| .as rfl <| .z) fun a w S => wp_seq_k fun _ hK2 => wp_region_lit (run S (.mv rfl <| .ad (by unfold I64; omega) rfl <| .z) fun a w S => ?_))))))
        rw [rw_k] at S
        refine run S (.as rfl <| .z) fun a w S => st_nil (then_normal (hK2 _ _ (wp_seq_k fun _ hK2 => wp_seq_k fun _ hK3 => wp_region_lit (run S (.mv rfl <| .yy (ys_eql (.t rfl) Ev.c) rfl <| .mv rfl <| .z) fun a w S => st_yg S rfl rfl (Yr.ys (ys_move (.t rfl))) rfl fun a w S => st_yg S rfl rfl (Yr.ys (ys_F (by omega) (ys_geq (Ev.g rfl) Ev.c))) rfl fun a w S => run S (.yy (ys_andF (.t rfl) (Ev.g rfl) Ev.c) rfl <| .z) fun a w S => st_nil (then_normal (hK3 _ _ (st_else S (.t rfl) (wp_skip (then_normal (hK2 _ _ (wp_seq_k fun _ hK2 => wp_region_lit (run S (.mv rfl <| .mv rfl <| .yy (ys_andM 7 (c := 128) (.t rfl) Ev.c rfl rfl rfl (fun _ => by omega)) rfl <| .mv rfl <| .yy (ys_mulI Ev.c (.t rfl) (fun _ => by unfold I64; omega)) rfl <| .z) fun a w S => ?_))))))))))))
        rw [rw_7] at S
        refine run S (.yy (ys_shl (.t rfl) (.t rfl) (Nat.ble_eq_true_of_le (by show _ ≤ 64; omega))) rfl <| .z) fun a w S => ?_
        rw [rw_s] at S
        refine run S (.yy (ys_bor (.t rfl) (.t rfl)) rfl <| .z) fun a w S => ?_
        rw [rw_o] at S
        refine run S (.as rfl <| .z) fun a w S => st_nil (then_normal (hK2 _ _ (sg S (.mv rfl <| .yy (ys_T (by omega) (ys_lss (.t rfl) Ev.c)) rfl <| .z) fun a w S => st_then S (.t rfl) (wp_seq_k fun _ hK2 => sg S (.mv rfl <| .yy (ys_T (by omega) (ys_gtr (.t rfl) Ev.c)) rfl <| .mv rfl <| .gy rfl rfl (ys_move (.t rfl)) <| .gy rfl rfl (ys_T (by omega) (ys_eql (.t rfl) Ev.c)) <| .yy (ys_pickT (.t rfl) (.t rfl)) rfl <| .z) fun a w S => st_then S (.t rfl) (wp_region_lit ?_)))))
        (refine st_m (op_callRP S call92 (.cons Ev.c .nil) (c92 S.wd _) rfl ?_ ?_) <;> clear S a w)
        (intro _ _ h; exact h.elim)
        rintro _ _ ⟨rfl, rfl⟩ a w S
        refine then_panic (in_panic (then_panic (then_panic (in_panic ?_))))
        refine post_panic S ?_
        rw [hst]
        exact .inr ⟨_, _, rfl, S.wd, rfl, by decide, rfl⟩
      · rw [if_neg h0] at hst
        have rw_f : (decide (0 < (i : Int)) && decide ((x.toNat : Int) = 0)) = false := by rw [Bool.eq_false_iff]; intro h; simp at h; omega
        refine wp_seq_k fun _ hK1 => wp_block (wp_seq_k fun _ hK2 => sg S (.mv rfl <| .mv rfl <| .yy (ys_nilc (.t rfl)) rfl <| .fa underlying160 sizeOf57 0 rfl rfl rfl <| .ld gt57 0 rfl rfl rfl <| .ln underlying57 rfl <| .yy (ys_F (by omega) (ys_eql (.t rfl) (.t rfl))) rfl <| .z) fun a w S => st_else S (.t rfl) (wp_skip (then_normal (hK2 _ _ (sg S (.mv rfl <| .yy (ys_nilc (.t rfl)) rfl <| .fa underlying160 sizeOf57 0 rfl rfl rfl <| .ld gt57 0 rfl rfl rfl <| .mv rfl <| .ix underlying57 sizeOf5 (by omega) rfl rfl <| .yy (ys_ldW0 ⟨isAgg5, sizeOf5⟩ (.t rfl) (k := 1) rfl hx (fun _ => rfl) rfl) rfl <| .yy (ys_cvI underlying5 underlying3 (.t rfl) (fun _ => by unfold I64; omega)) rfl <| .as rfl <| .z) fun a w S => wp_seq_k fun _ hK2 => wp_region_lit (run S (.mv rfl <| .ad (by unfold I64; omega) rfl <| .z) fun a w S => ?_))))))
        rw [rw_k] at S
        refine run S (.as rfl <| .z) fun a w S => st_nil (then_normal (hK2 _ _ (wp_seq_k fun _ hK2 => wp_seq_k fun _ hK3 => wp_region_lit (run S (.mv rfl <| .yy (ys_eql (.t rfl) Ev.c) rfl <| .mv rfl <| .z) fun a w S => st_yg S rfl rfl (Yr.ys (ys_move (.t rfl))) rfl fun a w S => st_yg S rfl rfl (Yr.ys (ys_F (by omega) (ys_geq (Ev.g rfl) Ev.c))) rfl fun a w S => run S (.yy (ys_andF (.t rfl) (Ev.g rfl) Ev.c) rfl <| .z) fun a w S => st_nil (then_normal (hK3 _ _ (st_else S (.t rfl) (wp_skip (then_normal (hK2 _ _ (wp_seq_k fun _ hK2 => wp_region_lit (run S (.mv rfl <| .mv rfl <| .yy (ys_andM 7 (c := 128) (.t rfl) Ev.c rfl rfl rfl (fun _ => by omega)) rfl <| .mv rfl <| .yy (ys_mulI Ev.c (.t rfl) (fun _ => by unfold I64; omega)) rfl <| .z) fun a w S => ?_))))))))))))
        rw [rw_7] at S
        refine run S (.yy (ys_shl (.t rfl) (.t rfl) (Nat.ble_eq_true_of_le (by show _ ≤ 64; omega))) rfl <| .z) fun a w S => ?_
        rw [rw_s] at S
        refine run S (.yy (ys_bor (.t rfl) (.t rfl)) rfl <| .z) fun a w S => ?_
        rw [rw_o] at S
        refine run S (.as rfl <| .z) fun a w S => st_nil (then_normal (hK2 _ _ (sg S (.mv rfl <| .yy (ys_T (by omega) (ys_lss (.t rfl) Ev.c)) rfl <| .z) fun a w S => st_then S (.t rfl) (wp_seq_k fun _ hK2 => wp_seq_k fun _ hK3 => wp_region_lit (run S (.mv rfl <| .yy (ys_gtr (.t rfl) Ev.c) rfl <| .mv rfl <| .z) fun a w S => st_yg S rfl rfl (Yr.ys (ys_move (.t rfl))) rfl fun a w S => st_yg S rfl rfl (Yr.ys (ys_eql (Ev.g rfl) Ev.c)) rfl fun a w S => run S (.yy (ys_and (.t rfl) (Ev.g rfl) Ev.c) rfl <| .z) fun a w S => ?_)))))
        rw [rw_f] at S
        refine st_nil (then_normal (hK3 _ _ (st_else S (.t rfl) (wp_skip (then_normal (hK2 _ _ (wp_seq_k fun _ hK2 => wp_region_lit (run S (.mv rfl <| .mv rfl <| .yy (ys_nilc (.t rfl)) rfl <| .fa underlying160 sizeOf3 1 rfl rfl rfl <| .z) fun a w S => st_m (op_st S sizeOf3 (.t rfl) (.t rfl) (k := 0) rfl rfl (by simp) fun a w S => st_nil (then_normal (hK2 _ _ (sg S (.mv rfl <| .as rfl <| .z) fun a w S => wp_ret (in_ret (then_ret (then_ret (in_ret (st_ret S (results1 S results91 (Rv.tmp rfl)) ?_)))))))))))))))))
        rw [hst]
        exact .inl ⟨_, _, rfl, S.wd, rfl, rfl, rfl⟩
    · by_cases h8 : i = 8
      · rw [if_pos (by omega)] at hst
        refine wp_seq_k fun _ hK1 => wp_block (wp_seq_k fun _ hK2 => sg S (.mv rfl <| .mv rfl <| .yy (ys_nilc (.t rfl)) rfl <| .fa underlying160 sizeOf57 0 rfl rfl rfl <| .ld gt57 0 rfl rfl rfl <| .ln underlying57 rfl <| .yy (ys_F (by omega) (ys_eql (.t rfl) (.t rfl))) rfl <| .z) fun a w S => st_else S (.t rfl) (wp_skip (then_normal (hK2 _ _ (sg S (.mv rfl <| .yy (ys_nilc (.t rfl)) rfl <| .fa underlying160 sizeOf57 0 rfl rfl rfl <| .ld gt57 0 rfl rfl rfl <| .mv rfl <| .ix underlying57 sizeOf5 (by omega) rfl rfl <| .yy (ys_ldW0 ⟨isAgg5, sizeOf5⟩ (.t rfl) (k := 1) rfl hx (fun _ => rfl) rfl) rfl <| .yy (ys_cvI underlying5 underlying3 (.t rfl) (fun _ => by unfold I64; omega)) rfl <| .as rfl <| .z) fun a w S => wp_seq_k fun _ hK2 => wp_region_lit (run S (.mv rfl <| .ad (by unfold I64; omega) rfl <| .z) fun a w S => ?_))))))
        rw [rw_k] at S
        refine run S (.as rfl <| .z) fun a w S => st_nil (then_normal (hK2 _ _ (wp_seq_k fun _ hK2 => sg S (.mv rfl <| .yy (ys_T (by omega) (ys_eql (.t rfl) Ev.c)) rfl <| .mv rfl <| .gy rfl rfl (ys_move (.t rfl)) <| .gy rfl rfl (ys_T (by omega) (ys_geq (.t rfl) Ev.c)) <| .yy (ys_pickT (.t rfl) (.t rfl)) rfl <| .z) fun a w S => st_then S (.t rfl) (wp_region_lit ?_))))
        (refine st_m (op_callRP S call92 (.cons Ev.c .nil) (c92 S.wd _) rfl ?_ ?_) <;> clear S a w)
        (intro _ _ h; exact h.elim)
        rintro _ _ ⟨rfl, rfl⟩ a w S
        refine then_panic (in_panic (then_panic (then_panic (in_panic ?_))))
        refine post_panic S ?_
        rw [hst]
        exact .inr ⟨_, _, rfl, S.wd, rfl, by decide, rfl⟩
      · rw [if_neg (by omega), if_neg h128] at hst
        have h5 : (128 : Int) ^ (i + 1) = 128 * 128 ^ i := by rw [Int.pow_succ]; omega
        have h6 : (x.toNat : Int) % 128 * 128 ^ i ≤ 127 * 128 ^ i := Int.mul_le_mul_of_nonneg_right (by omega) (by omega)
        refine wp_seq_k fun _ hK1 => wp_block (wp_seq_k fun _ hK2 => sg S (.mv rfl <| .mv rfl <| .yy (ys_nilc (.t rfl)) rfl <| .fa underlying160 sizeOf57 0 rfl rfl rfl <| .ld gt57 0 rfl rfl rfl <| .ln underlying57 rfl <| .yy (ys_F (by omega) (ys_eql (.t rfl) (.t rfl))) rfl <| .z) fun a w S => st_else S (.t rfl) (wp_skip (then_normal (hK2 _ _ (sg S (.mv rfl <| .yy (ys_nilc (.t rfl)) rfl <| .fa underlying160 sizeOf57 0 rfl rfl rfl <| .ld gt57 0 rfl rfl rfl <| .mv rfl <| .ix underlying57 sizeOf5 (by omega) rfl rfl <| .yy (ys_ldW0 ⟨isAgg5, sizeOf5⟩ (.t rfl) (k := 1) rfl hx (fun _ => rfl) rfl) rfl <| .yy (ys_cvI underlying5 underlying3 (.t rfl) (fun _ => by unfold I64; omega)) rfl <| .as rfl <| .z) fun a w S => wp_seq_k fun _ hK2 => wp_region_lit (run S (.mv rfl <| .ad (by unfold I64; omega) rfl <| .z) fun a w S => ?_))))))
        rw [rw_k] at S
        refine run S (.as rfl <| .z) fun a w S => st_nil (then_normal (hK2 _ _ (wp_seq_k fun _ hK2 => sg S (.mv rfl <| .yy (ys_F (by omega) (ys_eql (.t rfl) Ev.c)) rfl <| .mv rfl <| .sk rfl rfl rfl <| .sk rfl rfl rfl <| .yy (ys_pickF (.t rfl) Ev.c) rfl <| .z) fun a w S => st_else S (.t rfl) (wp_skip (then_normal (hK2 _ _ (wp_seq_k fun _ hK2 => wp_region_lit (run S (.mv rfl <| .mv rfl <| .yy (ys_andM 7 (c := 128) (.t rfl) Ev.c rfl rfl rfl (fun _ => by omega)) rfl <| .mv rfl <| .yy (ys_mulI Ev.c (.t rfl) (fun _ => by unfold I64; omega)) rfl <| .z) fun a w S => ?_))))))))
        rw [rw_7] at S
        refine run S (.yy (ys_shl (.t rfl) (.t rfl) (Nat.ble_eq_true_of_le (by show _ ≤ 64; omega))) rfl <| .z) fun a w S => ?_
        rw [rw_s] at S
        refine run S (.yy (ys_bor (.t rfl) (.t rfl)) rfl <| .z) fun a w S => ?_
        rw [rw_o] at S
        refine run S (.as rfl <| .z) fun a w S => st_nil (then_normal (hK2 _ _ (sg S (.mv rfl <| .yy (ys_F (by omega) (ys_lss (.t rfl) Ev.c)) rfl <| .z) fun a w S => st_else S (.t rfl) (wp_skip (in_normal (then_normal (hK1 _ _ (wp_region_lit (run S (.mv rfl <| .ad (by unfold I64; omega) rfl <| .as rfl <| .z) fun a w S => st_nil (then_normal ?_))))))))))
        exact ⟨(i + 1, m + (x.toNat : Int) % 128 * 128 ^ i), ⟨by dsimp only; omega, by dsimp only; omega, by dsimp only; omega, by dsimp only; omega, by dsimp only; rw [hst]; rfl⟩, by dsimp only; omega, S.wk⟩
  · refine wp_seq_k fun _ hK1 => wp_block (wp_seq_k fun _ hK2 => sg S (.mv rfl <| .mv rfl <| .yy (ys_nilc (.t rfl)) rfl <| .fa underlying160 sizeOf57 0 rfl rfl rfl <| .ld gt57 0 rfl rfl rfl <| .ln underlying57 rfl <| .yy (ys_T (by omega) (ys_eql (.t rfl) (.t rfl))) rfl <| .z) fun a w S => st_then S (.t rfl) (wp_region_lit ?_))
    (refine st_m (op_callRP S call92 (.cons Ev.c .nil) (c92 S.wd _) rfl ?_ ?_) <;> clear S a w)
    (intro _ _ h; exact h.elim)
    rintro _ _ ⟨rfl, rfl⟩ a w S
    refine then_panic (in_panic (then_panic (then_panic (in_panic ?_))))
    refine post_panic S ?_
    have hkk : k + i = b.length := by omega
    rw [List.drop_of_length_le (by omega), numR_nil] at hno
    rw [← hno]
    exact .inr ⟨_, _, rfl, S.wd, rfl, by decide, rfl⟩
end Go.Proofs.Ytfblmkocmnbdcaa
set_option linter.unusedVariables false
set_option linter.unusedSimpArgs false
set_option maxRecDepth 100000
set_option maxHeartbeats 4000000
namespace Go.Proofs.Ytfblmkocmnbdcaa
open Go.Fw Go.Proofs Go.RowKit Go.Proofs.Try
theorem caught {w0 : World} {L : List Chunk} (g : Nat) (e : Int) (w : World) (W : Wd w0 (.blk g (.cells #[.int .i64 0] 43) :: L) w) :
    CallsD Try.prog 116 #[.pointer (some ⟨g, 0, none⟩)] (.panicking (Pan 43 e)) w fun r u' w' =>
      r = .returned (.tuple #[]) ∧ u' = .panicking [{ v := .iface 43 (.int .i64 e), recovered := true }] ∧ Wd w0 (.blk g (.cells #[.int .i64 e] 43) :: L) w' := by
  refine callsD_of_wpS func116 rfl fun c₀ cs hu => ?_
  have kn := kn_start (args := [.pointer (some ⟨g, 0, none⟩)]) ntmps116 rfl
  generalize ({ tmps := _, defers := [] } : Act) = a at kn ⊢
  apply wpS_seq
  refine wpS_recover (cs' := { c₀ with mode := .panicking [{ v := .iface 43 (.int .i64 e), recovered := true }] } :: cs) (v := .iface 43 (.int .i64 e)) kn rfl (by simp [recoverD, hu]) ?_
  have S : St 18 w0 _ _ _ w := ⟨(kn.put (d := 4) rfl (.iface 43 (.int .i64 e))).put (d := 1) rfl (.iface 43 (.int .i64 e)), W⟩
  generalize ((a.put (some 4) _).put (some 1) _ : Act) = a at S ⊢
  refine wpS_of_wp ?_
  refine sg S (.mv rfl <| .yy (ys_tassHit underlying43 (.t rfl)) rfl <| .mv rfl <| .ex rfl rfl <| .ex rfl rfl <| .as rfl <| .as rfl <| .z) fun a w S => wp_seq_k fun _ hK1 => sg S (.mv rfl <| .yy (ys_iNotV (underlying20.trans (by kernel_rfl)) (.t rfl) Ev.c) rfl <| .mv rfl <| .gy rfl rfl (ys_move (.t rfl)) <| .gy rfl rfl (ys_not (.t rfl)) <| .yy (ys_pickT (.t rfl) (.t rfl)) rfl <| .z) fun a w S => st_else S (.t rfl) (wp_skip (then_normal (hK1 _ _ (wp_region_lit (run S (.mv rfl <| .z) fun a w S => st_m (op_st S sizeOf43 (.t rfl) (.t rfl) (k := 0) rfl rfl (by simp) fun a w S => st_nil ?_))))))
  exact ⟨S.kn.defers, _, rfl, _, results0 results116, rfl, rfl, S.wd⟩
theorem idle {w0 : World} {L : List Chunk} (g : Nat) (w : World) (W : Wd w0 (.blk g (.cells #[.int .i64 0] 43) :: L) w) :
    CallsD Try.prog 116 #[.pointer (some ⟨g, 0, none⟩)] .returning w fun r u' w' =>
      r = .returned (.tuple #[]) ∧ u' = .returning ∧ Wd w0 (.blk g (.cells #[.int .i64 0] 43) :: L) w' := by
  refine callsD_of_wpS func116 rfl fun c₀ cs hu => ?_
  have kn := kn_start (args := [.pointer (some ⟨g, 0, none⟩)]) ntmps116 rfl
  generalize ({ tmps := _, defers := [] } : Act) = a at kn ⊢
  apply wpS_seq
  refine wpS_recoverN kn rfl (by simp [recoverD, hu]) ?_
  have S : St 18 w0 _ _ _ w := ⟨(kn.put (d := 4) rfl .nilIface).put (d := 1) rfl .nilIface, W⟩
  generalize ((a.put (some 4) _).put (some 1) _ : Act) = a at S ⊢
  refine wpS_of_wp ?_
  refine sg S (.mv rfl <| .yy (ys_tassNil underlying43 zeroValue43 (.t rfl)) rfl <| .mv rfl <| .ex rfl rfl <| .ex rfl rfl <| .as rfl <| .as rfl <| .z) fun a w S => wp_seq_k fun _ hK1 => sg S (.mv rfl <| .yy (ys_iNotN (underlying20.trans (by kernel_rfl)) (.t rfl)) rfl <| .mv rfl <| .sk rfl rfl rfl <| .sk rfl rfl rfl <| .yy (ys_pickF (.t rfl) Ev.c) rfl <| .z) fun a w S => st_else S (.t rfl) (wp_skip (then_normal (hK1 _ _ (wp_region_lit (run S (.mv rfl <| .z) fun a w S => st_m (op_st S sizeOf43 (.t rfl) (.t rfl) (k := 0) rfl rfl (by simp) fun a w S => st_nil ?_))))))
  exact ⟨S.kn.defers, .returning, by cases c₀; simp_all, _, results0 results116, rfl, rfl, S.wd⟩
theorem tryW {w0 w : World} {L : List Chunk} {f : FuncId} {cs : List Value} {R : Int → List Chunk → Prop} (W : Wd w0 L w) (hf : ∀ args w, (callFunc f args).run Try.prog w = .ok (.enter f args) w)
    (hc : ∀ C w1, Wd w0 (C :: L) w1 → RetsP Try.prog f cs.toArray 43 w0 w1 (fun v L' => ∃ L'', L' = C :: L'' ∧ v = .tuple #[] ∧ R 0 L'') (fun x L' => ∃ L'', L' = C :: L'' ∧ R x L'')) :
    RetsO Try.prog 89 #[.func (.func f) #[] cs.toArray] w0 w fun v L' => ∃ x, v = .int .i64 x ∧ R x L' := by
  unfold RetsO
  refine enterD (args := [_]) W func89 rfl ntmps89 rfl fun a S => wp_seq_k fun _ hK1 => wp_region_lit (st_m (op_alloc S zeroValue43 (cs := _) rfl rfl fun g1 a w S => st_nil (then_normal (hK1 _ _ (wp_seq_k fun _ hK1 => wp_region_lit (run S (.yy (ys_mkFunc (.cons (.t rfl) .nil)) rfl <| .z) fun a w S => st_m (op_defer (cs := [_]) S (.t rfl) (st_nil (then_normal (hK1 _ _ (wp_seq_k fun _ hK1 => wp_region_lit (st_m (op_dfr ?_)))))))))))))
  (refine op_y S (Yr.ys (ys_move (.t rfl))) rfl ?_; clear S a w; intro a w S)
  refine st_m (op_dfr ?_)
  refine op_callRPV S (.t rfl) hf .nil (hc _ _ S.wd) rfl ?_ ?_
  · clear S
    rintro _ _ ⟨L1, rfl, rfl, hR⟩ a w S
    refine st_nil (then_normal (hK1 _ _ (wp_seq_k fun _ hK1 => wp_region_lit (st_m (op_dfr ?_)))))
    (refine op_st S sizeOf43 (.t rfl) Ev.c (k := 0) rfl rfl (by simp) ?_; clear S a w; intro a w S)
    refine st_nil (then_normal (hK1 _ _ (wp_ret ?_)))
    show Leaves _ _ _ _ (a.defers ++ _) _ _
    rw [S.kn.defers]
    refine leaves_cons (f := 116) (args := #[.pointer (some ⟨g1, 0, none⟩)]) (by simp) (by simp [go_sem]) ?_
    refine (idle (w0 := w0) (L := L1) g1 w (S.wd.sub (List.Sublist.refl _))).mono ?_
    rintro r u' w' ⟨rfl, rfl, W'⟩
    have S' : St 6 w0 _ _ a w' := ⟨S.kn, W'⟩
    have hres := results1 S' results89 (Rv.cell1 (k := 0) ⟨isAgg43, sizeOf43⟩ rfl rfl)
    exact ⟨_, hres, _, L1, rfl, W'.sub (List.sublist_cons_self _ _), 0, rfl, hR⟩
  · clear S
    rintro x _ ⟨L1, rfl, hR⟩ a w S
    refine then_panic ?_
    show Leaves _ _ _ _ (a.defers ++ _) _ _
    rw [S.kn.defers]
    refine leaves_cons (f := 116) (args := #[.pointer (some ⟨g1, 0, none⟩)]) (by simp) (by simp [go_sem]) ?_
    refine (caught (w0 := w0) (L := L1) g1 x w (S.wd.sub (List.Sublist.refl _))).mono ?_
    rintro r u' w' ⟨rfl, rfl, W'⟩
    have S' : St 6 w0 _ _ a w' := ⟨S.kn, W'⟩
    have hres := results1 S' results89 (Rv.cell1 (k := 0) ⟨isAgg43, sizeOf43⟩ rfl rfl)
    exact ⟨_, hres, _, L1, rfl, W'.sub (List.sublist_cons_self _ _), x, rfl, hR⟩
theorem triedW {w0 w : World} {L : List Chunk} {g cap k : Nat} {A : Option Addr} {b : List UInt8} {f : FuncId} {cs : List Value} {R : List Chunk → Prop} {E : Int → List Chunk → Prop} (W : Wd w0 (rdr g A cap b k L) w) (hf : ∀ args w, (callFunc f args).run Try.prog w = .ok (.enter f args) w)
    (hc : ∀ C w1, Wd w0 (C :: rdr g A cap b k L) w1 → RetsP Try.prog f cs.toArray 43 w0 w1 (fun v L' => v = .tuple #[] ∧ ∃ k' L'', L' = C :: rdr g A cap b k' L'' ∧ R (rdr g A cap b k' L'')) (fun x L' => x ≠ 0 ∧ ∃ k' L'', L' = C :: rdr g A cap b k' L'' ∧ E x (rdr g A cap b k L''))) :
    RetsO Try.prog 118 #[.pointer (some ⟨g, 0, none⟩), .func (.func f) #[] cs.toArray] w0 w fun v L' => ∃ x, v = .int .i64 x ∧ (x = 0 ∧ R L' ∨ x ≠ 0 ∧ E x L') := by
  unfold Go.Fw.RetsO
  refine enterW2 W func118 rfl ntmps118 rfl fun a S => sg S (.ac rfl <| .z) fun a w S => wp_seq_k fun _ hK1 => sg S (.mv rfl <| .xx (ys_call call117 (.cons (.t rfl) .nil) (fun hp w W => c117 _ _ (by exact Wd.cell W (k := 0) rfl rfl))) rfl <| .nt rfl <| .z) fun a w S => st_else S (.t rfl) (wp_skip (then_normal (hK1 _ _ (sg S (.mv rfl <| .yy (ys_nilc (.t rfl)) rfl <| .fa underlying160 sizeOf3 1 rfl rfl rfl <| .ld gt3 0 rfl rfl rfl <| .as rfl <| .z) fun a w S => wp_seq_k fun _ hK1 => wp_region_lit (run S (.mv rfl <| .z) fun a w S => ?_)))))
  refine st_m (op_callO S call89 (.cons (.t rfl) .nil) (tryW (R := fun x L' => ∃ k' L'', L' = rdr g A cap b k' L'' ∧ (x = 0 ∧ R L' ∨ x ≠ 0 ∧ E x (rdr g A cap b k L''))) S.wd hf fun C w1 W1 => (hc C w1 W1).mono ?_) rfl ?_)
  · intro e w' h
    rcases h with ⟨v, L', rfl, hw, rfl, k', L'', rfl, hR⟩ | ⟨x, L', rfl, hw, hx, k', L'', rfl, hE⟩
    · exact .inl ⟨_, _, rfl, hw, _, rfl, rfl, k', L'', rfl, .inl ⟨rfl, hR⟩⟩
    · exact .inr ⟨_, _, rfl, hw, _, rfl, k', L'', rfl, .inr ⟨hx, hE⟩⟩
  clear S
  rintro _ _ ⟨x, rfl, k', L'', rfl, hh⟩ a w S
  rcases hh with ⟨rfl, hR⟩ | ⟨hx, hE⟩
  · refine run S (.as rfl <| .z) fun a w S => st_nil (then_normal (hK1 _ _ (wp_seq_k fun _ hK1 => sg S (.mv rfl <| .yy (ys_F (by omega) (ys_neq (.t rfl) Ev.c)) rfl <| .z) fun a w S => st_else S (.t rfl) (wp_skip (then_normal (hK1 _ _ (sg S (.mv rfl <| .as rfl <| .z) fun a w S => wp_ret (st_ret S (results1 S results118 (Rv.tmp rfl)) ?_))))))))
    exact ⟨_, _, rfl, S.wd, _, rfl, .inl ⟨rfl, hR⟩⟩
  · refine run S (.as rfl <| .z) fun a w S => st_nil (then_normal (hK1 _ _ (wp_seq_k fun _ hK1 => sg S (.mv rfl <| .yy (ys_T (by omega) (ys_neq (.t rfl) Ev.c)) rfl <| .z) fun a w S => st_then S (.t rfl) (wp_region_lit (run S (.mv rfl <| .mv rfl <| .yy (ys_nilc (.t rfl)) rfl <| .fa underlying160 sizeOf3 1 rfl rfl rfl <| .z) fun a w S => st_m (op_st S sizeOf3 (.t rfl) (.t rfl) (k := 0) rfl rfl (by simp) fun a w S => st_nil (then_normal (hK1 _ _ (sg S (.mv rfl <| .as rfl <| .z) fun a w S => wp_ret (st_ret S (results1 S results118 (Rv.tmp rfl)) ?_))))))))))
    exact ⟨_, _, rfl, S.wd, _, rfl, .inr ⟨hx, hE⟩⟩
theorem q119 {w0 w : World} {L : List Chunk} {g g1 g2 cap k : Nat} {A : Option Addr} {b : List UInt8} {z : Int} (W : Wd w0 (rdr g A cap b k (.blk g1 (.cells #[.pointer (some ⟨g, 0, none⟩)] 133) :: .blk g2 (.cells #[.int .i64 z] 3) :: L)) w) (hk : k ≤ b.length) (hb : b.length ≤ 16777216) :
    RetsP Try.prog 119 #[.pointer (some ⟨g1, 0, none⟩), .pointer (some ⟨g2, 0, none⟩)] 43 w0 w (fun v L' => (numR 0 0 (b.drop k)).2.2 = 0 ∧ v = .tuple #[] ∧ L' = rdr g A cap b (k + (numR 0 0 (b.drop k)).2.1) (.blk g1 (.cells #[.pointer (some ⟨g, 0, none⟩)] 133) :: .blk g2 (.cells #[.int .i64 (numR 0 0 (b.drop k)).1] 3) :: L))
      (fun x L' => x = (numR 0 0 (b.drop k)).2.2 ∧ x ≠ 0 ∧ L' = rdr g A cap b k (.blk g1 (.cells #[.pointer (some ⟨g, 0, none⟩)] 133) :: .blk g2 (.cells #[.int .i64 z] 3) :: L)) := by
  unfold Go.Fw.RetsP
  refine enterW2 W func119 rfl ntmps119 rfl fun a S => wp_region_lit (run S (.ld gt133 2 rfl rfl rfl <| .z) fun a w S => ?_)
  (refine st_m (op_callRP S call91 (.cons (.t rfl) .nil) (c91 S.wd (by first | assumption | omega | (dsimp only; omega) | exact Sl.nil_ | exact .old S.wd (by assumption) | exact Sl.of_own S.wd (k := 0) rfl (fun _ => rfl) | exact Sl.of_own S.wd (k := 1) rfl (fun _ => rfl) | exact Sl.of_own S.wd (k := 2) rfl (fun _ => rfl) | exact Sl.of_own S.wd (k := 3) rfl (fun _ => rfl) | (simp at *; omega)) (by first | assumption | omega | (dsimp only; omega) | exact Sl.nil_ | exact .old S.wd (by assumption) | exact Sl.of_own S.wd (k := 0) rfl (fun _ => rfl) | exact Sl.of_own S.wd (k := 1) rfl (fun _ => rfl) | exact Sl.of_own S.wd (k := 2) rfl (fun _ => rfl) | exact Sl.of_own S.wd (k := 3) rfl (fun _ => rfl) | (simp at *; omega))) rfl ?_ ?_) <;> clear S a w)
  rintro _ _ ⟨hr1, rfl, rfl⟩ a w S
  refine st_m (op_st S sizeOf3 (.t rfl) (.t rfl) (k := 3) rfl rfl (by simp) fun a w S => st_nil (st_end S (results0 results119) ?_))
  rotate_left
  rintro _ _ ⟨rfl, hr1, rfl⟩ a w S
  refine post_panic S ?_
  rotate_left
  · exact .inl ⟨_, _, rfl, S.wd, hr1, rfl, rfl⟩
  · exact .inr ⟨_, _, rfl, S.wd, rfl, hr1, rfl⟩
theorem u95 {w0 w : World} {L : List Chunk} {g cap k : Nat} {A : Option Addr} {b : List UInt8} (W : Wd w0 (rdr g A cap b k L) w) (hk : k ≤ b.length) (hb : b.length ≤ 16777216) :
    RetsO Try.prog 95 #[.pointer (some ⟨g, 0, none⟩)] w0 w (fun v L' => v = .tuple #[.int .i64 (numR 0 0 (b.drop k)).1, .int .i64 (numR 0 0 (b.drop k)).2.2] ∧ L' = rdr g A cap b (k + (numR 0 0 (b.drop k)).2.1) L) := by
  unfold Go.Fw.RetsO
  refine enterW1 W func95 rfl ntmps95 rfl fun a S => wp_seq_k fun _ hK1 => wp_region_lit (st_m (op_box1 S (.t rfl) rfl rfl fun g1 a w S => run S (.ac rfl <| .ac rfl <| .z) fun a w S => st_nil (then_normal (hK1 _ _ (wp_seq_k fun _ hK1 => wp_region_lit (st_m (op_alloc S zeroValue3 (cs := _) rfl rfl fun g2 a w S => st_m (op_st S sizeOf3 (.t rfl) Ev.c (k := 0) rfl rfl (by simp) fun a w S => st_nil (then_normal (hK1 _ _ (wp_seq_k fun _ hK1 => wp_region_lit (run S (.ld gt133 1 rfl rfl rfl <| .yy (ys_mkFunc (.cons (.t rfl) (.cons (.t rfl) .nil))) rfl <| .z) fun a w S => ?_))))))))))))
  have W2 := S.wd.picks (L' := rdr g A cap b k (.blk g1 (.cells #[.pointer (some ⟨g, 0, none⟩)] 133) :: .blk g2 (.cells #[.int .i64 0] 3) :: L)) (by repeat (first | exact Picks.nil | (refine Picks.rest ?_; (repeat (first | exact List.Sublist.refl _ | refine List.Sublist.cons_cons _ ?_ | refine List.Sublist.cons _ ?_)); done) | refine Picks.take 0 rfl ?_ | refine Picks.take 1 rfl ?_ | refine Picks.take 2 rfl ?_ | refine Picks.take 3 rfl ?_ | refine Picks.take 4 rfl ?_ | refine Picks.take 5 rfl ?_ | refine Picks.take 6 rfl ?_ | refine Picks.take 7 rfl ?_ | refine Picks.take 8 rfl ?_ | refine Picks.take 9 rfl ?_ | refine Picks.take 10 rfl ?_ | refine Picks.take 11 rfl ?_))
  replace S := St.mk S.kn W2
  refine st_m (op_callO S call118 (.cons (.t rfl) (.cons (.t rfl) .nil)) (triedW (f := 119) (cs := [.pointer (some ⟨g1, 0, none⟩), .pointer (some ⟨g2, 0, none⟩)])
    (R := fun L' => (numR 0 0 (b.drop k)).2.2 = 0 ∧ L' = rdr g A cap b (k + (numR 0 0 (b.drop k)).2.1) (.blk g1 (.cells #[.pointer (some ⟨g, 0, none⟩)] 133) :: .blk g2 (.cells #[.int .i64 (numR 0 0 (b.drop k)).1] 3) :: L))
    (E := fun x L' => x = (numR 0 0 (b.drop k)).2.2 ∧ L' = rdr g A cap b k (.blk g1 (.cells #[.pointer (some ⟨g, 0, none⟩)] 133) :: .blk g2 (.cells #[.int .i64 0] 3) :: L))
    S.wd call119 fun C w1 W1 => Calls.mono (q119 (L := C :: L) (W1.pk) hk hb) ?_) rfl ?_)
  · intro e w' h
    rcases h with ⟨v, L', rfl, hw, h1, rfl, rfl⟩ | ⟨x, L', rfl, hw, rfl, h1, rfl⟩
    · exact .inl ⟨_, _, rfl, hw.picks (L' := C :: rdr g A cap b (k + (numR 0 0 (b.drop k)).2.1) (.blk g1 (.cells #[.pointer (some ⟨g, 0, none⟩)] 133) :: .blk g2 (.cells #[.int .i64 (numR 0 0 (b.drop k)).1] 3) :: L)) (by repeat (first | exact Picks.nil | (refine Picks.rest ?_; (repeat (first | exact List.Sublist.refl _ | refine List.Sublist.cons_cons _ ?_ | refine List.Sublist.cons _ ?_)); done) | refine Picks.take 0 rfl ?_ | refine Picks.take 1 rfl ?_ | refine Picks.take 2 rfl ?_ | refine Picks.take 3 rfl ?_ | refine Picks.take 4 rfl ?_ | refine Picks.take 5 rfl ?_ | refine Picks.take 6 rfl ?_ | refine Picks.take 7 rfl ?_ | refine Picks.take 8 rfl ?_ | refine Picks.take 9 rfl ?_ | refine Picks.take 10 rfl ?_ | refine Picks.take 11 rfl ?_)), rfl, _, _, rfl, h1, rfl⟩
    · exact .inr ⟨_, _, rfl, hw.picks (L' := C :: rdr g A cap b k (.blk g1 (.cells #[.pointer (some ⟨g, 0, none⟩)] 133) :: .blk g2 (.cells #[.int .i64 0] 3) :: L)) (by repeat (first | exact Picks.nil | (refine Picks.rest ?_; (repeat (first | exact List.Sublist.refl _ | refine List.Sublist.cons_cons _ ?_ | refine List.Sublist.cons _ ?_)); done) | refine Picks.take 0 rfl ?_ | refine Picks.take 1 rfl ?_ | refine Picks.take 2 rfl ?_ | refine Picks.take 3 rfl ?_ | refine Picks.take 4 rfl ?_ | refine Picks.take 5 rfl ?_ | refine Picks.take 6 rfl ?_ | refine Picks.take 7 rfl ?_ | refine Picks.take 8 rfl ?_ | refine Picks.take 9 rfl ?_ | refine Picks.take 10 rfl ?_ | refine Picks.take 11 rfl ?_)), h1, _, _, rfl, rfl, rfl⟩
  clear S W2
  rintro _ _ ⟨x, rfl, h⟩ a w S
  rcases h with ⟨rfl, h1, rfl⟩ | ⟨hx, rfl, rfl⟩
  · refine run S (.as rfl <| .z) fun a w S => st_nil (then_normal (hK1 _ _ (sg S (.ld gt3 3 rfl rfl rfl <| .mv rfl <| .as rfl <| .as rfl <| .z) fun a w S => wp_ret (st_ret S (results2 S results95 (Rv.tmp rfl) (Rv.tmp rfl)) ?_))))
    rw [h1]
    exact ⟨_, _, rfl, S.wd.picks (L' := rdr g A cap b (k + (numR 0 0 (b.drop k)).2.1) L) (by repeat (first | exact Picks.nil | (refine Picks.rest ?_; (repeat (first | exact List.Sublist.refl _ | refine List.Sublist.cons_cons _ ?_ | refine List.Sublist.cons _ ?_)); done) | refine Picks.take 0 rfl ?_ | refine Picks.take 1 rfl ?_ | refine Picks.take 2 rfl ?_ | refine Picks.take 3 rfl ?_ | refine Picks.take 4 rfl ?_ | refine Picks.take 5 rfl ?_ | refine Picks.take 6 rfl ?_ | refine Picks.take 7 rfl ?_ | refine Picks.take 8 rfl ?_ | refine Picks.take 9 rfl ?_ | refine Picks.take 10 rfl ?_ | refine Picks.take 11 rfl ?_)), rfl, rfl⟩
  · refine run S (.as rfl <| .z) fun a w S => st_nil (then_normal (hK1 _ _ (sg S (.ld gt3 3 rfl rfl rfl <| .mv rfl <| .as rfl <| .as rfl <| .z) fun a w S => wp_ret (st_ret S (results2 S results95 (Rv.tmp rfl) (Rv.tmp rfl)) ?_))))
    have hz := numR_bad hx
    rw [hz.1, hz.2, Nat.add_zero]
    exact ⟨_, _, rfl, S.wd.picks (L' := rdr g A cap b k L) (by repeat (first | exact Picks.nil | (refine Picks.rest ?_; (repeat (first | exact List.Sublist.refl _ | refine List.Sublist.cons_cons _ ?_ | refine List.Sublist.cons _ ?_)); done) | refine Picks.take 0 rfl ?_ | refine Picks.take 1 rfl ?_ | refine Picks.take 2 rfl ?_ | refine Picks.take 3 rfl ?_ | refine Picks.take 4 rfl ?_ | refine Picks.take 5 rfl ?_ | refine Picks.take 6 rfl ?_ | refine Picks.take 7 rfl ?_ | refine Picks.take 8 rfl ?_ | refine Picks.take 9 rfl ?_ | refine Picks.take 10 rfl ?_ | refine Picks.take 11 rfl ?_)), rfl, rfl⟩
theorem c95 {w0 w : World} {L : List Chunk} {g cap k : Nat} {A : Option Addr} {b : List UInt8} (W : Wd w0 (rdr g A cap b k L) w) (hk : k ≤ b.length) (hb : b.length ≤ 16777216) :
    RetsO Try.prog 95 #[.pointer (some ⟨g, 0, none⟩)] w0 w (fun v L' => v = .tuple #[.int .i64 (numAt b k).1, .int .i64 (numAt b k).2.2] ∧ L' = rdr g A cap b (numAt b k).2.1 L) := u95 W hk hb
theorem q136 {w0 w : World} {L : List Chunk} {g g1 g2 cap k : Nat} {A : Option Addr} {b : List UInt8} {z : Int} (W : Wd w0 (rdr g A cap b k (.blk g1 (.cells #[.pointer (some ⟨g, 0, none⟩)] 133) :: .blk g2 (.cells #[.int .i64 z] 3) :: L)) w) (hk : k ≤ b.length) (hb : b.length ≤ 16777216) :
    RetsP Try.prog 136 #[.pointer (some ⟨g1, 0, none⟩), .pointer (some ⟨g2, 0, none⟩)] 43 w0 w (fun v L' => ∃ x : UInt8, b[k]? = some x ∧ v = .tuple #[] ∧ L' = rdr g A cap b (k + 1) (.blk g1 (.cells #[.pointer (some ⟨g, 0, none⟩)] 133) :: .blk g2 (.cells #[.int .i64 (x.toNat : Int)] 3) :: L))
      (fun x L' => x = 2 ∧ k = b.length ∧ L' = rdr g A cap b k (.blk g1 (.cells #[.pointer (some ⟨g, 0, none⟩)] 133) :: .blk g2 (.cells #[.int .i64 z] 3) :: L)) := by
  by_cases hlt : k < b.length
  · obtain ⟨x, hx⟩ : ∃ x, b[k]? = some x := ⟨b[k], by simp⟩
    have hd : (b.drop k).take 1 = [x] := by
      obtain ⟨h, rfl⟩ := List.getElem?_eq_some_iff.1 hx
      rw [List.drop_eq_getElem_cons h]; rfl
    have rw_d := hd
    unfold Go.Fw.RetsP
    refine enterW2 W func136 rfl ntmps136 rfl fun a S => wp_seq_k fun _ hK1 => sg S (.ld gt133 2 rfl rfl rfl <| .xx (ys_call call93 (.cons (.t rfl) .nil) (fun hp w W => c93 _ _ _ _ _ _ (by exact Wd.cell W (k := 0) rfl rfl) (by exact Wd.cell W (k := 0) rfl rfl) (by exact Wd.cell W (k := 0) rfl rfl) (by assumption) (by assumption))) rfl <| .yy (ys_F (by omega) (ys_eql (.t rfl) Ev.c)) rfl <| .z) fun a w S => st_else S (.t rfl) (wp_skip (then_normal (hK1 _ _ (wp_region_lit (run S (.ld gt133 2 rfl rfl rfl <| .z) fun a w S => ?_)))))
    (refine st_m (op_callO S call94 (.cons (.t rfl) (.cons Ev.c .nil)) (c94 S.wd _ (by first | assumption | omega | (dsimp only; omega) | exact Sl.nil_ | exact .old S.wd (by assumption) | exact Sl.of_own S.wd (k := 0) rfl (fun _ => rfl) | exact Sl.of_own S.wd (k := 1) rfl (fun _ => rfl) | exact Sl.of_own S.wd (k := 2) rfl (fun _ => rfl) | exact Sl.of_own S.wd (k := 3) rfl (fun _ => rfl) | (simp at *; omega)) (by first | assumption | omega | (dsimp only; omega) | exact Sl.nil_ | exact .old S.wd (by assumption) | exact Sl.of_own S.wd (k := 0) rfl (fun _ => rfl) | exact Sl.of_own S.wd (k := 1) rfl (fun _ => rfl) | exact Sl.of_own S.wd (k := 2) rfl (fun _ => rfl) | exact Sl.of_own S.wd (k := 3) rfl (fun _ => rfl) | (simp at *; omega))) rfl ?_) <;> clear S a w)
    rintro _ _ ⟨A11, c11, rfl, rfl⟩ a w S
    rw [rw_d] at S
    obtain ⟨ga, rfl⟩ := S.wd.row_at (k := 2) rfl (by have := (S.wd.room (k := 2) rfl).1; simp at this; omega)
    have hq : ([x] : List UInt8)[0]? = some x := rfl
    simp only [List.length_singleton] at S
    have hx8 : x.toNat < 256 := x.toNat_lt
    refine run S (.yy (ys_ixS (j := 0) underlying57 sizeOf5 (.t rfl) Ev.c (fun _ => by omega)) rfl <| .yy (ys_ldW ⟨isAgg5, sizeOf5⟩ (.t rfl) (k := 2) rfl hq (fun _ => rfl) rfl) rfl <| .yy (ys_cvI underlying5 underlying3 (.t rfl) (fun _ => by unfold I64; omega)) rfl <| .z) fun a w S => st_m (op_st S sizeOf3 (.t rfl) (.t rfl) (k := 4) rfl rfl (by simp) fun a w S => st_nil (st_end S (results0 results136) ?_))
    exact .inl ⟨_, _, rfl, S.wd.picks (L' := rdr g A cap b (k + 1) (.blk g1 (.cells #[.pointer (some ⟨g, 0, none⟩)] 133) :: .blk g2 (.cells #[.int .i64 (x.toNat : Int)] 3) :: L)) (by repeat (first | exact Picks.nil | (refine Picks.rest ?_; (repeat (first | exact List.Sublist.refl _ | refine List.Sublist.cons_cons _ ?_ | refine List.Sublist.cons _ ?_)); done) | refine Picks.take 0 rfl ?_ | refine Picks.take 1 rfl ?_ | refine Picks.take 2 rfl ?_ | refine Picks.take 3 rfl ?_ | refine Picks.take 4 rfl ?_ | refine Picks.take 5 rfl ?_ | refine Picks.take 6 rfl ?_ | refine Picks.take 7 rfl ?_ | refine Picks.take 8 rfl ?_ | refine Picks.take 9 rfl ?_ | refine Picks.take 10 rfl ?_ | refine Picks.take 11 rfl ?_)), x, hx, rfl, rfl⟩
  · unfold Go.Fw.RetsP
    refine enterW2 W func136 rfl ntmps136 rfl fun a S => wp_seq_k fun _ hK1 => sg S (.ld gt133 2 rfl rfl rfl <| .xx (ys_call call93 (.cons (.t rfl) .nil) (fun hp w W => c93 _ _ _ _ _ _ (by exact Wd.cell W (k := 0) rfl rfl) (by exact Wd.cell W (k := 0) rfl rfl) (by exact Wd.cell W (k := 0) rfl rfl) (by assumption) (by assumption))) rfl <| .yy (ys_T (by omega) (ys_eql (.t rfl) Ev.c)) rfl <| .z) fun a w S => st_then S (.t rfl) (wp_region_lit ?_)
    (refine st_m (op_callRP S call92 (.cons Ev.c .nil) (c92 S.wd _) rfl ?_ ?_) <;> clear S a w)
    (intro _ _ h; exact h.elim)
    rintro _ _ ⟨rfl, rfl⟩ a w S
    refine then_panic ?_
    refine post_panic S ?_
    have : k = b.length := by omega
    exact .inr ⟨_, _, rfl, S.wd, rfl, this, rfl⟩
theorem c121 {w0 w : World} {L : List Chunk} {g cap k : Nat} {A : Option Addr} {b : List UInt8} (W : Wd w0 (rdr g A cap b k L) w) (hk : k ≤ b.length) (hb : b.length ≤ 16777216) :
    RetsO Try.prog 121 #[.pointer (some ⟨g, 0, none⟩)] w0 w (fun v L' => v = .tuple #[.int .i64 (byteR b k).1, .int .i64 (byteR b k).2.2] ∧ L' = rdr g A cap b (k + (byteR b k).2.1) L) := by
  unfold Go.Fw.RetsO
  refine enterW1 W func121 rfl ntmps121 rfl fun a S => wp_seq_k fun _ hK1 => wp_region_lit (st_m (op_box1 S (.t rfl) rfl rfl fun g1 a w S => run S (.ac rfl <| .ac rfl <| .z) fun a w S => st_nil (then_normal (hK1 _ _ (wp_seq_k fun _ hK1 => wp_region_lit (st_m (op_alloc S zeroValue3 (cs := _) rfl rfl fun g2 a w S => st_m (op_st S sizeOf3 (.t rfl) Ev.c (k := 0) rfl rfl (by simp) fun a w S => st_nil (then_normal (hK1 _ _ (wp_seq_k fun _ hK1 => wp_region_lit (run S (.ld gt133 1 rfl rfl rfl <| .yy (ys_mkFunc (.cons (.t rfl) (.cons (.t rfl) .nil))) rfl <| .z) fun a w S => ?_))))))))))))
  have W2 := S.wd.picks (L' := rdr g A cap b k (.blk g1 (.cells #[.pointer (some ⟨g, 0, none⟩)] 133) :: .blk g2 (.cells #[.int .i64 0] 3) :: L)) (by repeat (first | exact Picks.nil | (refine Picks.rest ?_; (repeat (first | exact List.Sublist.refl _ | refine List.Sublist.cons_cons _ ?_ | refine List.Sublist.cons _ ?_)); done) | refine Picks.take 0 rfl ?_ | refine Picks.take 1 rfl ?_ | refine Picks.take 2 rfl ?_ | refine Picks.take 3 rfl ?_ | refine Picks.take 4 rfl ?_ | refine Picks.take 5 rfl ?_ | refine Picks.take 6 rfl ?_ | refine Picks.take 7 rfl ?_ | refine Picks.take 8 rfl ?_ | refine Picks.take 9 rfl ?_ | refine Picks.take 10 rfl ?_ | refine Picks.take 11 rfl ?_))
  replace S := St.mk S.kn W2
  refine st_m (op_callO S call118 (.cons (.t rfl) (.cons (.t rfl) .nil)) (triedW (f := 136) (cs := [.pointer (some ⟨g1, 0, none⟩), .pointer (some ⟨g2, 0, none⟩)])
    (R := fun L' => ∃ x : UInt8, b[k]? = some x ∧ L' = rdr g A cap b (k + 1) (.blk g1 (.cells #[.pointer (some ⟨g, 0, none⟩)] 133) :: .blk g2 (.cells #[.int .i64 (x.toNat : Int)] 3) :: L))
    (E := fun x L' => x = 2 ∧ k = b.length ∧ L' = rdr g A cap b k (.blk g1 (.cells #[.pointer (some ⟨g, 0, none⟩)] 133) :: .blk g2 (.cells #[.int .i64 0] 3) :: L))
    S.wd call136 fun C w1 W1 => Calls.mono (q136 (L := C :: L) (W1.pk) hk hb) ?_) rfl ?_)
  · intro e w' h
    rcases h with ⟨v, L', rfl, hw, x, h1, rfl, rfl⟩ | ⟨x, L', rfl, hw, rfl, h1, rfl⟩
    · exact .inl ⟨_, _, rfl, hw.picks (L' := C :: rdr g A cap b (k + 1) (.blk g1 (.cells #[.pointer (some ⟨g, 0, none⟩)] 133) :: .blk g2 (.cells #[.int .i64 (x.toNat : Int)] 3) :: L)) (by repeat (first | exact Picks.nil | (refine Picks.rest ?_; (repeat (first | exact List.Sublist.refl _ | refine List.Sublist.cons_cons _ ?_ | refine List.Sublist.cons _ ?_)); done) | refine Picks.take 0 rfl ?_ | refine Picks.take 1 rfl ?_ | refine Picks.take 2 rfl ?_ | refine Picks.take 3 rfl ?_ | refine Picks.take 4 rfl ?_ | refine Picks.take 5 rfl ?_ | refine Picks.take 6 rfl ?_ | refine Picks.take 7 rfl ?_ | refine Picks.take 8 rfl ?_ | refine Picks.take 9 rfl ?_ | refine Picks.take 10 rfl ?_ | refine Picks.take 11 rfl ?_)), rfl, _, _, rfl, x, h1, rfl⟩
    · exact .inr ⟨_, _, rfl, hw.picks (L' := C :: rdr g A cap b k (.blk g1 (.cells #[.pointer (some ⟨g, 0, none⟩)] 133) :: .blk g2 (.cells #[.int .i64 0] 3) :: L)) (by repeat (first | exact Picks.nil | (refine Picks.rest ?_; (repeat (first | exact List.Sublist.refl _ | refine List.Sublist.cons_cons _ ?_ | refine List.Sublist.cons _ ?_)); done) | refine Picks.take 0 rfl ?_ | refine Picks.take 1 rfl ?_ | refine Picks.take 2 rfl ?_ | refine Picks.take 3 rfl ?_ | refine Picks.take 4 rfl ?_ | refine Picks.take 5 rfl ?_ | refine Picks.take 6 rfl ?_ | refine Picks.take 7 rfl ?_ | refine Picks.take 8 rfl ?_ | refine Picks.take 9 rfl ?_ | refine Picks.take 10 rfl ?_ | refine Picks.take 11 rfl ?_)), by decide, _, _, rfl, rfl, h1, rfl⟩
  clear S W2
  rintro _ _ ⟨x, rfl, h⟩ a w S
  rcases h with ⟨rfl, x, h1, rfl⟩ | ⟨hx, rfl, h1, rfl⟩
  · refine run S (.as rfl <| .z) fun a w S => st_nil (then_normal (hK1 _ _ (sg S (.ld gt3 3 rfl rfl rfl <| .mv rfl <| .as rfl <| .as rfl <| .z) fun a w S => wp_ret (st_ret S (results2 S results121 (Rv.tmp rfl) (Rv.tmp rfl)) ?_))))
    rw [byteR_some h1]
    exact ⟨_, _, rfl, S.wd.picks (L' := rdr g A cap b (k + 1) L) (by repeat (first | exact Picks.nil | (refine Picks.rest ?_; (repeat (first | exact List.Sublist.refl _ | refine List.Sublist.cons_cons _ ?_ | refine List.Sublist.cons _ ?_)); done) | refine Picks.take 0 rfl ?_ | refine Picks.take 1 rfl ?_ | refine Picks.take 2 rfl ?_ | refine Picks.take 3 rfl ?_ | refine Picks.take 4 rfl ?_ | refine Picks.take 5 rfl ?_ | refine Picks.take 6 rfl ?_ | refine Picks.take 7 rfl ?_ | refine Picks.take 8 rfl ?_ | refine Picks.take 9 rfl ?_ | refine Picks.take 10 rfl ?_ | refine Picks.take 11 rfl ?_)), rfl, rfl⟩
  · refine run S (.as rfl <| .z) fun a w S => st_nil (then_normal (hK1 _ _ (sg S (.ld gt3 3 rfl rfl rfl <| .mv rfl <| .as rfl <| .as rfl <| .z) fun a w S => wp_ret (st_ret S (results2 S results121 (Rv.tmp rfl) (Rv.tmp rfl)) ?_))))
    rw [byteR_none h1]
    exact ⟨_, _, rfl, S.wd.picks (L' := rdr g A cap b k L) (by repeat (first | exact Picks.nil | (refine Picks.rest ?_; (repeat (first | exact List.Sublist.refl _ | refine List.Sublist.cons_cons _ ?_ | refine List.Sublist.cons _ ?_)); done) | refine Picks.take 0 rfl ?_ | refine Picks.take 1 rfl ?_ | refine Picks.take 2 rfl ?_ | refine Picks.take 3 rfl ?_ | refine Picks.take 4 rfl ?_ | refine Picks.take 5 rfl ?_ | refine Picks.take 6 rfl ?_ | refine Picks.take 7 rfl ?_ | refine Picks.take 8 rfl ?_ | refine Picks.take 9 rfl ?_ | refine Picks.take 10 rfl ?_ | refine Picks.take 11 rfl ?_)), rfl, rfl⟩
end Go.Proofs.Ytfblmkocmnbdcaa
set_option linter.unusedVariables false
set_option linter.unusedSimpArgs false
namespace Go.Fw
open Go.RowKit
theorem numR_fwd (post : List UInt8) : ∀ (x i : Nat) (n : Int), i ≤ 8 → x < 128 ^ (9 - i) → (0 < i → 0 < x) → numR i n (numB x ++ post) = (n + (x : Int) * 128 ^ i, i + (numB x).length, 0) := by
  intro x
  induction x using Nat.strongRecOn with
  | _ x ih =>
    intro i n hi hx h0
    by_cases hs : x < 128
    · rw [numB_small hs]
      have hb : (b8 (x : Int)).toNat = x := by have := b8_val (x : Int); omega
      rw [List.singleton_append, numR, hb, if_neg (by omega), if_pos hs, if_neg (by omega)]
      have : (x : Int) % 128 = x := by omega
      rw [this]
      rfl
    · rw [numB_big hs]
      have hb : (b8 ((x % 128 + 128 : Nat) : Int)).toNat = x % 128 + 128 := by have := b8_val ((x % 128 + 128 : Nat) : Int); omega
      have hi8 : i < 8 := by
        rcases Nat.lt_or_ge i 8 with h | h
        · exact h
        · obtain rfl : i = 8 := by omega
          simp at hx; omega
      have hp : 128 ^ (9 - i) = 128 ^ (9 - (i + 1)) * 128 := by rw [show 9 - i = (9 - (i + 1)) + 1 by omega, Nat.pow_succ]
      rw [List.cons_append, numR, hb, if_neg (by omega), if_neg (by omega), ih (x / 128) (by omega) (i + 1) _ (by omega) (by rw [hp] at hx; omega) (by omega)]
      have hq : (((x % 128 + 128 : Nat) : Int)) % 128 = ((x % 128 : Nat) : Int) := by omega
      have h5 : (128 : Int) ^ (i + 1) = 128 * 128 ^ i := by rw [Int.pow_succ, Int.mul_comm]
      have hxx : (x : Int) = ((x % 128 : Nat) : Int) + ((x / 128 : Nat) : Int) * 128 := by omega
      rw [hq, h5]
      refine Prod.ext ?_ (Prod.ext ?_ rfl)
      · dsimp only
        conv => rhs; rw [hxx, Int.add_mul, Int.mul_assoc]
        omega
      · simp only [List.length_cons]; omega
theorem numR_inv : ∀ (l : List UInt8) (i : Nat) (n : Int), (numR i n l).2.2 = 0 → i ≤ 8 → ∃ y : Nat, (numR i n l).1 = n + (y : Int) * 128 ^ i ∧ i < (numR i n l).2.1 ∧ numB y = l.take ((numR i n l).2.1 - i) ∧ (0 < i → 0 < y)
  | [], _, _, h, _ => by simp [numR] at h
  | x :: r, i, n, h, hi => by
    have hx8 : x.toNat < 256 := x.toNat_lt
    unfold numR at h ⊢
    split at h
    · simp at h
    · rename_i h1
      rw [if_neg h1]
      split at h
      · rename_i h2
        rw [if_pos h2]
        split at h
        · simp at h
        · rename_i h3
          rw [if_neg h3]
          refine ⟨x.toNat, ?_, ?_, ?_, ?_⟩
          · dsimp only
            rw [show (x.toNat : Int) % 128 = x.toNat by omega]
          · dsimp only; omega
          · dsimp only
            rw [numB_small h2, show i + 1 - i = 1 by omega, b8_nat]; rfl
          · intro hi0; omega
      · rename_i h2
        rw [if_neg h2]
        obtain ⟨y, e1, e2, e3, e4⟩ := numR_inv r (i + 1) _ h (by omega)
        have h5 : (128 : Int) ^ (i + 1) = 128 * 128 ^ i := by rw [Int.pow_succ, Int.mul_comm]
        have hy := e4 (by omega)
        refine ⟨x.toNat % 128 + 128 * y, ?_, by omega, ?_, by omega⟩
        · rw [e1, h5]
          have : (((x.toNat % 128 + 128 * y : Nat)) : Int) = (x.toNat : Int) % 128 + (y : Int) * 128 := by omega
          rw [this, Int.add_mul, Int.mul_assoc]
          omega
        · rw [numB_big (by omega), show (x.toNat % 128 + 128 * y) / 128 = y by omega, e3, show (numR (i + 1) (n + (x.toNat : Int) % 128 * 128 ^ i) r).2.1 - i = ((numR (i + 1) (n + (x.toNat : Int) % 128 * 128 ^ i) r).2.1 - (i + 1)) + 1 by omega, List.take_succ_cons]
          congr 1
          rw [b8_of (x := x)]
          omega
theorem take_more {b : List UInt8} {k j : Nat} : b.take (k + j) = b.take k ++ (b.drop k).take j := List.take_add
theorem numAt_fwd {pre post : List UInt8} {x : Int} (h0 : 0 ≤ x) (h1 : x ≤ 9223372036854775807) : numAt (putL pre x ++ post) pre.length = (x, (putL pre x).length, 0) := by
  unfold numAt putL
  rw [List.append_assoc, List.drop_left, numR_fwd post x.toNat 0 0 (by omega) (by simp; omega) (by omega)]
  refine Prod.ext ?_ (Prod.ext ?_ rfl)
  · dsimp only; rw [Int.pow_zero]; omega
  · simp
theorem numAt_inv {b : List UInt8} {k : Nat} (h : (numAt b k).2.2 = 0) : b.take (numAt b k).2.1 = putL (b.take k) (numAt b k).1 := by
  obtain ⟨y, e1, e2, e3, _⟩ := numR_inv (b.drop k) 0 0 h (by omega)
  unfold numAt putL
  dsimp only
  rw [take_more, e1]
  congr 1
  have hy : ((0 : Int) + (y : Int) * 128 ^ 0).toNat = y := by rw [Int.pow_zero]; omega
  rw [hy, e3, Nat.sub_zero]
theorem dotB_app (pre : List UInt8) (d : Dot) : ∃ X, dotB pre d = pre ++ X := ⟨numB d.node.toNat ++ numB d.life.toNat ++ numB d.count.toNat, by simp [dotB, putL]⟩
theorem foldB_app : ∀ (l : List Dot) (pre : List UInt8), ∃ X, l.foldl dotB pre = pre ++ X
  | [], pre => ⟨[], by simp⟩
  | d :: r, pre => by
    obtain ⟨X, hX⟩ := dotB_app pre d
    obtain ⟨Y, hY⟩ := foldB_app r (dotB pre d)
    exact ⟨X ++ Y, by rw [List.foldl_cons, hY, hX, List.append_assoc]⟩
theorem dotAt_fwd {pre post : List UInt8} {d : Dot} (h : mayD d = true) : dotAt (dotB pre d ++ post) pre.length = (d, (dotB pre d).length, 0) := by
  have hl := may_lim h
  have e1 : dotB pre d ++ post = putL pre d.node ++ (numB d.life.toNat ++ (numB d.count.toNat ++ post)) := by simp [dotB, putL]
  have e2 : dotB pre d ++ post = putL (putL pre d.node) d.life ++ (numB d.count.toNat ++ post) := by simp [dotB, putL]
  have n1 : numAt (dotB pre d ++ post) pre.length = (d.node, (putL pre d.node).length, 0) := by rw [e1]; exact numAt_fwd (by omega) (by omega)
  have n2 : numAt (dotB pre d ++ post) (putL pre d.node).length = (d.life, (putL (putL pre d.node) d.life).length, 0) := by rw [e2]; exact numAt_fwd (by omega) (by omega)
  have n3 : numAt (dotB pre d ++ post) (putL (putL pre d.node) d.life).length = (d.count, (dotB pre d).length, 0) := by exact numAt_fwd (by omega) (by omega)
  unfold dotAt
  rw [n1, bindR_ok rfl]
  dsimp only
  rw [n2, bindR_ok rfl]
  dsimp only
  rw [n3, bindR_ok rfl]
theorem dotsAt_fwd {post : List UInt8} : ∀ {l acc : List Dot} {pre : List UInt8}, (∀ x ∈ l, mayD x = true) → dotsAt (l.foldl dotB pre ++ post) l.length acc pre.length = (acc ++ l, (l.foldl dotB pre).length, 0)
  | [], acc, pre, _ => by simp [dotsAt]
  | d :: r, acc, pre, h => by
    obtain ⟨X, hX⟩ := foldB_app r (dotB pre d)
    have e : (d :: r).foldl dotB pre ++ post = dotB pre d ++ (X ++ post) := by rw [List.foldl_cons, hX, List.append_assoc]
    rw [List.length_cons, dotsAt]
    have hd : dotAt ((d :: r).foldl dotB pre ++ post) pre.length = (d, (dotB pre d).length, 0) := by rw [e]; exact dotAt_fwd (h d (by simp))
    rw [hd, bindR_ok rfl]
    dsimp only
    rw [List.foldl_cons, dotsAt_fwd (fun x hx => h x (by simp [hx])), List.append_assoc]
    rfl
theorem listAt_fwd {pre post : List UInt8} {l : List Dot} (h : ∀ x ∈ l, mayD x = true) (hl : l.length ≤ 64) : listAt (dotsB pre l ++ post) pre.length = (l, (dotsB pre l).length, 0) := by
  obtain ⟨X, hX⟩ := foldB_app l (putL pre (l.length : Int))
  have e : dotsB pre l ++ post = putL pre (l.length : Int) ++ (X ++ post) := by unfold dotsB; rw [hX, List.append_assoc]
  have hn : numAt (dotsB pre l ++ post) pre.length = ((l.length : Int), (putL pre (l.length : Int)).length, 0) := by rw [e]; exact numAt_fwd (by omega) (by omega)
  unfold listAt
  rw [hn, bindR_ok rfl]
  dsimp only
  rw [if_neg (by omega), Int.toNat_natCast]
  have := dotsAt_fwd (post := post) (acc := []) (pre := putL pre (l.length : Int)) h
  unfold dotsB
  rw [this]
  rfl
theorem decAt_fwd {pre post : List UInt8} {C : Ctx} (h : canL C = true) : decAt (encC pre C ++ post) pre.length = (C, (encC pre C).length, 0) := by
  have hlen := can_len h
  have hm := (can_nf h).mayM
  have hc := (can_nf h).mayC
  obtain ⟨X, hX⟩ := foldB_app C.cloud (putL (dotsB pre C.marks) (C.cloud.length : Int))
  have e : encC pre C ++ post = dotsB pre C.marks ++ (numB C.cloud.length ++ X ++ post) := by
    have e2 : encC pre C = C.cloud.foldl dotB (putL (dotsB pre C.marks) (C.cloud.length : Int)) := rfl
    rw [e2, hX]
    simp [putL]
  have h1 : listAt (encC pre C ++ post) pre.length = (C.marks, (dotsB pre C.marks).length, 0) := by rw [e]; exact listAt_fwd hm hlen.1
  have h2 : listAt (encC pre C ++ post) (dotsB pre C.marks).length = (C.cloud, (encC pre C).length, 0) := listAt_fwd hc hlen.2
  have h3 : ctxAt (encC pre C ++ post) pre.length = (C, (encC pre C).length, 0) := by
    unfold ctxAt
    rw [h1, bindR_ok rfl]
    dsimp only
    rw [h2, bindR_ok rfl]
    dsimp only
    rw [if_pos h]
  unfold decAt
  rw [h3, if_pos rfl]
theorem decAt_le {b : List UInt8} {k : Nat} (h : k ≤ b.length) : k ≤ (decAt b k).2.1 ∧ (decAt b k).2.1 ≤ b.length := by
  unfold decAt
  split
  · exact ctxAt_le h
  · exact ⟨Nat.le_refl _, h⟩
end Go.Fw
