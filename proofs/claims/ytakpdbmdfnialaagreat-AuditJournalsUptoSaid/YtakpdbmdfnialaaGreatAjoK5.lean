/- Contracts and laws that the statement Ajo leans on, part 5. -/
import Derived.Test.YtakpdbmdfnialaaGreatAjoK4
set_option linter.unusedVariables false
set_option linter.unusedSimpArgs false
set_option maxRecDepth 100000
set_option maxHeartbeats 4000000
namespace Go.Proofs.YtakpdbmdfnialaaGreat
open Go.Fw Go.Proofs Go.RowKit Go.Proofs.Tryz
theorem c154 (w0 : World) (v1 v2 v3 v4 : Value) (C D : Ctx) (h : RdCtx w0 w0.heap.size v1 v2 C) (h' : RdCtx w0 w0.heap.size v3 v4 D) :
   Calls Tryz.prog 154 #[.agg #[v1, v2], .agg #[v3, v4]] w0 fun e w' => e = .returned (.bool (decide (C = D))) ∧ Bel w0.heap.size w0 w' := by
 obtain ⟨⟨A, cap, rfl, hl, hcap, hA⟩, ⟨A', cap', rfl, hl', hcap', hA'⟩⟩ := h
 obtain ⟨⟨B, capB, rfl, hlB, hcapB, hB⟩, ⟨B', capB', rfl, hlB', hcapB', hB'⟩⟩ := h'
 by_cases l1 : C.marks.length = D.marks.length
 rotate_left
 · have rw_1 : decide ((C.marks.length : Int) ≠ (D.marks.length : Int)) = true := decide_eq_true (by omega)
   refine enter2 func154 rfl ntmps154 rfl fun a S => wp_seq_k fun _ hK1 => wp_region_lit (Zj (Zw S (.t rfl) rfl fun g1 a w S => Zj (Zw S (.t rfl) rfl fun g2 a w S => run S (.ac rfl <| .z) fun a w S => Zb (Za (hK1 _ _ (wp_seq_k fun _ hK1 => sg S (.fa underlying35 sizeOf32 0 rfl rfl rfl <| .ld gt32 1 rfl rfl rfl <| .ln underlying32 rfl <| .fa underlying35 sizeOf32 0 rfl rfl rfl <| .ld gt32 0 rfl rfl rfl <| .ln underlying32 rfl <| .yy (Yu (by omega) (Yh (.t rfl) (.t rfl))) rfl <| .mv rfl <| .sk rfl rfl rfl <| .sk rfl rfl rfl <| .sk rfl rfl rfl <| .sk rfl rfl rfl <| .sk rfl rfl rfl <| .sk rfl rfl rfl <| .sk rfl rfl rfl <| .yy (Zv (.t rfl) Ev.c) rfl <| .z) fun a w S => Zg S (.t rfl) (sg S (.ac rfl <| .z) fun a w S => wp_ret (Zd (Zm S (results1 S results154 (Rv.tmp rfl)) ?_)))))))))
   exact ⟨by rw [decide_eq_false (fun h => l1 (by rw [h]))], S.wd.below⟩
 have rw_1 : decide ((C.marks.length : Int) ≠ (D.marks.length : Int)) = false := decide_eq_false (by omega)
 by_cases l2 : C.cloud.length = D.cloud.length
 rotate_left
 · have rw_2 : decide ((C.cloud.length : Int) ≠ (D.cloud.length : Int)) = true := decide_eq_true (by omega)
   refine enter2 func154 rfl ntmps154 rfl fun a S => wp_seq_k fun _ hK1 => wp_region_lit (Zj (Zw S (.t rfl) rfl fun g1 a w S => Zj (Zw S (.t rfl) rfl fun g2 a w S => run S (.ac rfl <| .z) fun a w S => Zb (Za (hK1 _ _ (wp_seq_k fun _ hK1 => sg S (.fa underlying35 sizeOf32 0 rfl rfl rfl <| .ld gt32 1 rfl rfl rfl <| .ln underlying32 rfl <| .fa underlying35 sizeOf32 0 rfl rfl rfl <| .ld gt32 0 rfl rfl rfl <| .ln underlying32 rfl <| .yy (Yq (by omega) (Yh (.t rfl) (.t rfl))) rfl <| .mv rfl <| .gy rfl rfl (Zc (FieldT.mk underlying35 rfl sizeOf33 rfl) (.t rfl) (i' := 1) rfl) <| .gy rfl rfl (Zt ⟨isAgg33, sizeOf33⟩ (.t rfl) (k := 1) rfl rfl) <| .gy rfl rfl (Wt underlying33 (.t rfl)) <| .gy rfl rfl (Zc (FieldT.mk underlying35 rfl sizeOf33 rfl) (.t rfl) (i' := 1) rfl) <| .gy rfl rfl (Zt ⟨isAgg33, sizeOf33⟩ (.t rfl) (k := 0) rfl rfl) <| .gy rfl rfl (Wt underlying33 (.t rfl)) <| .gy rfl rfl (Yu (by omega) (Yh (.t rfl) (.t rfl))) <| .yy (Zu (.t rfl) (.t rfl)) rfl <| .z) fun a w S => Zg S (.t rfl) (sg S (.ac rfl <| .z) fun a w S => wp_ret (Zd (Zm S (results1 S results154 (Rv.tmp rfl)) ?_)))))))))
   exact ⟨by rw [decide_eq_false (fun h => l2 (by rw [h]))], S.wd.below⟩
 have rw_2 : decide ((C.cloud.length : Int) ≠ (D.cloud.length : Int)) = false := decide_eq_false (by omega)
 refine enter2 func154 rfl ntmps154 rfl fun a S => wp_seq_k fun _ hK1 => wp_region_lit (Zj (Zw S (.t rfl) rfl fun g1 a w S => Zj (Zw S (.t rfl) rfl fun g2 a w S => run S (.ac rfl <| .z) fun a w S => Zb (Za (hK1 _ _ (wp_seq_k fun _ hK1 => sg S (.fa underlying35 sizeOf32 0 rfl rfl rfl <| .ld gt32 1 rfl rfl rfl <| .ln underlying32 rfl <| .fa underlying35 sizeOf32 0 rfl rfl rfl <| .ld gt32 0 rfl rfl rfl <| .ln underlying32 rfl <| .yy (Yq (by omega) (Yh (.t rfl) (.t rfl))) rfl <| .mv rfl <| .gy rfl rfl (Zc (FieldT.mk underlying35 rfl sizeOf33 rfl) (.t rfl) (i' := 1) rfl) <| .gy rfl rfl (Zt ⟨isAgg33, sizeOf33⟩ (.t rfl) (k := 1) rfl rfl) <| .gy rfl rfl (Wt underlying33 (.t rfl)) <| .gy rfl rfl (Zc (FieldT.mk underlying35 rfl sizeOf33 rfl) (.t rfl) (i' := 1) rfl) <| .gy rfl rfl (Zt ⟨isAgg33, sizeOf33⟩ (.t rfl) (k := 0) rfl rfl) <| .gy rfl rfl (Wt underlying33 (.t rfl)) <| .gy rfl rfl (Yq (by omega) (Yh (.t rfl) (.t rfl))) <| .yy (Zu (.t rfl) (.t rfl)) rfl <| .z) fun a w S => Ze S (.t rfl) (wp_skip (Za (hK1 _ _ (wp_seq_k fun _ hK1 => wp_seq_k fun _ hK2 => wp_region_lit ?_))))))))))
 refine run S (.fa underlying35 sizeOf32 0 rfl rfl rfl <| .ld gt32 1 rfl rfl rfl <| .ln underlying32 rfl <| .mc rfl <| .z) fun a w S => Zb (Za (hK2 _ _ (wp_block ?_)))
 refine Xb S [26] (X := Nat) (fun k => [(26, true, .int .i64 (k : Int))]) (fun _ => [.blk g2 (.cells #[.slice B D.marks.length capB, .slice B' D.cloud.length capB'] 35), .blk g1 (.cells #[.slice A C.marks.length cap, .slice A' C.cloud.length cap'] 35)])
   (fun k => k ≤ C.marks.length ∧ C.marks.take k = D.marks.take k) (fun k => C.marks.length - k) 0 ⟨Nat.zero_le _, rfl⟩ ?_
 clear S
 rintro k a w ⟨hk, hno⟩ S
 by_cases hlt : k < C.marks.length
 · obtain ⟨g, o, x, rfl, hx, hd, hc⟩ := Yg hA hlt
   obtain ⟨g', o', y, rfl, hy, hd', hc'⟩ := Yg hB (l1 ▸ hlt)
   by_cases he : x = y
   · have rw_e := decide_eq_true (Wn.1 he)
     refine sg S (.lt (by omega) rfl rfl <| .z) fun a w S => wp_seq_k fun _ hK2 => Zg S (.t rfl) (wp_skip (Za (hK2 _ _ (wp_seq_k fun _ hK2 => wp_block (sg S (.mv rfl <| .as rfl <| .z) fun a w S => wp_seq_k fun _ hK3 => Yc S (by kernel_rfl) (by kernel_rfl) fun a S => qrun S (.fa underlying35 sizeOf32 0 rfl rfl rfl <| .ld gt32 1 rfl rfl rfl <| .mv rfl <| .ix underlying32 sizeOf30 (by omega) rfl rfl <| .yy (Zp ⟨isAgg30, sizeOf30⟩ (.t rfl) (vs := [_, _, _]) rfl (fun _ => hc)) rfl <| .fa underlying35 sizeOf32 0 rfl rfl rfl <| .ld gt32 0 rfl rfl rfl <| .mv rfl <| .ix underlying32 sizeOf30 (by omega) rfl rfl <| .yy (Zp ⟨isAgg30, sizeOf30⟩ (.t rfl) (vs := [_, _, _]) rfl (fun _ => hc')) rfl <| .yy (Vm (.t rfl) (.t rfl) eq30) rfl <| .z) fun a S => ?_)))))
     rw [rw_e] at S
     (refine Yt ?_; intro w W; replace S := St.mk S W; clear W)
     refine Za (hK3 _ _ (Ze S (.t rfl) (wp_skip (Zk (Za (hK2 _ _ (wp_region_lit (run S (.ad (by unfold I64; omega) rfl <| .mv rfl <| .z) fun a w S => Zb (Za ?_)))))))))
     exact ⟨k + 1, ⟨by omega, takeE_step hno hx hy he⟩, by omega, S.pk⟩
   · have rw_e := decide_eq_false (fun h => he (Wn.2 h))
     refine sg S (.lt (by omega) rfl rfl <| .z) fun a w S => wp_seq_k fun _ hK2 => Zg S (.t rfl) (wp_skip (Za (hK2 _ _ (wp_seq_k fun _ hK2 => wp_block (sg S (.mv rfl <| .as rfl <| .z) fun a w S => wp_seq_k fun _ hK3 => Yc S (by kernel_rfl) (by kernel_rfl) fun a S => qrun S (.fa underlying35 sizeOf32 0 rfl rfl rfl <| .ld gt32 1 rfl rfl rfl <| .mv rfl <| .ix underlying32 sizeOf30 (by omega) rfl rfl <| .yy (Zp ⟨isAgg30, sizeOf30⟩ (.t rfl) (vs := [_, _, _]) rfl (fun _ => hc)) rfl <| .fa underlying35 sizeOf32 0 rfl rfl rfl <| .ld gt32 0 rfl rfl rfl <| .mv rfl <| .ix underlying32 sizeOf30 (by omega) rfl rfl <| .yy (Zp ⟨isAgg30, sizeOf30⟩ (.t rfl) (vs := [_, _, _]) rfl (fun _ => hc')) rfl <| .yy (Vm (.t rfl) (.t rfl) eq30) rfl <| .z) fun a S => ?_)))))
     rw [rw_e] at S
     (refine Yt ?_; intro w W; replace S := St.mk S W; clear W)
     refine Za (hK3 _ _ (Zg S (.t rfl) (sg S (.ac rfl <| .z) fun a w S => wp_ret (Zr (Zd (Zd (Zr (Zd (Zm S (results1 S results154 (Rv.tmp rfl)) ?_)))))))))
     exact ⟨by rw [decide_eq_false (fun h => takeE_ne hx hy he (by rw [h]))], S.wd.below⟩
 obtain rfl : k = C.marks.length := by omega
 rw [List.take_length, List.take_of_length_le (by omega)] at hno
 clear hlt
 refine sg S (.ge (by omega) rfl rfl <| .z) fun a w S => wp_seq_k fun _ hK2 => Ze S (.t rfl) (wp_exit (Zh (Zh (Ya (Za (hK1 _ _ (wp_seq_k fun _ hK1 => sg S (.fa underlying35 sizeOf33 1 rfl rfl rfl <| .ld gt33 1 rfl rfl rfl <| .ln underlying33 rfl <| .mc rfl <| .z) fun a w S => wp_block ?_)))))))
 refine Xb S [40] (X := Nat) (fun k => [(44, true, .int .i64 (k : Int))]) (fun _ => [.blk g2 (.cells #[.slice B D.marks.length capB, .slice B' D.cloud.length capB'] 35), .blk g1 (.cells #[.slice A C.marks.length cap, .slice A' C.cloud.length cap'] 35)])
   (fun k => k ≤ C.cloud.length ∧ C.cloud.take k = D.cloud.take k) (fun k => C.cloud.length - k) 0 ⟨Nat.zero_le _, rfl⟩ ?_
 clear S
 rintro k a w ⟨hk, hno2⟩ S
 by_cases hlt : k < C.cloud.length
 · obtain ⟨g, o, x, rfl, hx, hd, hc⟩ := Yg hA' hlt
   obtain ⟨g', o', y, rfl, hy, hd', hc'⟩ := Yg hB' (l2 ▸ hlt)
   by_cases he : x = y
   · have rw_e := decide_eq_true (Wn.1 he)
     refine sg S (.lt (by omega) rfl rfl <| .z) fun a w S => wp_seq_k fun _ hK3 => Zg S (.t rfl) (wp_skip (Za (hK3 _ _ (wp_seq_k fun _ hK3 => wp_block (sg S (.mv rfl <| .as rfl <| .z) fun a w S => wp_seq_k fun _ hK4 => Yc S (by kernel_rfl) (by kernel_rfl) fun a S => qrun S (.fa underlying35 sizeOf33 1 rfl rfl rfl <| .ld gt33 1 rfl rfl rfl <| .mv rfl <| .ix underlying33 sizeOf74 (by omega) rfl rfl <| .yy (Zp ⟨isAgg74, sizeOf74⟩ (.t rfl) (vs := [_, _, _]) rfl (fun _ => hc)) rfl <| .fa underlying35 sizeOf33 1 rfl rfl rfl <| .ld gt33 0 rfl rfl rfl <| .mv rfl <| .ix underlying33 sizeOf74 (by omega) rfl rfl <| .yy (Zp ⟨isAgg74, sizeOf74⟩ (.t rfl) (vs := [_, _, _]) rfl (fun _ => hc')) rfl <| .yy (Vm (.t rfl) (.t rfl) eq74) rfl <| .z) fun a S => ?_)))))
     rw [rw_e] at S
     (refine Yt ?_; intro w W; replace S := St.mk S W; clear W)
     refine Za (hK4 _ _ (Ze S (.t rfl) (wp_skip (Zk (Za (hK3 _ _ (wp_region_lit (run S (.ad (by unfold I64; omega) rfl <| .mv rfl <| .z) fun a w S => Zb (Za ?_)))))))))
     exact ⟨k + 1, ⟨by omega, takeE_step hno2 hx hy he⟩, by omega, S.pk⟩
   · have rw_e := decide_eq_false (fun h => he (Wn.2 h))
     refine sg S (.lt (by omega) rfl rfl <| .z) fun a w S => wp_seq_k fun _ hK3 => Zg S (.t rfl) (wp_skip (Za (hK3 _ _ (wp_seq_k fun _ hK3 => wp_block (sg S (.mv rfl <| .as rfl <| .z) fun a w S => wp_seq_k fun _ hK4 => Yc S (by kernel_rfl) (by kernel_rfl) fun a S => qrun S (.fa underlying35 sizeOf33 1 rfl rfl rfl <| .ld gt33 1 rfl rfl rfl <| .mv rfl <| .ix underlying33 sizeOf74 (by omega) rfl rfl <| .yy (Zp ⟨isAgg74, sizeOf74⟩ (.t rfl) (vs := [_, _, _]) rfl (fun _ => hc)) rfl <| .fa underlying35 sizeOf33 1 rfl rfl rfl <| .ld gt33 0 rfl rfl rfl <| .mv rfl <| .ix underlying33 sizeOf74 (by omega) rfl rfl <| .yy (Zp ⟨isAgg74, sizeOf74⟩ (.t rfl) (vs := [_, _, _]) rfl (fun _ => hc')) rfl <| .yy (Vm (.t rfl) (.t rfl) eq74) rfl <| .z) fun a S => ?_)))))
     rw [rw_e] at S
     (refine Yt ?_; intro w W; replace S := St.mk S W; clear W)
     refine Za (hK4 _ _ (Zg S (.t rfl) (sg S (.ac rfl <| .z) fun a w S => wp_ret (Zr (Zd (Zd (Zr (Zd (Zm S (results1 S results154 (Rv.tmp rfl)) ?_)))))))))
     exact ⟨by rw [decide_eq_false (fun h => takeE_ne hx hy he (by rw [h]))], S.wd.below⟩
 obtain rfl : k = C.cloud.length := by omega
 rw [List.take_length, List.take_of_length_le (by omega)] at hno2
 refine sg S (.ge (by omega) rfl rfl <| .z) fun a w S => wp_seq_k fun _ hK3 => Ze S (.t rfl) (wp_exit (Zh (Zh (Ya (Za (hK1 _ _ (sg S (.ac rfl <| .z) fun a w S => wp_ret (Zm S (results1 S results154 (Rv.tmp rfl)) ?_))))))))
 refine ⟨?_, S.wd.below⟩
 have e : C = D := by cases C; cases D; dsimp only at hno hno2; rw [hno, hno2]
 rw [decide_eq_true e]
theorem c101 (w0 : World) (v1 v2 v3 v4 v5 v6 : Value) (X Y : Cart) (h : Sl Ent.enc 6 w0 w0.heap.size v1 X.ents) (hr : RdCtx w0 w0.heap.size v2 v3 X.ctx) (h' : Sl Ent.enc 6 w0 w0.heap.size v4 Y.ents) (hr' : RdCtx w0 w0.heap.size v5 v6 Y.ctx) :
   Calls Tryz.prog 101 #[.agg #[v1, v2, v3], .agg #[v4, v5, v6]] w0 fun e w' => e = .returned (.bool (decide (X = Y))) ∧ Bel w0.heap.size w0 w' := by
 have hs := h
 have hrr := hr
 have hs' := h'
 have hrr' := hr'
 obtain ⟨A, cap, rfl, hl, hcap, hA⟩ := h
 obtain ⟨⟨A2, cap2, rfl, _⟩, ⟨A3, cap3, rfl, _⟩⟩ := hr
 obtain ⟨B, capB, rfl, hlB, hcapB, hB⟩ := h'
 obtain ⟨⟨B2, capB2, rfl, _⟩, ⟨B3, capB3, rfl, _⟩⟩ := hr'
 by_cases l1 : X.ents.length = Y.ents.length
 rotate_left
 · have rw_1 : decide ((X.ents.length : Int) ≠ (Y.ents.length : Int)) = true := decide_eq_true (by omega)
   refine enter2 func101 rfl ntmps101 rfl fun a S => wp_seq_k fun _ hK1 => wp_region_lit (Zj (Zw S (.t rfl) rfl fun g1 a w S => Zj (Zw S (.t rfl) rfl fun g2 a w S => run S (.ac rfl <| .z) fun a w S => Zb (Za (hK1 _ _ (wp_seq_k fun _ hK1 => sg S (.fa underlying37 sizeOf31 0 rfl rfl rfl <| .ld gt31 1 rfl rfl rfl <| .ln underlying31 rfl <| .fa underlying37 sizeOf31 0 rfl rfl rfl <| .ld gt31 0 rfl rfl rfl <| .ln underlying31 rfl <| .yy (Yu (by omega) (Yh (.t rfl) (.t rfl))) rfl <| .mv rfl <| .sk rfl rfl rfl <| .sk rfl rfl rfl <| .sk rfl rfl rfl <| .sk rfl rfl rfl <| .sk rfl rfl rfl <| .sk rfl rfl rfl <| .yy (Zv (.t rfl) Ev.c) rfl <| .z) fun a w S => Zg S (.t rfl) (sg S (.ac rfl <| .z) fun a w S => wp_ret (Zd (Zm S (results1 S results101 (Rv.tmp rfl)) ?_)))))))))
   exact ⟨by rw [decide_eq_false (fun h => l1 (by rw [h]))], S.wd.below⟩
 have rw_1 : decide ((X.ents.length : Int) ≠ (Y.ents.length : Int)) = false := decide_eq_false (by omega)
 by_cases l2 : X.ctx = Y.ctx
 rotate_left
 · have rw_2 := decide_eq_false l2
   refine enter2 func101 rfl ntmps101 rfl fun a S => wp_seq_k fun _ hK1 => wp_region_lit (Zj (Zw S (.t rfl) rfl fun g1 a w S => Zj (Zw S (.t rfl) rfl fun g2 a w S => run S (.ac rfl <| .z) fun a w S => Zb (Za (hK1 _ _ (wp_seq_k fun _ hK1 => wp_seq_k fun _ hK2 => wp_region_lit (run S (.fa underlying37 sizeOf31 0 rfl rfl rfl <| .ld gt31 1 rfl rfl rfl <| .ln underlying31 rfl <| .fa underlying37 sizeOf31 0 rfl rfl rfl <| .ld gt31 0 rfl rfl rfl <| .ln underlying31 rfl <| .yy (Yq (by omega) (Yh (.t rfl) (.t rfl))) rfl <| .mv rfl <| .gy rfl rfl (Zc (FieldT.mk underlying37 rfl sizeOf35 rfl) (.t rfl) (i' := 1) rfl) <| .gy rfl rfl (Zz ⟨isAgg35, sizeOf35⟩ (.t rfl) (k := 1) rfl rfl) <| .gy rfl rfl (Zc (FieldT.mk underlying37 rfl sizeOf35 rfl) (.t rfl) (i' := 1) rfl) <| .gy rfl rfl (Zz ⟨isAgg35, sizeOf35⟩ (.t rfl) (k := 0) rfl rfl) <| .gx rfl rfl (Zf call154 (.cons (.t rfl) (.cons (.t rfl) .nil)) (fun hp w W => c154 _ _ _ _ _ _ _ (by exact .old W (by assumption)) (by exact .old W (by assumption)))) <| .z) fun a w S => ?_)))))))
   rw [rw_2] at S
   refine run S (.gy rfl rfl (Xh (.t rfl)) <| .yy (Zu (.t rfl) (.t rfl)) rfl <| .z) fun a w S => Zb (Za (hK2 _ _ (Zg S (.t rfl) (sg S (.ac rfl <| .z) fun a w S => wp_ret (Zd (Zm S (results1 S results101 (Rv.tmp rfl)) ?_))))))
   exact ⟨by rw [decide_eq_false (fun h => l2 (by rw [h]))], S.wd.below⟩
 have rw_2 := decide_eq_true l2
 refine enter2 func101 rfl ntmps101 rfl fun a S => wp_seq_k fun _ hK1 => wp_region_lit (Zj (Zw S (.t rfl) rfl fun g1 a w S => Zj (Zw S (.t rfl) rfl fun g2 a w S => run S (.ac rfl <| .z) fun a w S => Zb (Za (hK1 _ _ (wp_seq_k fun _ hK1 => wp_seq_k fun _ hK2 => wp_region_lit (run S (.fa underlying37 sizeOf31 0 rfl rfl rfl <| .ld gt31 1 rfl rfl rfl <| .ln underlying31 rfl <| .fa underlying37 sizeOf31 0 rfl rfl rfl <| .ld gt31 0 rfl rfl rfl <| .ln underlying31 rfl <| .yy (Yq (by omega) (Yh (.t rfl) (.t rfl))) rfl <| .mv rfl <| .gy rfl rfl (Zc (FieldT.mk underlying37 rfl sizeOf35 rfl) (.t rfl) (i' := 1) rfl) <| .gy rfl rfl (Zz ⟨isAgg35, sizeOf35⟩ (.t rfl) (k := 1) rfl rfl) <| .gy rfl rfl (Zc (FieldT.mk underlying37 rfl sizeOf35 rfl) (.t rfl) (i' := 1) rfl) <| .gy rfl rfl (Zz ⟨isAgg35, sizeOf35⟩ (.t rfl) (k := 0) rfl rfl) <| .gx rfl rfl (Zf call154 (.cons (.t rfl) (.cons (.t rfl) .nil)) (fun hp w W => c154 _ _ _ _ _ _ _ (by exact .old W (by assumption)) (by exact .old W (by assumption)))) <| .z) fun a w S => ?_)))))))
 rw [rw_2] at S
 refine run S (.gy rfl rfl (Xh (.t rfl)) <| .yy (Zu (.t rfl) (.t rfl)) rfl <| .z) fun a w S => Zb (Za (hK2 _ _ (Ze S (.t rfl) (wp_skip (Za (hK1 _ _ (wp_seq_k fun _ hK1 => sg S (.fa underlying37 sizeOf31 0 rfl rfl rfl <| .ld gt31 1 rfl rfl rfl <| .ln underlying31 rfl <| .mc rfl <| .z) fun a w S => wp_block ?_)))))))
 refine Xb S [24] (X := Nat) (fun k => [(24, true, .int .i64 (k : Int))]) (fun _ => [.blk g2 (.cells #[.slice B Y.ents.length capB, .slice B2 Y.ctx.marks.length capB2, .slice B3 Y.ctx.cloud.length capB3] 37), .blk g1 (.cells #[.slice A X.ents.length cap, .slice A2 X.ctx.marks.length cap2, .slice A3 X.ctx.cloud.length cap3] 37)])
   (fun k => k ≤ X.ents.length ∧ X.ents.take k = Y.ents.take k) (fun k => X.ents.length - k) 0 ⟨Nat.zero_le _, rfl⟩ ?_
 clear S
 rintro k a w ⟨hk, hno⟩ S
 by_cases hlt : k < X.ents.length
 · obtain ⟨g, o, x, rfl, hx, hd, hc⟩ := Yg hA hlt
   obtain ⟨g', o', y, rfl, hy, hd', hc'⟩ := Yg hB (l1 ▸ hlt)
   by_cases he : x = y
   · have rw_e := decide_eq_true (ent_iff.1 he)
     refine sg S (.lt (by omega) rfl rfl <| .z) fun a w S => wp_seq_k fun _ hK2 => Zg S (.t rfl) (wp_skip (Za (hK2 _ _ (wp_seq_k fun _ hK2 => wp_block (sg S (.mv rfl <| .as rfl <| .z) fun a w S => wp_seq_k fun _ hK3 => Yc S (by kernel_rfl) (by kernel_rfl) fun a S => qrun S (.fa underlying37 sizeOf31 0 rfl rfl rfl <| .ld gt31 1 rfl rfl rfl <| .mv rfl <| .ix underlying31 sizeOf100 (by omega) rfl rfl <| .yy (Zp ⟨isAgg100, sizeOf100⟩ (.t rfl) (vs := [_, _, _, _, _, _]) rfl (fun _ => hc)) rfl <| .fa underlying37 sizeOf31 0 rfl rfl rfl <| .ld gt31 0 rfl rfl rfl <| .mv rfl <| .ix underlying31 sizeOf100 (by omega) rfl rfl <| .yy (Zp ⟨isAgg100, sizeOf100⟩ (.t rfl) (vs := [_, _, _, _, _, _]) rfl (fun _ => hc')) rfl <| .yy (Vm (.t rfl) (.t rfl) eq100) rfl <| .z) fun a S => ?_)))))
     rw [rw_e] at S
     (refine Yt ?_; intro w W; replace S := St.mk S W; clear W)
     refine Za (hK3 _ _ (Ze S (.t rfl) (wp_skip (Zk (Za (hK2 _ _ (wp_region_lit (run S (.ad (by unfold I64; omega) rfl <| .mv rfl <| .z) fun a w S => Zb (Za ?_)))))))))
     exact ⟨k + 1, ⟨by omega, takeE_step hno hx hy he⟩, by omega, S.pk⟩
   · have rw_e := decide_eq_false (fun h => he (ent_iff.2 h))
     refine sg S (.lt (by omega) rfl rfl <| .z) fun a w S => wp_seq_k fun _ hK2 => Zg S (.t rfl) (wp_skip (Za (hK2 _ _ (wp_seq_k fun _ hK2 => wp_block (sg S (.mv rfl <| .as rfl <| .z) fun a w S => wp_seq_k fun _ hK3 => Yc S (by kernel_rfl) (by kernel_rfl) fun a S => qrun S (.fa underlying37 sizeOf31 0 rfl rfl rfl <| .ld gt31 1 rfl rfl rfl <| .mv rfl <| .ix underlying31 sizeOf100 (by omega) rfl rfl <| .yy (Zp ⟨isAgg100, sizeOf100⟩ (.t rfl) (vs := [_, _, _, _, _, _]) rfl (fun _ => hc)) rfl <| .fa underlying37 sizeOf31 0 rfl rfl rfl <| .ld gt31 0 rfl rfl rfl <| .mv rfl <| .ix underlying31 sizeOf100 (by omega) rfl rfl <| .yy (Zp ⟨isAgg100, sizeOf100⟩ (.t rfl) (vs := [_, _, _, _, _, _]) rfl (fun _ => hc')) rfl <| .yy (Vm (.t rfl) (.t rfl) eq100) rfl <| .z) fun a S => ?_)))))
     rw [rw_e] at S
     (refine Yt ?_; intro w W; replace S := St.mk S W; clear W)
     refine Za (hK3 _ _ (Zg S (.t rfl) (sg S (.ac rfl <| .z) fun a w S => wp_ret (Zr (Zd (Zd (Zr (Zd (Zm S (results1 S results101 (Rv.tmp rfl)) ?_)))))))))
     exact ⟨by rw [decide_eq_false (fun h => takeE_ne hx hy he (by rw [h]))], S.wd.below⟩
 obtain rfl : k = X.ents.length := by omega
 rw [List.take_length, List.take_of_length_le (by omega)] at hno
 refine sg S (.ge (by omega) rfl rfl <| .z) fun a w S => wp_seq_k fun _ hK2 => Ze S (.t rfl) (wp_exit (Zh (Zh (Ya (Za (hK1 _ _ (sg S (.ac rfl <| .z) fun a w S => wp_ret (Zm S (results1 S results101 (Rv.tmp rfl)) ?_))))))))
 refine ⟨?_, S.wd.below⟩
 have e : X = Y := by cases X; cases Y; dsimp only at hno l2; rw [hno, l2]
 rw [decide_eq_true e]
theorem c103 (w0 : World) (u : Upd) (v1 v2 v3 : Value) (h : Sl Ent.enc 6 w0 w0.heap.size v1 u.seen.ents) (hr : RdCtx w0 w0.heap.size v2 v3 u.seen.ctx) (hl1 : u.seen.ents.length ≤ 1048576) (hl2 : u.seen.ctx.marks.length ≤ 1048576) (hl3 : u.seen.ctx.cloud.length ≤ 1048576) :
   Rets Tryz.prog 103 #[.agg (Upd.enc u v1 v2 v3).toArray] w0 fun v L => ∃ A1 r1 A2 r2 A3 r3, v = .agg (Upd.enc u (.slice A1 u.seen.ents.length r1) (.slice A2 u.seen.ctx.marks.length r2) (.slice A3 u.seen.ctx.cloud.length r3)).toArray ∧
     L = [rowOf 100 6 Ent.enc A1 r1 u.seen.ents, rowOf 30 3 Dot.enc A2 r2 u.seen.ctx.marks, rowOf 74 3 Dot.enc A3 r3 u.seen.ctx.cloud] := by
 have hs := h
 have hrr := hr
 obtain ⟨A, cap, rfl, hl, hcap, hA⟩ := h
 obtain ⟨⟨A2, cap2, rfl, _⟩, ⟨A3, cap3, rfl, _⟩⟩ := hr
 unfold Go.Fw.Rets
 refine enter1 func103 rfl ntmps103 rfl fun a S => wp_seq_k fun _ hK1 => wp_region_lit (Zj (Zw S (.t rfl) rfl fun g1 a w S => Zj (Zn S zeroValue77 (cs := _) rfl rfl fun g2 a w S => Zb (Za (hK1 _ _ (wp_seq_k fun _ hK1 => wp_region_lit (run S (.fa underlying77 sizeOf37 7 rfl rfl rfl <| .la gt37 1 rfl rfl rfl <| .z) fun a w S => ?_)))))))
 (refine Zj (Yb S call16 (.cons (.t rfl) .nil) (c16 _ _ _ _ _ (by exact .old S.wd (by assumption)) (by exact .old S.wd (by assumption)) (by assumption) (by assumption) (by assumption)) rfl ?_); clear S a w; rintro _ _ ⟨A11, r11, A21, r21, A31, r31, rfl, rfl⟩ a w S)
 refine run S (.fa underlying77 sizeOf37 7 rfl rfl rfl <| .z) fun a w S => Zj (Yz S sizeOf37 (.t rfl) (.t rfl) (k := 4) rfl rfl (by simp [Value.oneCell']) (by simp) fun a w S => Zb (Za (hK1 _ _ (wp_seq_k fun _ hK1 => wp_region_lit (run S (.la gt77 4 rfl rfl rfl <| .z) fun a w S => Zj (Zq S sizeOf77 (.t rfl) (.t rfl) (k := 3) rfl rfl rfl (by simp [Value.oneCell']) fun a w S => Zb (Za (hK1 _ _ (wp_ret (Zm S (results1 S results103 (Rv.cell (k := 3) ⟨isAgg77, sizeOf77⟩ rfl rfl rfl)) ?_))))))))))
 exact ⟨_, _, rfl, S.wd.pk, _, _, _, _, _, _, rfl, rfl⟩
theorem c172 (w0 : World) (v1 v2 v3 v4 v5 v6 : Value) (u u' : Upd) (h : Sl Ent.enc 6 w0 w0.heap.size v1 u.seen.ents) (hr : RdCtx w0 w0.heap.size v2 v3 u.seen.ctx) (h' : Sl Ent.enc 6 w0 w0.heap.size v4 u'.seen.ents) (hr' : RdCtx w0 w0.heap.size v5 v6 u'.seen.ctx) (he : u = u') :
   Calls Tryz.prog 172 #[.agg (Upd.enc u v1 v2 v3).toArray, .agg (Upd.enc u' v4 v5 v6).toArray] w0 fun e w' => e = .returned (.bool true) ∧ Bel w0.heap.size w0 w' := by
 have hs := h
 have hrr := hr
 have hs' := h'
 have hrr' := hr'
 subst he
 obtain ⟨A, cap, rfl, hl, hcap, hA⟩ := h
 obtain ⟨⟨A2, cap2, rfl, _⟩, ⟨A3, cap3, rfl, _⟩⟩ := hr
 obtain ⟨B, capB, rfl, hlB, hcapB, hB⟩ := h'
 obtain ⟨⟨B2, capB2, rfl, _⟩, ⟨B3, capB3, rfl, _⟩⟩ := hr'
 refine enter2 func172 rfl ntmps172 rfl fun a S => wp_seq_k fun _ hK1 => wp_region_lit (Zj (Zw S (.t rfl) rfl fun g1 a w S => Zj (Zw S (.t rfl) rfl fun g2 a w S => run S (.ac rfl <| .z) fun a w S => Zb (Za (hK1 _ _ (wp_seq_k fun _ hK1 => wp_region_lit (run S (.fa underlying77 sizeOf9 0 rfl rfl rfl <| .ld gt9 1 rfl rfl rfl <| .fa underlying77 sizeOf9 0 rfl rfl rfl <| .ld gt9 0 rfl rfl rfl <| .yy (Xa (.t rfl) (.t rfl)) rfl <| .mv rfl <| .z) fun a w S => Yd S rfl rfl (Yr.ys (Zc (FieldT.mk underlying77 rfl sizeOf74 rfl) (.t rfl) (i' := 1) rfl)) rfl fun a w S => Yd S rfl rfl (Yr.ys (Zz ⟨isAgg74, sizeOf74⟩ (Ev.g rfl) (k := 1) rfl rfl)) rfl fun a w S => Yd S rfl rfl (Yr.ys (Zc (FieldT.mk underlying77 rfl sizeOf74 rfl) (.t rfl) (i' := 1) rfl)) rfl fun a w S => Yd S rfl rfl (Yr.ys (Zz ⟨isAgg74, sizeOf74⟩ (Ev.g rfl) (k := 0) rfl rfl)) rfl fun a w S => Yd S rfl rfl (Yr.ys (Wa (Ev.g rfl) (Ev.g rfl) eq74)) rfl fun a w S => run S (.yy (Xn (.t rfl) (Ev.g rfl) Ev.c) rfl <| .mv rfl <| .z) fun a w S => Yd S rfl rfl (Yr.ys (Zc (FieldT.mk underlying77 rfl sizeOf9 rfl) (.t rfl) (i' := 4) rfl)) rfl fun a w S => Yd S rfl rfl (Yr.ys (Zt ⟨isAgg9, sizeOf9⟩ (Ev.g rfl) (k := 1) rfl rfl)) rfl fun a w S => ?_)))))))
 refine Yd S rfl rfl (Yr.ys (Zc (FieldT.mk underlying77 rfl sizeOf9 rfl) (.t rfl) (i' := 4) rfl)) rfl fun a w S => Yd S rfl rfl (Yr.ys (Zt ⟨isAgg9, sizeOf9⟩ (Ev.g rfl) (k := 0) rfl rfl)) rfl fun a w S => Yd S rfl rfl (Yr.ys (Xa (Ev.g rfl) (Ev.g rfl))) rfl fun a w S => run S (.yy (Xn (.t rfl) (Ev.g rfl) Ev.c) rfl <| .mv rfl <| .z) fun a w S => Yd S rfl rfl (Yr.ys (Zc (FieldT.mk underlying77 rfl sizeOf3 rfl) (.t rfl) (i' := 5) rfl)) rfl fun a w S => Yd S rfl rfl (Yr.ys (Zt ⟨isAgg3, sizeOf3⟩ (Ev.g rfl) (k := 1) rfl rfl)) rfl fun a w S => Yd S rfl rfl (Yr.ys (Zc (FieldT.mk underlying77 rfl sizeOf3 rfl) (.t rfl) (i' := 5) rfl)) rfl fun a w S => Yd S rfl rfl (Yr.ys (Zt ⟨isAgg3, sizeOf3⟩ (Ev.g rfl) (k := 0) rfl rfl)) rfl fun a w S => Yd S rfl rfl (Yr.ys (Yu (by omega) (Ye (Ev.g rfl) (Ev.g rfl)))) rfl fun a w S => run S (.yy (ys_andT (.t rfl) (Ev.g rfl) Ev.c) rfl <| .mv rfl <| .z) fun a w S => Yd S rfl rfl (Yr.ys (Zc (FieldT.mk underlying77 rfl sizeOf75 rfl) (.t rfl) (i' := 6) rfl)) rfl fun a w S => Yd S rfl rfl (Yr.ys (Zt ⟨isAgg75, sizeOf75⟩ (Ev.g rfl) (k := 1) rfl rfl)) rfl fun a w S => Yd S rfl rfl (Yr.ys (Zc (FieldT.mk underlying77 rfl sizeOf75 rfl) (.t rfl) (i' := 6) rfl)) rfl fun a w S => ?_
 refine Yd S rfl rfl (Yr.ys (Zt ⟨isAgg75, sizeOf75⟩ (Ev.g rfl) (k := 0) rfl rfl)) rfl fun a w S => Yd S rfl rfl (Yr.ys (Yu (by omega) (Ye (Ev.g rfl) (Ev.g rfl)))) rfl fun a w S => run S (.yy (ys_andT (.t rfl) (Ev.g rfl) Ev.c) rfl <| .mv rfl <| .z) fun a w S => Yd S rfl rfl (Yr.ys (Zc (FieldT.mk underlying77 rfl sizeOf37 rfl) (.t rfl) (i' := 7) rfl)) rfl fun a w S => Yd S rfl rfl (Yr.ys (Zz ⟨isAgg37, sizeOf37⟩ (Ev.g rfl) (k := 1) rfl rfl)) rfl fun a w S => Yd S rfl rfl (Yr.ys (Zc (FieldT.mk underlying77 rfl sizeOf37 rfl) (.t rfl) (i' := 7) rfl)) rfl fun a w S => Yd S rfl rfl (Yr.ys (Zz ⟨isAgg37, sizeOf37⟩ (Ev.g rfl) (k := 0) rfl rfl)) rfl fun a w S => Yd S rfl rfl (Zf call19 (.cons (Ev.g rfl) (.cons (Ev.g rfl) .nil)) (fun hp w W => c19 _ _ _ _ _ _ _ _ _ (by exact .old W (by assumption)) (by exact .old W (by assumption)) (by exact .old W (by assumption)) (by exact .old W (by assumption)))) rfl fun a w S => ?_
 simp only [List.nil_append] at S
 refine run S (.yy (Zv (.t rfl) (Ev.g rfl)) rfl <| .as rfl <| .z) fun a w S => Zb (Za (hK1 _ _ (wp_ret (Zm S (results1 S results172 (Rv.tmp rfl)) ?_))))
 exact ⟨by rw [decide_eq_true True.intro], S.wd.below⟩
end Go.Proofs.YtakpdbmdfnialaaGreat
namespace Go.Fw
theorem Line.mkEnc {s : List UInt8} {q : Int} {p : UInt64} : [Value.string (bs s), .int .i64 q, .int .u64 (p.toNat : Int)] = Line.enc ⟨s, q, p⟩ := rfl
theorem dot_cells {w : World} {g o : Nat} {d : Dot} (h1 : w.cell? ⟨g, o, none⟩ = some (.int .i64 d.node)) (h2 : w.cell? ⟨g, o + 1, none⟩ = some (.int .i64 d.life)) (h3 : w.cell? ⟨g, o + 2, none⟩ = some (.int .i64 d.count)) : ∀ j u, (Dot.enc d)[j]? = some u → w.cell? ⟨g, o + j, none⟩ = some u := by
 intro j u hj
 rcases j with _ | _ | _ | j
 · exact h1.trans hj
 · exact h2.trans hj
 · exact h3.trans hj
 · cases hj
end Go.Fw
namespace Go.Proofs.YtakpdbmdfnialaaGreat
open Go.Fw Go.Proofs Go.RowKit Go.Proofs.Tryz
end Go.Proofs.YtakpdbmdfnialaaGreat
namespace Go.Proofs.YtakpdbmdfnialaaGreat
open Go.Fw Go.Proofs Go.RowKit Go.Proofs.Tryz
theorem x150 (w0 : World) (v : Value) (l : List SCart) (f : FuncId) (cs : List Value) (p : SCart → Bool) (hf : ∀ args w, (callFunc f args).run Tryz.prog w = .ok (.enter f args) w) (hr : ReadsV SCart.enc w0 f cs l p) (h : Sl SCart.enc 3 w0 w0.heap.size v l) :
   Calls Tryz.prog 150 #[v, .func (.func f) #[] cs.toArray] w0 fun e w' => e = .returned (.int .i64 (idxW p 0 l)) ∧ Bel w0.heap.size w0 w' := by
 obtain ⟨A, cap, rfl, hl, hcap, hA⟩ := h
 refine enter2 func150 rfl ntmps150 rfl fun a S => sg S (.ac rfl <| .z) fun a w S => wp_seq_k fun _ hK1 => sg S (.mv rfl <| .ln underlying64 rfl <| .mc rfl <| .z) fun a w S => wp_block ?_
 refine Xb S [4, 5, 8] (X := Nat) (fun k => [(8, true, .int .i64 (k : Int))]) (fun _ => []) (fun k => k ≤ l.length ∧ idxW p k (l.drop k) = idxW p 0 l) (fun k => l.length - k) 0 ⟨Nat.zero_le _, rfl⟩ ?_
 clear S
 intro k a w ⟨hk, hno⟩ S
 by_cases hlt : k < l.length
 · obtain ⟨gq, oq, x, rfl, hx, hd, hcc⟩ := Yg hA hlt
   rw [hd] at hno
   have hrx := fun w' W' => hr w' W' x (List.mem_of_getElem? hx)
   refine sg S (.lt (by omega) rfl rfl <| .z) fun a w S => wp_seq_k fun _ hK2 => Zg S (.t rfl) (wp_skip (Za (hK2 _ _ (wp_seq_k fun _ hK2 => wp_block (sg S (.mv rfl <| .as rfl <| .z) fun a w S => wp_seq_k fun _ hK3 => wp_region_lit (run S (.mv rfl <| .mv rfl <| .mv rfl <| .ix underlying64 sizeOf37 (by omega) rfl rfl <| .yy (Zp ⟨isAgg37, sizeOf37⟩ (.t rfl) (vs := [_, _, _]) rfl (fun _ => hcc)) rfl <| .z) fun a w S => Yk S (ys_callVC (cs := cs) (vs := [.agg (SCart.enc x).toArray]) (v := .bool (p x)) (.t rfl) hf (.cons (.t rfl) .nil) (fun _ w' W' => hrx w' (W'.sub (List.nil_sublist _)))) rfl ?_))))))
   clear S a w
   intro a w S
   cases hp : p x with
   | true =>
     rw [hp] at S
     refine Zb (Za (hK3 _ _ (Zg S (.t rfl) (sg S (.mv rfl <| .as rfl <| .z) fun a w S => wp_ret (Zr (Zd (Zd (Zr (Zd (Zm S (results1 S results150 (Rv.tmp rfl)) ?_))))))))))
     refine ⟨?_, S.wd.below⟩
     rw [← hno, idxW, if_pos hp]
   | false =>
     rw [hp] at S
     refine Zb (Za (hK3 _ _ (Ze S (.t rfl) (wp_skip (Zk (Za (hK2 _ _ (wp_region_lit (run S (.ad (by unfold I64; omega) rfl <| .mv rfl <| .z) fun a w S => Zb (Za ?_))))))))))
     rw [idxW, if_neg (by rw [hp]; decide)] at hno
     exact ⟨k + 1, ⟨by omega, hno⟩, by omega, S.pk⟩
 · obtain rfl : k = l.length := by omega
   rw [List.drop_length] at hno
   refine sg S (.ge (by omega) rfl rfl <| .z) fun a w S => wp_seq_k fun _ hK2 => Ze S (.t rfl) (wp_exit (Zh (Zh (Ya (Za (hK1 _ _ (sg S (.ac rfl <| .z) fun a w S => wp_ret (Zm S (results1 S results150 (Rv.tmp rfl)) ?_))))))))
   exact ⟨by rw [← hno]; rfl, S.wd.below⟩
theorem x93 (w0 : World) (v : Value) (l : List SCart) (f : FuncId) (cs : List Value) (p : SCart → Bool) (hf : ∀ args w, (callFunc f args).run Tryz.prog w = .ok (.enter f args) w) (hr : ReadsV SCart.enc w0 f cs l p) (h : Sl SCart.enc 3 w0 w0.heap.size v l) :
   Calls Tryz.prog 93 #[v, .func (.func f) #[] cs.toArray] w0 fun e w' => e = .returned (.bool (l.any p)) ∧ Bel w0.heap.size w0 w' := by
 have hs := h
 obtain ⟨A, cap, rfl, hl, hcap, hA⟩ := h
 refine enter2 func93 rfl ntmps93 rfl fun a S => sg S (.ac rfl <| .z) fun a w S => wp_seq_k fun _ hK1 => wp_region_lit (run S (.mv rfl <| .mv rfl <| .z) fun a w S => Yk S (Zf call150 (.cons (.t rfl) (.cons (.t rfl) .nil)) (fun _ w' W' => x150 w' _ l f cs p hf (fun w'' W'' => hr w'' ((W'.sub (List.nil_sublist _)).step W''.below)) (Sl.old W' hs))) rfl ?_)
 clear S a w
 intro a w S
 refine run S (.yy (Xp (.t rfl) Ev.c) rfl <| .as rfl <| .z) fun a w S => Zb (Za (hK1 _ _ (wp_ret (Zm S (results1 S results93 (Rv.tmp rfl)) ?_))))
 exact ⟨by rw [← idxW_any p l 0], S.wd.below⟩
end Go.Proofs.YtakpdbmdfnialaaGreat
namespace Go.Fw
open Go.RowKit
structure SLog where
 kind : Int
 at_ : Int
 ask : Int
 u : SUpd
 an : Int
 al : Int
 key : List UInt8
 s : SCart
 c : SCart
abbrev SLog.enc (x : SLog) : List Value := [.int .i64 x.kind, .int .i64 x.at_, .int .i64 x.ask, .string (bs x.u.1.key), .int .i64 x.u.1.dot.node, .int .i64 x.u.1.dot.life, .int .i64 x.u.1.dot.count, .string (bs x.u.1.item), .int .i64 x.u.1.qty, .int .u64 (x.u.1.price.toNat : Int), .slice x.u.2.a1 x.u.2.n1 x.u.2.c1, .slice x.u.2.a2 x.u.2.n2 x.u.2.c2, .slice x.u.2.a3 x.u.2.n3 x.u.2.c3, .int .i64 x.an, .int .i64 x.al, .string (bs x.key), .slice x.s.2.a1 x.s.2.n1 x.s.2.c1, .slice x.s.2.a2 x.s.2.n2 x.s.2.c2, .slice x.s.2.a3 x.s.2.n3 x.s.2.c3, .slice x.c.2.a1 x.c.2.n1 x.c.2.c1, .slice x.c.2.a2 x.c.2.n2 x.c.2.c2, .slice x.c.2.a3 x.c.2.n3 x.c.2.c3]
theorem SLog.enc_len (x : SLog) : (SLog.enc x).length = 22 := rfl
theorem SLog.enc_one (x : SLog) : ∀ u ∈ SLog.enc x, u.oneCell' = true := fun u hu => by
 simp only [SLog.enc, List.mem_cons, List.not_mem_nil, or_false] at hu
 rcases hu with rfl | rfl | rfl | rfl | rfl | rfl | rfl | rfl | rfl | rfl | rfl | rfl | rfl | rfl | rfl | rfl | rfl | rfl | rfl | rfl | rfl | rfl <;> rfl
def UpdsRd (w : World) (l : List SUpd) : Prop := ∀ x ∈ l, CartRd w x.1.seen x.2
theorem UpdsRd.old {w0 w : World} {L : List Chunk} {l : List SUpd} (W : Wd w0 L w) (h : UpdsRd w0 l) : UpdsRd w l := fun x hx => (h x hx).old W
structure LogRd (w : World) (x : SLog) : Prop where
 u : CartRd w x.u.1.seen x.u.2
 s : CartRd w x.s.1 x.s.2
 c : CartRd w x.c.1 x.c.2
theorem LogRd.old {w0 w : World} {L : List Chunk} {x : SLog} (W : Wd w0 L w) (h : LogRd w0 x) : LogRd w x := ⟨h.u.old W, h.s.old W, h.c.old W⟩
def LogsRd (w : World) (l : List SLog) : Prop := ∀ x ∈ l, LogRd w x
theorem LogsRd.old {w0 w : World} {L : List Chunk} {l : List SLog} (W : Wd w0 L w) (h : LogsRd w0 l) : LogsRd w l := fun x hx => (h x hx).old W
end Go.Fw
namespace Go.Proofs.YtakpdbmdfnialaaGreat
open Go.Fw Go.Proofs Go.RowKit Go.Proofs.Tryz
theorem x107 (w0 : World) (v : Value) (l : List SUpd) (f : FuncId) (cs : List Value) (p : SUpd → Bool) (hf : ∀ args w, (callFunc f args).run Tryz.prog w = .ok (.enter f args) w) (hr : ReadsV SUpd.enc w0 f cs l p) (h : Sl SUpd.enc 10 w0 w0.heap.size v l) :
   Calls Tryz.prog 107 #[v, .func (.func f) #[] cs.toArray] w0 fun e w' => e = .returned (.int .i64 (idxW p 0 l)) ∧ Bel w0.heap.size w0 w' := by
 obtain ⟨A, cap, rfl, hl, hcap, hA⟩ := h
 refine enter2 func107 rfl ntmps107 rfl fun a S => sg S (.ac rfl <| .z) fun a w S => wp_seq_k fun _ hK1 => sg S (.mv rfl <| .ln underlying72 rfl <| .mc rfl <| .z) fun a w S => wp_block ?_
 refine Xb S [9] (X := Nat) (fun k => [(9, true, .int .i64 (k : Int))]) (fun _ => []) (fun k => k ≤ l.length ∧ idxW p k (l.drop k) = idxW p 0 l) (fun k => l.length - k) 0 ⟨Nat.zero_le _, rfl⟩ ?_
 clear S
 intro k a w ⟨hk, hno⟩ S
 by_cases hlt : k < l.length
 · obtain ⟨gq, oq, x, rfl, hx, hd, hcc⟩ := Yg hA hlt
   rw [hd] at hno
   have hrx := fun w' W' => hr w' W' x (List.mem_of_getElem? hx)
   refine sg S (.lt (by omega) rfl rfl <| .z) fun a w S => wp_seq_k fun _ hK2 => Zg S (.t rfl) (wp_skip (Za (hK2 _ _ (wp_seq_k fun _ hK2 => wp_block (wp_seq_k fun _ hK3 => wp_region_lit (run S (.mv rfl <| .ix underlying72 sizeOf77 (by omega) rfl rfl <| .yy (Zp ⟨isAgg77, sizeOf77⟩ (.t rfl) (vs := [_, _, _, _, _, _, _, _, _, _]) rfl (fun _ => hcc)) rfl <| .z) fun a w S => Zj (Zn S zeroValue77 (cs := _) rfl rfl fun g1 a w S => run S (.as rfl <| .z) fun a w S => Zj (Zq S sizeOf77 (.t rfl) (.t rfl) (k := 0) rfl rfl rfl (by simp [Value.oneCell']) fun a w S => Zb (Za (hK3 _ _ (wp_seq_k fun _ hK3 => wp_region_lit (run S (.mv rfl <| .la gt77 0 rfl rfl rfl <| .z) fun a w S => Yk S (ys_callVC (cs := cs) (vs := [.agg (SUpd.enc x).toArray]) (v := .bool (p x)) (.t rfl) hf (.cons (.t rfl) .nil) (fun _ w' W' => hrx w' (W'.sub (List.nil_sublist _)))) rfl ?_))))))))))))
   clear S a w
   intro a w S
   cases hp : p x with
   | true =>
     rw [hp] at S
     refine Zb (Za (hK3 _ _ (Zg S (.t rfl) (sg S (.mv rfl <| .as rfl <| .z) fun a w S => wp_ret (Zr (Zd (Zd (Zr (Zd (Zm S (results1 S results107 (Rv.tmp rfl)) ?_))))))))))
     refine ⟨?_, S.wd.below⟩
     rw [← hno, idxW, if_pos hp]
   | false =>
     rw [hp] at S
     refine Zb (Za (hK3 _ _ (Ze S (.t rfl) (wp_skip (Zk (Za (hK2 _ _ (wp_region_lit (run S (.ad (by unfold I64; omega) rfl <| .mv rfl <| .z) fun a w S => Zb (Za ?_))))))))))
     rw [idxW, if_neg (by rw [hp]; decide)] at hno
     exact ⟨k + 1, ⟨by omega, hno⟩, by omega, S.pk⟩
 · obtain rfl : k = l.length := by omega
   rw [List.drop_length] at hno
   refine sg S (.ge (by omega) rfl rfl <| .z) fun a w S => wp_seq_k fun _ hK2 => Ze S (.t rfl) (wp_exit (Zh (Zh (Ya (Za (hK1 _ _ (sg S (.ac rfl <| .z) fun a w S => wp_ret (Zm S (results1 S results107 (Rv.tmp rfl)) ?_))))))))
   exact ⟨by rw [← hno]; rfl, S.wd.below⟩
theorem x170 (w0 : World) (v : Value) (l : List SLog) (f : FuncId) (cs : List Value) (p : SLog → Bool) (hf : ∀ args w, (callFunc f args).run Tryz.prog w = .ok (.enter f args) w) (hr : ReadsV SLog.enc w0 f cs l p) (h : Sl SLog.enc 22 w0 w0.heap.size v l) :
   Calls Tryz.prog 170 #[v, .func (.func f) #[] cs.toArray] w0 fun e w' => e = .returned (.int .i64 (idxW p 0 l)) ∧ Bel w0.heap.size w0 w' := by
 obtain ⟨A, cap, rfl, hl, hcap, hA⟩ := h
 refine enter2 func170 rfl ntmps170 rfl fun a S => sg S (.ac rfl <| .z) fun a w S => wp_seq_k fun _ hK1 => sg S (.mv rfl <| .ln underlying84 rfl <| .mc rfl <| .z) fun a w S => wp_block ?_
 refine Xb S [9] (X := Nat) (fun k => [(9, true, .int .i64 (k : Int))]) (fun _ => []) (fun k => k ≤ l.length ∧ idxW p k (l.drop k) = idxW p 0 l) (fun k => l.length - k) 0 ⟨Nat.zero_le _, rfl⟩ ?_
 clear S
 intro k a w ⟨hk, hno⟩ S
 by_cases hlt : k < l.length
 · obtain ⟨gq, oq, x, rfl, hx, hd, hcc⟩ := Yg hA hlt
   rw [hd] at hno
   have hrx := fun w' W' => hr w' W' x (List.mem_of_getElem? hx)
   refine sg S (.lt (by omega) rfl rfl <| .z) fun a w S => wp_seq_k fun _ hK2 => Zg S (.t rfl) (wp_skip (Za (hK2 _ _ (wp_seq_k fun _ hK2 => wp_block (wp_seq_k fun _ hK3 => wp_region_lit (run S (.mv rfl <| .ix underlying84 sizeOf96 (by omega) rfl rfl <| .yy (Zp ⟨isAgg96, sizeOf96⟩ (.t rfl) (vs := [_, _, _, _, _, _, _, _, _, _, _, _, _, _, _, _, _, _, _, _, _, _]) rfl (fun _ => hcc)) rfl <| .z) fun a w S => Zj (Zn S zeroValue96 (cs := _) rfl rfl fun g1 a w S => run S (.as rfl <| .z) fun a w S => Zj (Zq S sizeOf96 (.t rfl) (.t rfl) (k := 0) rfl rfl rfl (by simp [Value.oneCell']) fun a w S => Zb (Za (hK3 _ _ (wp_seq_k fun _ hK3 => wp_region_lit (run S (.mv rfl <| .la gt96 0 rfl rfl rfl <| .z) fun a w S => Yk S (ys_callVC (cs := cs) (vs := [.agg (SLog.enc x).toArray]) (v := .bool (p x)) (.t rfl) hf (.cons (.t rfl) .nil) (fun _ w' W' => hrx w' (W'.sub (List.nil_sublist _)))) rfl ?_))))))))))))
   clear S a w
   intro a w S
   cases hp : p x with
   | true =>
     rw [hp] at S
     refine Zb (Za (hK3 _ _ (Zg S (.t rfl) (sg S (.mv rfl <| .as rfl <| .z) fun a w S => wp_ret (Zr (Zd (Zd (Zr (Zd (Zm S (results1 S results170 (Rv.tmp rfl)) ?_))))))))))
     refine ⟨?_, S.wd.below⟩
     rw [← hno, idxW, if_pos hp]
   | false =>
     rw [hp] at S
     refine Zb (Za (hK3 _ _ (Ze S (.t rfl) (wp_skip (Zk (Za (hK2 _ _ (wp_region_lit (run S (.ad (by unfold I64; omega) rfl <| .mv rfl <| .z) fun a w S => Zb (Za ?_))))))))))
     rw [idxW, if_neg (by rw [hp]; decide)] at hno
     exact ⟨k + 1, ⟨by omega, hno⟩, by omega, S.pk⟩
 · obtain rfl : k = l.length := by omega
   rw [List.drop_length] at hno
   refine sg S (.ge (by omega) rfl rfl <| .z) fun a w S => wp_seq_k fun _ hK2 => Ze S (.t rfl) (wp_exit (Zh (Zh (Ya (Za (hK1 _ _ (sg S (.ac rfl <| .z) fun a w S => wp_ret (Zm S (results1 S results170 (Rv.tmp rfl)) ?_))))))))
   exact ⟨by rw [← hno]; rfl, S.wd.below⟩
theorem x155 (w0 : World) (v : Value) (l : List SCart) (f : FuncId) (cs : List Value) (p : SCart → Bool) (hf : ∀ args w, (callFunc f args).run Tryz.prog w = .ok (.enter f args) w) (hr : ReadsV SCart.enc w0 f cs l p) (h : Sl SCart.enc 3 w0 w0.heap.size v l) :
   Calls Tryz.prog 155 #[v, .func (.func f) #[] cs.toArray] w0 fun e w' => e = .returned (.int .i64 (idxW p 0 l)) ∧ Bel w0.heap.size w0 w' := by
 obtain ⟨A, cap, rfl, hl, hcap, hA⟩ := h
 refine enter2 func155 rfl ntmps155 rfl fun a S => sg S (.ac rfl <| .z) fun a w S => wp_seq_k fun _ hK1 => sg S (.mv rfl <| .ln underlying64 rfl <| .mc rfl <| .z) fun a w S => wp_block ?_
 refine Xb S [9] (X := Nat) (fun k => [(9, true, .int .i64 (k : Int))]) (fun _ => []) (fun k => k ≤ l.length ∧ idxW p k (l.drop k) = idxW p 0 l) (fun k => l.length - k) 0 ⟨Nat.zero_le _, rfl⟩ ?_
 clear S
 intro k a w ⟨hk, hno⟩ S
 by_cases hlt : k < l.length
 · obtain ⟨gq, oq, x, rfl, hx, hd, hcc⟩ := Yg hA hlt
   rw [hd] at hno
   have hrx := fun w' W' => hr w' W' x (List.mem_of_getElem? hx)
   refine sg S (.lt (by omega) rfl rfl <| .z) fun a w S => wp_seq_k fun _ hK2 => Zg S (.t rfl) (wp_skip (Za (hK2 _ _ (wp_seq_k fun _ hK2 => wp_block (wp_seq_k fun _ hK3 => wp_region_lit (run S (.mv rfl <| .ix underlying64 sizeOf37 (by omega) rfl rfl <| .yy (Zp ⟨isAgg37, sizeOf37⟩ (.t rfl) (vs := [_, _, _]) rfl (fun _ => hcc)) rfl <| .z) fun a w S => Zj (Zn S zeroValue37 (cs := _) rfl rfl fun g1 a w S => run S (.as rfl <| .z) fun a w S => Zj (Zq S sizeOf37 (.t rfl) (.t rfl) (k := 0) rfl rfl rfl (by simp [Value.oneCell']) fun a w S => Zb (Za (hK3 _ _ (wp_seq_k fun _ hK3 => wp_region_lit (run S (.mv rfl <| .la gt37 0 rfl rfl rfl <| .z) fun a w S => Yk S (ys_callVC (cs := cs) (vs := [.agg (SCart.enc x).toArray]) (v := .bool (p x)) (.t rfl) hf (.cons (.t rfl) .nil) (fun _ w' W' => hrx w' (W'.sub (List.nil_sublist _)))) rfl ?_))))))))))))
   clear S a w
   intro a w S
   cases hp : p x with
   | true =>
     rw [hp] at S
     refine Zb (Za (hK3 _ _ (Zg S (.t rfl) (sg S (.mv rfl <| .as rfl <| .z) fun a w S => wp_ret (Zr (Zd (Zd (Zr (Zd (Zm S (results1 S results155 (Rv.tmp rfl)) ?_))))))))))
     refine ⟨?_, S.wd.below⟩
     rw [← hno, idxW, if_pos hp]
   | false =>
     rw [hp] at S
     refine Zb (Za (hK3 _ _ (Ze S (.t rfl) (wp_skip (Zk (Za (hK2 _ _ (wp_region_lit (run S (.ad (by unfold I64; omega) rfl <| .mv rfl <| .z) fun a w S => Zb (Za ?_))))))))))
     rw [idxW, if_neg (by rw [hp]; decide)] at hno
     exact ⟨k + 1, ⟨by omega, hno⟩, by omega, S.pk⟩
 · obtain rfl : k = l.length := by omega
   rw [List.drop_length] at hno
   refine sg S (.ge (by omega) rfl rfl <| .z) fun a w S => wp_seq_k fun _ hK2 => Ze S (.t rfl) (wp_exit (Zh (Zh (Ya (Za (hK1 _ _ (sg S (.ac rfl <| .z) fun a w S => wp_ret (Zm S (results1 S results155 (Rv.tmp rfl)) ?_))))))))
   exact ⟨by rw [← hno]; rfl, S.wd.below⟩
theorem c108 (w0 : World) (x : Upd) (v1 v2 v3 : Value) (u : SUpd) (g : Nat) (h : Sl Ent.enc 6 w0 w0.heap.size v1 x.seen.ents) (hr : RdCtx w0 w0.heap.size v2 v3 x.seen.ctx) (h1 : w0.cell? ⟨g, 1, none⟩ = some (.int .i64 u.1.dot.node)) (h2 : w0.cell? ⟨g, 2, none⟩ = some (.int .i64 u.1.dot.life)) (h3 : w0.cell? ⟨g, 3, none⟩ = some (.int .i64 u.1.dot.count)) (h4 : w0.cell? ⟨g, 4, none⟩ = some (.string (bs u.1.item))) :
   Calls Tryz.prog 108 #[.agg (Upd.enc x v1 v2 v3).toArray, .pointer (some ⟨g, 0, none⟩)] w0 fun e w' => e = .returned (.bool (decide (x.item = u.1.item) && x.seen.ctx.covers u.1.dot)) ∧ Bel w0.heap.size w0 w' := by
 have hdc := dot_cells (d := u.1.dot) h1 h2 h3
 by_cases he : x.item = u.1.item
 · have rw_e := decide_eq_true he
   refine enter2 func108 rfl ntmps108 rfl fun a S => wp_seq_k fun _ hK1 => wp_region_lit (Zj (Zw S (.t rfl) rfl fun g1 a w S => run S (.ac rfl <| .z) fun a w S => Zb (Za (hK1 _ _ (wp_seq_k fun _ hK1 => wp_region_lit (run S (.fa underlying77 sizeOf9 4 rfl rfl rfl <| .ld gt9 0 rfl rfl rfl <| .fa underlying77 sizeOf9 4 rfl rfl rfl <| .yy (Yv ⟨isAgg9, sizeOf9⟩ (.t rfl) (fun _ => h4)) rfl <| .yy (Xa (.t rfl) (.t rfl)) rfl <| .z) fun a w S => ?_))))))
   rw [rw_e] at S
   refine run S (.mv rfl <| .gy rfl rfl (Zc (FieldT.mk underlying77 rfl sizeOf37 rfl) (.t rfl) (i' := 7) rfl) <| .gy rfl rfl (Zc (FieldT.mk underlying37 rfl sizeOf35 rfl) (.t rfl) (i' := 8) rfl) <| .gy rfl rfl (Zz ⟨isAgg35, sizeOf35⟩ (.t rfl) (k := 0) rfl rfl) <| .gy rfl rfl (Zc (FieldT.mk underlying77 rfl sizeOf74 rfl) (.t rfl) (i' := 1) rfl) <| .gy rfl rfl (Zp ⟨isAgg74, sizeOf74⟩ (.t rfl) (vs := [_, _, _]) rfl (fun _ => hdc)) <| .gx rfl rfl (Zf call109 (.cons (.t rfl) (.cons (.t rfl) .nil)) (fun hp w W => c109 _ _ _ _ _ _ _ (by exact .old W (by assumption)))) <| .yy (Zv (.t rfl) (.t rfl)) rfl <| .as rfl <| .z) fun a w S => Zb (Za (hK1 _ _ (wp_ret (Zm S (results1 S results108 (Rv.tmp rfl)) ?_))))
   exact ⟨by rw [rw_e]; rfl, S.wd.below⟩
 · have rw_e := decide_eq_false he
   refine enter2 func108 rfl ntmps108 rfl fun a S => wp_seq_k fun _ hK1 => wp_region_lit (Zj (Zw S (.t rfl) rfl fun g1 a w S => run S (.ac rfl <| .z) fun a w S => Zb (Za (hK1 _ _ (wp_seq_k fun _ hK1 => wp_region_lit (run S (.fa underlying77 sizeOf9 4 rfl rfl rfl <| .ld gt9 0 rfl rfl rfl <| .fa underlying77 sizeOf9 4 rfl rfl rfl <| .yy (Yv ⟨isAgg9, sizeOf9⟩ (.t rfl) (fun _ => h4)) rfl <| .yy (Xa (.t rfl) (.t rfl)) rfl <| .z) fun a w S => ?_))))))
   rw [rw_e] at S
   refine run S (.mv rfl <| .sk rfl rfl rfl <| .sk rfl rfl rfl <| .sk rfl rfl rfl <| .sk rfl rfl rfl <| .sk rfl rfl rfl <| .sk rfl rfl rfl <| .yy (Zu (.t rfl) Ev.c) rfl <| .as rfl <| .z) fun a w S => Zb (Za (hK1 _ _ (wp_ret (Zm S (results1 S results108 (Rv.tmp rfl)) ?_))))
   exact ⟨by rw [rw_e]; rfl, S.wd.below⟩
end Go.Proofs.YtakpdbmdfnialaaGreat
namespace Go.Fw
open Go.RowKit
theorem Sl.len_is {α : Type} {enc : α → List Value} {size B : Nat} {w : World} {A : Option Addr} {l : List α} {n cap : Nat} (h : Sl enc size w B (.slice A n cap) l) : n = l.length := by
 obtain ⟨_, _, e, _⟩ := h
 simp only [Value.slice.injEq] at e
 exact e.2.1
theorem seen_is (l : List SUpd) (x : Upd) : decide (0 ≤ idxW (fun y : SUpd => decide (y.1.item = x.item) && y.1.seen.ctx.covers x.dot) 0 l) = seenB (l.map (·.1)) x := by
 rw [idxW_any]
 unfold seenB
 rw [List.any_map]
 rfl
end Go.Fw
namespace Go.Proofs.YtakpdbmdfnialaaGreat
open Go.Fw Go.Proofs Go.RowKit Go.Proofs.Tryz
abbrev kv143 : Dot → Value := fun d => .agg #[.int .i64 d.node, .int .i64 d.life, .int .i64 d.count]
abbrev vv143 : Unit → Value := fun _ => .agg #[]
theorem run_eqDot (a b : Dot) (w : World) : (Op.equal 74 (kv143 a) (kv143 b)).run Tryz.prog w = .ok (decide (a = b)) w := by
 have h := eq74 (x0 := a.node) (y0 := b.node) (x1 := a.life) (y1 := b.life) (x2 := a.count) (y2 := b.count)
 have e : decide (a.node = b.node ∧ a.life = b.life ∧ a.count = b.count) = decide (a = b) := decide_eq_decide.2 (by cases a; cases b; simp)
 rw [e] at h
 exact (h w).2
theorem ask_dotD (k : Dot) (β : Type) (vv : β → Value) (w : World) : ∀ (l : List (Dot × β)) (i : Nat), (Instr.findAsking 74 (kv143 k) (mL kv143 vv i l) i).run Tryz.prog w = .ok ((afind k i l).map fun p => (p.1, vv p.2)) w
 | [], i => by simp [mL, Instr.findAsking, afind]
 | (x, v) :: r, i => by
   simp only [mL, Instr.findAsking, Sem.run_bind, run_eqDot, Result.andThen_ok, afind]
   by_cases e : k = x
   · subst e
     simp
   · rw [if_neg e, decide_eq_false e]
     simpa using ask_dotD k β vv w r (i + 1)
theorem keyDot : KeyL kv143 Tryz.prog 74 := by
 refine ⟨fun k β vv l w => ?_, fun b k w => ?_, fun k => ?_, fun k k' e => ?_⟩
 · have h := ask_dotD k β vv w l 0
   cases l with
   | nil => simp [Instr.findKey, run_underlying underlying74, mL, Instr.findNow, afind]
   | cons p r => simp [Instr.findKey, run_underlying underlying74, mL, Instr.findNow, Instr.sameNow] at h ⊢; exact h
 · have hI : ∀ (n : Nat) (i : Int), (Instr.checkKey b (n + 1) 3 (.int .i64 i)).run Tryz.prog w = .ok () w := fun n i => by
     simp only [Instr.checkKey, Sem.run_bind, run_underlying underlying3, Result.andThen_ok]
     rfl
   have hc : (Instr.checkKey b (9998 + 1 + 1) 74 (kv143 k)).run Tryz.prog w = .ok () w := by
     rw [Instr.checkKey]
     simp only [Sem.run_bind, run_underlying underlying74, Result.andThen_ok]
     simp [part, isAgg3, hI]
   exact hc
 · have : Instr.sameBits (9999 + 1) (kv143 k) (kv143 k) = true := by simp [Instr.sameBits]
   exact this
 · cases k; cases k'; simp at e; simp [e]
theorem mapT143 : MapT kv143 vv143 Tryz.prog 143 () := mapT_mk underlying143 keyDot zeroValue144
theorem bld144 : BuildT Tryz.prog 144 [] [] := ⟨⟨_, zeroValue144, rfl⟩, _, underlying144, fun w => by simp⟩
theorem c39 (w0 : World) (v : Value) (l : List SUpd) (h : Sl SUpd.enc 10 w0 w0.heap.size v l) (hr : UpdsRd w0 l) (hn : l.length ≤ 1048576) (hB : RoomU (l.map (·.1))) :
   Rets Tryz.prog 39 #[v] w0 fun u L => ∃ A1 r1 A2 r2 A3 r3, u = .tuple #[.agg #[.slice A1 (meantK (l.map (·.1))).1.ents.length r1, .slice A2 (meantK (l.map (·.1))).1.ctx.marks.length r2, .slice A3 (meantK (l.map (·.1))).1.ctx.cloud.length r3], .int .i64 (meantK (l.map (·.1))).2] ∧
     L = [rowOf 100 6 Ent.enc A1 r1 (meantK (l.map (·.1))).1.ents, rowOf 30 3 Dot.enc A2 r2 (meantK (l.map (·.1))).1.ctx.marks, rowOf 74 3 Dot.enc A3 r3 (meantK (l.map (·.1))).1.ctx.cloud] := by
 have hs := h
 obtain ⟨A, cap, rfl, hl, hcap, hA⟩ := h
 have hUl : (l.map (·.1)).length = l.length := List.length_map ..
 have hUg : ∀ (i : Nat) (x : SUpd), l[i]? = some x → (l.map (·.1))[i]? = some x.1 := fun i x hx => by rw [List.getElem?_map, hx]; rfl
 have hUm : ∀ x ∈ l, x.1 ∈ l.map (·.1) := fun x hx => List.mem_map.2 ⟨x, hx, rfl⟩
 have hmet := met_fewer (l.map (·.1))
 rw [hUl] at hmet
 have hmd : (l.map (·.1)).map (·.dot) = l.map (fun x => x.1.dot) := by rw [List.map_map]; rfl
 unfold Go.Fw.Rets
 refine enter1 func39 rfl ntmps39 rfl fun a S => wp_seq_k fun _ hK1 => wp_region_lit (Zj (Zn S zeroValue37 (cs := _) rfl rfl fun g1 a w S => run S (.ac rfl <| .z) fun a w S => Zb (Za (hK1 _ _ (wp_seq_k fun _ hK1 => wp_region_lit (Zj (op_makeMap kv143 vv143 S rfl fun g2 a w S => run S (.as rfl <| .z) fun a w S => Zb (Za (hK1 _ _ (wp_seq_k fun _ hK1 => sg S (.mv rfl <| .ln underlying72 rfl <| .mc rfl <| .z) fun a w S => wp_block ?_))))))))))
 refine Xb S [22] (X := Nat) (fun q => [(22, true, .int .i64 (q : Int))]) (fun q => [.blk g2 (mapK kv143 vv143 (metD [] ((l.map (fun x => x.1.dot)).take q))), .blk g1 (.cells #[.slice none 0 0, .slice none 0 0, .slice none 0 0] 37)])
   (fun q => q ≤ l.length ∧ ∀ x ∈ l.take q, ∀ y, l[0]? = some y → x.1.key = y.1.key) (fun q => l.length - q) 0 ⟨Nat.zero_le _, by simp⟩ ?_
 clear S
 intro q a w ⟨hq, hsame⟩ S
 by_cases hlt : q < l.length
 · obtain ⟨gq, oq, x, rfl, hx, hd, hc⟩ := Yg hA hlt
   obtain ⟨gq', oq', y, e0, hy, hd0, hc0⟩ := Yg hA (show 0 < l.length by omega)
   cases e0
   have hme : (l.map (fun x => x.1.dot))[q]? = some x.1.dot := by rw [List.getElem?_map, hx]; rfl
   have hst := metD_take (m := []) hme
   generalize metD [] ((l.map (fun x => x.1.dot)).take q) = M at *
   have hz : oq + 0 * 10 = oq := by omega
   by_cases he : x.1.key = y.1.key
   · have rw_e : decide (x.1.key ≠ y.1.key) = false := decide_eq_false (fun h => h he)
     refine sg S (.lt (by omega) rfl rfl <| .z) fun a w S => wp_seq_k fun _ hK2 => Zg S (.t rfl) (wp_skip (Za (hK2 _ _ (wp_seq_k fun _ hK2 => wp_block (wp_seq_k fun _ hK3 => wp_region_lit (run S (.ix underlying72 sizeOf77 (by omega) rfl rfl <| .yy (Zp ⟨isAgg77, sizeOf77⟩ (.t rfl) (vs := [_, _, _, _, _, _, _, _, _, _]) rfl (fun _ => hc)) rfl <| .z) fun a w S => Zj (Zn S zeroValue77 (cs := _) rfl rfl fun g3 a w S => Zj (Zq S sizeOf77 (.t rfl) (.t rfl) (k := 0) rfl rfl rfl (by simp [Value.oneCell']) fun a w S => Zb (Za (hK3 _ _ (wp_seq_k fun _ hK3 => wp_region_lit (run S (.mv rfl <| .fa underlying77 sizeOf74 1 rfl rfl rfl <| .la gt74 0 rfl rfl rfl <| .yy (Xd (ps := []) (us := []) bld144 .nil rfl) rfl <| .z) fun a w S => Zj (op_mapUpd (k := x.1.dot) (v := ()) S mapT143 (.t rfl) (.t rfl) (.t rfl) (j := 1) rfl ?_)))))))))))))
     clear S a w
     intro a w S
     refine Zb (Za (hK3 _ _ (wp_seq_k fun _ hK3 => Yc S (by kernel_rfl) (by kernel_rfl) fun a S => qrun S (.fa underlying77 sizeOf9 0 rfl rfl rfl <| .ld gt9 0 rfl rfl rfl <| .mv rfl <| .yy (Ym (j := 0) underlying72 sizeOf77 (.t rfl) Ev.c (fun _ => by omega)) rfl <| .yy (Zy (FieldT.mk underlying77 rfl sizeOf9 rfl) (.t rfl)) rfl <| .yy (Yv ⟨isAgg9, sizeOf9⟩ (.t rfl) (fun _ => hc0 _ _ rfl)) rfl <| .yy (Xs (.t rfl) (.t rfl)) rfl <| .z) fun a S => ?_)))
     rw [rw_e] at S
     (refine Yt ?_; intro w W; replace S := St.mk S W; clear W)
     refine Za (hK3 _ _ (Ze S (.t rfl) (wp_skip (Zk (Za (hK2 _ _ (wp_region_lit (run S (.ad (by unfold I64; omega) rfl <| .mv rfl <| .z) fun a w S => Zb (Za ?_)))))))))
     refine ⟨q + 1, ⟨by omega, fun z hz y' hy' => ?_⟩, by omega, by rw [hst]; exact S.pk⟩
     rw [List.take_add_one, hx, Option.toList_some] at hz
     rcases List.mem_append.1 hz with hz | hz
     · exact hsame z hz y' hy'
     · rw [List.mem_singleton.1 hz, he, Option.some.inj (hy.symm.trans hy')]
   · have rw_e : decide (x.1.key ≠ y.1.key) = true := decide_eq_true he
     have hk := meant_keys (U := l.map (·.1)) (fun h => he (h _ (hUm x (List.mem_of_getElem? hx)) _ (hUm y (List.mem_of_getElem? hy))))
     rw [hk]
     refine sg S (.lt (by omega) rfl rfl <| .z) fun a w S => wp_seq_k fun _ hK2 => Zg S (.t rfl) (wp_skip (Za (hK2 _ _ (wp_seq_k fun _ hK2 => wp_block (wp_seq_k fun _ hK3 => wp_region_lit (run S (.ix underlying72 sizeOf77 (by omega) rfl rfl <| .yy (Zp ⟨isAgg77, sizeOf77⟩ (.t rfl) (vs := [_, _, _, _, _, _, _, _, _, _]) rfl (fun _ => hc)) rfl <| .z) fun a w S => Zj (Zn S zeroValue77 (cs := _) rfl rfl fun g3 a w S => Zj (Zq S sizeOf77 (.t rfl) (.t rfl) (k := 0) rfl rfl rfl (by simp [Value.oneCell']) fun a w S => Zb (Za (hK3 _ _ (wp_seq_k fun _ hK3 => wp_region_lit (run S (.mv rfl <| .fa underlying77 sizeOf74 1 rfl rfl rfl <| .la gt74 0 rfl rfl rfl <| .yy (Xd (ps := []) (us := []) bld144 .nil rfl) rfl <| .z) fun a w S => Zj (op_mapUpd (k := x.1.dot) (v := ()) S mapT143 (.t rfl) (.t rfl) (.t rfl) (j := 1) rfl ?_)))))))))))))
     clear S a w
     intro a w S
     refine Zb (Za (hK3 _ _ (wp_seq_k fun _ hK3 => Yc S (by kernel_rfl) (by kernel_rfl) fun a S => qrun S (.fa underlying77 sizeOf9 0 rfl rfl rfl <| .ld gt9 0 rfl rfl rfl <| .mv rfl <| .yy (Ym (j := 0) underlying72 sizeOf77 (.t rfl) Ev.c (fun _ => by omega)) rfl <| .yy (Zy (FieldT.mk underlying77 rfl sizeOf9 rfl) (.t rfl)) rfl <| .yy (Yv ⟨isAgg9, sizeOf9⟩ (.t rfl) (fun _ => hc0 _ _ rfl)) rfl <| .yy (Xs (.t rfl) (.t rfl)) rfl <| .z) fun a S => ?_)))
     rw [rw_e] at S
     (refine Yt ?_; intro w W; replace S := St.mk S W; clear W)
     refine Za (hK3 _ _ (Zg S (.t rfl) (wp_seq_k fun _ hK3 => wp_region_lit (run S (.yy (Xd (ps := []) (us := [_, _, _]) bld37 .nil rfl) rfl <| .z) fun a w S => Zj (Zq S sizeOf37 (.t rfl) (.t rfl) (k := 2) rfl rfl rfl (by simp [Value.oneCell']) fun a w S => run S (.ac rfl <| .z) fun a w S => Zb (Za (hK3 _ _ (wp_ret (Zr (Zd (Zd (Zr (Zd (Zm S (results2 S results39 (Rv.cell (k := 2) ⟨isAgg37, sizeOf37⟩ rfl rfl rfl) (Rv.tmp rfl)) ?_))))))))))))))
     replace S := ((S.nil_ 74 3 Dot.enc none).nil_ 30 3 Dot.enc none).nil_ 100 6 Ent.enc none
     exact ⟨_, _, rfl, S.wd.pk, none, 0, none, 0, none, 0, rfl, rfl⟩
 obtain rfl : q = l.length := by omega
 have hkeys : ∀ u ∈ l.map (·.1), ∀ v ∈ l.map (·.1), u.key = v.key := fun u hu v hv => by
   obtain ⟨x, hx, rfl⟩ := List.mem_map.1 hu
   obtain ⟨y, hy, rfl⟩ := List.mem_map.1 hv
   rw [List.take_length] at hsame
   have h0 : 0 < l.length := List.length_pos_of_mem hx
   exact (hsame x hx _ (List.getElem?_eq_getElem h0)).trans (hsame y hy _ (List.getElem?_eq_getElem h0)).symm
 rw [List.take_of_length_le (by simp)] at S
 rw [hmd] at hmet
 by_cases hone : oneU (l.map (·.1))
 rotate_left
 · have rw_m : decide (((metD [] (l.map fun x => x.1.dot)).length : Int) < (l.length : Int)) = true := by
     rw [hmet, decide_eq_false (show ¬ (l.map fun x => x.1.dot).Nodup from fun e => hone (by unfold oneU; rw [hmd]; exact e))]; rfl
   have hk := meant_dots hone
   refine sg S (.ge (by omega) rfl rfl <| .z) fun a w S => wp_seq_k fun _ hK2 => Ze S (.t rfl) (wp_exit (Zh (Zh (Ya (Za (hK1 _ _ (wp_seq_k fun _ hK1 => wp_seq_k fun _ hK3 => wp_region_lit (run S (.mv rfl <| .yy (ys_lenMap underlying143 (.t rfl) (j := 0) rfl) rfl <| .mv rfl <| .ln underlying72 rfl <| .yy (Yy (.t rfl) (.t rfl)) rfl <| .z) fun a w S => ?_))))))))
   rw [rw_m] at S
   refine Zb (Za (hK3 _ _ (Zg S (.t rfl) (wp_seq_k fun _ hK3 => wp_region_lit (run S (.yy (Xd (ps := []) (us := [_, _, _]) bld37 .nil rfl) rfl <| .z) fun a w S => Zj (Zq S sizeOf37 (.t rfl) (.t rfl) (k := 1) rfl rfl rfl (by simp [Value.oneCell']) fun a w S => run S (.ac rfl <| .z) fun a w S => Zb (Za (hK3 _ _ (wp_ret (Zd (Zm S (results2 S results39 (Rv.cell (k := 1) ⟨isAgg37, sizeOf37⟩ rfl rfl rfl) (Rv.tmp rfl)) ?_)))))))))))
   rw [hk]
   replace S := ((S.nil_ 74 3 Dot.enc none).nil_ 30 3 Dot.enc none).nil_ 100 6 Ent.enc none
   exact ⟨_, _, rfl, S.wd.pk, none, 0, none, 0, none, 0, rfl, rfl⟩
 have rw_m : decide (((metD [] (l.map fun x => x.1.dot)).length : Int) < (l.length : Int)) = false := by
   rw [hmet, decide_eq_true (show (l.map fun x => x.1.dot).Nodup from by unfold oneU at hone; rw [hmd] at hone; exact hone)]; rfl
 have hokU : okU (l.map (·.1)) := ⟨hone, hkeys⟩
 clear hsame hq
 refine sg S (.ge (by omega) rfl rfl <| .z) fun a w S => wp_seq_k fun _ hK2 => Ze S (.t rfl) (wp_exit (Zh (Zh (Ya (Za (hK1 _ _ (wp_seq_k fun _ hK1 => wp_seq_k fun _ hK3 => wp_region_lit (run S (.mv rfl <| .yy (ys_lenMap underlying143 (.t rfl) (j := 0) rfl) rfl <| .mv rfl <| .ln underlying72 rfl <| .yy (Yy (.t rfl) (.t rfl)) rfl <| .z) fun a w S => ?_))))))))
 rw [rw_m] at S
 refine Zb (Za (hK3 _ _ (Ze S (.t rfl) (wp_skip (Za (hK1 _ _ (wp_seq_k fun _ hK1 => sg S (.mv rfl <| .ln underlying72 rfl <| .mc rfl <| .z) fun a w S => wp_block ?_)))))))
 clear rw_m
 refine Xb S [47] (X := Nat) (fun q => [(47, true, .int .i64 (q : Int))]) (fun q => [.blk g1 (.cells #[.slice none 0 0, .slice none 0 0, .slice none 0 0] 37)])
   (fun q => q ≤ l.length ∧ firstE ((l.map (·.1)).drop q) = firstE (l.map (·.1))) (fun q => l.length - q) 0 ⟨Nat.zero_le _, rfl⟩ ?_
 clear S
 intro q a w ⟨hq, hfe⟩ S
 by_cases hlt : q < l.length
 · obtain ⟨gq, oq, x, rfl, hx, hd, hc⟩ := Yg hA hlt
   have r1 := (hr x (List.mem_of_getElem? hx)).ents
   have r2 := (hr x (List.mem_of_getElem? hx)).ctx
   rw [firstE_at (hUg q x hx)] at hfe
   by_cases hm : mayE x.1 = 0
   · have rw_hm := hm
     rw [if_pos hm] at hfe
     refine sg S (.lt (by omega) rfl rfl <| .z) fun a w S => wp_seq_k fun _ hK3 => Zg S (.t rfl) (wp_skip (Za (hK3 _ _ (wp_seq_k fun _ hK3 => wp_block (wp_seq_k fun _ hK4 => wp_region_lit (run S (.ix underlying72 sizeOf77 (by omega) rfl rfl <| .yy (Zp ⟨isAgg77, sizeOf77⟩ (.t rfl) (vs := [_, _, _, _, _, _, _, _, _, _]) rfl (fun _ => hc)) rfl <| .z) fun a w S => Zj (Zn S zeroValue77 (cs := _) rfl rfl fun g3 a w S => Zj (Zq S sizeOf77 (.t rfl) (.t rfl) (k := 0) rfl rfl rfl (by simp [Value.oneCell']) fun a w S => Zb (Za (hK4 _ _ (wp_seq_k fun _ hK4 => wp_region_lit (run S (.la gt77 0 rfl rfl rfl <| .xx (Zf call106 (.cons (.t rfl) .nil) (fun hp w W => c106 _ _ _ _ _ (by exact .old W (by assumption)) (by exact .old W (by assumption)))) rfl <| .z) fun a w S => ?_))))))))))))
     rw [rw_hm] at S
     refine run S (.as rfl <| .z) fun a w S => Zb (Za (hK4 _ _ (sg S (.mv rfl <| .yy (Yq (by omega) (Yh (.t rfl) Ev.c)) rfl <| .z) fun a w S => Ze S (.t rfl) (wp_skip (Zk (Za (hK3 _ _ (wp_region_lit (run S (.ad (by unfold I64; omega) rfl <| .mv rfl <| .z) fun a w S => Zb (Za ?_))))))))))
     exact ⟨q + 1, ⟨by omega, hfe⟩, by omega, S.pk⟩
   · have rw_hm : decide (mayE x.1 ≠ 0) = true := decide_eq_true hm
     rw [if_neg hm] at hfe
     have hk := meant_first hokU (by rw [← hfe]; exact hm)
     rw [← hfe] at hk
     refine sg S (.lt (by omega) rfl rfl <| .z) fun a w S => wp_seq_k fun _ hK3 => Zg S (.t rfl) (wp_skip (Za (hK3 _ _ (wp_seq_k fun _ hK3 => wp_block (wp_seq_k fun _ hK4 => wp_region_lit (run S (.ix underlying72 sizeOf77 (by omega) rfl rfl <| .yy (Zp ⟨isAgg77, sizeOf77⟩ (.t rfl) (vs := [_, _, _, _, _, _, _, _, _, _]) rfl (fun _ => hc)) rfl <| .z) fun a w S => Zj (Zn S zeroValue77 (cs := _) rfl rfl fun g3 a w S => Zj (Zq S sizeOf77 (.t rfl) (.t rfl) (k := 0) rfl rfl rfl (by simp [Value.oneCell']) fun a w S => Zb (Za (hK4 _ _ (sg S (.la gt77 0 rfl rfl rfl <| .xx (Zf call106 (.cons (.t rfl) .nil) (fun hp w W => c106 _ _ _ _ _ (by exact .old W (by assumption)) (by exact .old W (by assumption)))) rfl <| .as rfl <| .z) fun a w S => sg S (.mv rfl <| .yy (Yu (by omega) (Yh (.t rfl) Ev.c)) rfl <| .z) fun a w S => Zg S (.t rfl) (wp_seq_k fun _ hK4 => wp_region_lit (run S (.yy (Xd (ps := []) (us := [_, _, _]) bld37 .nil rfl) rfl <| .mv rfl <| .z) fun a w S => Zj (Zq S sizeOf37 (.t rfl) (.t rfl) (k := 1) rfl rfl rfl (by simp [Value.oneCell']) fun a w S => run S (.as rfl <| .z) fun a w S => Zb (Za (hK4 _ _ (wp_ret ?_)))))))))))))))))
     refine Zr (Zd (Zd (Zr (Zd (Zm S (results2 S results39 (Rv.cell (k := 1) ⟨isAgg37, sizeOf37⟩ rfl rfl rfl) (Rv.tmp rfl)) ?_)))))
     rw [hk]
     replace S := ((S.nil_ 74 3 Dot.enc none).nil_ 30 3 Dot.enc none).nil_ 100 6 Ent.enc none
     exact ⟨_, _, rfl, S.wd.pk, none, 0, none, 0, none, 0, rfl, rfl⟩
 obtain rfl : q = l.length := by omega
 rw [List.drop_of_length_le (by simp)] at hfe
 have hfe0 : firstE (l.map (·.1)) = 0 := hfe.symm
 have hmay := firstE_ok.1 hfe0
 obtain ⟨hB1, hB2⟩ := hB hmay
 clear hfe hq
 refine sg S (.ge (by omega) rfl rfl <| .z) fun a w S => wp_seq_k fun _ hK3 => Ze S (.t rfl) (wp_exit (Zh (Zh (Ya (Za (hK1 _ _ (wp_seq_k fun _ hK1 => wp_region_lit (Zj (Zn S zeroValue37 (cs := _) rfl rfl fun g3 a w S => Zb (Za (hK1 _ _ (sg S (.ac rfl <| .z) fun a w S => sg S (.ac rfl <| .z) fun a w S => wp_seq_k fun _ hK1 => sg S (.mv rfl <| .ln underlying72 rfl <| .mc rfl <| .z) fun a w S => wp_block ?_))))))))))))
 replace S := ((S.nil_ 74 3 Dot.enc none).nil_ 30 3 Dot.enc none).nil_ 100 6 Ent.enc none
 replace S : St 128 w0 [(60, true, .int .i64 0), (59, true, .int .i64 (l.length : Int)), (58, true, .slice A l.length cap), (12, true, .slice none 0 0), (11, true, .slice none 0 0), (10, true, .pointer (some ⟨g3, 0, none⟩)), (3, true, .int .i64 0), (2, true, .pointer (some ⟨g1, 0, none⟩)), (0, true, .slice A l.length cap)]
   [rowOf 100 6 Ent.enc none 0 [], rowOf 30 3 Dot.enc none 0 [], rowOf 74 3 Dot.enc none 0 [], .blk g3 (.cells #[.slice none 0 0, .slice none 0 0, .slice none 0 0] 37), .blk g1 (.cells #[.slice none 0 0, .slice none 0 0, .slice none 0 0] 37)] _ _ := S.pk
 refine Xb S [11, 12, 60] (X := Nat × (Option Addr × Nat) × (Option Addr × Nat) × (Option Addr × Nat)) (fun q => [(11, true, .slice q.2.1.1 (marksU ((l.map (·.1)).take q.1)).length q.2.1.2), (12, true, .slice q.2.2.1.1 (dotsU ((l.map (·.1)).take q.1)).length q.2.2.1.2), (60, true, .int .i64 (q.1 : Int))])
   (fun q => [rowOf 100 6 Ent.enc q.2.2.2.1 q.2.2.2.2 (keptU (l.map (·.1)) ((l.map (·.1)).take q.1)), rowOf 30 3 Dot.enc q.2.1.1 q.2.1.2 (marksU ((l.map (·.1)).take q.1)), rowOf 74 3 Dot.enc q.2.2.1.1 q.2.2.1.2 (dotsU ((l.map (·.1)).take q.1)),
     .blk g3 (.cells #[.slice q.2.2.2.1 (keptU (l.map (·.1)) ((l.map (·.1)).take q.1)).length q.2.2.2.2, .slice none 0 0, .slice none 0 0] 37), .blk g1 (.cells #[.slice none 0 0, .slice none 0 0, .slice none 0 0] 37)])
   (fun q => q.1 ≤ l.length) (fun q => l.length - q.1) (0, (none, 0), (none, 0), (none, 0)) (Nat.zero_le _) ?_
 clear S
 rintro ⟨q, ⟨Am, cm⟩, ⟨Ad, cd⟩, ⟨Ae, ce⟩⟩ a w hq S
 dsimp only at hq S
 have hml := marks_le (l.map (·.1)) q
 have hdl := dots_le (l.map (·.1)) q
 have hel := kept_len (l.map (·.1)) ((l.map (·.1)).take q)
 rw [List.length_take, hUl] at hel
 by_cases hlt : q < l.length
 · obtain ⟨gq, oq, x, rfl, hx, hd, hc⟩ := Yg hA hlt
   have r1 := (hr x (List.mem_of_getElem? hx)).ents
   have r3 := (hr x (List.mem_of_getElem? hx)).marks
   have r4 := (hr x (List.mem_of_getElem? hx)).cloud
   have rw_n2 : x.2.n2 = x.1.seen.ctx.marks.length := Sl.len_is r3
   have rw_n3 : x.2.n3 = x.1.seen.ctx.cloud.length := Sl.len_is r4
   rw [rw_n2] at r3
   rw [rw_n3] at r4
   have hxo := mayE_ok (hmay _ (hUm x (List.mem_of_getElem? hx)))
   have hxl := can_len hxo.seen.ctx
   have hst1 := marks_take (hUg q x hx)
   have hst2 := dots_take (hUg q x hx)
   have hst3 := kept_take (U := l.map (·.1)) (hUg q x hx)
   have rw_sb := seen_is l x.1
   generalize marksU ((l.map (·.1)).take q) = M at *
   generalize dotsU ((l.map (·.1)).take q) = D at *
   generalize keptU (l.map (·.1)) ((l.map (·.1)).take q) = E at *
   have halt_d := trivial
   refine sg S (.lt (by omega) rfl rfl <| .z) fun a w S => wp_seq_k fun _ hK4 => Zg S (.t rfl) (wp_skip (Za (hK4 _ _ (wp_seq_k fun _ hK4 => wp_block (wp_seq_k fun _ hK5 => wp_region_lit (run S (.ix underlying72 sizeOf77 (by omega) rfl rfl <| .yy (Zp ⟨isAgg77, sizeOf77⟩ (.t rfl) (vs := [_, _, _, _, _, _, _, _, _, _]) rfl (fun _ => hc)) rfl <| .z) fun a w S => ?_))))))
   rw [rw_n2] at S
   rw [rw_n3] at S
   refine Zj (Zn S zeroValue77 (cs := _) rfl rfl fun g4 a w S => Zj (Zq S sizeOf77 (.t rfl) (.t rfl) (k := 0) rfl rfl rfl (by simp [Value.oneCell']) fun a w S => Zb (Za (hK5 _ _ (wp_seq_k fun _ hK5 => wp_region_lit (run S (.mv rfl <| .fa underlying77 sizeOf37 7 rfl rfl rfl <| .fa underlying37 sizeOf35 8 rfl rfl rfl <| .fa underlying35 sizeOf32 8 rfl rfl rfl <| .ld gt32 0 rfl rfl rfl <| .z) fun a w S => Zj (Xy _ S underlying32 underlying32 (.inr ⟨_, rfl⟩) inf30 rfl (k := 2) rfl (.t rfl) (.t rfl) (Src.sl (Sl.old S.wd r3) (by decide) Go.Fw.Dot.enc_len Go.Fw.Dot.enc_one) (by first | omega | (simp only [List.length_append, List.length_cons, List.length_nil]; omega) | (simp; omega)) rfl rfl rfl fun A1 cap1 a w S => run S (.as rfl <| .z) fun a w S => Zb (Za (hK5 _ _ (wp_seq_k fun _ hK5 => ?_))))))))))
   clear halt_d
   refine Code.wp_mono (Q := fun e a w => match e with
     | .normal => ∃ Bd bd, St 128 w0 [(12, true, .slice Bd ((D ++ x.1.seen.ctx.cloud) ++ [x.1.dot]).length bd), (11, true, .slice A1 (M ++ x.1.seen.ctx.marks).length cap1), (14, true, .pointer (some ⟨g4, 0, none⟩)), (60, true, .int .i64 (q : Int)), (59, true, .int .i64 (l.length : Int)), (58, true, .slice (some ⟨gq, oq, none⟩) l.length cap), (10, true, .pointer (some ⟨g3, 0, none⟩)), (3, true, .int .i64 0), (2, true, .pointer (some ⟨g1, 0, none⟩)), (0, true, .slice (some ⟨gq, oq, none⟩) l.length cap)]
         [rowOf 74 3 Dot.enc Bd bd ((D ++ x.1.seen.ctx.cloud) ++ [x.1.dot]), .blk g4 (.cells (Upd.enc x.1 (.slice x.2.a1 x.2.n1 x.2.c1) (.slice x.2.a2 x.1.seen.ctx.marks.length x.2.c2) (.slice x.2.a3 x.1.seen.ctx.cloud.length x.2.c3)).toArray 77), rowOf 100 6 Ent.enc Ae ce E, rowOf 30 3 Dot.enc A1 cap1 (M ++ x.1.seen.ctx.marks),
           .blk g3 (.cells #[.slice Ae E.length ce, .slice none 0 0, .slice none 0 0] 37), .blk g1 (.cells #[.slice none 0 0, .slice none 0 0, .slice none 0 0] 37)] a w
     | _ => False) (fun e a w qq => ?_) ?_
   rotate_left
   · have hold_r := trivial
     have lr_nil := trivial
     refine Wr S (by kernel_rfl) [] fun a w S => hy 0 S rfl (Zi (.t rfl)) rfl fun a w S => hy 1 S rfl (Zc (FieldT.mk underlying77 rfl sizeOf37 rfl) (.t rfl) (i' := 7) rfl) rfl fun a w S => hy 2 S rfl (Zc (FieldT.mk underlying37 rfl sizeOf35 rfl) (.t rfl) (i' := 8) rfl) rfl fun a w S => hy 3 S rfl (Zc (FieldT.mk underlying35 rfl sizeOf33 rfl) (.t rfl) (i' := 9) rfl) rfl fun a w S => ?_
     refine hy 6 S rfl (Zc (FieldT.mk underlying77 rfl sizeOf74 rfl) (.t rfl) (i' := 1) rfl) rfl fun a w S => ?_
     refine Xv (i := 4) (j := 7) (by kernel_rfl) rfl rfl ?_ ?_
     (refine Vf S (Yr.ys (Zt ⟨isAgg33, sizeOf33⟩ (.t rfl) (k := 0) rfl rfl)) rfl ?_; clear S a w; intro a w S; refine Yj S ?_)
     refine Xv (i := 5) (j := 7) (by kernel_rfl) rfl rfl ?_ ?_
     (refine Xy _ S underlying33 underlying33 (.inr ⟨_, rfl⟩) inf74 rfl (k := 3) rfl (.t rfl) (.t rfl) (Src.sl (Sl.old S.wd r4) (by decide) Go.Fw.Dot.enc_len Go.Fw.Dot.enc_one) (by first | omega | (simp only [List.length_append, List.length_cons, List.length_nil]; omega) | (simp; omega)) rfl rfl rfl ?_; clear S a w; intro A2 cap2 a w S; refine Yj S ?_)
     refine h_q (i := 7) S (by repeat (first | exact List.Sublist.refl _ | exact List.nil_sublist _ | refine .cons_cons _ ?_ | refine .cons _ ?_)) rfl (by kernel_rfl) (Yr.ys (Zz ⟨isAgg74, sizeOf74⟩ (.t rfl) (k := 0) rfl rfl)) rfl fun a w S => ?_
     (refine h_m (i := 8) rfl (by kernel_rfl) (Yf S underlying33 inf74 rfl rfl rfl (.t rfl) rfl rfl rfl ?_); clear S a w; intro g5 a w S; refine Yj S ?_)
     (refine h_m (i := 9) rfl (by kernel_rfl) (Yw S underlying33 inf74 rfl (k := 4) (j := 0) rfl (.t rfl) (.t rfl) rfl Go.Fw.Dot.mkEnc rfl rfl (by first | omega | (simp only [List.length_append, List.length_cons, List.length_nil]; omega)) rfl rfl rfl ?_); clear S a w; intro A3 cap3 a w S; refine Yj S ?_)
     refine hy 10 S rfl (Yi (.t rfl)) rfl fun a w S => Xf (by kernel_rfl) ?_
     rotate_left
     (refine Vf S (Yr.ys (Zz ⟨isAgg74, sizeOf74⟩ (.t rfl) (k := 0) rfl rfl)) rfl ?_; clear S a w; intro a w S; refine Yj S ?_)
     refine Xv (i := 5) (j := 8) (by kernel_rfl) rfl rfl ?_ ?_
     (refine Xy _ S underlying33 underlying33 (.inr ⟨_, rfl⟩) inf74 rfl (k := 3) rfl (.t rfl) (.t rfl) (Src.sl (Sl.old S.wd r4) (by decide) Go.Fw.Dot.enc_len Go.Fw.Dot.enc_one) (by first | omega | (simp only [List.length_append, List.length_cons, List.length_nil]; omega) | (simp; omega)) rfl rfl rfl ?_; clear S a w; intro A2 cap2 a w S; refine Yj S ?_)
     (refine h_m (i := 8) rfl (by kernel_rfl) (Yf S underlying33 inf74 rfl rfl rfl (.t rfl) rfl rfl rfl ?_); clear S a w; intro g5 a w S; refine Yj S ?_)
     (refine h_m (i := 9) rfl (by kernel_rfl) (Yw S underlying33 inf74 rfl (k := 4) (j := 0) rfl (.t rfl) (.t rfl) rfl Go.Fw.Dot.mkEnc rfl rfl (by first | omega | (simp only [List.length_append, List.length_cons, List.length_nil]; omega)) rfl rfl rfl ?_); clear S a w; intro A3 cap3 a w S; refine Yj S ?_)
     refine hy 10 S rfl (Yi (.t rfl)) rfl fun a w S => Xf (by kernel_rfl) ?_
     rotate_left
     (refine Yf S underlying33 inf74 rfl rfl rfl (.t rfl) rfl rfl rfl ?_; clear S a w; intro g5 a w S; refine Yj S ?_)
     (refine h_m (i := 5) rfl (by kernel_rfl) (Xy _ S underlying33 underlying33 (.inr ⟨_, rfl⟩) inf74 rfl (k := 4) rfl (.t rfl) (.t rfl) (Src.sl (Sl.old S.wd r4) (by decide) Go.Fw.Dot.enc_len Go.Fw.Dot.enc_one) (by first | omega | (simp only [List.length_append, List.length_cons, List.length_nil]; omega) | (simp; omega)) rfl rfl rfl ?_); clear S a w; intro A2 cap2 a w S; refine Yj S ?_)
     (refine h_m (i := 9) rfl (by kernel_rfl) (Yw S underlying33 inf74 rfl (k := 4) (j := 0) rfl (.t rfl) (.t rfl) rfl Go.Fw.Dot.mkEnc rfl rfl (by first | omega | (simp only [List.length_append, List.length_cons, List.length_nil]; omega)) rfl rfl rfl ?_); clear S a w; intro A3 cap3 a w S; refine Yj S ?_)
     refine hy 10 S rfl (Yi (.t rfl)) rfl fun a w S => Xf (by kernel_rfl) ?_
     rotate_left
     (refine Vf S (Yr.ys (Zz ⟨isAgg74, sizeOf74⟩ (.t rfl) (k := 0) rfl rfl)) rfl ?_; clear S a w; intro a w S; refine Yj S ?_)
     refine Xv (i := 4) (j := 8) (by kernel_rfl) rfl rfl ?_ ?_
     (refine Vf S (Yr.ys (Zt ⟨isAgg33, sizeOf33⟩ (.t rfl) (k := 0) rfl rfl)) rfl ?_; clear S a w; intro a w S; refine Yj S ?_)
     refine Xv (i := 5) (j := 8) (by kernel_rfl) rfl rfl ?_ ?_
     (refine Xy _ S underlying33 underlying33 (.inr ⟨_, rfl⟩) inf74 rfl (k := 3) rfl (.t rfl) (.t rfl) (Src.sl (Sl.old S.wd r4) (by decide) Go.Fw.Dot.enc_len Go.Fw.Dot.enc_one) (by first | omega | (simp only [List.length_append, List.length_cons, List.length_nil]; omega) | (simp; omega)) rfl rfl rfl ?_; clear S a w; intro A2 cap2 a w S; refine Yj S ?_)
     (refine h_m (i := 8) rfl (by kernel_rfl) (Yf S underlying33 inf74 rfl rfl rfl (.t rfl) rfl rfl rfl ?_); clear S a w; intro g5 a w S; refine Yj S ?_)
     (refine h_m (i := 9) rfl (by kernel_rfl) (Yw S underlying33 inf74 rfl (k := 4) (j := 0) rfl (.t rfl) (.t rfl) rfl Go.Fw.Dot.mkEnc rfl rfl (by first | omega | (simp only [List.length_append, List.length_cons, List.length_nil]; omega)) rfl rfl rfl ?_); clear S a w; intro A3 cap3 a w S; refine Yj S ?_)
     refine hy 10 S rfl (Yi (.t rfl)) rfl fun a w S => Xf (by kernel_rfl) ?_
     rotate_left
     (refine Yf S underlying33 inf74 rfl rfl rfl (.t rfl) rfl rfl rfl ?_; clear S a w; intro g5 a w S; refine Yj S ?_)
     (refine h_m (i := 5) rfl (by kernel_rfl) (Xy _ S underlying33 underlying33 (.inr ⟨_, rfl⟩) inf74 rfl (k := 4) rfl (.t rfl) (.t rfl) (Src.sl (Sl.old S.wd r4) (by decide) Go.Fw.Dot.enc_len Go.Fw.Dot.enc_one) (by first | omega | (simp only [List.length_append, List.length_cons, List.length_nil]; omega) | (simp; omega)) rfl rfl rfl ?_); clear S a w; intro A2 cap2 a w S; refine Yj S ?_)
     (refine h_m (i := 9) rfl (by kernel_rfl) (Yw S underlying33 inf74 rfl (k := 4) (j := 0) rfl (.t rfl) (.t rfl) rfl Go.Fw.Dot.mkEnc rfl rfl (by first | omega | (simp only [List.length_append, List.length_cons, List.length_nil]; omega)) rfl rfl rfl ?_); clear S a w; intro A3 cap3 a w S; refine Yj S ?_)
     refine hy 10 S rfl (Yi (.t rfl)) rfl fun a w S => Xf (by kernel_rfl) ?_
     rotate_left
     (refine Yf S underlying33 inf74 rfl rfl rfl (.t rfl) rfl rfl rfl ?_; clear S a w; intro g5 a w S; refine Yj S ?_)
     refine h_q (i := 4) S (by repeat (first | exact List.Sublist.refl _ | exact List.nil_sublist _ | refine .cons_cons _ ?_ | refine .cons _ ?_)) rfl (by kernel_rfl) (Yr.ys (Zt ⟨isAgg33, sizeOf33⟩ (.t rfl) (k := 1) rfl rfl)) rfl fun a w S => ?_
     (refine h_m (i := 5) rfl (by kernel_rfl) (Xy _ S underlying33 underlying33 (.inr ⟨_, rfl⟩) inf74 rfl (k := 4) rfl (.t rfl) (.t rfl) (Src.sl (Sl.old S.wd r4) (by decide) Go.Fw.Dot.enc_len Go.Fw.Dot.enc_one) (by first | omega | (simp only [List.length_append, List.length_cons, List.length_nil]; omega) | (simp; omega)) rfl rfl rfl ?_); clear S a w; intro A2 cap2 a w S; refine Yj S ?_)
     (refine h_m (i := 9) rfl (by kernel_rfl) (Yw S underlying33 inf74 rfl (k := 4) (j := 0) rfl (.t rfl) (.t rfl) rfl Go.Fw.Dot.mkEnc rfl rfl (by first | omega | (simp only [List.length_append, List.length_cons, List.length_nil]; omega)) rfl rfl rfl ?_); clear S a w; intro A3 cap3 a w S; refine Yj S ?_)
     refine hy 10 S rfl (Yi (.t rfl)) rfl fun a w S => Xf (by kernel_rfl) ?_
     rotate_left
     all_goals exact ⟨_, _, S.pk⟩
   clear S
   rcases e with _ | _ | _ | _ | _ | _ | _
   any_goals exact qq.elim
   obtain ⟨Bd, bd, S⟩ := qq
   refine Za ?_
   first | refine hK9 _ _ ?_ | refine hK8 _ _ ?_ | refine hK7 _ _ ?_ | refine hK6 _ _ ?_ | refine hK5 _ _ ?_ | refine hK4 _ _ ?_ | refine hK3 _ _ ?_ | refine hK2 _ _ ?_ | refine hK1 _ _ ?_
   refine wp_seq_k fun _ hK6 => wp_region_lit (run S (.mv rfl <| .yy (ys_mkFunc (.cons (.t rfl) .nil)) rfl <| .z) fun a w S => ?_)
   refine Yk S (Zf call107 (.cons (.t rfl) (.cons (.t rfl) .nil)) (fun _ w' W' => x107 w' _ l 108 [.pointer (some ⟨g4, 0, none⟩)] (fun y => decide (y.1.item = x.1.item) && y.1.seen.ctx.covers x.1.dot) call108
     (fun w'' W'' y hy => c108 w'' y.1 _ _ _ x g4 (((hr y hy).old W').old W'').ents (((hr y hy).old W').old W'').ctx (Wd.cellOld W'' (Wd.cell W' (k := 1) rfl rfl)) (Wd.cellOld W'' (Wd.cell W' (k := 1) rfl rfl)) (Wd.cellOld W'' (Wd.cell W' (k := 1) rfl rfl)) (Wd.cellOld W'' (Wd.cell W' (k := 1) rfl rfl))) (Sl.old W' hs))) rfl ?_
   clear S a w
   intro a w S
   by_cases hqt : 0 < x.1.qty
   · have rw_q := decide_eq_true hqt
     cases hsb : seenB (l.map (·.1)) x.1 with
     | true =>
       rw [hsb] at rw_sb
       rw [hsb, Bool.not_true, Bool.and_false, if_neg (by decide), List.append_nil] at hst3
       refine run S (.yy (Xp (.t rfl) Ev.c) rfl <| .z) fun a w S => ?_
       rw [rw_sb] at S
       refine run S (.as rfl <| .z) fun a w S => Zb (Za (hK6 _ _ (sg S (.fa underlying77 sizeOf3 5 rfl rfl rfl <| .ld gt3 1 rfl rfl rfl <| .yy (Yu (by omega) (Yn (.t rfl) Ev.c)) rfl <| .mv rfl <| .gy rfl rfl (Zi (.t rfl)) <| .gy rfl rfl (Xh (.t rfl)) <| .yy (Zv (.t rfl) (.t rfl)) rfl <| .z) fun a w S => Ze S (.t rfl) (wp_skip (Zk (Za (hK4 _ _ (wp_region_lit (run S (.ad (by unfold I64; omega) rfl <| .mv rfl <| .z) fun a w S => Zb (Za ?_))))))))))
       exact ⟨(q + 1, (A1, cap1), (Bd, bd), (Ae, ce)), by dsimp only; omega, by dsimp only; omega, by dsimp only; rw [hst1, hst2, hst3]; exact S.pk⟩
     | false =>
       rw [hsb] at rw_sb
       rw [hsb, rw_q, Bool.not_false, Bool.and_true, if_pos rfl] at hst3
       have rw_ent : #[Value.string (bs x.1.item), .int .i64 x.1.dot.node, .int .i64 x.1.dot.life, .int .i64 x.1.dot.count, .int .i64 x.1.qty, .int .u64 (x.1.price.toNat : Int)] = (Ent.enc x.1.ent).toArray := rfl
       refine run S (.yy (Xp (.t rfl) Ev.c) rfl <| .z) fun a w S => ?_
       rw [rw_sb] at S
       refine run S (.as rfl <| .z) fun a w S => Zb (Za (hK6 _ _ (sg S (.fa underlying77 sizeOf3 5 rfl rfl rfl <| .ld gt3 1 rfl rfl rfl <| .yy (Yu (by omega) (Yn (.t rfl) Ev.c)) rfl <| .mv rfl <| .gy rfl rfl (Zi (.t rfl)) <| .gy rfl rfl (Xh (.t rfl)) <| .yy (Zv (.t rfl) (.t rfl)) rfl <| .z) fun a w S => Zg S (.t rfl) (wp_region_lit (run S (.fa underlying37 sizeOf31 0 rfl rfl rfl <| .ld gt31 4 rfl rfl rfl <| .fa underlying77 sizeOf9 4 rfl rfl rfl <| .ld gt9 1 rfl rfl rfl <| .fa underlying77 sizeOf74 1 rfl rfl rfl <| .la gt74 1 rfl rfl rfl <| .fa underlying77 sizeOf3 5 rfl rfl rfl <| .ld gt3 1 rfl rfl rfl <| .fa underlying77 sizeOf75 6 rfl rfl rfl <| .ld gt75 1 rfl rfl rfl <| .yy (Xd (ps := [(0, Go.Operand.tmp 94), (1, Go.Operand.tmp 96), (2, Go.Operand.tmp 98), (3, Go.Operand.tmp 100)]) (us := [_, _, _, _, _, _]) bld100 (.cons (.t rfl) (.cons (.t rfl) (.cons (.t rfl) (.cons (.t rfl) .nil)))) rfl) rfl <| .z) fun a w S => ?_)))))
       rw [rw_ent] at S
       refine Zj (Yf S underlying31 inf100 rfl rfl rfl (.t rfl) rfl rfl rfl fun g5 a w S => ?_)
       rw [rw_ent] at S
       refine Zj (Yw S underlying31 inf100 rfl (k := 3) (j := 0) rfl (.t rfl) (.t rfl) rfl rfl rfl rfl (by first | omega | (simp only [List.length_append, List.length_cons, List.length_nil]; omega)) rfl rfl rfl fun A2 cap2 a w S => ?_)
       rw [rw_ent] at S
       refine run S (.fa underlying37 sizeOf31 0 rfl rfl rfl <| .z) fun a w S => ?_
       rw [rw_ent] at S
       refine Zj (op_st S sizeOf31 (.t rfl) (.t rfl) (k := 5) rfl rfl (by simp) fun a w S => ?_)
       rw [rw_ent] at S
       refine Zb ?_
       rw [rw_ent] at S
       refine Zk (Za (hK4 _ _ ?_))
       rw [rw_ent] at S
       refine wp_region_lit ?_
       rw [rw_ent] at S
       refine run S (.ad (by unfold I64; omega) rfl <| .z) fun a w S => ?_
       rw [rw_ent] at S
       refine run S (.mv rfl <| .z) fun a w S => ?_
       rw [rw_ent] at S
       refine Zb ?_
       rw [rw_ent] at S
       refine Za ?_
       rw [rw_ent] at S
       exact ⟨(q + 1, (A1, cap1), (Bd, bd), (A2, cap2)), by dsimp only; omega, by dsimp only; omega, by dsimp only; rw [hst1, hst2, hst3]; exact S.pk⟩
   · have rw_q := decide_eq_false hqt
     rw [rw_q, Bool.false_and, if_neg (by decide), List.append_nil] at hst3
     refine run S (.yy (Xp (.t rfl) Ev.c) rfl <| .z) fun a w S => ?_
     rw [rw_sb] at S
     refine run S (.as rfl <| .z) fun a w S => Zb (Za (hK6 _ _ (sg S (.fa underlying77 sizeOf3 5 rfl rfl rfl <| .ld gt3 1 rfl rfl rfl <| .yy (Yq (by omega) (Yn (.t rfl) Ev.c)) rfl <| .mv rfl <| .sk rfl rfl rfl <| .sk rfl rfl rfl <| .yy (Zu (.t rfl) Ev.c) rfl <| .z) fun a w S => Ze S (.t rfl) (wp_skip (Zk (Za (hK4 _ _ (wp_region_lit (run S (.ad (by unfold I64; omega) rfl <| .mv rfl <| .z) fun a w S => Zb (Za ?_))))))))))
     exact ⟨(q + 1, (A1, cap1), (Bd, bd), (Ae, ce)), by dsimp only; omega, by dsimp only; omega, by dsimp only; rw [hst1, hst2, hst3]; exact S.pk⟩
 obtain rfl : q = l.length := by omega
 rw [List.take_of_length_le (by rw [hUl]; exact Nat.le_refl _)] at S
 have hes := kept_may (U := l.map (·.1)) hmay
 have hed := kept_dots (U := l.map (·.1)) hone
 have hel := kept_len (l.map (·.1)) (l.map (·.1))
 rw [hUl] at hel
 have hC : meantC (l.map (·.1)) = ⟨sortI (keptU (l.map (·.1)) (l.map (·.1))), (normalL (marksU (l.map (·.1))) (dotsU (l.map (·.1)))).1⟩ := rfl
 have hKn : knownU (l.map (·.1)) = normalL (marksU (l.map (·.1))) (dotsU (l.map (·.1))) := rfl
 have ho1 := meant_known hokU hfe0
 have ho2 := meant_can hokU hfe0
 have ho3 := meant_ok hokU hfe0
 rw [hKn] at ho1 ho2 ho3
 rw [hC] at ho2 ho3
 generalize meantK (l.map (·.1)) = R at *
 generalize marksU (l.map (·.1)) = M at *
 generalize dotsU (l.map (·.1)) = D at *
 generalize keptU (l.map (·.1)) (l.map (·.1)) = E at *
 have hsr := sortI_sorted hed
 have hsm : ∀ x, x ∈ sortI E ↔ x ∈ E := fun x => sortI_mem
 have hsl := sortI_len E
 have hEn : E.length ≤ 4194304 := by omega
 have hMn : M.length ≤ 2097152 := by omega
 have hDn : D.length ≤ 2097152 := by omega
 generalize sortI E = F at *
 by_cases hN : (normalL M D).2 = 0
 rotate_left
 · have rw_N : decide ((normalL M D).2 ≠ 0) = true := decide_eq_true hN
   have hk := ho1 hN
   refine sg S (.ge (by omega) rfl rfl <| .z) fun a w S => wp_seq_k fun _ hK4 => Ze S (.t rfl) (wp_exit (Zh (Zh (Ya (Za (hK1 _ _ (wp_seq_k fun _ hK1 => wp_region_lit (run S (.fa underlying37 sizeOf31 0 rfl rfl rfl <| .ld gt31 3 rfl rfl rfl <| .z) fun a w S => ?_))))))))
   (refine Zj (Vn S call110 (.cons (.t rfl) (.cons Ev.f .nil)) (o110 S.wd (by first | assumption | omega | (dsimp only; omega) | exact Sl.nil_ | exact .old S.wd (by assumption) | exact Sl.of_own S.wd (k := 0) rfl (fun _ => rfl) | exact Sl.of_own S.wd (k := 1) rfl (fun _ => rfl) | exact Sl.of_own S.wd (k := 2) rfl (fun _ => rfl) | exact Sl.of_own S.wd (k := 3) rfl (fun _ => rfl) | exact Sl.of_own S.wd (k := 4) rfl (fun _ => rfl) | (intro _ W'; first | exact .old W' (by assumption) | exact Sl.of_own W' (k := 0) rfl (fun _ => rfl) | exact Sl.of_own W' (k := 1) rfl (fun _ => rfl) | exact Sl.of_own W' (k := 2) rfl (fun _ => rfl) | exact Sl.of_own W' (k := 3) rfl (fun _ => rfl) | exact Sl.of_own W' (k := 4) rfl (fun _ => rfl)) | (simp; done) | (simp at *; omega)) (by first | assumption | omega | (dsimp only; omega) | exact Sl.nil_ | exact .old S.wd (by assumption) | exact Sl.of_own S.wd (k := 0) rfl (fun _ => rfl) | exact Sl.of_own S.wd (k := 1) rfl (fun _ => rfl) | exact Sl.of_own S.wd (k := 2) rfl (fun _ => rfl) | exact Sl.of_own S.wd (k := 3) rfl (fun _ => rfl) | exact Sl.of_own S.wd (k := 4) rfl (fun _ => rfl) | (simp; done) | (simp at *; omega)) (by first | assumption | omega | (dsimp only; omega) | exact Sl.nil_ | exact .old S.wd (by assumption) | exact Sl.of_own S.wd (k := 0) rfl (fun _ => rfl) | exact Sl.of_own S.wd (k := 1) rfl (fun _ => rfl) | exact Sl.of_own S.wd (k := 2) rfl (fun _ => rfl) | exact Sl.of_own S.wd (k := 3) rfl (fun _ => rfl) | exact Sl.of_own S.wd (k := 4) rfl (fun _ => rfl) | (simp; done) | (simp at *; omega)) (by first | assumption | omega | (dsimp only; omega) | exact Sl.nil_ | exact .old S.wd (by assumption) | exact Sl.of_own S.wd (k := 0) rfl (fun _ => rfl) | exact Sl.of_own S.wd (k := 1) rfl (fun _ => rfl) | exact Sl.of_own S.wd (k := 2) rfl (fun _ => rfl) | exact Sl.of_own S.wd (k := 3) rfl (fun _ => rfl) | exact Sl.of_own S.wd (k := 4) rfl (fun _ => rfl) | (simp; done) | (simp at *; omega)) (by first | assumption | omega | (dsimp only; omega) | exact Sl.nil_ | exact .old S.wd (by assumption) | exact Sl.of_own S.wd (k := 0) rfl (fun _ => rfl) | exact Sl.of_own S.wd (k := 1) rfl (fun _ => rfl) | exact Sl.of_own S.wd (k := 2) rfl (fun _ => rfl) | exact Sl.of_own S.wd (k := 3) rfl (fun _ => rfl) | exact Sl.of_own S.wd (k := 4) rfl (fun _ => rfl) | (intro _ W'; first | exact .old W' (by assumption) | exact Sl.of_own W' (k := 0) rfl (fun _ => rfl) | exact Sl.of_own W' (k := 1) rfl (fun _ => rfl) | exact Sl.of_own W' (k := 2) rfl (fun _ => rfl) | exact Sl.of_own W' (k := 3) rfl (fun _ => rfl) | exact Sl.of_own W' (k := 4) rfl (fun _ => rfl)) | (simp; done) | (simp at *; omega))) rfl ?_) <;> clear S a w)
   rintro _ _ ⟨rfl, hr1, rfl⟩ a w S
   refine Zb (Za (hK1 _ _ (wp_seq_k fun _ hK1 => wp_region_lit (run S (.mv rfl <| .mv rfl <| .z) fun a w S => ?_))))
   (refine Zj (Yb S call112 (.cons (.t rfl) (.cons (.t rfl) .nil)) (c112 _ _ _ _ _ (by exact Sl.of_own S.wd (k := 1) rfl (fun _ => rfl)) (by exact Sl.of_own S.wd (k := 2) rfl (fun _ => rfl)) (by assumption) (by assumption)) rfl ?_); clear S a w; rintro _ _ ⟨A11, c11, A21, c21, rfl, rfl⟩ a w S)
   refine run S (.mv rfl <| .ex rfl rfl <| .ex rfl rfl <| .z) fun a w S => Zj (Zn S zeroValue35 (cs := _) rfl rfl fun g4 a w S => Zj (Zq S sizeOf35 (.t rfl) (.t rfl) (k := 0) rfl rfl rfl (by simp [Value.oneCell']) fun a w S => run S (.as rfl <| .z) fun a w S => Zb (Za (hK1 _ _ (wp_seq_k fun _ hK1 => sg S (.mv rfl <| .yy (Yu (by omega) (Yh (.t rfl) Ev.c)) rfl <| .z) fun a w S => Zg S (.t rfl) (wp_seq_k fun _ hK5 => wp_region_lit (run S (.yy (Xd (ps := []) (us := [_, _, _]) bld37 .nil rfl) rfl <| .mv rfl <| .z) fun a w S => Zj (Zq S sizeOf37 (.t rfl) (.t rfl) (k := 7) rfl rfl rfl (by simp [Value.oneCell']) fun a w S => run S (.as rfl <| .z) fun a w S => Zb (Za (hK5 _ _ (wp_ret (Zd (Zm S (results2 S results39 (Rv.cell (k := 7) ⟨isAgg37, sizeOf37⟩ rfl rfl rfl) (Rv.tmp rfl)) ?_)))))))))))))
   rw [hk]
   replace S := ((S.nil_ 74 3 Dot.enc none).nil_ 30 3 Dot.enc none).nil_ 100 6 Ent.enc none
   exact ⟨_, _, rfl, S.wd.pk, none, 0, none, 0, none, 0, rfl, rfl⟩
 have rw_N := hN
 obtain ⟨C, rw_C⟩ : ∃ C, (normalL M D).1 = C := ⟨_, rfl⟩
 rw [rw_C] at ho2 ho3
 refine sg S (.ge (by omega) rfl rfl <| .z) fun a w S => wp_seq_k fun _ hK4 => Ze S (.t rfl) (wp_exit (Zh (Zh (Ya (Za (hK1 _ _ (wp_seq_k fun _ hK1 => wp_region_lit (run S (.fa underlying37 sizeOf31 0 rfl rfl rfl <| .ld gt31 3 rfl rfl rfl <| .z) fun a w S => ?_))))))))
 (refine Zj (Vn S call110 (.cons (.t rfl) (.cons Ev.f .nil)) (o110 S.wd (by first | assumption | omega | (dsimp only; omega) | exact Sl.nil_ | exact .old S.wd (by assumption) | exact Sl.of_own S.wd (k := 0) rfl (fun _ => rfl) | exact Sl.of_own S.wd (k := 1) rfl (fun _ => rfl) | exact Sl.of_own S.wd (k := 2) rfl (fun _ => rfl) | exact Sl.of_own S.wd (k := 3) rfl (fun _ => rfl) | exact Sl.of_own S.wd (k := 4) rfl (fun _ => rfl) | (intro _ W'; first | exact .old W' (by assumption) | exact Sl.of_own W' (k := 0) rfl (fun _ => rfl) | exact Sl.of_own W' (k := 1) rfl (fun _ => rfl) | exact Sl.of_own W' (k := 2) rfl (fun _ => rfl) | exact Sl.of_own W' (k := 3) rfl (fun _ => rfl) | exact Sl.of_own W' (k := 4) rfl (fun _ => rfl)) | (simp; done) | (simp at *; omega)) (by first | assumption | omega | (dsimp only; omega) | exact Sl.nil_ | exact .old S.wd (by assumption) | exact Sl.of_own S.wd (k := 0) rfl (fun _ => rfl) | exact Sl.of_own S.wd (k := 1) rfl (fun _ => rfl) | exact Sl.of_own S.wd (k := 2) rfl (fun _ => rfl) | exact Sl.of_own S.wd (k := 3) rfl (fun _ => rfl) | exact Sl.of_own S.wd (k := 4) rfl (fun _ => rfl) | (simp; done) | (simp at *; omega)) (by first | assumption | omega | (dsimp only; omega) | exact Sl.nil_ | exact .old S.wd (by assumption) | exact Sl.of_own S.wd (k := 0) rfl (fun _ => rfl) | exact Sl.of_own S.wd (k := 1) rfl (fun _ => rfl) | exact Sl.of_own S.wd (k := 2) rfl (fun _ => rfl) | exact Sl.of_own S.wd (k := 3) rfl (fun _ => rfl) | exact Sl.of_own S.wd (k := 4) rfl (fun _ => rfl) | (simp; done) | (simp at *; omega)) (by first | assumption | omega | (dsimp only; omega) | exact Sl.nil_ | exact .old S.wd (by assumption) | exact Sl.of_own S.wd (k := 0) rfl (fun _ => rfl) | exact Sl.of_own S.wd (k := 1) rfl (fun _ => rfl) | exact Sl.of_own S.wd (k := 2) rfl (fun _ => rfl) | exact Sl.of_own S.wd (k := 3) rfl (fun _ => rfl) | exact Sl.of_own S.wd (k := 4) rfl (fun _ => rfl) | (simp; done) | (simp at *; omega)) (by first | assumption | omega | (dsimp only; omega) | exact Sl.nil_ | exact .old S.wd (by assumption) | exact Sl.of_own S.wd (k := 0) rfl (fun _ => rfl) | exact Sl.of_own S.wd (k := 1) rfl (fun _ => rfl) | exact Sl.of_own S.wd (k := 2) rfl (fun _ => rfl) | exact Sl.of_own S.wd (k := 3) rfl (fun _ => rfl) | exact Sl.of_own S.wd (k := 4) rfl (fun _ => rfl) | (intro _ W'; first | exact .old W' (by assumption) | exact Sl.of_own W' (k := 0) rfl (fun _ => rfl) | exact Sl.of_own W' (k := 1) rfl (fun _ => rfl) | exact Sl.of_own W' (k := 2) rfl (fun _ => rfl) | exact Sl.of_own W' (k := 3) rfl (fun _ => rfl) | exact Sl.of_own W' (k := 4) rfl (fun _ => rfl)) | (simp; done) | (simp at *; omega))) rfl ?_) <;> clear S a w)
 rintro _ _ ⟨rfl, hr1, rfl⟩ a w S
 refine Zb (Za (hK1 _ _ (wp_seq_k fun _ hK1 => wp_region_lit (run S (.mv rfl <| .mv rfl <| .z) fun a w S => ?_))))
 (refine Zj (Yb S call112 (.cons (.t rfl) (.cons (.t rfl) .nil)) (c112 _ _ _ _ _ (by exact Sl.of_own S.wd (k := 1) rfl (fun _ => rfl)) (by exact Sl.of_own S.wd (k := 2) rfl (fun _ => rfl)) (by assumption) (by assumption)) rfl ?_); clear S a w; rintro _ _ ⟨A11, c11, A21, c21, rfl, rfl⟩ a w S)
 rw [rw_N] at S
 rw [rw_C] at S
 refine run S (.mv rfl <| .ex rfl rfl <| .ex rfl rfl <| .z) fun a w S => Zj (Zn S zeroValue35 (cs := _) rfl rfl fun g4 a w S => Zj (Zq S sizeOf35 (.t rfl) (.t rfl) (k := 0) rfl rfl rfl (by simp [Value.oneCell']) fun a w S => run S (.as rfl <| .z) fun a w S => Zb (Za (hK1 _ _ (wp_seq_k fun _ hK1 => sg S (.mv rfl <| .yy (Yq (by omega) (Yh (.t rfl) Ev.c)) rfl <| .z) fun a w S => Ze S (.t rfl) (wp_skip (Za (hK1 _ _ (wp_seq_k fun _ hK1 => wp_region_lit (run S (.la gt35 0 rfl rfl rfl <| .fa underlying37 sizeOf35 1 rfl rfl rfl <| .z) fun a w S => Zj (Yz S sizeOf35 (.t rfl) (.t rfl) (k := 6) rfl rfl (by simp [Value.oneCell']) (by simp) fun a w S => Zb (Za (hK1 _ _ (wp_seq_k fun _ hK1 => wp_seq_k fun _ hK5 => wp_region_lit (run S (.la gt37 6 rfl rfl rfl <| .z) fun a w S => ?_)))))))))))))))
 rw [← hsl] at S
 refine Yk S (Zf call66 (.cons (.t rfl) .nil) (fun _ w' W' => c66 w' _ _ _ ⟨F, C⟩ (Sl.of_own W' (k := 3) rfl (fun _ => rfl)) ⟨Sl.of_own W' (k := 1) rfl (fun _ => rfl), Sl.of_own W' (k := 2) rfl (fun _ => rfl)⟩)) rfl ?_
 clear S a w
 intro a w S
 by_cases hE : canE ⟨F, C⟩ = 0
 · have rw_E := hE
   have hk := ho3 hN hE
   refine run S (.as rfl <| .z) fun a w S => ?_
   rw [rw_E] at S
   refine Zb (Za (hK5 _ _ (sg S (.mv rfl <| .yy (Yq (by omega) (Yh (.t rfl) Ev.c)) rfl <| .z) fun a w S => Ze S (.t rfl) (wp_skip (Za (hK1 _ _ (wp_seq_k fun _ hK1 => wp_region_lit (run S (.la gt37 6 rfl rfl rfl <| .z) fun a w S => Zj (Zq S sizeOf37 (.t rfl) (.t rfl) (k := 7) rfl rfl rfl (by simp [Value.oneCell']) fun a w S => run S (.ac rfl <| .z) fun a w S => Zb (Za (hK1 _ _ (wp_ret (Zm S (results2 S results39 (Rv.cell (k := 7) ⟨isAgg37, sizeOf37⟩ rfl rfl rfl) (Rv.tmp rfl)) ?_)))))))))))))
   rw [hk]
   exact ⟨_, _, rfl, S.wd.pk, Ae, ce, A11, c11, A21, c21, rfl, rfl⟩
 · have rw_E : decide (canE ⟨F, C⟩ ≠ 0) = true := decide_eq_true hE
   have hk := ho2 hN hE
   refine run S (.as rfl <| .z) fun a w S => Zb (Za (hK5 _ _ (sg S (.mv rfl <| .yy (Yu (by omega) (Yh (.t rfl) Ev.c)) rfl <| .z) fun a w S => Zg S (.t rfl) (wp_seq_k fun _ hK5 => wp_region_lit (run S (.yy (Xd (ps := []) (us := [_, _, _]) bld37 .nil rfl) rfl <| .mv rfl <| .z) fun a w S => Zj (Zq S sizeOf37 (.t rfl) (.t rfl) (k := 7) rfl rfl rfl (by simp [Value.oneCell']) fun a w S => run S (.as rfl <| .z) fun a w S => Zb (Za (hK5 _ _ (wp_ret (Zd (Zm S (results2 S results39 (Rv.cell (k := 7) ⟨isAgg37, sizeOf37⟩ rfl rfl rfl) (Rv.tmp rfl)) ?_)))))))))))
   rw [hk]
   replace S := ((S.nil_ 74 3 Dot.enc none).nil_ 30 3 Dot.enc none).nil_ 100 6 Ent.enc none
   exact ⟨_, _, rfl, S.wd.pk, none, 0, none, 0, none, 0, rfl, rfl⟩
end Go.Proofs.YtakpdbmdfnialaaGreat
namespace Go.Fw
open Go.RowKit
abbrev Nam := List UInt8 × Dot
def issuedB (met : List Nam) (u : Upd) : Bool := !decide ((u.key, u.dot) ∈ met) && decide (mayE u = 0)
def issuedF : Nat → List Nam → List SLog → Int × Int
 | _, _, [] => (0, 0)
 | i, met, x :: r => if x.kind = 1 then (if issuedB met x.u.1 = true then issuedF (i + 1) ((x.u.1.key, x.u.1.dot) :: met) r else ((i : Int), 260)) else issuedF (i + 1) met r
def issuedK (l : List SLog) : Int × Int := issuedF 0 [] l
theorem issuedF_at {l : List SLog} {x : SLog} {i : Nat} (h : l[i]? = some x) (met : List Nam) : issuedF i met (l.drop i) = if x.kind = 1 then (if issuedB met x.u.1 = true then issuedF (i + 1) ((x.u.1.key, x.u.1.dot) :: met) (l.drop (i + 1)) else ((i : Int), 260)) else issuedF (i + 1) met (l.drop (i + 1)) := by
 obtain ⟨h1, h2⟩ := List.getElem?_eq_some_iff.1 h
 rw [List.drop_eq_getElem_cons h1, h2, issuedF]
def MetN (m : List (Nam × Unit)) (met : List Nam) : Prop := ∀ k, k ∈ m.map (·.1) ↔ k ∈ met
theorem metN_put {m : List (Nam × Unit)} {met : List Nam} (h : MetN m met) (k : Nam) : MetN (aput m k ()) (k :: met) := fun x => by
 rw [aput_keys, List.mem_cons]
 split
 · rename_i hk
   rw [h x]
   exact ⟨.inr, fun h1 => h1.elim (fun e => by rw [e]; exact (h k).1 hk) id⟩
 · rw [List.mem_append, List.mem_singleton, h x]
   exact Or.comm
theorem metN_get {m : List (Nam × Unit)} {met : List Nam} (h : MetN m met) (k : Nam) : (aget m k).isSome = decide (k ∈ met) := by
 rw [Bool.eq_iff_iff, decide_eq_true_eq, ← h k]
 constructor
 · intro h1
   refine Decidable.byContradiction fun h2 => ?_
   rw [aget_none.2 h2] at h1
   cases h1
 · intro h1
   cases e : aget m k with
   | none => exact absurd h1 (aget_none.1 e)
   | some _ => rfl
end Go.Fw
namespace Go.Proofs.YtakpdbmdfnialaaGreat
open Go.Fw Go.Proofs Go.RowKit Go.Proofs.Tryz
abbrev kv171 : Nam → Value := fun p => .agg #[.string (bs p.1), .int .i64 p.2.node, .int .i64 p.2.life, .int .i64 p.2.count]
abbrev vv171 : Unit → Value := fun _ => .agg #[]
theorem run_eqNam (a b : Nam) (w : World) : (Op.equal 173 (kv171 a) (kv171 b)).run Tryz.prog w = .ok (decide (a = b)) w := by
 have h := eq173 (x0 := bs a.1) (y0 := bs b.1) (x1 := a.2.node) (y1 := b.2.node) (x2 := a.2.life) (y2 := b.2.life) (x3 := a.2.count) (y3 := b.2.count)
 have e : decide (bs a.1 = bs b.1 ∧ a.2.node = b.2.node ∧ a.2.life = b.2.life ∧ a.2.count = b.2.count) = decide (a = b) := decide_eq_decide.2 (by
   obtain ⟨k, d⟩ := a
   obtain ⟨k', d'⟩ := b
   cases d; cases d'
   simp [bs_inj])
 rw [e] at h
 exact (h w).2
theorem ask_nam (k : Nam) (β : Type) (vv : β → Value) (w : World) : ∀ (l : List (Nam × β)) (i : Nat), (Instr.findAsking 173 (kv171 k) (mL kv171 vv i l) i).run Tryz.prog w = .ok ((afind k i l).map fun p => (p.1, vv p.2)) w
 | [], i => by simp [mL, Instr.findAsking, afind]
 | (x, v) :: r, i => by
   simp only [mL, Instr.findAsking, Sem.run_bind, run_eqNam, Result.andThen_ok, afind]
   by_cases e : k = x
   · subst e
     simp
   · rw [if_neg e, decide_eq_false e]
     simpa using ask_nam k β vv w r (i + 1)
theorem keyNam : KeyL kv171 Tryz.prog 173 := by
 refine ⟨fun k β vv l w => ?_, fun b k w => ?_, fun k => ?_, fun k k' e => ?_⟩
 · have h := ask_nam k β vv w l 0
   cases l with
   | nil => simp [Instr.findKey, run_underlying underlying173, mL, Instr.findNow, afind]
   | cons p r => simp [Instr.findKey, run_underlying underlying173, mL, Instr.findNow, Instr.sameNow] at h ⊢; exact h
 · have hI : ∀ (n : Nat) (i : Int), (Instr.checkKey b (n + 1) 3 (.int .i64 i)).run Tryz.prog w = .ok () w := fun n i => by
     simp only [Instr.checkKey, Sem.run_bind, run_underlying underlying3, Result.andThen_ok]
     rfl
   have hS : ∀ (n : Nat) (s : ByteArray), (Instr.checkKey b (n + 1) 9 (.string s)).run Tryz.prog w = .ok () w := fun n s => by
     simp only [Instr.checkKey, Sem.run_bind, run_underlying underlying9, Result.andThen_ok]
     rfl
   have hD : ∀ (n : Nat) (x y z : Int), (Instr.checkKey b (n + 1 + 1) 74 (.agg #[.int .i64 x, .int .i64 y, .int .i64 z])).run Tryz.prog w = .ok () w := fun n x y z => by
     rw [Instr.checkKey]
     simp only [Sem.run_bind, run_underlying underlying74, Result.andThen_ok]
     simp [part, isAgg3, hI]
   have hc : (Instr.checkKey b (9997 + 1 + 1 + 1) 173 (kv171 k)).run Tryz.prog w = .ok () w := by
     rw [Instr.checkKey]
     simp only [Sem.run_bind, run_underlying underlying173, Result.andThen_ok]
     simp [part, isAgg9, isAgg74, sizeOf74, hS, hD]
   exact hc
 · have hb : (bs k.1 == bs k.1) = true := by
     show (k.1.toArray == k.1.toArray) = true
     simp
   have : Instr.sameBits (9999 + 1) (kv171 k) (kv171 k) = true := by simp [Instr.sameBits, hb]
   exact this
 · obtain ⟨k, d⟩ := k
   obtain ⟨k', d'⟩ := k'
   cases d; cases d'
   simp [bs_inj] at e
   simp [e]
theorem mapT171 : MapT kv171 vv171 Tryz.prog 171 () := mapT_mk underlying171 keyNam zeroValue144
theorem bld170 : BuildT Tryz.prog 170 [Value.int .i64 0, Value.nilFunc] [(0, 1), (1, 1)] := ⟨⟨_, zeroValue170, rfl⟩, _, underlying170, fun w => by simp [sizeOf3, sizeOf168]⟩
theorem o127 {w0 w : World} {L : List Chunk} {gm gc : Nat} {m : List (Nam × Unit)} {met : List Nam} {e : TypeId} (W : Wd w0 (.blk gm (mapK kv171 vv171 m) :: .blk gc (.cells #[.map (some gm)] e) :: L) w) (v : Value) (x : SLog) (hm : MetN m met) (h : LogRd w0 x) :
   RetsO Tryz.prog 127 #[v, .agg (SLog.enc x).toArray, .pointer (some ⟨gc, 0, none⟩)] w0 w fun u L' => u = .bool (issuedB met x.u.1) ∧ L' = .blk gm (mapK kv171 vv171 (aput m (x.u.1.key, x.u.1.dot) ())) :: .blk gc (.cells #[.map (some gm)] e) :: L := by
 have r1 := h.u.ents
 have r2 := h.u.ctx
 have rw_g := metN_get hm (x.u.1.key, x.u.1.dot)
 unfold Go.Fw.RetsO
 refine enterW3 W func127 rfl ntmps127 rfl fun a S => wp_seq_k fun _ hK1 => wp_region_lit (Zj (Zw S (.t rfl) rfl fun g1 a w S => run S (.ac rfl <| .z) fun a w S => Zb (Za (hK1 _ _ (wp_seq_k fun _ hK1 => wp_region_lit (run S (.fa underlying96 sizeOf77 3 rfl rfl rfl <| .fa underlying77 sizeOf9 3 rfl rfl rfl <| .ld gt9 0 rfl rfl rfl <| .fa underlying96 sizeOf77 3 rfl rfl rfl <| .fa underlying77 sizeOf74 4 rfl rfl rfl <| .la gt74 0 rfl rfl rfl <| .yy (Xd (ps := [(0, Go.Operand.tmp 11), (1, Go.Operand.tmp 14)]) (us := [_, _, _, _]) bld173 (.cons (.t rfl) (.cons (.t rfl) .nil)) rfl) rfl <| .z) fun a w S => Zj (Zn S zeroValue173 (cs := _) rfl rfl fun g2 a w S => Zj (Zq S sizeOf173 (.t rfl) (.t rfl) (k := 0) rfl rfl rfl (by simp [Value.oneCell']) fun a w S => Zb (Za (hK1 _ _ (wp_seq_k fun _ hK1 => wp_region_lit (run S (.ld gt171 3 rfl rfl rfl <| .la gt173 0 rfl rfl rfl <| .z) fun a w S => Yk S (Yr.ys (ys_lookOk (k := (x.u.1.key, x.u.1.dot)) mapT171 (.t rfl) (.t rfl) (j := 2) rfl)) rfl ?_))))))))))))
 clear S a w
 intro a w S
 refine run S (.mv rfl <| .z) fun a w S => ?_
 rw [rw_g] at S
 refine run S (.ex rfl rfl <| .ex rfl rfl <| .z) fun a w S => Zj (Zn S zeroValue144 (cs := _) rfl rfl fun g3 a w S => Zj (Zq S sizeOf144 (.t rfl) (.t rfl) (k := 0) rfl rfl rfl (by simp [Value.oneCell']) fun a w S => run S (.as rfl <| .z) fun a w S => Zb (Za (hK1 _ _ (wp_seq_k fun _ hK1 => wp_region_lit (run S (.ld gt171 4 rfl rfl rfl <| .la gt173 1 rfl rfl rfl <| .yy (Xd (ps := []) (us := []) bld144 .nil rfl) rfl <| .z) fun a w S => Zj (op_mapUpd (k := (x.u.1.key, x.u.1.dot)) (v := ()) S mapT171 (.t rfl) (.t rfl) (.t rfl) (j := 3) rfl ?_)))))))
 clear S a w
 intro a w S
 by_cases hmt : (x.u.1.key, x.u.1.dot) ∈ met
 · have rw_t := decide_eq_true hmt
   refine Zb ?_
   rw [rw_t] at S
   refine Za (hK1 _ _ (sg S (.mv rfl <| .nt rfl <| .mv rfl <| .sk rfl rfl rfl <| .sk rfl rfl rfl <| .sk rfl rfl rfl <| .sk rfl rfl rfl <| .yy (Zu (.t rfl) Ev.c) rfl <| .as rfl <| .z) fun a w S => wp_ret (Zm S (results1 S results127 (Rv.tmp rfl)) ?_)))
   exact ⟨_, _, rfl, S.wd.pk, by unfold issuedB; rw [rw_t]; rfl, rfl⟩
 · have rw_t := decide_eq_false hmt
   by_cases hmy : mayE x.u.1 = 0
   · have rw_m := decide_eq_true hmy
     refine Zb ?_
     rw [rw_t] at S
     refine Za (hK1 _ _ (sg S (.mv rfl <| .nt rfl <| .mv rfl <| .gy rfl rfl (Zc (FieldT.mk underlying96 rfl sizeOf77 rfl) (.t rfl) (i' := 3) rfl) <| .gy rfl rfl (Zz ⟨isAgg77, sizeOf77⟩ (.t rfl) (k := 2) rfl rfl) <| .gx rfl rfl (Zf call106 (.cons (.t rfl) .nil) (fun hp w W => c106 _ _ _ _ _ (by exact .old W (by assumption)) (by exact .old W (by assumption)))) <| .gy rfl rfl (Yu (by omega) (Ye (.t rfl) Ev.c)) <| .yy (Zv (.t rfl) (.t rfl)) rfl <| .as rfl <| .z) fun a w S => wp_ret (Zm S (results1 S results127 (Rv.tmp rfl)) ?_)))
     exact ⟨_, _, rfl, S.wd.pk, by unfold issuedB; rw [rw_t, rw_m]; rfl, rfl⟩
   · have rw_m := decide_eq_false hmy
     refine Zb ?_
     rw [rw_t] at S
     refine Za (hK1 _ _ (sg S (.mv rfl <| .nt rfl <| .mv rfl <| .gy rfl rfl (Zc (FieldT.mk underlying96 rfl sizeOf77 rfl) (.t rfl) (i' := 3) rfl) <| .gy rfl rfl (Zz ⟨isAgg77, sizeOf77⟩ (.t rfl) (k := 2) rfl rfl) <| .gx rfl rfl (Zf call106 (.cons (.t rfl) .nil) (fun hp w W => c106 _ _ _ _ _ (by exact .old W (by assumption)) (by exact .old W (by assumption)))) <| .gy rfl rfl (Yq (by omega) (Ye (.t rfl) Ev.c)) <| .yy (Zv (.t rfl) (.t rfl)) rfl <| .as rfl <| .z) fun a w S => wp_ret (Zm S (results1 S results127 (Rv.tmp rfl)) ?_)))
     exact ⟨_, _, rfl, S.wd.pk, by unfold issuedB; rw [rw_t, rw_m]; rfl, rfl⟩
theorem o126 {w0 w : World} {L : List Chunk} {gm gc : Nat} {e : TypeId} (W : Wd w0 (.blk gm (mapK kv171 vv171 []) :: .blk gc (.cells #[.map (some gm)] e) :: L) w) (v : Value) (l : List SLog) (h : Sl SLog.enc 22 w0 w0.heap.size v l) (hl : LogsRd w0 l) :
   RetsO Tryz.prog 126 #[.agg #[.int .i64 1, .func (.func 127) #[] #[.pointer (some ⟨gc, 0, none⟩)]], v] w0 w fun u L' => u = .tuple #[.int .i64 (issuedK l).1, .int .i64 (issuedK l).2] ∧ ∃ m, L' = .blk gm (mapK kv171 vv171 m) :: .blk gc (.cells #[.map (some gm)] e) :: L := by
 obtain ⟨A, cap, rfl, hl0, hcap, hA⟩ := h
 unfold Go.Fw.RetsO
 refine enterW2 W func126 rfl ntmps126 rfl fun a S => wp_seq_k fun _ hK1 => wp_region_lit (Zj (Zw S (.t rfl) rfl fun g1 a w S => run S (.ac rfl <| .ac rfl <| .z) fun a w S => Zb (Za (hK1 _ _ (wp_seq_k fun _ hK1 => sg S (.mv rfl <| .ln underlying84 rfl <| .mc rfl <| .z) fun a w S => wp_block ?_)))))
 refine Xb S [10] (X := Nat × List (Nam × Unit) × List Nam) (fun q => [(10, true, .int .i64 (q.1 : Int))])
   (fun q => .blk g1 (.cells #[.int .i64 1, .func (.func 127) #[] #[.pointer (some ⟨gc, 0, none⟩)]] 170) :: .blk gm (mapK kv171 vv171 q.2.1) :: .blk gc (.cells #[.map (some gm)] e) :: L)
   (fun q => q.1 ≤ l.length ∧ MetN q.2.1 q.2.2 ∧ issuedF q.1 q.2.2 (l.drop q.1) = issuedK l) (fun q => l.length - q.1) (0, [], []) ⟨Nat.zero_le _, fun k => by simp, rfl⟩ ?_
 clear S
 rintro ⟨q, m, met⟩ a w ⟨hq, hm, hF⟩ S
 dsimp only at hq hm hF S
 by_cases hlt : q < l.length
 · obtain ⟨gq, oq, x, rfl, hx, hd, hc⟩ := Yg hA hlt
   have hxr := hl x (List.mem_of_getElem? hx)
   rw [issuedF_at hx] at hF
   by_cases hk : x.kind = 1
   · have rw_k := decide_eq_true hk
     rw [if_pos hk] at hF
     cases hB : issuedB met x.u.1 with
     | true =>
       have rw_B := hB
       rw [if_pos hB] at hF
       have halt_r := trivial
       refine sg S (.lt (by omega) rfl rfl <| .z) fun a w S => wp_seq_k fun _ hK2 => Zg S (.t rfl) (wp_skip (Za (hK2 _ _ (wp_seq_k fun _ hK2 => wp_block (wp_seq_k fun _ hK3 => wp_region_lit (run S (.mv rfl <| .ix underlying84 sizeOf96 (by omega) rfl rfl <| .yy (Zp ⟨isAgg96, sizeOf96⟩ (.t rfl) (vs := [_, _, _, _, _, _, _, _, _, _, _, _, _, _, _, _, _, _, _, _, _, _]) rfl (fun _ => hc)) rfl <| .z) fun a w S => Zj (Zn S zeroValue96 (cs := _) rfl rfl fun g2 a w S => run S (.as rfl <| .z) fun a w S => Zj (Zq S sizeOf96 (.t rfl) (.t rfl) (k := 0) rfl rfl rfl (by simp [Value.oneCell']) fun a w S => Zb (Za (hK3 _ _ (wp_seq_k fun _ hK3 => ?_)))))))))))
       clear halt_r
       refine Wr S (by kernel_rfl) [.blk g2 (.cells (SLog.enc x).toArray 96), .blk g1 (.cells #[.int .i64 1, .func (.func 127) #[] #[.pointer (some ⟨gc, 0, none⟩)]] 170)] ?_
       clear S
       intro a w S
       have hold_r := trivial
       refine hy 0 S rfl (Zc (FieldT.mk underlying96 rfl sizeOf3 rfl) (.t rfl) (i' := 0) rfl) rfl fun a w S => hy 1 S rfl (Zt ⟨isAgg3, sizeOf3⟩ (.t rfl) (k := 0) rfl rfl) rfl fun a w S => hy 2 S rfl (Zc (FieldT.mk underlying170 rfl sizeOf3 rfl) (.t rfl) (i' := 0) rfl) rfl fun a w S => hy 3 S rfl (Zt ⟨isAgg3, sizeOf3⟩ (.t rfl) (k := 1) rfl rfl) rfl fun a w S => hy 4 S rfl (Yu (by omega) (Ye (.t rfl) (.t rfl))) rfl fun a w S => ?_
       refine hy 5 S rfl (Zi (.t rfl)) rfl fun a w S => hyt 6 S rfl rfl rfl (Zc (FieldT.mk underlying170 rfl sizeOf168 rfl) (.t rfl) (i' := 1) rfl) rfl fun a w S => hyt 7 S rfl rfl rfl (Zt ⟨isAgg168, sizeOf168⟩ (.t rfl) (k := 1) rfl rfl) rfl fun a w S => hyt 8 S rfl rfl rfl (Zi (.t rfl)) rfl fun a w S => hyt 9 S rfl rfl rfl (Zi (.t rfl)) rfl fun a w S => ?_
       refine hyt 10 S rfl rfl rfl (Va underlying84 sizeOf96 (.t rfl) (.t rfl) (fun _ => by first | omega | (simp; done) | (simp; omega))) rfl fun a w S => hyt 11 S rfl rfl rfl (Zz ⟨isAgg96, sizeOf96⟩ (.t rfl) (k := 0) rfl rfl) rfl fun a w S => ?_
       (replace S := S.pull 3 rfl; try simp only [List.set_cons_zero, List.set_cons_succ, List.eraseIdx_cons_succ, List.eraseIdx_cons_zero] at S; replace S := S.pull 3 rfl; try simp only [List.set_cons_zero, List.set_cons_succ, List.eraseIdx_cons_succ, List.eraseIdx_cons_zero] at S; refine h_mg (i := 12) S rfl (by kernel_rfl) rfl rfl (op_callVO (cs := [_]) S (.t rfl) call127 (.cons (.t rfl) (.cons (.t rfl) .nil)) (o127 S.wd _ _ (by first | assumption | omega | (dsimp only; omega) | exact Sl.nil_ | exact .old S.wd (by assumption) | exact Sl.of_own S.wd (k := 0) rfl (fun _ => rfl) | exact Sl.of_own S.wd (k := 1) rfl (fun _ => rfl) | exact Sl.of_own S.wd (k := 2) rfl (fun _ => rfl) | exact Sl.of_own S.wd (k := 3) rfl (fun _ => rfl) | (simp; done) | (simp at *; omega)) (by first | assumption | omega | (dsimp only; omega) | exact Sl.nil_ | exact .old S.wd (by assumption) | exact Sl.of_own S.wd (k := 0) rfl (fun _ => rfl) | exact Sl.of_own S.wd (k := 1) rfl (fun _ => rfl) | exact Sl.of_own S.wd (k := 2) rfl (fun _ => rfl) | exact Sl.of_own S.wd (k := 3) rfl (fun _ => rfl) | (simp; done) | (simp at *; omega))) rfl ?_) <;> clear S a w)
       rintro _ _ ⟨rfl, rfl⟩ a w S
       rw [rw_B] at S
       refine Yj S ?_
       refine hyt 13 S rfl rfl rfl (Xh (.t rfl)) rfl fun a w S => hy 14 S rfl (Zv (.t rfl) (.t rfl)) rfl fun a w S => Xf (by kernel_rfl) (Za (hK3 _ _ (Ze S (.t rfl) (wp_skip (Zk (Za (hK2 _ _ (wp_region_lit (run S (.ad (by unfold I64; omega) rfl <| .mv rfl <| .z) fun a w S => Zb (Za ?_))))))))))
       exact ⟨(q + 1, aput m (x.u.1.key, x.u.1.dot) (), (x.u.1.key, x.u.1.dot) :: met), ⟨by dsimp only; omega, metN_put hm _, hF⟩, by dsimp only; omega, S.pk⟩
     | false =>
       have rw_B := hB
       rw [if_neg (by rw [hB]; decide)] at hF
       have halt_r := trivial
       refine sg S (.lt (by omega) rfl rfl <| .z) fun a w S => wp_seq_k fun _ hK2 => Zg S (.t rfl) (wp_skip (Za (hK2 _ _ (wp_seq_k fun _ hK2 => wp_block (wp_seq_k fun _ hK3 => wp_region_lit (run S (.mv rfl <| .ix underlying84 sizeOf96 (by omega) rfl rfl <| .yy (Zp ⟨isAgg96, sizeOf96⟩ (.t rfl) (vs := [_, _, _, _, _, _, _, _, _, _, _, _, _, _, _, _, _, _, _, _, _, _]) rfl (fun _ => hc)) rfl <| .z) fun a w S => Zj (Zn S zeroValue96 (cs := _) rfl rfl fun g2 a w S => run S (.as rfl <| .z) fun a w S => Zj (Zq S sizeOf96 (.t rfl) (.t rfl) (k := 0) rfl rfl rfl (by simp [Value.oneCell']) fun a w S => Zb (Za (hK3 _ _ (wp_seq_k fun _ hK3 => ?_)))))))))))
       clear halt_r
       refine Wr S (by kernel_rfl) [.blk g2 (.cells (SLog.enc x).toArray 96), .blk g1 (.cells #[.int .i64 1, .func (.func 127) #[] #[.pointer (some ⟨gc, 0, none⟩)]] 170)] ?_
       clear S
       intro a w S
       have hold_r := trivial
       refine hy 0 S rfl (Zc (FieldT.mk underlying96 rfl sizeOf3 rfl) (.t rfl) (i' := 0) rfl) rfl fun a w S => hy 1 S rfl (Zt ⟨isAgg3, sizeOf3⟩ (.t rfl) (k := 0) rfl rfl) rfl fun a w S => hy 2 S rfl (Zc (FieldT.mk underlying170 rfl sizeOf3 rfl) (.t rfl) (i' := 0) rfl) rfl fun a w S => hy 3 S rfl (Zt ⟨isAgg3, sizeOf3⟩ (.t rfl) (k := 1) rfl rfl) rfl fun a w S => hy 4 S rfl (Yu (by omega) (Ye (.t rfl) (.t rfl))) rfl fun a w S => ?_
       refine hy 5 S rfl (Zi (.t rfl)) rfl fun a w S => hyt 6 S rfl rfl rfl (Zc (FieldT.mk underlying170 rfl sizeOf168 rfl) (.t rfl) (i' := 1) rfl) rfl fun a w S => hyt 7 S rfl rfl rfl (Zt ⟨isAgg168, sizeOf168⟩ (.t rfl) (k := 1) rfl rfl) rfl fun a w S => hyt 8 S rfl rfl rfl (Zi (.t rfl)) rfl fun a w S => hyt 9 S rfl rfl rfl (Zi (.t rfl)) rfl fun a w S => ?_
       refine hyt 10 S rfl rfl rfl (Va underlying84 sizeOf96 (.t rfl) (.t rfl) (fun _ => by first | omega | (simp; done) | (simp; omega))) rfl fun a w S => hyt 11 S rfl rfl rfl (Zz ⟨isAgg96, sizeOf96⟩ (.t rfl) (k := 0) rfl rfl) rfl fun a w S => ?_
       (replace S := S.pull 3 rfl; try simp only [List.set_cons_zero, List.set_cons_succ, List.eraseIdx_cons_succ, List.eraseIdx_cons_zero] at S; replace S := S.pull 3 rfl; try simp only [List.set_cons_zero, List.set_cons_succ, List.eraseIdx_cons_succ, List.eraseIdx_cons_zero] at S; refine h_mg (i := 12) S rfl (by kernel_rfl) rfl rfl (op_callVO (cs := [_]) S (.t rfl) call127 (.cons (.t rfl) (.cons (.t rfl) .nil)) (o127 S.wd _ _ (by first | assumption | omega | (dsimp only; omega) | exact Sl.nil_ | exact .old S.wd (by assumption) | exact Sl.of_own S.wd (k := 0) rfl (fun _ => rfl) | exact Sl.of_own S.wd (k := 1) rfl (fun _ => rfl) | exact Sl.of_own S.wd (k := 2) rfl (fun _ => rfl) | exact Sl.of_own S.wd (k := 3) rfl (fun _ => rfl) | (simp; done) | (simp at *; omega)) (by first | assumption | omega | (dsimp only; omega) | exact Sl.nil_ | exact .old S.wd (by assumption) | exact Sl.of_own S.wd (k := 0) rfl (fun _ => rfl) | exact Sl.of_own S.wd (k := 1) rfl (fun _ => rfl) | exact Sl.of_own S.wd (k := 2) rfl (fun _ => rfl) | exact Sl.of_own S.wd (k := 3) rfl (fun _ => rfl) | (simp; done) | (simp at *; omega))) rfl ?_) <;> clear S a w)
       rintro _ _ ⟨rfl, rfl⟩ a w S
       rw [rw_B] at S
       refine Yj S ?_
       refine hyt 13 S rfl rfl rfl (Xh (.t rfl)) rfl fun a w S => hy 14 S rfl (Zv (.t rfl) (.t rfl)) rfl fun a w S => Xf (by kernel_rfl) (Za (hK3 _ _ (Zg S (.t rfl) (sg S (.mv rfl <| .as rfl <| .ac rfl <| .z) fun a w S => wp_ret (Zr (Zd (Zd (Zr (Zd (Zm S (results2 S results126 (Rv.tmp rfl) (Rv.tmp rfl)) ?_))))))))))
       rw [← hF]
       exact ⟨_, _, rfl, S.wd.pk, rfl, aput m (x.u.1.key, x.u.1.dot) (), rfl⟩
   · have rw_k := decide_eq_false hk
     rw [if_neg hk] at hF
     refine sg S (.lt (by omega) rfl rfl <| .z) fun a w S => wp_seq_k fun _ hK2 => Zg S (.t rfl) (wp_skip (Za (hK2 _ _ (wp_seq_k fun _ hK2 => wp_block (wp_seq_k fun _ hK3 => wp_region_lit (run S (.mv rfl <| .ix underlying84 sizeOf96 (by omega) rfl rfl <| .yy (Zp ⟨isAgg96, sizeOf96⟩ (.t rfl) (vs := [_, _, _, _, _, _, _, _, _, _, _, _, _, _, _, _, _, _, _, _, _, _]) rfl (fun _ => hc)) rfl <| .z) fun a w S => Zj (Zn S zeroValue96 (cs := _) rfl rfl fun g2 a w S => run S (.as rfl <| .z) fun a w S => Zj (Zq S sizeOf96 (.t rfl) (.t rfl) (k := 0) rfl rfl rfl (by simp [Value.oneCell']) fun a w S => Zb (Za (hK3 _ _ (wp_seq_k fun _ hK3 => Yc S (by kernel_rfl) (by kernel_rfl) fun a S => qrun S (.fa underlying96 sizeOf3 0 rfl rfl rfl <| .ld gt3 0 rfl rfl rfl <| .fa underlying170 sizeOf3 0 rfl rfl rfl <| .ld gt3 1 rfl rfl rfl <| .yy (Yq (by omega) (Ye (.t rfl) (.t rfl))) rfl <| .mv rfl <| .sk rfl rfl rfl <| .sk rfl rfl rfl <| .sk rfl rfl rfl <| .sk rfl rfl rfl <| .sk rfl rfl rfl <| .sk rfl rfl rfl <| .sk rfl rfl rfl <| .sk rfl rfl rfl <| .yy (Zu (.t rfl) Ev.c) rfl <| .z) fun a S => ?_)))))))))))
     (refine Yt ?_; intro w W; replace S := St.mk S W; clear W)
     refine Za (hK3 _ _ (Ze S (.t rfl) (wp_skip (Zk (Za (hK2 _ _ (wp_region_lit (run S (.ad (by unfold I64; omega) rfl <| .mv rfl <| .z) fun a w S => Zb (Za ?_)))))))))
     exact ⟨(q + 1, m, met), ⟨by dsimp only; omega, hm, hF⟩, by dsimp only; omega, S.pk⟩
 obtain rfl : q = l.length := by omega
 rw [List.drop_length] at hF
 refine sg S (.ge (by omega) rfl rfl <| .z) fun a w S => wp_seq_k fun _ hK2 => Ze S (.t rfl) (wp_exit (Zh (Zh (Ya (Za (hK1 _ _ (sg S (.ac rfl <| .ac rfl <| .z) fun a w S => wp_ret (Zm S (results2 S results126 (Rv.tmp rfl) (Rv.tmp rfl)) ?_))))))))
 rw [← hF]
 exact ⟨_, _, rfl, S.wd.pk, rfl, m, rfl⟩
theorem c52 (w0 : World) (v : Value) (l : List SLog) (h : Sl SLog.enc 22 w0 w0.heap.size v l) (hl : LogsRd w0 l) :
   Calls Tryz.prog 52 #[v] w0 fun e w' => e = .returned (.tuple #[.int .i64 (issuedK l).1, .int .i64 (issuedK l).2]) ∧ Bel w0.heap.size w0 w' := by
 refine enter1 func52 rfl ntmps52 rfl fun a S => sg S (.ac rfl <| .ac rfl <| .z) fun a w S => wp_seq_k fun _ hK1 => wp_region_lit (Zj (op_makeMap kv171 vv171 S rfl fun g1 a w S => Zj (Zn S zeroValue171 (cs := _) rfl rfl fun g2 a w S => Zj (op_st S sizeOf171 (.t rfl) (.t rfl) (k := 0) rfl rfl (by simp) fun a w S => Zb (Za (hK1 _ _ (wp_seq_k fun _ hK1 => wp_region_lit (run S (.yy (ys_mkFunc (.cons (.t rfl) .nil)) rfl <| .yy (Xd (ps := [(0, _), (1, Go.Operand.tmp 6)]) (us := [_, _]) bld170 (.cons Ev.c (.cons (.t rfl) .nil)) rfl) rfl <| .mv rfl <| .z) fun a w S => ?_))))))))
 (replace S := S.pull 0 rfl; try simp only [List.set_cons_zero, List.set_cons_succ, List.eraseIdx_cons_succ, List.eraseIdx_cons_zero] at S; replace S := S.pull 1 rfl; try simp only [List.set_cons_zero, List.set_cons_succ, List.eraseIdx_cons_succ, List.eraseIdx_cons_zero] at S; refine Zj (Vn S call126 (.cons (.t rfl) (.cons (.t rfl) .nil)) (o126 S.wd _ _ (by first | assumption | omega | (dsimp only; omega) | exact Sl.nil_ | exact .old S.wd (by assumption) | exact Sl.of_own S.wd (k := 0) rfl (fun _ => rfl) | exact Sl.of_own S.wd (k := 1) rfl (fun _ => rfl) | (simp; done) | (simp at *; omega)) (by first | assumption | omega | (dsimp only; omega) | exact Sl.nil_ | exact .old S.wd (by assumption) | exact Sl.of_own S.wd (k := 0) rfl (fun _ => rfl) | exact Sl.of_own S.wd (k := 1) rfl (fun _ => rfl) | (simp; done) | (simp at *; omega))) rfl ?_) <;> clear S a w)
 rintro _ _ ⟨rfl, hr1⟩ a w S
 refine run S (.ex rfl rfl <| .ex rfl rfl <| .as rfl <| .as rfl <| .z) fun a w S => Zb (Za (hK1 _ _ (wp_ret (Zm S (results2 S results52 (Rv.tmp rfl) (Rv.tmp rfl)) ?_))))
 exact ⟨rfl, S.wd.below⟩
theorem c156 (w0 : World) (v1 v2 v3 : Value) (X : Cart) (d : Dot) (g : Nat) (hr : RdCtx w0 w0.heap.size v2 v3 X.ctx) (h1 : w0.cell? ⟨g, 1, none⟩ = some (.int .i64 d.node)) (h2 : w0.cell? ⟨g, 2, none⟩ = some (.int .i64 d.life)) (h3 : w0.cell? ⟨g, 3, none⟩ = some (.int .i64 d.count)) :
   Calls Tryz.prog 156 #[.agg #[v1, v2, v3], .pointer (some ⟨g, 0, none⟩)] w0 fun e w' => e = .returned (.bool (X.ctx.covers d)) ∧ Bel w0.heap.size w0 w' := by
 have hdc := dot_cells (d := d) h1 h2 h3
 refine enter2 func156 rfl ntmps156 rfl fun a S => wp_seq_k fun _ hK1 => wp_region_lit (Zj (Zw S (.t rfl) rfl fun g1 a w S => run S (.ac rfl <| .z) fun a w S => Zb (Za (hK1 _ _ (sg S (.fa underlying37 sizeOf35 1 rfl rfl rfl <| .la gt35 0 rfl rfl rfl <| .fa underlying77 sizeOf74 1 rfl rfl rfl <| .yy (Zp ⟨isAgg74, sizeOf74⟩ (.t rfl) (vs := [_, _, _]) rfl (fun _ => hdc)) rfl <| .xx (Zf call109 (.cons (.t rfl) (.cons (.t rfl) .nil)) (fun hp w W => c109 _ _ _ _ _ _ _ (by exact .old W (by assumption)))) rfl <| .as rfl <| .z) fun a w S => wp_ret (Zm S (results1 S results156 (Rv.tmp rfl)) ?_))))))
 exact ⟨rfl, S.wd.below⟩
theorem c105 (w0 : World) (u : Upd) (v1 v2 v3 v : Value) (l : List SCart) (h : Sl SCart.enc 3 w0 w0.heap.size v l) (hc : CartsRd w0 l) :
   Calls Tryz.prog 105 #[.agg (Upd.enc u v1 v2 v3).toArray, v] w0 fun e w' => e = .returned (.bool (l.any fun c => c.1.ctx.covers u.dot)) ∧ Bel w0.heap.size w0 w' := by
 have hs := h
 have rw_i := idxW_any (fun c : SCart => c.1.ctx.covers u.dot) l 0
 refine enter2 func105 rfl ntmps105 rfl fun a S => wp_seq_k fun _ hK1 => wp_region_lit (Zj (Zw S (.t rfl) rfl fun g1 a w S => run S (.ac rfl <| .z) fun a w S => Zb (Za (hK1 _ _ (wp_seq_k fun _ hK1 => wp_region_lit (run S (.mv rfl <| .yy (ys_mkFunc (.cons (.t rfl) .nil)) rfl <| .z) fun a w S => ?_))))))
 refine Yk S (Zf call155 (.cons (.t rfl) (.cons (.t rfl) .nil)) (fun _ w' W' => x155 w' _ l 156 [.pointer (some ⟨g1, 0, none⟩)] (fun c => c.1.ctx.covers u.dot) call156
   (fun w'' W'' y hy => c156 w'' _ _ _ y.1 u.dot g1 (((hc y hy).old W').old W'').ctx (Wd.cellOld W'' (Wd.cell W' (k := 0) rfl rfl)) (Wd.cellOld W'' (Wd.cell W' (k := 0) rfl rfl)) (Wd.cellOld W'' (Wd.cell W' (k := 0) rfl rfl))) (Sl.old W' hs))) rfl ?_
 clear S a w
 intro a w S
 refine run S (.yy (Xp (.t rfl) Ev.c) rfl <| .z) fun a w S => ?_
 rw [rw_i] at S
 refine run S (.as rfl <| .z) fun a w S => Zb (Za (hK1 _ _ (wp_ret (Zm S (results1 S results105 (Rv.tmp rfl)) ?_))))
 exact ⟨rfl, S.wd.below⟩
end Go.Proofs.YtakpdbmdfnialaaGreat
namespace Go.Fw
open Go.RowKit
def Wants (ops : Array Oper) (K : KL) : Option (Nat × Bool) → Prop
 | none => True
 | some (j, p) => ∃ t, (ops[j]?).bind (·.dst) = some t ∧ look K t = some (true, .bool p)
section
variable {P : Program} {Q : Exit → Act → World → Prop} {n : Nat} {w0 : World} {K : KL} {L Lr : List Chunk} {a : Act} {w : World} {ops : Array Oper} {fuel : Nat} {listed : Array Bool} {md : Region.Mode}
theorem h_pick {i : Nat} {d : Option Tmp} {op : Op} {ty : TypeId} {pos : String} {aft : Array Edge} {g : Option (Nat × Bool)} (S : St n w0 K L a w) (hi : ops[i]? = some ⟨d, op, ty, pos, aft, g⟩) (hw : Wants ops K g)
   (h : Oper.wp P ⟨d, op, ty, pos, aft, g⟩ a w (fun a' w' => Wd w0 Lr w' ∧ wpAnyH P md ops Q (Wd w0 Lr) fuel (listed.setIfInBounds i true) a' w') Q) : wpOp P ops Q i (fun a' w' => Wd w0 Lr w' ∧ wpAnyH P md ops Q (Wd w0 Lr) fuel (listed.setIfInBounds i true) a' w') a w := by
 cases g with
 | none =>
   unfold wpOp
   simp only [hi, Region.wanted, if_true]
   exact .inl h
 | some g =>
   obtain ⟨j, p⟩ := g
   obtain ⟨t, hj, hl⟩ := hw
   have hyd := Xj S.kn hj hl
   unfold wpOp
   simp only [hi, Region.wanted, hyd, cond_true]
   simpa using Or.inl h
theorem h_splitw {i j : Nat} {di dj : Option Tmp} {opi opj : Op} {tyi tyj : TypeId} {posi posj : String} {ai aj : Array Edge} {gi gj : Option (Nat × Bool)} (S : St n w0 K L a w) (hr : Region.ready md ops listed = [i, j]) (hi : ops[i]? = some ⟨di, opi, tyi, posi, ai, gi⟩) (hj : ops[j]? = some ⟨dj, opj, tyj, posj, aj, gj⟩)
   (wi : Wants ops K gi) (wj : Wants ops K gj)
   (h1 : Oper.wp P ⟨di, opi, tyi, posi, ai, gi⟩ a w (fun a' w' => Wd w0 Lr w' ∧ wpAnyH P md ops Q (Wd w0 Lr) fuel (listed.setIfInBounds i true) a' w') Q)
   (h2 : Oper.wp P ⟨dj, opj, tyj, posj, aj, gj⟩ a w (fun a' w' => Wd w0 Lr w' ∧ wpAnyH P md ops Q (Wd w0 Lr) fuel (listed.setIfInBounds j true) a' w') Q) : wpAnyH P md ops Q (Wd w0 Lr) (fuel + 1) listed a w :=
 wpAnyH_all hr (by simp) fun k hk => by
   simp only [List.mem_cons, List.not_mem_nil, or_false] at hk
   rcases hk with rfl | rfl
   · exact h_pick S hi wi h1
   · exact h_pick S hj wj h2
end
end Go.Fw
namespace Go.Fw
open Go.RowKit
abbrev U1 : Upd := ⟨[107], ⟨0, 1, 1⟩, [109, 105, 108, 107], 1, 0, Cart.zero⟩
abbrev S0 : Sls3 := ⟨none, 0, 0, none, 0, 0, none, 0, 0⟩
def C1 : Cart := ⟨[U1.ent], ⟨[⟨0, 1, 1⟩], []⟩⟩
theorem meant_one : meantK [U1] = (C1, 0) := by decide +kernel
theorem room_one : RoomU [U1] := room_few (by decide)
abbrev L1 : SLog := ⟨1, 0, 0, (U1, S0), 0, 0, [107], (Cart.zero, S0), (Cart.zero, S0)⟩
theorem issued_two : issuedK [L1, L1] = (1, 260) := by decide +kernel
end Go.Fw
namespace Go.Proofs.YtakpdbmdfnialaaGreat
open Go.Fw Go.Proofs Go.RowKit Go.Proofs.Tryz
theorem c104 (w0 : World) : Calls Tryz.prog 104 #[] w0 fun e w' => e = .returned (.agg (Upd.enc U1 (.slice none 0 0) (.slice none 0 0) (.slice none 0 0)).toArray) ∧ Bel w0.heap.size w0 w' := by
 refine enter0 func104 rfl ntmps104 rfl fun a S => wp_seq_k fun _ hK1 => wp_region_lit (Zj (Zn S zeroValue77 (cs := _) rfl rfl fun g1 a w S => Zb (Za (hK1 _ _ (wp_seq_k fun _ hK1 => wp_region_lit (run S (.yy (Xd (ps := [(0, _), (1, _), (2, _)]) (us := [_, _, _]) bld74 (.cons Ev.c (.cons Ev.c (.cons Ev.c .nil))) rfl) rfl <| .yy (Xd (ps := [(0, _), (1, Go.Operand.tmp 1), (2, _), (3, _)]) (us := [_, _, _, _, _, _, _, _, _, _]) bld77 (.cons Ev.c (.cons (.t rfl) (.cons Ev.c (.cons Ev.c .nil)))) rfl) rfl <| .z) fun a w S => Zj (Zq S sizeOf77 (.t rfl) (.t rfl) (k := 0) rfl rfl rfl (by simp [Value.oneCell']) fun a w S => Zb (Za (hK1 _ _ (wp_ret (Zm S (results1 S results104 (Rv.cell (k := 0) ⟨isAgg77, sizeOf77⟩ rfl rfl rfl)) ?_)))))))))))
 exact ⟨rfl, S.wd.below⟩
theorem c38 (w0 : World) : Calls Tryz.prog 38 #[] w0 fun e w' => e = .returned (.bool true) ∧ Bel w0.heap.size w0 w' := by
 have hu : ∀ w, UpdsRd w [(U1, S0)] := fun w x hx => by
   rw [List.mem_singleton.1 hx]
   exact ⟨Sl.nil_, Sl.nil_, Sl.nil_⟩
 have hl : ∀ w, LogsRd w [L1, L1] := fun w x hx => by
   have e : x = L1 := by simpa using hx
   rw [e]
   exact ⟨⟨Sl.nil_, Sl.nil_, Sl.nil_⟩, ⟨Sl.nil_, Sl.nil_, Sl.nil_⟩, ⟨Sl.nil_, Sl.nil_, Sl.nil_⟩⟩
 have hm : meantK (List.map (fun x : SUpd => x.1) [(U1, S0)]) = (C1, 0) := meant_one
 refine enter0 func38 rfl ntmps38 rfl fun a S => sg S (.ac rfl <| .z) fun a w S => wp_seq_k fun _ hK1 => wp_region_lit (run S (.xx (Zf call104 .nil (fun hp w W => c104 _)) rfl <| .z) fun a w S => Zj (Yf S underlying72 inf77 rfl rfl rfl (.t rfl) rfl rfl rfl fun g1 a w S => Zj (Yb S call39 (.cons (.t rfl) .nil) (c39 _ _ [(U1, S0)] (Sl.of_blk (enc := SUpd.enc) (cap := 1) [(U1, S0)] S.wd (k := 0) rfl rfl SUpd.enc_len (Nat.le_refl 1) (by decide)) (hu _) (by decide) room_one) rfl ?_)))
 clear S a w
 rintro _ _ ⟨A1, r1, A2, r2, A3, r3, rfl, rfl⟩ a w S
 simp only [hm] at S
 refine run S (.mv rfl <| .ex rfl rfl <| .ex rfl rfl <| .z) fun a w S => Zj (Zn S zeroValue37 (cs := _) rfl rfl fun g2 a w S => Zj (Zq S sizeOf37 (.t rfl) (.t rfl) (k := 0) rfl rfl rfl (by simp [Value.oneCell']) fun a w S => run S (.as rfl <| .z) fun a w S => Zb (Za (hK1 _ _ (wp_seq_k fun _ hK1 => wp_region_lit (run S (.xx (Zf call104 .nil (fun hp w W => c104 _)) rfl <| .yy (Xd (ps := [(0, _), (3, Go.Operand.tmp 12), (5, _)]) (us := [_, _, _, _, _, _, _, _, _, _, _, _, _, _, _, _, _, _, _, _, _, _]) bld96 (.cons Ev.c (.cons (.t rfl) (.cons Ev.c .nil))) rfl) rfl <| .xx (Zf call104 .nil (fun hp w W => c104 _)) rfl <| .yy (Xd (ps := [(0, _), (3, Go.Operand.tmp 14), (5, _)]) (us := [_, _, _, _, _, _, _, _, _, _, _, _, _, _, _, _, _, _, _, _, _, _]) bld96 (.cons Ev.c (.cons (.t rfl) (.cons Ev.c .nil))) rfl) rfl <| .z) fun a w S => Zj (Ww (ps := [(0, Go.Operand.tmp 13), (1, Go.Operand.tmp 15)]) (us := [_, _, _, _, _, _, _, _, _, _, _, _, _, _, _, _, _, _, _, _, _, _, _, _, _, _, _, _, _, _, _, _, _, _, _, _, _, _, _, _, _, _, _, _]) S underlying84 sizeOf96 zeroValue96 rfl rfl (.cons (.t rfl) (.cons (.t rfl) .nil)) rfl rfl fun g3 a w S => run S (.as rfl <| .z) fun a w S => Zb (Za (hK1 _ _ (wp_seq_k fun _ hK1 => wp_region_lit (run S (.mv rfl <| .z) fun a w S => ?_)))))))))))
 refine Yk S (Zf call52 (.cons (.t rfl) .nil) (fun _ w' W' => c52 w' _ [L1, L1] (Sl.of_blk (enc := SLog.enc) (cap := 2) [L1, L1] W' (k := 0) rfl rfl SLog.enc_len (Nat.le_refl 2) (by decide)) (hl _))) rfl ?_
 clear S a w
 intro a w S
 simp only [issued_two] at S
 have rw_c1 : ((C1.ents.length : Nat) : Int) = 1 := rfl
 have rw_kp : ∀ s : Sls3, (List.any [(C1, s)] fun c : SCart => c.1.ctx.covers U1.dot) = true := fun s => by
   rw [List.any_cons, List.any_nil, Bool.or_false]
   exact (by decide +kernel : C1.ctx.covers U1.dot = true)
 refine run S (.mv rfl <| .ex rfl rfl <| .ex rfl rfl <| .as rfl <| .as rfl <| .z) fun a w S => Zb (Za (hK1 _ _ (wp_seq_k fun _ hK1 => h_begin0 S (by kernel_rfl) fun a w S => hy 0 S rfl (Zi (.t rfl)) rfl fun a w S => hy 1 S rfl (Yu (by omega) (Ye (.t rfl) Ev.c)) rfl fun a w S => hy 2 S rfl (Zi (.t rfl)) rfl fun a w S => hyt 3 S rfl rfl rfl (Zc (FieldT.mk underlying37 rfl sizeOf31 rfl) (.t rfl) (i' := 0) rfl) rfl fun a w S => ?_)))
 refine hyt 4 S rfl rfl rfl (Zt ⟨isAgg31, sizeOf31⟩ (.t rfl) (k := 1) rfl rfl) rfl fun a w S => hyt 5 S rfl rfl rfl (Wt underlying31 (.t rfl)) rfl fun a w S => ?_
 rw [rw_c1] at S
 refine hyt 6 S rfl rfl rfl (Yu (by omega) (Ye (.t rfl) Ev.c)) rfl fun a w S => hy 7 S rfl (Zv (.t rfl) (.t rfl)) rfl fun a w S => hy 8 S rfl (Zi (.t rfl)) rfl fun a w S => hyt 9 S rfl rfl rfl (Zi (.t rfl)) rfl fun a w S => hyt 10 S rfl rfl rfl (Yu (by omega) (Ye (.t rfl) Ev.c)) rfl fun a w S => ?_
 refine hy 11 S rfl (Zv (.t rfl) (.t rfl)) rfl fun a w S => hy 12 S rfl (Zi (.t rfl)) rfl fun a w S => hyt 13 S rfl rfl rfl (Zi (.t rfl)) rfl fun a w S => hyt 14 S rfl rfl rfl (Yu (by omega) (Ye (.t rfl) Ev.c)) rfl fun a w S => hy 15 S rfl (Zv (.t rfl) (.t rfl)) rfl fun a w S => ?_
 refine hy 16 S rfl (Zi (.t rfl)) rfl fun a w S => hyt 18 S rfl rfl rfl (Zz ⟨isAgg37, sizeOf37⟩ (.t rfl) (k := 1) rfl rfl) rfl fun a w S => ?_
 refine h_splitw S (i := 17) (j := 19) (by kernel_rfl) rfl rfl ⟨_, rfl, rfl⟩ ⟨_, rfl, rfl⟩ ?_ ?_
 (refine Vf S (Zf call104 .nil (fun hp w W => c104 _)) rfl ?_; clear S a w; intro a w S; refine Yj S ?_)
 (refine h_mg (i := 19) S rfl (by kernel_rfl) rfl rfl (Yf S underlying64 inf37 rfl rfl rfl (.t rfl) rfl rfl rfl ?_); clear S a w; intro g4 a w S; refine h_n2 S ?_)
 rotate_left
 (refine Yf S underlying64 inf37 rfl rfl rfl (.t rfl) rfl rfl rfl ?_; clear S a w; intro g4 a w S; refine Yj S ?_)
 refine h_qg (i := 17) S (by repeat (first | exact List.Sublist.refl _ | exact List.nil_sublist _ | refine .cons_cons _ ?_ | refine .cons _ ?_)) rfl (by kernel_rfl) rfl rfl (Zf call104 .nil (fun hp w W => c104 _)) rfl fun a w S => ?_
 rotate_left
 · refine h_qg (i := 20) S (by repeat (first | exact List.Sublist.refl _ | exact List.nil_sublist _ | refine .cons_cons _ ?_ | refine .cons _ ?_)) rfl (by kernel_rfl) rfl rfl (Zf call105 (.cons (.t rfl) (.cons (.t rfl) .nil)) (fun hp w W => c105 w _ _ _ _ _ [(C1, ⟨A1, C1.ents.length, r1, A2, C1.ctx.marks.length, r2, A3, C1.ctx.cloud.length, r3⟩)]
     (Sl.of_blk (enc := SCart.enc) (cap := 1) [(C1, ⟨A1, C1.ents.length, r1, A2, C1.ctx.marks.length, r2, A3, C1.ctx.cloud.length, r3⟩)] W (k := 0) rfl rfl SCart.enc_len (Nat.le_refl 1) (by decide))
     (fun x hx => by rw [List.mem_singleton.1 hx]; exact ⟨Sl.of_own W (k := 3) rfl (fun _ => rfl), Sl.of_own W (k := 4) rfl (fun _ => rfl), Sl.of_own W (k := 5) rfl (fun _ => rfl)⟩))) rfl ?_
   clear S
   intro a w S
   refine hy 21 S rfl (Zv (.t rfl) (.t rfl)) rfl fun a w S => ?_
   rw [rw_kp] at S
   refine hy 22 S rfl (Yi (.t rfl)) rfl fun a w S => Xf (by kernel_rfl) (Za (hK1 _ _ (wp_ret (Zm S (results1 S results38 (Rv.tmp rfl)) ?_))))
   exact ⟨rfl, S.wd.below⟩
 · refine h_qg (i := 20) S (by repeat (first | exact List.Sublist.refl _ | exact List.nil_sublist _ | refine .cons_cons _ ?_ | refine .cons _ ?_)) rfl (by kernel_rfl) rfl rfl (Zf call105 (.cons (.t rfl) (.cons (.t rfl) .nil)) (fun hp w W => c105 w _ _ _ _ _ [(C1, ⟨A1, C1.ents.length, r1, A2, C1.ctx.marks.length, r2, A3, C1.ctx.cloud.length, r3⟩)]
     (Sl.of_blk (enc := SCart.enc) (cap := 1) [(C1, ⟨A1, C1.ents.length, r1, A2, C1.ctx.marks.length, r2, A3, C1.ctx.cloud.length, r3⟩)] W (k := 0) rfl rfl SCart.enc_len (Nat.le_refl 1) (by decide))
     (fun x hx => by rw [List.mem_singleton.1 hx]; exact ⟨Sl.of_own W (k := 3) rfl (fun _ => rfl), Sl.of_own W (k := 4) rfl (fun _ => rfl), Sl.of_own W (k := 5) rfl (fun _ => rfl)⟩))) rfl ?_
   clear S
   intro a w S
   refine hy 21 S rfl (Zv (.t rfl) (.t rfl)) rfl fun a w S => ?_
   rw [rw_kp] at S
   refine hy 22 S rfl (Yi (.t rfl)) rfl fun a w S => Xf (by kernel_rfl) (Za (hK1 _ _ (wp_ret (Zm S (results1 S results38 (Rv.tmp rfl)) ?_))))
   exact ⟨rfl, S.wd.below⟩
end Go.Proofs.YtakpdbmdfnialaaGreat
namespace Go.Fw
theorem cart_lens {c : Cart} (h : CartOk c) : c.ents.length ≤ 64 ∧ c.ctx.marks.length ≤ 64 ∧ c.ctx.cloud.length ≤ 64 := ⟨h.len, (can_len h.ctx).1, (can_len h.ctx).2⟩
end Go.Fw
namespace Go.Proofs.YtakpdbmdfnialaaGreat
open Go.Fw Go.Proofs Go.RowKit Go.Proofs.Tryz
end Go.Proofs.YtakpdbmdfnialaaGreat
namespace Go.Proofs.YtakpdbmdfnialaaGreat
open Go.Fw Go.Proofs Go.RowKit Go.ChangeShapes Go.WideShapes Go.ChangeAt Go.Deep Go.Joins Go.Proofs.Tryz
section
variable {H : Type} {enc : TypeId × Value → H} {w : World}
def lensC (X : Cart) (b : Nat) : Prop := X.ents.length ≤ b ∧ X.ctx.marks.length ≤ b ∧ X.ctx.cloud.length ≤ b
def SuRd (w : World) (s : SUpd) (b : Nat) : Prop := CartRd w s.1.seen s.2 ∧ lensC s.1.seen b ∧ s.1.key.length ≤ b
end
end Go.Proofs.YtakpdbmdfnialaaGreat
namespace Go.Fw
open Go.RowKit
def logOk (x : SLog) : Bool := decide (canE x.s.1 = 0) && decide (canE x.c.1 = 0) && decide (canE x.u.1.seen = 0)
theorem logOk_is {x : SLog} (h : logOk x = true) : CartOk x.s.1 ∧ CartOk x.c.1 ∧ CartOk x.u.1.seen := by
 unfold logOk at h
 rw [Bool.and_eq_true, Bool.and_eq_true, decide_eq_true_eq, decide_eq_true_eq, decide_eq_true_eq, canE_ok, canE_ok, canE_ok] at h
 exact ⟨h.1.1, h.1.2, h.2⟩
theorem any_not {α : Type} (p : α → Bool) (l : List α) : (l.any fun x => !p x) = !l.all p := by
 induction l with
 | nil => rfl
 | cons x r ih => rw [List.any_cons, List.all_cons, ih, Bool.not_and]
end Go.Fw
namespace Go.Proofs.YtakpdbmdfnialaaGreat
open Go.Fw Go.Proofs Go.RowKit Go.Proofs.Tryz
theorem x169 (w0 : World) (v : Value) (l : List SLog) (f : FuncId) (cs : List Value) (p : SLog → Bool) (hf : ∀ args w, (callFunc f args).run Tryz.prog w = .ok (.enter f args) w) (hr : ReadsV SLog.enc w0 f cs l p) (h : Sl SLog.enc 22 w0 w0.heap.size v l) :
   Calls Tryz.prog 169 #[v, .func (.func f) #[] cs.toArray] w0 fun e w' => e = .returned (.int .i64 (idxW p 0 l)) ∧ Bel w0.heap.size w0 w' := by
 obtain ⟨A, cap, rfl, hl, hcap, hA⟩ := h
 refine enter2 func169 rfl ntmps169 rfl fun a S => sg S (.ac rfl <| .z) fun a w S => wp_seq_k fun _ hK1 => sg S (.mv rfl <| .ln underlying84 rfl <| .mc rfl <| .z) fun a w S => wp_block ?_
 refine Xb S [4, 5, 8] (X := Nat) (fun k => [(8, true, .int .i64 (k : Int))]) (fun _ => []) (fun k => k ≤ l.length ∧ idxW p k (l.drop k) = idxW p 0 l) (fun k => l.length - k) 0 ⟨Nat.zero_le _, rfl⟩ ?_
 clear S
 intro k a w ⟨hk, hno⟩ S
 by_cases hlt : k < l.length
 · obtain ⟨gq, oq, x, rfl, hx, hd, hcc⟩ := Yg hA hlt
   rw [hd] at hno
   have hrx := fun w' W' => hr w' W' x (List.mem_of_getElem? hx)
   refine sg S (.lt (by omega) rfl rfl <| .z) fun a w S => wp_seq_k fun _ hK2 => Zg S (.t rfl) (wp_skip (Za (hK2 _ _ (wp_seq_k fun _ hK2 => wp_block (sg S (.mv rfl <| .as rfl <| .z) fun a w S => wp_seq_k fun _ hK3 => wp_region_lit (run S (.mv rfl <| .mv rfl <| .mv rfl <| .ix underlying84 sizeOf96 (by omega) rfl rfl <| .yy (Zp ⟨isAgg96, sizeOf96⟩ (.t rfl) (vs := [_, _, _, _, _, _, _, _, _, _, _, _, _, _, _, _, _, _, _, _, _, _]) rfl (fun _ => hcc)) rfl <| .z) fun a w S => Yk S (ys_callVC (cs := cs) (vs := [.agg (SLog.enc x).toArray]) (v := .bool (p x)) (.t rfl) hf (.cons (.t rfl) .nil) (fun _ w' W' => hrx w' (W'.sub (List.nil_sublist _)))) rfl ?_))))))
   clear S a w
   intro a w S
   cases hp : p x with
   | true =>
     rw [hp] at S
     refine Zb (Za (hK3 _ _ (Zg S (.t rfl) (sg S (.mv rfl <| .as rfl <| .z) fun a w S => wp_ret (Zr (Zd (Zd (Zr (Zd (Zm S (results1 S results169 (Rv.tmp rfl)) ?_))))))))))
     refine ⟨?_, S.wd.below⟩
     rw [← hno, idxW, if_pos hp]
   | false =>
     rw [hp] at S
     refine Zb (Za (hK3 _ _ (Ze S (.t rfl) (wp_skip (Zk (Za (hK2 _ _ (wp_region_lit (run S (.ad (by unfold I64; omega) rfl <| .mv rfl <| .z) fun a w S => Zb (Za ?_))))))))))
     rw [idxW, if_neg (by rw [hp]; decide)] at hno
     exact ⟨k + 1, ⟨by omega, hno⟩, by omega, S.pk⟩
 · obtain rfl : k = l.length := by omega
   rw [List.drop_length] at hno
   refine sg S (.ge (by omega) rfl rfl <| .z) fun a w S => wp_seq_k fun _ hK2 => Ze S (.t rfl) (wp_exit (Zh (Zh (Ya (Za (hK1 _ _ (sg S (.ac rfl <| .z) fun a w S => wp_ret (Zm S (results1 S results169 (Rv.tmp rfl)) ?_))))))))
   exact ⟨by rw [← hno]; rfl, S.wd.below⟩
theorem x114 (w0 : World) (v : Value) (l : List SLog) (f : FuncId) (cs : List Value) (p : SLog → Bool) (hf : ∀ args w, (callFunc f args).run Tryz.prog w = .ok (.enter f args) w) (hr : ReadsV SLog.enc w0 f cs l p) (h : Sl SLog.enc 22 w0 w0.heap.size v l) :
   Calls Tryz.prog 114 #[v, .func (.func f) #[] cs.toArray] w0 fun e w' => e = .returned (.bool (l.any p)) ∧ Bel w0.heap.size w0 w' := by
 have hs := h
 obtain ⟨A, cap, rfl, hl, hcap, hA⟩ := h
 refine enter2 func114 rfl ntmps114 rfl fun a S => sg S (.ac rfl <| .z) fun a w S => wp_seq_k fun _ hK1 => wp_region_lit (run S (.mv rfl <| .mv rfl <| .z) fun a w S => Yk S (Zf call169 (.cons (.t rfl) (.cons (.t rfl) .nil)) (fun _ w' W' => x169 w' _ l f cs p hf (fun w'' W'' => hr w'' ((W'.sub (List.nil_sublist _)).step W''.below)) (Sl.old W' hs))) rfl ?_)
 clear S a w
 intro a w S
 refine run S (.yy (Xp (.t rfl) Ev.c) rfl <| .as rfl <| .z) fun a w S => Zb (Za (hK1 _ _ (wp_ret (Zm S (results1 S results114 (Rv.tmp rfl)) ?_))))
 exact ⟨by rw [← idxW_any p l 0], S.wd.below⟩
theorem c116 (w0 : World) (c : SCart) (h : CartRd w0 c.1 c.2) :
   Calls Tryz.prog 116 #[.agg (SCart.enc c).toArray] w0 fun e w' => e = .returned (.bool (!decide (canE c.1 = 0))) ∧ Bel w0.heap.size w0 w' := by
 have r1 := h.ents
 have r2 := h.ctx
 by_cases hc : canE c.1 = 0
 · have rw_c := hc
   refine enter1 func116 rfl ntmps116 rfl fun a S => wp_seq_k fun _ hK1 => wp_region_lit (Zj (Zw S (.t rfl) rfl fun g1 a w S => run S (.ac rfl <| .z) fun a w S => Zb (Za (hK1 _ _ (wp_seq_k fun _ hK1 => wp_region_lit (run S (.la gt37 0 rfl rfl rfl <| .xx (Zf call32 (.cons (.t rfl) .nil) (fun hp w W => c32 _ _ _ _ _ (by exact .old W (by assumption)) (by exact .old W (by assumption)))) rfl <| .z) fun a w S => ?_))))))
   rw [rw_c] at S
   refine run S (.yy (Yq (by omega) (Yh (.t rfl) Ev.c)) rfl <| .as rfl <| .z) fun a w S => Zb (Za (hK1 _ _ (wp_ret (Zm S (results1 S results116 (Rv.tmp rfl)) ?_))))
   exact ⟨by rw [decide_eq_true hc]; rfl, S.wd.below⟩
 · have rw_c : decide (canE c.1 ≠ 0) = true := decide_eq_true hc
   refine enter1 func116 rfl ntmps116 rfl fun a S => wp_seq_k fun _ hK1 => wp_region_lit (Zj (Zw S (.t rfl) rfl fun g1 a w S => run S (.ac rfl <| .z) fun a w S => Zb (Za (hK1 _ _ (sg S (.la gt37 0 rfl rfl rfl <| .xx (Zf call32 (.cons (.t rfl) .nil) (fun hp w W => c32 _ _ _ _ _ (by exact .old W (by assumption)) (by exact .old W (by assumption)))) rfl <| .yy (Yu (by omega) (Yh (.t rfl) Ev.c)) rfl <| .as rfl <| .z) fun a w S => wp_ret (Zm S (results1 S results116 (Rv.tmp rfl)) ?_))))))
   exact ⟨by rw [decide_eq_false hc]; rfl, S.wd.below⟩
theorem c42 (w0 : World) (v : Value) (l : List SCart) (h : Sl SCart.enc 3 w0 w0.heap.size v l) (hc : CartsRd w0 l) :
   Calls Tryz.prog 42 #[v] w0 fun e w' => e = .returned (.bool (l.all fun c => decide (canE c.1 = 0))) ∧ Bel w0.heap.size w0 w' := by
 refine enter1 func42 rfl ntmps42 rfl fun a S => sg S (.ac rfl <| .z) fun a w S => wp_seq_k fun _ hK1 => wp_region_lit (run S (.mv rfl <| .z) fun a w S => ?_)
 refine Yk S (Zf call93 (.cons (.t rfl) (.cons Ev.f .nil)) (fun _ w' W' => x93 w' _ l 116 [] _ call116
   (fun w'' W'' y hy => c116 w'' y (((hc y hy).old W').old W'')) (Sl.old W' h))) rfl ?_
 clear S a w
 intro a w S
 rw [any_not] at S
 refine run S (.nt rfl <| .as rfl <| .z) fun a w S => Zb (Za (hK1 _ _ (wp_ret (Zm S (results1 S results42 (Rv.tmp rfl)) ?_))))
 exact ⟨by simp, S.wd.below⟩
theorem c115 (w0 : World) (x : SLog) (h : LogRd w0 x) :
   Calls Tryz.prog 115 #[.agg (SLog.enc x).toArray] w0 fun e w' => e = .returned (.bool (!logOk x)) ∧ Bel w0.heap.size w0 w' := by
 have r1 := h.u
 have r2 := h.s
 have r3 := h.c
 refine enter1 func115 rfl ntmps115 rfl fun a S => wp_seq_k fun _ hK1 => wp_region_lit (Zj (Zw S (.t rfl) rfl fun g1 a w S => run S (.ac rfl <| .z) fun a w S => Zb (Za (hK1 _ _ (wp_seq_k fun _ hK1 => wp_region_lit (run S (.fa underlying96 sizeOf37 16 rfl rfl rfl <| .la gt37 0 rfl rfl rfl <| .fa underlying96 sizeOf37 19 rfl rfl rfl <| .la gt37 0 rfl rfl rfl <| .fa underlying96 sizeOf77 3 rfl rfl rfl <| .fa underlying77 sizeOf37 10 rfl rfl rfl <| .la gt37 0 rfl rfl rfl <| .z) fun a w S => Zj (Ww (ps := [(0, Go.Operand.tmp 4), (1, Go.Operand.tmp 6), (2, Go.Operand.tmp 9)]) (us := [_, _, _, _, _, _, _, _, _]) S underlying64 sizeOf37 zeroValue37 rfl rfl (.cons (.t rfl) (.cons (.t rfl) (.cons (.t rfl) .nil))) rfl rfl fun g2 a w S => ?_)))))))
 refine Yk S (Zf call42 (.cons (.t rfl) .nil) (fun _ w' W' => c42 w' _ [x.s, x.c, (x.u.1.seen, x.u.2)]
   (Sl.of_blk (enc := SCart.enc) (cap := 3) [x.s, x.c, (x.u.1.seen, x.u.2)] W' (k := 0) rfl rfl SCart.enc_len (Nat.le_refl 3) (by decide))
   (fun y hy => by
     simp only [List.mem_cons, List.not_mem_nil, or_false] at hy
     rcases hy with rfl | rfl | rfl
     · exact r2.old W'
     · exact r3.old W'
     · exact r1.old W'))) rfl ?_
 clear S a w
 intro a w S
 have hlo : ([x.s, x.c, (x.u.1.seen, x.u.2)].all fun c : SCart => decide (canE c.1 = 0)) = logOk x := by
   simp only [List.all_cons, List.all_nil, Bool.and_true]
   unfold logOk
   rw [Bool.and_assoc]
 rw [hlo] at S
 refine run S (.nt rfl <| .as rfl <| .z) fun a w S => Zb (Za (hK1 _ _ (wp_ret (Zm S (results1 S results115 (Rv.tmp rfl)) ?_))))
 exact ⟨rfl, S.wd.below⟩
theorem c41 (w0 : World) (v : Value) (l : List SLog) (h : Sl SLog.enc 22 w0 w0.heap.size v l) (hl : LogsRd w0 l) :
   Calls Tryz.prog 41 #[v] w0 fun e w' => e = .returned (.bool (l.all logOk)) ∧ Bel w0.heap.size w0 w' := by
 refine enter1 func41 rfl ntmps41 rfl fun a S => sg S (.ac rfl <| .z) fun a w S => wp_seq_k fun _ hK1 => wp_region_lit (run S (.mv rfl <| .z) fun a w S => ?_)
 refine Yk S (Zf call114 (.cons (.t rfl) (.cons Ev.f .nil)) (fun _ w' W' => x114 w' _ l 115 [] _ call115
   (fun w'' W'' y hy => c115 w'' y (((hl y hy).old W').old W'')) (Sl.old W' h))) rfl ?_
 clear S a w
 intro a w S
 rw [any_not] at S
 refine run S (.nt rfl <| .as rfl <| .z) fun a w S => Zb (Za (hK1 _ _ (wp_ret (Zm S (results1 S results41 (Rv.tmp rfl)) ?_))))
 exact ⟨by simp, S.wd.below⟩
end Go.Proofs.YtakpdbmdfnialaaGreat
namespace Go.Fw
def lenC3 (c : Cart) : Prop := c.ents.length ≤ 1048576 ∧ c.ctx.marks.length ≤ 1048576 ∧ c.ctx.cloud.length ≤ 1048576
def SLog.at3 (x : SLog) (s1 s2 s3 : Sls3) : SLog := ⟨x.kind, x.at_, x.ask, (x.u.1, s1), x.an, x.al, x.key, (x.s.1, s2), (x.c.1, s3)⟩
theorem lay_upd (x : SLog) (v1 v2 v3 : Value) : lay (SLog.enc x) 3 (Upd.enc x.u.1 v1 v2 v3) = [.int .i64 x.kind, .int .i64 x.at_, .int .i64 x.ask, .string (bs x.u.1.key), .int .i64 x.u.1.dot.node, .int .i64 x.u.1.dot.life, .int .i64 x.u.1.dot.count, .string (bs x.u.1.item), .int .i64 x.u.1.qty, .int .u64 (x.u.1.price.toNat : Int), v1, v2, v3, .int .i64 x.an, .int .i64 x.al, .string (bs x.key), .slice x.s.2.a1 x.s.2.n1 x.s.2.c1, .slice x.s.2.a2 x.s.2.n2 x.s.2.c2, .slice x.s.2.a3 x.s.2.n3 x.s.2.c3, .slice x.c.2.a1 x.c.2.n1 x.c.2.c1, .slice x.c.2.a2 x.c.2.n2 x.c.2.c2, .slice x.c.2.a3 x.c.2.n3 x.c.2.c3] := rfl
theorem lay_16 (a0 a1 a2 a3 a4 a5 a6 a7 a8 a9 a10 a11 a12 a13 a14 a15 a16 a17 a18 a19 a20 a21 b0 b1 b2 : Value) : lay [a0, a1, a2, a3, a4, a5, a6, a7, a8, a9, a10, a11, a12, a13, a14, a15, a16, a17, a18, a19, a20, a21] 16 [b0, b1, b2] = [a0, a1, a2, a3, a4, a5, a6, a7, a8, a9, a10, a11, a12, a13, a14, a15, b0, b1, b2, a19, a20, a21] := rfl
theorem lay_19 (a0 a1 a2 a3 a4 a5 a6 a7 a8 a9 a10 a11 a12 a13 a14 a15 a16 a17 a18 a19 a20 a21 b0 b1 b2 : Value) : lay [a0, a1, a2, a3, a4, a5, a6, a7, a8, a9, a10, a11, a12, a13, a14, a15, a16, a17, a18, a19, a20, a21] 19 [b0, b1, b2] = [a0, a1, a2, a3, a4, a5, a6, a7, a8, a9, a10, a11, a12, a13, a14, a15, a16, a17, a18, b0, b1, b2] := rfl
end Go.Fw
namespace Go.Proofs.YtakpdbmdfnialaaGreat
open Go.Fw Go.Proofs Go.RowKit Go.Proofs.Tryz
theorem c117 (w0 : World) (x : SLog) (h : LogRd w0 x) (hb : lenC3 x.u.1.seen ∧ lenC3 x.s.1 ∧ lenC3 x.c.1) :
   Rets Tryz.prog 117 #[.agg (SLog.enc x).toArray] w0 fun u L => ∃ A1 r1 A2 r2 A3 r3 B1 q1 B2 q2 B3 q3 C1 p1 C2 p2 C3 p3, u = .agg (SLog.enc (x.at3 ⟨A1, x.u.1.seen.ents.length, r1, A2, x.u.1.seen.ctx.marks.length, r2, A3, x.u.1.seen.ctx.cloud.length, r3⟩ ⟨B1, x.s.1.ents.length, q1, B2, x.s.1.ctx.marks.length, q2, B3, x.s.1.ctx.cloud.length, q3⟩ ⟨C1, x.c.1.ents.length, p1, C2, x.c.1.ctx.marks.length, p2, C3, x.c.1.ctx.cloud.length, p3⟩)).toArray ∧
     L = [rowOf 100 6 Ent.enc A1 r1 x.u.1.seen.ents, rowOf 30 3 Dot.enc A2 r2 x.u.1.seen.ctx.marks, rowOf 74 3 Dot.enc A3 r3 x.u.1.seen.ctx.cloud,
       rowOf 100 6 Ent.enc B1 q1 x.s.1.ents, rowOf 30 3 Dot.enc B2 q2 x.s.1.ctx.marks, rowOf 74 3 Dot.enc B3 q3 x.s.1.ctx.cloud,
       rowOf 100 6 Ent.enc C1 p1 x.c.1.ents, rowOf 30 3 Dot.enc C2 p2 x.c.1.ctx.marks, rowOf 74 3 Dot.enc C3 p3 x.c.1.ctx.cloud] := by
 have r1 := h.u.ents
 have r2 := h.u.ctx
 have r3 := h.s.ents
 have r4 := h.s.ctx
 have r5 := h.c.ents
 have r6 := h.c.ctx
 obtain ⟨⟨b1, b2, b3⟩, ⟨b4, b5, b6⟩, b7, b8, b9⟩ := hb
 have halt_d := trivial
 unfold Go.Fw.Rets
 refine enter1 func117 rfl ntmps117 rfl fun a S => wp_seq_k fun _ hK1 => wp_region_lit (Zj (Zw S (.t rfl) rfl fun g1 a w S => Zj (Zn S zeroValue96 (cs := _) rfl rfl fun g2 a w S => Zb (Za (hK1 _ _ (wp_seq_k fun _ hK1 => ?_))))))
 clear halt_d
 refine Code.wp_mono (Q := fun e a w => match e with
   | .normal => ∃ A1 r1 A2 r2 A3 r3 B1 q1 B2 q2 B3 q3 C1 p1 C2 p2 C3 p3, St 16 w0 [(2, true, .pointer (some ⟨g2, 0, none⟩)), (1, true, .pointer (some ⟨g1, 0, none⟩))] [rowOf 100 6 Ent.enc A1 r1 x.u.1.seen.ents, rowOf 30 3 Dot.enc A2 r2 x.u.1.seen.ctx.marks, rowOf 74 3 Dot.enc A3 r3 x.u.1.seen.ctx.cloud, rowOf 100 6 Ent.enc B1 q1 x.s.1.ents, rowOf 30 3 Dot.enc B2 q2 x.s.1.ctx.marks, rowOf 74 3 Dot.enc B3 q3 x.s.1.ctx.cloud, rowOf 100 6 Ent.enc C1 p1 x.c.1.ents, rowOf 30 3 Dot.enc C2 p2 x.c.1.ctx.marks, rowOf 74 3 Dot.enc C3 p3 x.c.1.ctx.cloud, .blk g2 (.cells #[.int .i64 0, .int .i64 0, .int .i64 0, .string { data := #[] }, .int .i64 0, .int .i64 0, .int .i64 0, .string { data := #[] }, .int .i64 0, .int .u64 0, .slice none 0 0, .slice none 0 0, .slice none 0 0, .int .i64 0, .int .i64 0, .string { data := #[] }, .slice none 0 0, .slice none 0 0, .slice none 0 0, .slice none 0 0, .slice none 0 0, .slice none 0 0] 96), .blk g1 (.cells (SLog.enc (x.at3 ⟨A1, x.u.1.seen.ents.length, r1, A2, x.u.1.seen.ctx.marks.length, r2, A3, x.u.1.seen.ctx.cloud.length, r3⟩ ⟨B1, x.s.1.ents.length, q1, B2, x.s.1.ctx.marks.length, q2, B3, x.s.1.ctx.cloud.length, q3⟩ ⟨C1, x.c.1.ents.length, p1, C2, x.c.1.ctx.marks.length, p2, C3, x.c.1.ctx.cloud.length, p3⟩)).toArray 96)] a w
   | _ => False) (fun e a w qq => ?_) ?_
 rotate_left
 · have rw_l := lay_upd x
   have rw_l2 := lay_16
   have rw_l3 := lay_19
   refine h_beginE S (by kernel_rfl) 1 fun a w S => hy 0 S rfl (Zc (FieldT.mk underlying96 rfl sizeOf77 rfl) (.t rfl) (i' := 3) rfl) rfl fun a w S => hy 3 S rfl (Zc (FieldT.mk underlying96 rfl sizeOf37 rfl) (.t rfl) (i' := 16) rfl) rfl fun a w S => hy 6 S rfl (Zc (FieldT.mk underlying96 rfl sizeOf37 rfl) (.t rfl) (i' := 19) rfl) rfl fun a w S => ?_
   refine h_split3 (i := 1) (j := 4) (k := 7) (by kernel_rfl) rfl rfl rfl ?_ ?_ ?_
   (refine Vf S (Yr.ys (Zz ⟨isAgg77, sizeOf77⟩ (.t rfl) (k := 1) rfl rfl)) rfl ?_; clear S a w; intro a w S; refine Yj S ?_)
   refine h_split3 (i := 2) (j := 4) (k := 7) (by kernel_rfl) rfl rfl rfl ?_ ?_ ?_
   (refine Yb S call103 (.cons (.t rfl) .nil) (c103 _ _ _ _ _ (by exact .old S.wd (by assumption)) (by exact .old S.wd (by assumption)) (by assumption) (by assumption) (by assumption)) rfl ?_; clear S a w; rintro _ _ ⟨A11, r11, A21, r21, A31, r31, rfl, rfl⟩ a w S; refine Yj S ?_)
   refine Xv (i := 4) (j := 7) (by kernel_rfl) rfl rfl ?_ ?_
   (refine Vf S (Yr.ys (Zz ⟨isAgg37, sizeOf37⟩ (.t rfl) (k := 4) rfl rfl)) rfl ?_; clear S a w; intro a w S; refine Yj S ?_)
   refine Xv (i := 5) (j := 7) (by kernel_rfl) rfl rfl ?_ ?_
   (refine Yb S call16 (.cons (.t rfl) .nil) (c16 _ _ _ _ _ (by exact .old S.wd (by assumption)) (by exact .old S.wd (by assumption)) (by assumption) (by assumption) (by assumption)) rfl ?_; clear S a w; rintro _ _ ⟨A12, r12, A22, r22, A32, r32, rfl, rfl⟩ a w S; refine Yj S ?_)
   refine h_q (i := 7) S (by repeat (first | exact List.Sublist.refl _ | exact List.nil_sublist _ | refine .cons_cons _ ?_ | refine .cons _ ?_)) rfl (by kernel_rfl) (Yr.ys (Zz ⟨isAgg37, sizeOf37⟩ (.t rfl) (k := 7) rfl rfl)) rfl fun a w S => hy 9 S rfl (Zc (FieldT.mk underlying96 rfl sizeOf77 rfl) (.t rfl) (i' := 3) rfl) rfl fun a w S => ?_
   (refine h_m (i := 8) rfl (by kernel_rfl) (Yb S call16 (.cons (.t rfl) .nil) (c16 _ _ _ _ _ (by exact .old S.wd (by assumption)) (by exact .old S.wd (by assumption)) (by assumption) (by assumption) (by assumption)) rfl ?_); clear S a w; rintro _ _ ⟨A13, r13, A23, r23, A33, r33, rfl, rfl⟩ a w S; refine Yj S ?_)
   (refine Xq (i := 10) rfl (by kernel_rfl) (Yz S sizeOf77 (.t rfl) (.t rfl) (k := 10) rfl rfl (by simp [Value.oneCell']) (by simp) ?_); clear S a w; intro a w S; refine Yj S ?_)
   rw [rw_l] at S
   refine hy 11 S rfl (Zc (FieldT.mk underlying96 rfl sizeOf37 rfl) (.t rfl) (i' := 16) rfl) rfl fun a w S => ?_
   (refine Xq (i := 12) rfl (by kernel_rfl) (Yz S sizeOf37 (.t rfl) (.t rfl) (k := 10) rfl rfl (by simp [Value.oneCell']) (by simp) ?_); clear S a w; intro a w S; refine Yj S ?_)
   rw [rw_l2] at S
   refine hy 13 S rfl (Zc (FieldT.mk underlying96 rfl sizeOf37 rfl) (.t rfl) (i' := 19) rfl) rfl fun a w S => ?_
   (refine Xq (i := 14) rfl (by kernel_rfl) (Yz S sizeOf37 (.t rfl) (.t rfl) (k := 10) rfl rfl (by simp [Value.oneCell']) (by simp) ?_); clear S a w; intro a w S; refine Yj S ?_)
   rw [rw_l3] at S
   refine Xf (by kernel_rfl) ?_
   rotate_left
   (refine Vf S (Yr.ys (Zz ⟨isAgg37, sizeOf37⟩ (.t rfl) (k := 4) rfl rfl)) rfl ?_; clear S a w; intro a w S; refine Yj S ?_)
   refine hy 9 S rfl (Zc (FieldT.mk underlying96 rfl sizeOf77 rfl) (.t rfl) (i' := 3) rfl) rfl fun a w S => ?_
   (refine h_m (i := 5) rfl (by kernel_rfl) (Yb S call16 (.cons (.t rfl) .nil) (c16 _ _ _ _ _ (by exact .old S.wd (by assumption)) (by exact .old S.wd (by assumption)) (by assumption) (by assumption) (by assumption)) rfl ?_); clear S a w; rintro _ _ ⟨A12, r12, A22, r22, A32, r32, rfl, rfl⟩ a w S; refine Yj S ?_)
   (refine h_m (i := 8) rfl (by kernel_rfl) (Yb S call16 (.cons (.t rfl) .nil) (c16 _ _ _ _ _ (by exact .old S.wd (by assumption)) (by exact .old S.wd (by assumption)) (by assumption) (by assumption) (by assumption)) rfl ?_); clear S a w; rintro _ _ ⟨A13, r13, A23, r23, A33, r33, rfl, rfl⟩ a w S; refine Yj S ?_)
   (refine Xq (i := 10) rfl (by kernel_rfl) (Yz S sizeOf77 (.t rfl) (.t rfl) (k := 10) rfl rfl (by simp [Value.oneCell']) (by simp) ?_); clear S a w; intro a w S; refine Yj S ?_)
   rw [rw_l] at S
   refine hy 11 S rfl (Zc (FieldT.mk underlying96 rfl sizeOf37 rfl) (.t rfl) (i' := 16) rfl) rfl fun a w S => ?_
   (refine Xq (i := 12) rfl (by kernel_rfl) (Yz S sizeOf37 (.t rfl) (.t rfl) (k := 10) rfl rfl (by simp [Value.oneCell']) (by simp) ?_); clear S a w; intro a w S; refine Yj S ?_)
   rw [rw_l2] at S
   refine hy 13 S rfl (Zc (FieldT.mk underlying96 rfl sizeOf37 rfl) (.t rfl) (i' := 19) rfl) rfl fun a w S => ?_
   (refine Xq (i := 14) rfl (by kernel_rfl) (Yz S sizeOf37 (.t rfl) (.t rfl) (k := 10) rfl rfl (by simp [Value.oneCell']) (by simp) ?_); clear S a w; intro a w S; refine Yj S ?_)
   rw [rw_l3] at S
   refine Xf (by kernel_rfl) ?_
   rotate_left
   (refine Vf S (Yr.ys (Zz ⟨isAgg37, sizeOf37⟩ (.t rfl) (k := 4) rfl rfl)) rfl ?_; clear S a w; intro a w S; refine Yj S ?_)
   refine h_q (i := 4) S (by repeat (first | exact List.Sublist.refl _ | exact List.nil_sublist _ | refine .cons_cons _ ?_ | refine .cons _ ?_)) rfl (by kernel_rfl) (Yr.ys (Zz ⟨isAgg37, sizeOf37⟩ (.t rfl) (k := 4) rfl rfl)) rfl fun a w S => hy 9 S rfl (Zc (FieldT.mk underlying96 rfl sizeOf77 rfl) (.t rfl) (i' := 3) rfl) rfl fun a w S => ?_
   (refine h_m (i := 5) rfl (by kernel_rfl) (Yb S call16 (.cons (.t rfl) .nil) (c16 _ _ _ _ _ (by exact .old S.wd (by assumption)) (by exact .old S.wd (by assumption)) (by assumption) (by assumption) (by assumption)) rfl ?_); clear S a w; rintro _ _ ⟨A12, r12, A22, r22, A32, r32, rfl, rfl⟩ a w S; refine Yj S ?_)
   (refine h_m (i := 8) rfl (by kernel_rfl) (Yb S call16 (.cons (.t rfl) .nil) (c16 _ _ _ _ _ (by exact .old S.wd (by assumption)) (by exact .old S.wd (by assumption)) (by assumption) (by assumption) (by assumption)) rfl ?_); clear S a w; rintro _ _ ⟨A13, r13, A23, r23, A33, r33, rfl, rfl⟩ a w S; refine Yj S ?_)
   (refine Xq (i := 10) rfl (by kernel_rfl) (Yz S sizeOf77 (.t rfl) (.t rfl) (k := 10) rfl rfl (by simp [Value.oneCell']) (by simp) ?_); clear S a w; intro a w S; refine Yj S ?_)
   rw [rw_l] at S
   refine hy 11 S rfl (Zc (FieldT.mk underlying96 rfl sizeOf37 rfl) (.t rfl) (i' := 16) rfl) rfl fun a w S => ?_
   (refine Xq (i := 12) rfl (by kernel_rfl) (Yz S sizeOf37 (.t rfl) (.t rfl) (k := 10) rfl rfl (by simp [Value.oneCell']) (by simp) ?_); clear S a w; intro a w S; refine Yj S ?_)
   rw [rw_l2] at S
   refine hy 13 S rfl (Zc (FieldT.mk underlying96 rfl sizeOf37 rfl) (.t rfl) (i' := 19) rfl) rfl fun a w S => ?_
   (refine Xq (i := 14) rfl (by kernel_rfl) (Yz S sizeOf37 (.t rfl) (.t rfl) (k := 10) rfl rfl (by simp [Value.oneCell']) (by simp) ?_); clear S a w; intro a w S; refine Yj S ?_)
   rw [rw_l3] at S
   refine Xf (by kernel_rfl) ?_
   rotate_left
   (refine Vf S (Yr.ys (Zz ⟨isAgg37, sizeOf37⟩ (.t rfl) (k := 1) rfl rfl)) rfl ?_; clear S a w; intro a w S; refine Yj S ?_)
   refine Xv (i := 2) (j := 7) (by kernel_rfl) rfl rfl ?_ ?_
   (refine Yb S call103 (.cons (.t rfl) .nil) (c103 _ _ _ _ _ (by exact .old S.wd (by assumption)) (by exact .old S.wd (by assumption)) (by assumption) (by assumption) (by assumption)) rfl ?_; clear S a w; rintro _ _ ⟨A11, r11, A21, r21, A31, r31, rfl, rfl⟩ a w S; refine Yj S ?_)
   refine Xv (i := 5) (j := 7) (by kernel_rfl) rfl rfl ?_ ?_
   (refine Yb S call16 (.cons (.t rfl) .nil) (c16 _ _ _ _ _ (by exact .old S.wd (by assumption)) (by exact .old S.wd (by assumption)) (by assumption) (by assumption) (by assumption)) rfl ?_; clear S a w; rintro _ _ ⟨A12, r12, A22, r22, A32, r32, rfl, rfl⟩ a w S; refine Yj S ?_)
   refine h_q (i := 7) S (by repeat (first | exact List.Sublist.refl _ | exact List.nil_sublist _ | refine .cons_cons _ ?_ | refine .cons _ ?_)) rfl (by kernel_rfl) (Yr.ys (Zz ⟨isAgg37, sizeOf37⟩ (.t rfl) (k := 7) rfl rfl)) rfl fun a w S => hy 9 S rfl (Zc (FieldT.mk underlying96 rfl sizeOf77 rfl) (.t rfl) (i' := 3) rfl) rfl fun a w S => ?_
   (refine h_m (i := 8) rfl (by kernel_rfl) (Yb S call16 (.cons (.t rfl) .nil) (c16 _ _ _ _ _ (by exact .old S.wd (by assumption)) (by exact .old S.wd (by assumption)) (by assumption) (by assumption) (by assumption)) rfl ?_); clear S a w; rintro _ _ ⟨A13, r13, A23, r23, A33, r33, rfl, rfl⟩ a w S; refine Yj S ?_)
   (refine Xq (i := 10) rfl (by kernel_rfl) (Yz S sizeOf77 (.t rfl) (.t rfl) (k := 10) rfl rfl (by simp [Value.oneCell']) (by simp) ?_); clear S a w; intro a w S; refine Yj S ?_)
   rw [rw_l] at S
   refine hy 11 S rfl (Zc (FieldT.mk underlying96 rfl sizeOf37 rfl) (.t rfl) (i' := 16) rfl) rfl fun a w S => ?_
   (refine Xq (i := 12) rfl (by kernel_rfl) (Yz S sizeOf37 (.t rfl) (.t rfl) (k := 10) rfl rfl (by simp [Value.oneCell']) (by simp) ?_); clear S a w; intro a w S; refine Yj S ?_)
   rw [rw_l2] at S
   refine hy 13 S rfl (Zc (FieldT.mk underlying96 rfl sizeOf37 rfl) (.t rfl) (i' := 19) rfl) rfl fun a w S => ?_
   (refine Xq (i := 14) rfl (by kernel_rfl) (Yz S sizeOf37 (.t rfl) (.t rfl) (k := 10) rfl rfl (by simp [Value.oneCell']) (by simp) ?_); clear S a w; intro a w S; refine Yj S ?_)
   rw [rw_l3] at S
   refine Xf (by kernel_rfl) ?_
   rotate_left
   (refine Vf S (Yr.ys (Zz ⟨isAgg37, sizeOf37⟩ (.t rfl) (k := 4) rfl rfl)) rfl ?_; clear S a w; intro a w S; refine Yj S ?_)
   refine hy 9 S rfl (Zc (FieldT.mk underlying96 rfl sizeOf77 rfl) (.t rfl) (i' := 3) rfl) rfl fun a w S => ?_
   (refine h_m (i := 5) rfl (by kernel_rfl) (Yb S call16 (.cons (.t rfl) .nil) (c16 _ _ _ _ _ (by exact .old S.wd (by assumption)) (by exact .old S.wd (by assumption)) (by assumption) (by assumption) (by assumption)) rfl ?_); clear S a w; rintro _ _ ⟨A12, r12, A22, r22, A32, r32, rfl, rfl⟩ a w S; refine Yj S ?_)
   (refine h_m (i := 8) rfl (by kernel_rfl) (Yb S call16 (.cons (.t rfl) .nil) (c16 _ _ _ _ _ (by exact .old S.wd (by assumption)) (by exact .old S.wd (by assumption)) (by assumption) (by assumption) (by assumption)) rfl ?_); clear S a w; rintro _ _ ⟨A13, r13, A23, r23, A33, r33, rfl, rfl⟩ a w S; refine Yj S ?_)
   (refine Xq (i := 10) rfl (by kernel_rfl) (Yz S sizeOf77 (.t rfl) (.t rfl) (k := 10) rfl rfl (by simp [Value.oneCell']) (by simp) ?_); clear S a w; intro a w S; refine Yj S ?_)
   rw [rw_l] at S
   refine hy 11 S rfl (Zc (FieldT.mk underlying96 rfl sizeOf37 rfl) (.t rfl) (i' := 16) rfl) rfl fun a w S => ?_
   (refine Xq (i := 12) rfl (by kernel_rfl) (Yz S sizeOf37 (.t rfl) (.t rfl) (k := 10) rfl rfl (by simp [Value.oneCell']) (by simp) ?_); clear S a w; intro a w S; refine Yj S ?_)
   rw [rw_l2] at S
   refine hy 13 S rfl (Zc (FieldT.mk underlying96 rfl sizeOf37 rfl) (.t rfl) (i' := 19) rfl) rfl fun a w S => ?_
   (refine Xq (i := 14) rfl (by kernel_rfl) (Yz S sizeOf37 (.t rfl) (.t rfl) (k := 10) rfl rfl (by simp [Value.oneCell']) (by simp) ?_); clear S a w; intro a w S; refine Yj S ?_)
   rw [rw_l3] at S
   refine Xf (by kernel_rfl) ?_
   rotate_left
   (refine Vf S (Yr.ys (Zz ⟨isAgg37, sizeOf37⟩ (.t rfl) (k := 1) rfl rfl)) rfl ?_; clear S a w; intro a w S; refine Yj S ?_)
   (refine h_m (i := 2) rfl (by kernel_rfl) (Yb S call103 (.cons (.t rfl) .nil) (c103 _ _ _ _ _ (by exact .old S.wd (by assumption)) (by exact .old S.wd (by assumption)) (by assumption) (by assumption) (by assumption)) rfl ?_); clear S a w; rintro _ _ ⟨A11, r11, A21, r21, A31, r31, rfl, rfl⟩ a w S; refine Yj S ?_)
   refine hy 9 S rfl (Zc (FieldT.mk underlying96 rfl sizeOf77 rfl) (.t rfl) (i' := 3) rfl) rfl fun a w S => ?_
   (refine h_m (i := 5) rfl (by kernel_rfl) (Yb S call16 (.cons (.t rfl) .nil) (c16 _ _ _ _ _ (by exact .old S.wd (by assumption)) (by exact .old S.wd (by assumption)) (by assumption) (by assumption) (by assumption)) rfl ?_); clear S a w; rintro _ _ ⟨A12, r12, A22, r22, A32, r32, rfl, rfl⟩ a w S; refine Yj S ?_)
   (refine h_m (i := 8) rfl (by kernel_rfl) (Yb S call16 (.cons (.t rfl) .nil) (c16 _ _ _ _ _ (by exact .old S.wd (by assumption)) (by exact .old S.wd (by assumption)) (by assumption) (by assumption) (by assumption)) rfl ?_); clear S a w; rintro _ _ ⟨A13, r13, A23, r23, A33, r33, rfl, rfl⟩ a w S; refine Yj S ?_)
   (refine Xq (i := 10) rfl (by kernel_rfl) (Yz S sizeOf77 (.t rfl) (.t rfl) (k := 10) rfl rfl (by simp [Value.oneCell']) (by simp) ?_); clear S a w; intro a w S; refine Yj S ?_)
   rw [rw_l] at S
   refine hy 11 S rfl (Zc (FieldT.mk underlying96 rfl sizeOf37 rfl) (.t rfl) (i' := 16) rfl) rfl fun a w S => ?_
   (refine Xq (i := 12) rfl (by kernel_rfl) (Yz S sizeOf37 (.t rfl) (.t rfl) (k := 10) rfl rfl (by simp [Value.oneCell']) (by simp) ?_); clear S a w; intro a w S; refine Yj S ?_)
   rw [rw_l2] at S
   refine hy 13 S rfl (Zc (FieldT.mk underlying96 rfl sizeOf37 rfl) (.t rfl) (i' := 19) rfl) rfl fun a w S => ?_
   (refine Xq (i := 14) rfl (by kernel_rfl) (Yz S sizeOf37 (.t rfl) (.t rfl) (k := 10) rfl rfl (by simp [Value.oneCell']) (by simp) ?_); clear S a w; intro a w S; refine Yj S ?_)
   rw [rw_l3] at S
   refine Xf (by kernel_rfl) ?_
   rotate_left
   (refine Vf S (Yr.ys (Zz ⟨isAgg37, sizeOf37⟩ (.t rfl) (k := 1) rfl rfl)) rfl ?_; clear S a w; intro a w S; refine Yj S ?_)
   refine Xv (i := 2) (j := 4) (by kernel_rfl) rfl rfl ?_ ?_
   (refine Yb S call103 (.cons (.t rfl) .nil) (c103 _ _ _ _ _ (by exact .old S.wd (by assumption)) (by exact .old S.wd (by assumption)) (by assumption) (by assumption) (by assumption)) rfl ?_; clear S a w; rintro _ _ ⟨A11, r11, A21, r21, A31, r31, rfl, rfl⟩ a w S; refine Yj S ?_)
   refine h_q (i := 4) S (by repeat (first | exact List.Sublist.refl _ | exact List.nil_sublist _ | refine .cons_cons _ ?_ | refine .cons _ ?_)) rfl (by kernel_rfl) (Yr.ys (Zz ⟨isAgg37, sizeOf37⟩ (.t rfl) (k := 4) rfl rfl)) rfl fun a w S => hy 9 S rfl (Zc (FieldT.mk underlying96 rfl sizeOf77 rfl) (.t rfl) (i' := 3) rfl) rfl fun a w S => ?_
   (refine h_m (i := 5) rfl (by kernel_rfl) (Yb S call16 (.cons (.t rfl) .nil) (c16 _ _ _ _ _ (by exact .old S.wd (by assumption)) (by exact .old S.wd (by assumption)) (by assumption) (by assumption) (by assumption)) rfl ?_); clear S a w; rintro _ _ ⟨A12, r12, A22, r22, A32, r32, rfl, rfl⟩ a w S; refine Yj S ?_)
   (refine h_m (i := 8) rfl (by kernel_rfl) (Yb S call16 (.cons (.t rfl) .nil) (c16 _ _ _ _ _ (by exact .old S.wd (by assumption)) (by exact .old S.wd (by assumption)) (by assumption) (by assumption) (by assumption)) rfl ?_); clear S a w; rintro _ _ ⟨A13, r13, A23, r23, A33, r33, rfl, rfl⟩ a w S; refine Yj S ?_)
   (refine Xq (i := 10) rfl (by kernel_rfl) (Yz S sizeOf77 (.t rfl) (.t rfl) (k := 10) rfl rfl (by simp [Value.oneCell']) (by simp) ?_); clear S a w; intro a w S; refine Yj S ?_)
   rw [rw_l] at S
   refine hy 11 S rfl (Zc (FieldT.mk underlying96 rfl sizeOf37 rfl) (.t rfl) (i' := 16) rfl) rfl fun a w S => ?_
   (refine Xq (i := 12) rfl (by kernel_rfl) (Yz S sizeOf37 (.t rfl) (.t rfl) (k := 10) rfl rfl (by simp [Value.oneCell']) (by simp) ?_); clear S a w; intro a w S; refine Yj S ?_)
   rw [rw_l2] at S
   refine hy 13 S rfl (Zc (FieldT.mk underlying96 rfl sizeOf37 rfl) (.t rfl) (i' := 19) rfl) rfl fun a w S => ?_
   (refine Xq (i := 14) rfl (by kernel_rfl) (Yz S sizeOf37 (.t rfl) (.t rfl) (k := 10) rfl rfl (by simp [Value.oneCell']) (by simp) ?_); clear S a w; intro a w S; refine Yj S ?_)
   rw [rw_l3] at S
   refine Xf (by kernel_rfl) ?_
   rotate_left
   (refine Vf S (Yr.ys (Zz ⟨isAgg37, sizeOf37⟩ (.t rfl) (k := 1) rfl rfl)) rfl ?_; clear S a w; intro a w S; refine Yj S ?_)
   (refine h_m (i := 2) rfl (by kernel_rfl) (Yb S call103 (.cons (.t rfl) .nil) (c103 _ _ _ _ _ (by exact .old S.wd (by assumption)) (by exact .old S.wd (by assumption)) (by assumption) (by assumption) (by assumption)) rfl ?_); clear S a w; rintro _ _ ⟨A11, r11, A21, r21, A31, r31, rfl, rfl⟩ a w S; refine Yj S ?_)
   refine hy 9 S rfl (Zc (FieldT.mk underlying96 rfl sizeOf77 rfl) (.t rfl) (i' := 3) rfl) rfl fun a w S => ?_
   (refine h_m (i := 5) rfl (by kernel_rfl) (Yb S call16 (.cons (.t rfl) .nil) (c16 _ _ _ _ _ (by exact .old S.wd (by assumption)) (by exact .old S.wd (by assumption)) (by assumption) (by assumption) (by assumption)) rfl ?_); clear S a w; rintro _ _ ⟨A12, r12, A22, r22, A32, r32, rfl, rfl⟩ a w S; refine Yj S ?_)
   (refine h_m (i := 8) rfl (by kernel_rfl) (Yb S call16 (.cons (.t rfl) .nil) (c16 _ _ _ _ _ (by exact .old S.wd (by assumption)) (by exact .old S.wd (by assumption)) (by assumption) (by assumption) (by assumption)) rfl ?_); clear S a w; rintro _ _ ⟨A13, r13, A23, r23, A33, r33, rfl, rfl⟩ a w S; refine Yj S ?_)
   (refine Xq (i := 10) rfl (by kernel_rfl) (Yz S sizeOf77 (.t rfl) (.t rfl) (k := 10) rfl rfl (by simp [Value.oneCell']) (by simp) ?_); clear S a w; intro a w S; refine Yj S ?_)
   rw [rw_l] at S
   refine hy 11 S rfl (Zc (FieldT.mk underlying96 rfl sizeOf37 rfl) (.t rfl) (i' := 16) rfl) rfl fun a w S => ?_
   (refine Xq (i := 12) rfl (by kernel_rfl) (Yz S sizeOf37 (.t rfl) (.t rfl) (k := 10) rfl rfl (by simp [Value.oneCell']) (by simp) ?_); clear S a w; intro a w S; refine Yj S ?_)
   rw [rw_l2] at S
   refine hy 13 S rfl (Zc (FieldT.mk underlying96 rfl sizeOf37 rfl) (.t rfl) (i' := 19) rfl) rfl fun a w S => ?_
   (refine Xq (i := 14) rfl (by kernel_rfl) (Yz S sizeOf37 (.t rfl) (.t rfl) (k := 10) rfl rfl (by simp [Value.oneCell']) (by simp) ?_); clear S a w; intro a w S; refine Yj S ?_)
   rw [rw_l3] at S
   refine Xf (by kernel_rfl) ?_
   rotate_left
   (refine Vf S (Yr.ys (Zz ⟨isAgg37, sizeOf37⟩ (.t rfl) (k := 1) rfl rfl)) rfl ?_; clear S a w; intro a w S; refine Yj S ?_)
   refine Xv (i := 1) (j := 7) (by kernel_rfl) rfl rfl ?_ ?_
   (refine Vf S (Yr.ys (Zz ⟨isAgg77, sizeOf77⟩ (.t rfl) (k := 1) rfl rfl)) rfl ?_; clear S a w; intro a w S; refine Yj S ?_)
   refine Xv (i := 2) (j := 7) (by kernel_rfl) rfl rfl ?_ ?_
   (refine Yb S call103 (.cons (.t rfl) .nil) (c103 _ _ _ _ _ (by exact .old S.wd (by assumption)) (by exact .old S.wd (by assumption)) (by assumption) (by assumption) (by assumption)) rfl ?_; clear S a w; rintro _ _ ⟨A11, r11, A21, r21, A31, r31, rfl, rfl⟩ a w S; refine Yj S ?_)
   refine Xv (i := 5) (j := 7) (by kernel_rfl) rfl rfl ?_ ?_
   (refine Yb S call16 (.cons (.t rfl) .nil) (c16 _ _ _ _ _ (by exact .old S.wd (by assumption)) (by exact .old S.wd (by assumption)) (by assumption) (by assumption) (by assumption)) rfl ?_; clear S a w; rintro _ _ ⟨A12, r12, A22, r22, A32, r32, rfl, rfl⟩ a w S; refine Yj S ?_)
   refine h_q (i := 7) S (by repeat (first | exact List.Sublist.refl _ | exact List.nil_sublist _ | refine .cons_cons _ ?_ | refine .cons _ ?_)) rfl (by kernel_rfl) (Yr.ys (Zz ⟨isAgg37, sizeOf37⟩ (.t rfl) (k := 7) rfl rfl)) rfl fun a w S => hy 9 S rfl (Zc (FieldT.mk underlying96 rfl sizeOf77 rfl) (.t rfl) (i' := 3) rfl) rfl fun a w S => ?_
   (refine h_m (i := 8) rfl (by kernel_rfl) (Yb S call16 (.cons (.t rfl) .nil) (c16 _ _ _ _ _ (by exact .old S.wd (by assumption)) (by exact .old S.wd (by assumption)) (by assumption) (by assumption) (by assumption)) rfl ?_); clear S a w; rintro _ _ ⟨A13, r13, A23, r23, A33, r33, rfl, rfl⟩ a w S; refine Yj S ?_)
   (refine Xq (i := 10) rfl (by kernel_rfl) (Yz S sizeOf77 (.t rfl) (.t rfl) (k := 10) rfl rfl (by simp [Value.oneCell']) (by simp) ?_); clear S a w; intro a w S; refine Yj S ?_)
   rw [rw_l] at S
   refine hy 11 S rfl (Zc (FieldT.mk underlying96 rfl sizeOf37 rfl) (.t rfl) (i' := 16) rfl) rfl fun a w S => ?_
   (refine Xq (i := 12) rfl (by kernel_rfl) (Yz S sizeOf37 (.t rfl) (.t rfl) (k := 10) rfl rfl (by simp [Value.oneCell']) (by simp) ?_); clear S a w; intro a w S; refine Yj S ?_)
   rw [rw_l2] at S
   refine hy 13 S rfl (Zc (FieldT.mk underlying96 rfl sizeOf37 rfl) (.t rfl) (i' := 19) rfl) rfl fun a w S => ?_
   (refine Xq (i := 14) rfl (by kernel_rfl) (Yz S sizeOf37 (.t rfl) (.t rfl) (k := 10) rfl rfl (by simp [Value.oneCell']) (by simp) ?_); clear S a w; intro a w S; refine Yj S ?_)
   rw [rw_l3] at S
   refine Xf (by kernel_rfl) ?_
   rotate_left
   (refine Vf S (Yr.ys (Zz ⟨isAgg37, sizeOf37⟩ (.t rfl) (k := 4) rfl rfl)) rfl ?_; clear S a w; intro a w S; refine Yj S ?_)
   refine hy 9 S rfl (Zc (FieldT.mk underlying96 rfl sizeOf77 rfl) (.t rfl) (i' := 3) rfl) rfl fun a w S => ?_
   (refine h_m (i := 5) rfl (by kernel_rfl) (Yb S call16 (.cons (.t rfl) .nil) (c16 _ _ _ _ _ (by exact .old S.wd (by assumption)) (by exact .old S.wd (by assumption)) (by assumption) (by assumption) (by assumption)) rfl ?_); clear S a w; rintro _ _ ⟨A12, r12, A22, r22, A32, r32, rfl, rfl⟩ a w S; refine Yj S ?_)
   (refine h_m (i := 8) rfl (by kernel_rfl) (Yb S call16 (.cons (.t rfl) .nil) (c16 _ _ _ _ _ (by exact .old S.wd (by assumption)) (by exact .old S.wd (by assumption)) (by assumption) (by assumption) (by assumption)) rfl ?_); clear S a w; rintro _ _ ⟨A13, r13, A23, r23, A33, r33, rfl, rfl⟩ a w S; refine Yj S ?_)
   (refine Xq (i := 10) rfl (by kernel_rfl) (Yz S sizeOf77 (.t rfl) (.t rfl) (k := 10) rfl rfl (by simp [Value.oneCell']) (by simp) ?_); clear S a w; intro a w S; refine Yj S ?_)
   rw [rw_l] at S
   refine hy 11 S rfl (Zc (FieldT.mk underlying96 rfl sizeOf37 rfl) (.t rfl) (i' := 16) rfl) rfl fun a w S => ?_
   (refine Xq (i := 12) rfl (by kernel_rfl) (Yz S sizeOf37 (.t rfl) (.t rfl) (k := 10) rfl rfl (by simp [Value.oneCell']) (by simp) ?_); clear S a w; intro a w S; refine Yj S ?_)
   rw [rw_l2] at S
   refine hy 13 S rfl (Zc (FieldT.mk underlying96 rfl sizeOf37 rfl) (.t rfl) (i' := 19) rfl) rfl fun a w S => ?_
   (refine Xq (i := 14) rfl (by kernel_rfl) (Yz S sizeOf37 (.t rfl) (.t rfl) (k := 10) rfl rfl (by simp [Value.oneCell']) (by simp) ?_); clear S a w; intro a w S; refine Yj S ?_)
   rw [rw_l3] at S
   refine Xf (by kernel_rfl) ?_
   rotate_left
   (refine Vf S (Yr.ys (Zz ⟨isAgg37, sizeOf37⟩ (.t rfl) (k := 1) rfl rfl)) rfl ?_; clear S a w; intro a w S; refine Yj S ?_)
   (refine h_m (i := 2) rfl (by kernel_rfl) (Yb S call103 (.cons (.t rfl) .nil) (c103 _ _ _ _ _ (by exact .old S.wd (by assumption)) (by exact .old S.wd (by assumption)) (by assumption) (by assumption) (by assumption)) rfl ?_); clear S a w; rintro _ _ ⟨A11, r11, A21, r21, A31, r31, rfl, rfl⟩ a w S; refine Yj S ?_)
   refine hy 9 S rfl (Zc (FieldT.mk underlying96 rfl sizeOf77 rfl) (.t rfl) (i' := 3) rfl) rfl fun a w S => ?_
   (refine h_m (i := 5) rfl (by kernel_rfl) (Yb S call16 (.cons (.t rfl) .nil) (c16 _ _ _ _ _ (by exact .old S.wd (by assumption)) (by exact .old S.wd (by assumption)) (by assumption) (by assumption) (by assumption)) rfl ?_); clear S a w; rintro _ _ ⟨A12, r12, A22, r22, A32, r32, rfl, rfl⟩ a w S; refine Yj S ?_)
   (refine h_m (i := 8) rfl (by kernel_rfl) (Yb S call16 (.cons (.t rfl) .nil) (c16 _ _ _ _ _ (by exact .old S.wd (by assumption)) (by exact .old S.wd (by assumption)) (by assumption) (by assumption) (by assumption)) rfl ?_); clear S a w; rintro _ _ ⟨A13, r13, A23, r23, A33, r33, rfl, rfl⟩ a w S; refine Yj S ?_)
   (refine Xq (i := 10) rfl (by kernel_rfl) (Yz S sizeOf77 (.t rfl) (.t rfl) (k := 10) rfl rfl (by simp [Value.oneCell']) (by simp) ?_); clear S a w; intro a w S; refine Yj S ?_)
   rw [rw_l] at S
   refine hy 11 S rfl (Zc (FieldT.mk underlying96 rfl sizeOf37 rfl) (.t rfl) (i' := 16) rfl) rfl fun a w S => ?_
   (refine Xq (i := 12) rfl (by kernel_rfl) (Yz S sizeOf37 (.t rfl) (.t rfl) (k := 10) rfl rfl (by simp [Value.oneCell']) (by simp) ?_); clear S a w; intro a w S; refine Yj S ?_)
   rw [rw_l2] at S
   refine hy 13 S rfl (Zc (FieldT.mk underlying96 rfl sizeOf37 rfl) (.t rfl) (i' := 19) rfl) rfl fun a w S => ?_
   (refine Xq (i := 14) rfl (by kernel_rfl) (Yz S sizeOf37 (.t rfl) (.t rfl) (k := 10) rfl rfl (by simp [Value.oneCell']) (by simp) ?_); clear S a w; intro a w S; refine Yj S ?_)
   rw [rw_l3] at S
   refine Xf (by kernel_rfl) ?_
   rotate_left
   (refine Vf S (Yr.ys (Zz ⟨isAgg37, sizeOf37⟩ (.t rfl) (k := 1) rfl rfl)) rfl ?_; clear S a w; intro a w S; refine Yj S ?_)
   refine h_q (i := 1) S (by repeat (first | exact List.Sublist.refl _ | exact List.nil_sublist _ | refine .cons_cons _ ?_ | refine .cons _ ?_)) rfl (by kernel_rfl) (Yr.ys (Zz ⟨isAgg77, sizeOf77⟩ (.t rfl) (k := 1) rfl rfl)) rfl fun a w S => ?_
   (refine h_m (i := 2) rfl (by kernel_rfl) (Yb S call103 (.cons (.t rfl) .nil) (c103 _ _ _ _ _ (by exact .old S.wd (by assumption)) (by exact .old S.wd (by assumption)) (by assumption) (by assumption) (by assumption)) rfl ?_); clear S a w; rintro _ _ ⟨A11, r11, A21, r21, A31, r31, rfl, rfl⟩ a w S; refine Yj S ?_)
   refine hy 9 S rfl (Zc (FieldT.mk underlying96 rfl sizeOf77 rfl) (.t rfl) (i' := 3) rfl) rfl fun a w S => ?_
   (refine h_m (i := 5) rfl (by kernel_rfl) (Yb S call16 (.cons (.t rfl) .nil) (c16 _ _ _ _ _ (by exact .old S.wd (by assumption)) (by exact .old S.wd (by assumption)) (by assumption) (by assumption) (by assumption)) rfl ?_); clear S a w; rintro _ _ ⟨A12, r12, A22, r22, A32, r32, rfl, rfl⟩ a w S; refine Yj S ?_)
   (refine h_m (i := 8) rfl (by kernel_rfl) (Yb S call16 (.cons (.t rfl) .nil) (c16 _ _ _ _ _ (by exact .old S.wd (by assumption)) (by exact .old S.wd (by assumption)) (by assumption) (by assumption) (by assumption)) rfl ?_); clear S a w; rintro _ _ ⟨A13, r13, A23, r23, A33, r33, rfl, rfl⟩ a w S; refine Yj S ?_)
   (refine Xq (i := 10) rfl (by kernel_rfl) (Yz S sizeOf77 (.t rfl) (.t rfl) (k := 10) rfl rfl (by simp [Value.oneCell']) (by simp) ?_); clear S a w; intro a w S; refine Yj S ?_)
   rw [rw_l] at S
   refine hy 11 S rfl (Zc (FieldT.mk underlying96 rfl sizeOf37 rfl) (.t rfl) (i' := 16) rfl) rfl fun a w S => ?_
   (refine Xq (i := 12) rfl (by kernel_rfl) (Yz S sizeOf37 (.t rfl) (.t rfl) (k := 10) rfl rfl (by simp [Value.oneCell']) (by simp) ?_); clear S a w; intro a w S; refine Yj S ?_)
   rw [rw_l2] at S
   refine hy 13 S rfl (Zc (FieldT.mk underlying96 rfl sizeOf37 rfl) (.t rfl) (i' := 19) rfl) rfl fun a w S => ?_
   (refine Xq (i := 14) rfl (by kernel_rfl) (Yz S sizeOf37 (.t rfl) (.t rfl) (k := 10) rfl rfl (by simp [Value.oneCell']) (by simp) ?_); clear S a w; intro a w S; refine Yj S ?_)
   rw [rw_l3] at S
   refine Xf (by kernel_rfl) ?_
   rotate_left
   (refine Vf S (Yr.ys (Zz ⟨isAgg37, sizeOf37⟩ (.t rfl) (k := 1) rfl rfl)) rfl ?_; clear S a w; intro a w S; refine Yj S ?_)
   refine Xv (i := 1) (j := 4) (by kernel_rfl) rfl rfl ?_ ?_
   (refine Vf S (Yr.ys (Zz ⟨isAgg77, sizeOf77⟩ (.t rfl) (k := 1) rfl rfl)) rfl ?_; clear S a w; intro a w S; refine Yj S ?_)
   refine Xv (i := 2) (j := 4) (by kernel_rfl) rfl rfl ?_ ?_
   (refine Yb S call103 (.cons (.t rfl) .nil) (c103 _ _ _ _ _ (by exact .old S.wd (by assumption)) (by exact .old S.wd (by assumption)) (by assumption) (by assumption) (by assumption)) rfl ?_; clear S a w; rintro _ _ ⟨A11, r11, A21, r21, A31, r31, rfl, rfl⟩ a w S; refine Yj S ?_)
   refine h_q (i := 4) S (by repeat (first | exact List.Sublist.refl _ | exact List.nil_sublist _ | refine .cons_cons _ ?_ | refine .cons _ ?_)) rfl (by kernel_rfl) (Yr.ys (Zz ⟨isAgg37, sizeOf37⟩ (.t rfl) (k := 4) rfl rfl)) rfl fun a w S => hy 9 S rfl (Zc (FieldT.mk underlying96 rfl sizeOf77 rfl) (.t rfl) (i' := 3) rfl) rfl fun a w S => ?_
   (refine h_m (i := 5) rfl (by kernel_rfl) (Yb S call16 (.cons (.t rfl) .nil) (c16 _ _ _ _ _ (by exact .old S.wd (by assumption)) (by exact .old S.wd (by assumption)) (by assumption) (by assumption) (by assumption)) rfl ?_); clear S a w; rintro _ _ ⟨A12, r12, A22, r22, A32, r32, rfl, rfl⟩ a w S; refine Yj S ?_)
   (refine h_m (i := 8) rfl (by kernel_rfl) (Yb S call16 (.cons (.t rfl) .nil) (c16 _ _ _ _ _ (by exact .old S.wd (by assumption)) (by exact .old S.wd (by assumption)) (by assumption) (by assumption) (by assumption)) rfl ?_); clear S a w; rintro _ _ ⟨A13, r13, A23, r23, A33, r33, rfl, rfl⟩ a w S; refine Yj S ?_)
   (refine Xq (i := 10) rfl (by kernel_rfl) (Yz S sizeOf77 (.t rfl) (.t rfl) (k := 10) rfl rfl (by simp [Value.oneCell']) (by simp) ?_); clear S a w; intro a w S; refine Yj S ?_)
   rw [rw_l] at S
   refine hy 11 S rfl (Zc (FieldT.mk underlying96 rfl sizeOf37 rfl) (.t rfl) (i' := 16) rfl) rfl fun a w S => ?_
   (refine Xq (i := 12) rfl (by kernel_rfl) (Yz S sizeOf37 (.t rfl) (.t rfl) (k := 10) rfl rfl (by simp [Value.oneCell']) (by simp) ?_); clear S a w; intro a w S; refine Yj S ?_)
   rw [rw_l2] at S
   refine hy 13 S rfl (Zc (FieldT.mk underlying96 rfl sizeOf37 rfl) (.t rfl) (i' := 19) rfl) rfl fun a w S => ?_
   (refine Xq (i := 14) rfl (by kernel_rfl) (Yz S sizeOf37 (.t rfl) (.t rfl) (k := 10) rfl rfl (by simp [Value.oneCell']) (by simp) ?_); clear S a w; intro a w S; refine Yj S ?_)
   rw [rw_l3] at S
   refine Xf (by kernel_rfl) ?_
   rotate_left
   (refine Vf S (Yr.ys (Zz ⟨isAgg37, sizeOf37⟩ (.t rfl) (k := 1) rfl rfl)) rfl ?_; clear S a w; intro a w S; refine Yj S ?_)
   (refine h_m (i := 2) rfl (by kernel_rfl) (Yb S call103 (.cons (.t rfl) .nil) (c103 _ _ _ _ _ (by exact .old S.wd (by assumption)) (by exact .old S.wd (by assumption)) (by assumption) (by assumption) (by assumption)) rfl ?_); clear S a w; rintro _ _ ⟨A11, r11, A21, r21, A31, r31, rfl, rfl⟩ a w S; refine Yj S ?_)
   refine hy 9 S rfl (Zc (FieldT.mk underlying96 rfl sizeOf77 rfl) (.t rfl) (i' := 3) rfl) rfl fun a w S => ?_
   (refine h_m (i := 5) rfl (by kernel_rfl) (Yb S call16 (.cons (.t rfl) .nil) (c16 _ _ _ _ _ (by exact .old S.wd (by assumption)) (by exact .old S.wd (by assumption)) (by assumption) (by assumption) (by assumption)) rfl ?_); clear S a w; rintro _ _ ⟨A12, r12, A22, r22, A32, r32, rfl, rfl⟩ a w S; refine Yj S ?_)
   (refine h_m (i := 8) rfl (by kernel_rfl) (Yb S call16 (.cons (.t rfl) .nil) (c16 _ _ _ _ _ (by exact .old S.wd (by assumption)) (by exact .old S.wd (by assumption)) (by assumption) (by assumption) (by assumption)) rfl ?_); clear S a w; rintro _ _ ⟨A13, r13, A23, r23, A33, r33, rfl, rfl⟩ a w S; refine Yj S ?_)
   (refine Xq (i := 10) rfl (by kernel_rfl) (Yz S sizeOf77 (.t rfl) (.t rfl) (k := 10) rfl rfl (by simp [Value.oneCell']) (by simp) ?_); clear S a w; intro a w S; refine Yj S ?_)
   rw [rw_l] at S
   refine hy 11 S rfl (Zc (FieldT.mk underlying96 rfl sizeOf37 rfl) (.t rfl) (i' := 16) rfl) rfl fun a w S => ?_
   (refine Xq (i := 12) rfl (by kernel_rfl) (Yz S sizeOf37 (.t rfl) (.t rfl) (k := 10) rfl rfl (by simp [Value.oneCell']) (by simp) ?_); clear S a w; intro a w S; refine Yj S ?_)
   rw [rw_l2] at S
   refine hy 13 S rfl (Zc (FieldT.mk underlying96 rfl sizeOf37 rfl) (.t rfl) (i' := 19) rfl) rfl fun a w S => ?_
   (refine Xq (i := 14) rfl (by kernel_rfl) (Yz S sizeOf37 (.t rfl) (.t rfl) (k := 10) rfl rfl (by simp [Value.oneCell']) (by simp) ?_); clear S a w; intro a w S; refine Yj S ?_)
   rw [rw_l3] at S
   refine Xf (by kernel_rfl) ?_
   rotate_left
   (refine Vf S (Yr.ys (Zz ⟨isAgg37, sizeOf37⟩ (.t rfl) (k := 1) rfl rfl)) rfl ?_; clear S a w; intro a w S; refine Yj S ?_)
   refine h_q (i := 1) S (by repeat (first | exact List.Sublist.refl _ | exact List.nil_sublist _ | refine .cons_cons _ ?_ | refine .cons _ ?_)) rfl (by kernel_rfl) (Yr.ys (Zz ⟨isAgg77, sizeOf77⟩ (.t rfl) (k := 1) rfl rfl)) rfl fun a w S => ?_
   (refine h_m (i := 2) rfl (by kernel_rfl) (Yb S call103 (.cons (.t rfl) .nil) (c103 _ _ _ _ _ (by exact .old S.wd (by assumption)) (by exact .old S.wd (by assumption)) (by assumption) (by assumption) (by assumption)) rfl ?_); clear S a w; rintro _ _ ⟨A11, r11, A21, r21, A31, r31, rfl, rfl⟩ a w S; refine Yj S ?_)
   refine hy 9 S rfl (Zc (FieldT.mk underlying96 rfl sizeOf77 rfl) (.t rfl) (i' := 3) rfl) rfl fun a w S => ?_
   (refine h_m (i := 5) rfl (by kernel_rfl) (Yb S call16 (.cons (.t rfl) .nil) (c16 _ _ _ _ _ (by exact .old S.wd (by assumption)) (by exact .old S.wd (by assumption)) (by assumption) (by assumption) (by assumption)) rfl ?_); clear S a w; rintro _ _ ⟨A12, r12, A22, r22, A32, r32, rfl, rfl⟩ a w S; refine Yj S ?_)
   (refine h_m (i := 8) rfl (by kernel_rfl) (Yb S call16 (.cons (.t rfl) .nil) (c16 _ _ _ _ _ (by exact .old S.wd (by assumption)) (by exact .old S.wd (by assumption)) (by assumption) (by assumption) (by assumption)) rfl ?_); clear S a w; rintro _ _ ⟨A13, r13, A23, r23, A33, r33, rfl, rfl⟩ a w S; refine Yj S ?_)
   (refine Xq (i := 10) rfl (by kernel_rfl) (Yz S sizeOf77 (.t rfl) (.t rfl) (k := 10) rfl rfl (by simp [Value.oneCell']) (by simp) ?_); clear S a w; intro a w S; refine Yj S ?_)
   rw [rw_l] at S
   refine hy 11 S rfl (Zc (FieldT.mk underlying96 rfl sizeOf37 rfl) (.t rfl) (i' := 16) rfl) rfl fun a w S => ?_
   (refine Xq (i := 12) rfl (by kernel_rfl) (Yz S sizeOf37 (.t rfl) (.t rfl) (k := 10) rfl rfl (by simp [Value.oneCell']) (by simp) ?_); clear S a w; intro a w S; refine Yj S ?_)
   rw [rw_l2] at S
   refine hy 13 S rfl (Zc (FieldT.mk underlying96 rfl sizeOf37 rfl) (.t rfl) (i' := 19) rfl) rfl fun a w S => ?_
   (refine Xq (i := 14) rfl (by kernel_rfl) (Yz S sizeOf37 (.t rfl) (.t rfl) (k := 10) rfl rfl (by simp [Value.oneCell']) (by simp) ?_); clear S a w; intro a w S; refine Yj S ?_)
   rw [rw_l3] at S
   refine Xf (by kernel_rfl) ?_
   rotate_left
   all_goals exact ⟨A11, r11, A21, r21, A31, r31, A12, r12, A22, r22, A32, r32, A13, r13, A23, r23, A33, r33, S.pk⟩
 clear S
 rcases e with _ | _ | _ | _ | _ | _ | _
 any_goals exact qq.elim
 obtain ⟨A1, c1, A2, c2, A3, c3, B1, d1, B2, d2, B3, d3, C1, e1, C2, e2, C3, e3, S⟩ := qq
 refine Za ?_
 first | refine hK9 _ _ ?_ | refine hK8 _ _ ?_ | refine hK7 _ _ ?_ | refine hK6 _ _ ?_ | refine hK5 _ _ ?_ | refine hK4 _ _ ?_ | refine hK3 _ _ ?_ | refine hK2 _ _ ?_ | refine hK1 _ _ ?_
 obtain ⟨y, hy⟩ : ∃ y, x.at3 ⟨A1, x.u.1.seen.ents.length, c1, A2, x.u.1.seen.ctx.marks.length, c2, A3, x.u.1.seen.ctx.cloud.length, c3⟩ ⟨B1, x.s.1.ents.length, d1, B2, x.s.1.ctx.marks.length, d2, B3, x.s.1.ctx.cloud.length, d3⟩ ⟨C1, x.c.1.ents.length, e1, C2, x.c.1.ctx.marks.length, e2, C3, x.c.1.ctx.cloud.length, e3⟩ = y := ⟨_, rfl⟩
 rw [hy] at S
 refine wp_seq_k fun _ hK2 => wp_region_lit (run S (.la gt96 10 rfl rfl rfl <| .z) fun a w S => Zj (Zq S sizeOf96 (.t rfl) (.t rfl) (k := 9) rfl rfl rfl (by simp [Value.oneCell']) fun a w S => Zb (Za (hK2 _ _ (wp_ret (Zm S (results1 S results117 (Rv.cell (k := 9) ⟨isAgg96, sizeOf96⟩ rfl rfl rfl)) ?_))))))
 exact ⟨_, _, rfl, S.wd.pk, A1, c1, A2, c2, A3, c3, B1, d1, B2, d2, B3, d3, C1, e1, C2, e2, C3, e3, by rw [hy], rfl⟩
end Go.Proofs.YtakpdbmdfnialaaGreat
namespace Go.Fw
open Go.RowKit
def isGone (key : List UInt8) (x : SLog) : Bool := decide (x.kind = 5) && decide (x.key = key)
def goneK (l : List SLog) (key : List UInt8) : List SLog := l.filter (isGone key)
def forgotB (d : Dot) (x : SLog) : Bool := decide (x.an = d.node ∧ x.al = d.life) && x.c.1.ctx.covers d
def forgotK (l : List SLog) (d : Dot) : Bool := l.any (forgotB d)
theorem gone_snoc {l : List SLog} {i : Nat} {x : SLog} {key : List UInt8} (h : l[i]? = some x) : goneK (l.take (i + 1)) key = goneK (l.take i) key ++ if isGone key x = true then [x] else [] := by
 unfold goneK
 rw [List.take_add_one, h, Option.toList_some, List.filter_append]
 congr 1
 rw [List.filter_cons, List.filter_nil]
theorem gone_len (l : List SLog) (key : List UInt8) : (goneK l key).length ≤ l.length := List.length_filter_le _ _
theorem log_enc (x : SLog) : #[Value.int .i64 x.kind, .int .i64 x.at_, .int .i64 x.ask, .string (bs x.u.1.key), .int .i64 x.u.1.dot.node, .int .i64 x.u.1.dot.life, .int .i64 x.u.1.dot.count, .string (bs x.u.1.item), .int .i64 x.u.1.qty, .int .u64 (x.u.1.price.toNat : Int), .slice x.u.2.a1 x.u.2.n1 x.u.2.c1, .slice x.u.2.a2 x.u.2.n2 x.u.2.c2, .slice x.u.2.a3 x.u.2.n3 x.u.2.c3, .int .i64 x.an, .int .i64 x.al, .string (bs x.key), .slice x.s.2.a1 x.s.2.n1 x.s.2.c1, .slice x.s.2.a2 x.s.2.n2 x.s.2.c2, .slice x.s.2.a3 x.s.2.n3 x.s.2.c3, .slice x.c.2.a1 x.c.2.n1 x.c.2.c1, .slice x.c.2.a2 x.c.2.n2 x.c.2.c2, .slice x.c.2.a3 x.c.2.n3 x.c.2.c3] = (SLog.enc x).toArray := rfl
end Go.Fw
namespace Go.Proofs.YtakpdbmdfnialaaGreat
open Go.Fw Go.Proofs Go.RowKit Go.Proofs.Tryz
theorem c119 (w0 : World) (v : Value) (l : List SLog) (key : List UInt8) (h : Sl SLog.enc 22 w0 w0.heap.size v l) (hn : l.length ≤ 1048576) :
   Rets Tryz.prog 119 #[v, .string (bs key)] w0 fun u L => ∃ A r, u = .slice A (goneK l key).length r ∧ L = [rowOf 96 22 SLog.enc A r (goneK l key)] := by
 obtain ⟨A, cap, rfl, hl, hcap, hA⟩ := h
 unfold Go.Fw.Rets
 refine enter2 func119 rfl ntmps119 rfl fun a S => sg S (.ac rfl <| .z) fun a w S => sg S (.ac rfl <| .z) fun a w S => wp_seq_k fun _ hK1 => sg S (.mv rfl <| .ln underlying84 rfl <| .mc rfl <| .z) fun a w S => wp_block ?_
 replace S := S.nil_ 96 22 SLog.enc none
 refine Xb S [5, 10] (X := Nat × Option Addr × Nat) (fun q => [(5, true, .slice q.2.1 (goneK (l.take q.1) key).length q.2.2), (10, true, .int .i64 (q.1 : Int))]) (fun q => [rowOf 96 22 SLog.enc q.2.1 q.2.2 (goneK (l.take q.1) key)]) (fun q => q.1 ≤ l.length) (fun q => l.length - q.1) (0, none, 0) (Nat.zero_le _) ?_
 clear S
 rintro ⟨i, B, cB⟩ a w hi S
 dsimp only at hi S
 have hgl := gone_len (l.take i) key
 rw [List.length_take] at hgl
 by_cases hlt : i < l.length
 · obtain ⟨gq, oq, x, rfl, hx, hd, hc⟩ := Yg hA hlt
   have hst := gone_snoc (key := key) hx
   generalize goneK (l.take i) key = G at *
   by_cases hk : x.kind = 5
   · have rw_k := decide_eq_true hk
     by_cases hy : x.key = key
     · have rw_y := decide_eq_true hy
       have rw_l := log_enc x
       rw [show isGone key x = true by unfold isGone; rw [rw_k, rw_y]; rfl, if_pos rfl] at hst
       refine sg S (.lt (by omega) rfl rfl <| .z) fun a w S => wp_seq_k fun _ hK2 => Zg S (.t rfl) (wp_skip (Za (hK2 _ _ (wp_seq_k fun _ hK2 => wp_block (wp_seq_k fun _ hK3 => wp_region_lit (run S (.ix underlying84 sizeOf96 (by omega) rfl rfl <| .yy (Zp ⟨isAgg96, sizeOf96⟩ (.t rfl) (vs := [_, _, _, _, _, _, _, _, _, _, _, _, _, _, _, _, _, _, _, _, _, _]) rfl (fun _ => hc)) rfl <| .z) fun a w S => ?_))))))
       rw [rw_l] at S
       refine Zj (Zn S zeroValue96 (cs := _) rfl rfl fun g1 a w S => ?_)
       rw [rw_l] at S
       refine Zj (Zq S sizeOf96 (.t rfl) (.t rfl) (k := 0) rfl rfl rfl (by simp [Value.oneCell']) fun a w S => ?_)
       rw [rw_l] at S
       refine Zb ?_
       rw [rw_l] at S
       refine Za (hK3 _ _ ?_)
       rw [rw_l] at S
       refine wp_seq_k fun _ hK3 => ?_
       rw [rw_l] at S
       refine wp_region_lit ?_
       rw [rw_l] at S
       refine run S (.fa underlying96 sizeOf3 0 rfl rfl rfl <| .z) fun a w S => ?_
       rw [rw_l] at S
       refine run S (.ld gt3 0 rfl rfl rfl <| .z) fun a w S => ?_
       rw [rw_l] at S
       refine run S (.yy (Yu (by omega) (Ye (.t rfl) Ev.c)) rfl <| .z) fun a w S => ?_
       rw [rw_l] at S
       refine run S (.mv rfl <| .z) fun a w S => ?_
       rw [rw_l] at S
       refine run S (.gy rfl rfl (Zc (FieldT.mk underlying96 rfl sizeOf9 rfl) (.t rfl) (i' := 15) rfl) <| .z) fun a w S => ?_
       rw [rw_l] at S
       refine run S (.gy rfl rfl (Zt ⟨isAgg9, sizeOf9⟩ (.t rfl) (k := 0) rfl rfl) <| .z) fun a w S => ?_
       rw [rw_l] at S
       refine run S (.gy rfl rfl (Zi (.t rfl)) <| .z) fun a w S => ?_
       rw [rw_l] at S
       refine run S (.gy rfl rfl (Xa (.t rfl) (.t rfl)) <| .z) fun a w S => ?_
       rw [rw_y] at S
       rw [rw_l] at S
       refine run S (.yy (Zv (.t rfl) (.t rfl)) rfl <| .z) fun a w S => ?_
       rw [rw_l] at S
       refine Zb ?_
       rw [rw_l] at S
       refine Za (hK3 _ _ ?_)
       rw [rw_l] at S
       refine Zg S (.t rfl) ?_
       rw [rw_l] at S
       refine wp_region_lit ?_
       rw [rw_l] at S
       refine run S (.mv rfl <| .z) fun a w S => ?_
       rw [rw_l] at S
       refine run S (.la gt96 0 rfl rfl rfl <| .z) fun a w S => ?_
       rw [rw_l] at S
       refine Zj (Yf S underlying84 inf96 rfl rfl rfl (.t rfl) rfl rfl rfl fun g2 a w S => ?_)
       rw [rw_l] at S
       refine Zj (Yw S underlying84 inf96 rfl (k := 2) (j := 0) rfl (.t rfl) (.t rfl) rfl rfl rfl rfl (by first | omega | (simp only [List.length_append, List.length_cons, List.length_nil]; omega)) rfl rfl rfl fun A1 cap1 a w S => ?_)
       rw [rw_l] at S
       refine run S (.as rfl <| .z) fun a w S => ?_
       rw [rw_l] at S
       refine Zb ?_
       rw [rw_l] at S
       refine Zk (Za (hK2 _ _ ?_))
       rw [rw_l] at S
       refine wp_region_lit ?_
       rw [rw_l] at S
       refine run S (.ad (by unfold I64; omega) rfl <| .z) fun a w S => ?_
       rw [rw_l] at S
       refine run S (.mv rfl <| .z) fun a w S => ?_
       rw [rw_l] at S
       refine Zb ?_
       rw [rw_l] at S
       refine Za ?_
       rw [rw_l] at S
       exact ⟨(i + 1, A1, cap1), by dsimp only; omega, by dsimp only; omega, by dsimp only; rw [hst]; exact S.pk⟩
     · have rw_y := decide_eq_false hy
       rw [show isGone key x = false by unfold isGone; rw [rw_k, rw_y]; rfl, if_neg (by decide), List.append_nil] at hst
       refine sg S (.lt (by omega) rfl rfl <| .z) fun a w S => wp_seq_k fun _ hK2 => Zg S (.t rfl) (wp_skip (Za (hK2 _ _ (wp_seq_k fun _ hK2 => wp_block (wp_seq_k fun _ hK3 => wp_region_lit (run S (.ix underlying84 sizeOf96 (by omega) rfl rfl <| .yy (Zp ⟨isAgg96, sizeOf96⟩ (.t rfl) (vs := [_, _, _, _, _, _, _, _, _, _, _, _, _, _, _, _, _, _, _, _, _, _]) rfl (fun _ => hc)) rfl <| .z) fun a w S => Zj (Zn S zeroValue96 (cs := _) rfl rfl fun g1 a w S => Zj (Zq S sizeOf96 (.t rfl) (.t rfl) (k := 0) rfl rfl rfl (by simp [Value.oneCell']) fun a w S => Zb (Za (hK3 _ _ (wp_seq_k fun _ hK3 => wp_region_lit (run S (.fa underlying96 sizeOf3 0 rfl rfl rfl <| .ld gt3 0 rfl rfl rfl <| .yy (Yu (by omega) (Ye (.t rfl) Ev.c)) rfl <| .mv rfl <| .gy rfl rfl (Zc (FieldT.mk underlying96 rfl sizeOf9 rfl) (.t rfl) (i' := 15) rfl) <| .gy rfl rfl (Zt ⟨isAgg9, sizeOf9⟩ (.t rfl) (k := 0) rfl rfl) <| .gy rfl rfl (Zi (.t rfl)) <| .gy rfl rfl (Xa (.t rfl) (.t rfl)) <| .z) fun a w S => ?_))))))))))))
       rw [rw_y] at S
       refine run S (.yy (Zv (.t rfl) (.t rfl)) rfl <| .z) fun a w S => Zb (Za (hK3 _ _ (Ze S (.t rfl) (wp_skip (Zk (Za (hK2 _ _ (wp_region_lit (run S (.ad (by unfold I64; omega) rfl <| .mv rfl <| .z) fun a w S => Zb (Za ?_))))))))))
       exact ⟨(i + 1, B, cB), by dsimp only; omega, by dsimp only; omega, by dsimp only; rw [hst]; exact S.pk⟩
   · have rw_k := decide_eq_false hk
     rw [show isGone key x = false by unfold isGone; rw [rw_k]; rfl, if_neg (by decide), List.append_nil] at hst
     refine sg S (.lt (by omega) rfl rfl <| .z) fun a w S => wp_seq_k fun _ hK2 => Zg S (.t rfl) (wp_skip (Za (hK2 _ _ (wp_seq_k fun _ hK2 => wp_block (wp_seq_k fun _ hK3 => wp_region_lit (run S (.ix underlying84 sizeOf96 (by omega) rfl rfl <| .yy (Zp ⟨isAgg96, sizeOf96⟩ (.t rfl) (vs := [_, _, _, _, _, _, _, _, _, _, _, _, _, _, _, _, _, _, _, _, _, _]) rfl (fun _ => hc)) rfl <| .z) fun a w S => Zj (Zn S zeroValue96 (cs := _) rfl rfl fun g1 a w S => Zj (Zq S sizeOf96 (.t rfl) (.t rfl) (k := 0) rfl rfl rfl (by simp [Value.oneCell']) fun a w S => Zb (Za (hK3 _ _ (sg S (.fa underlying96 sizeOf3 0 rfl rfl rfl <| .ld gt3 0 rfl rfl rfl <| .yy (Yq (by omega) (Ye (.t rfl) Ev.c)) rfl <| .mv rfl <| .sk rfl rfl rfl <| .sk rfl rfl rfl <| .sk rfl rfl rfl <| .sk rfl rfl rfl <| .yy (Zu (.t rfl) Ev.c) rfl <| .z) fun a w S => Ze S (.t rfl) (wp_skip (Zk (Za (hK2 _ _ (wp_region_lit (run S (.ad (by unfold I64; omega) rfl <| .mv rfl <| .z) fun a w S => Zb (Za ?_))))))))))))))))))
     exact ⟨(i + 1, B, cB), by dsimp only; omega, by dsimp only; omega, by dsimp only; rw [hst]; exact S.pk⟩
 obtain rfl : i = l.length := by omega
 rw [List.take_length] at S
 refine sg S (.ge (by omega) rfl rfl <| .z) fun a w S => wp_seq_k fun _ hK2 => Ze S (.t rfl) (wp_exit (Zh (Zh (Ya (Za (hK1 _ _ (sg S (.mv rfl <| .as rfl <| .z) fun a w S => wp_ret (Zm S (results1 S results119 (Rv.tmp rfl)) ?_))))))))
 exact ⟨_, _, rfl, S.wd.pk, B, cB, rfl, rfl⟩
theorem c171 (w0 : World) (x : SLog) (d : Dot) (g : Nat) (h : LogRd w0 x) (h1 : w0.cell? ⟨g, 0, none⟩ = some (.int .i64 d.node)) (h2 : w0.cell? ⟨g, 1, none⟩ = some (.int .i64 d.life)) (h3 : w0.cell? ⟨g, 2, none⟩ = some (.int .i64 d.count)) :
   Calls Tryz.prog 171 #[.agg (SLog.enc x).toArray, .pointer (some ⟨g, 0, none⟩)] w0 fun e w' => e = .returned (.bool (forgotB d x)) ∧ Bel w0.heap.size w0 w' := by
 have hdc := dot_cells (d := d) h1 h2 h3
 have r1 := h.c.ctx
 refine enter2 func171 rfl ntmps171 rfl fun a S => wp_seq_k fun _ hK1 => wp_region_lit (Zj (Zw S (.t rfl) rfl fun g1 a w S => run S (.ac rfl <| .z) fun a w S => Zb (Za (hK1 _ _ (wp_seq_k fun _ hK1 => wp_region_lit (run S (.fa underlying96 sizeOf66 13 rfl rfl rfl <| .la gt66 0 rfl rfl rfl <| .fa underlying74 sizeOf3 0 rfl rfl rfl <| .yy (Yv ⟨isAgg3, sizeOf3⟩ (.t rfl) (fun _ => h1)) rfl <| .fa underlying74 sizeOf3 1 rfl rfl rfl <| .yy (Yv ⟨isAgg3, sizeOf3⟩ (.t rfl) (fun _ => h2)) rfl <| .yy (Xd (ps := [(0, Go.Operand.tmp 7), (1, Go.Operand.tmp 9)]) (us := [_, _]) bld66 (.cons (.t rfl) (.cons (.t rfl) .nil)) rfl) rfl <| .yy (Wa (.t rfl) (.t rfl) eq66) rfl <| .mv rfl <| .z) fun a w S => Yd S rfl rfl (Yr.ys (Zc (FieldT.mk underlying96 rfl sizeOf37 rfl) (.t rfl) (i' := 19) rfl)) rfl fun a w S => Yd S rfl rfl (Yr.ys (Zc (FieldT.mk underlying37 rfl sizeOf35 rfl) (Ev.g rfl) (i' := 20) rfl)) rfl fun a w S => Yd S rfl rfl (Yr.ys (Zz ⟨isAgg35, sizeOf35⟩ (Ev.g rfl) (k := 0) rfl rfl)) rfl fun a w S => Yd S rfl rfl (Yr.ys (Zp ⟨isAgg74, sizeOf74⟩ (.t rfl) (vs := [_, _, _]) rfl (fun _ => hdc))) rfl fun a w S => Yd S rfl rfl (Zf call109 (.cons (Ev.g rfl) (.cons (Ev.g rfl) .nil)) (fun hp w W => c109 _ _ _ _ _ _ _ (by exact .old W (by assumption)))) rfl fun a w S => ?_))))))
 refine run S (.yy (Xn (.t rfl) (Ev.g rfl) Ev.c) rfl <| .as rfl <| .z) fun a w S => Zb (Za (hK1 _ _ (wp_ret (Zm S (results1 S results171 (Rv.tmp rfl)) ?_))))
 exact ⟨rfl, S.wd.below⟩
theorem c118 (w0 : World) (v : Value) (l : List SLog) (x y z : Int) (h : Sl SLog.enc 22 w0 w0.heap.size v l) (hl : LogsRd w0 l) :
   Calls Tryz.prog 118 #[v, .agg #[.int .i64 x, .int .i64 y, .int .i64 z]] w0 fun e w' => e = .returned (.bool (forgotK l ⟨x, y, z⟩)) ∧ Bel w0.heap.size w0 w' := by
 have hs := h
 have rw_i := idxW_any (forgotB ⟨x, y, z⟩) l 0
 refine enter2 func118 rfl ntmps118 rfl fun a S => wp_seq_k fun _ hK1 => wp_region_lit (Zj (Zw S (.t rfl) rfl fun g1 a w S => run S (.ac rfl <| .z) fun a w S => Zb (Za (hK1 _ _ (wp_seq_k fun _ hK1 => wp_region_lit (run S (.mv rfl <| .yy (ys_mkFunc (.cons (.t rfl) .nil)) rfl <| .z) fun a w S => ?_))))))
 refine Yk S (Zf call170 (.cons (.t rfl) (.cons (.t rfl) .nil)) (fun _ w' W' => x170 w' _ l 171 [.pointer (some ⟨g1, 0, none⟩)] (forgotB ⟨x, y, z⟩) call171
   (fun w'' W'' q hq => c171 w'' q ⟨x, y, z⟩ g1 (((hl q hq).old W').old W'') (Wd.cellOld W'' (Wd.cell W' (k := 0) rfl rfl)) (Wd.cellOld W'' (Wd.cell W' (k := 0) rfl rfl)) (Wd.cellOld W'' (Wd.cell W' (k := 0) rfl rfl))) (Sl.old W' hs))) rfl ?_
 clear S a w
 intro a w S
 refine run S (.yy (Xp (.t rfl) Ev.c) rfl <| .z) fun a w S => ?_
 rw [rw_i] at S
 refine run S (.as rfl <| .z) fun a w S => Zb (Za (hK1 _ _ (wp_ret (Zm S (results1 S results118 (Rv.tmp rfl)) ?_))))
 exact ⟨rfl, S.wd.below⟩
end Go.Proofs.YtakpdbmdfnialaaGreat
namespace Go.Fw
open Go.RowKit
def toldB (pr : List SLog) (x y : SLog) : Bool := decide (y.kind = 1) && decide (y.u.1.key = x.key) && (x.c.1.ctx.covers y.u.1.dot || forgotK pr y.u.1.dot)
def toldU (pr : List SLog) (x : SLog) (l : List SLog) : List SUpd := (l.filter (toldB pr x)).map (·.u)
def keepC (C : Ctx) (p : SLog) : Ctx := C.prune p.an p.al
def cutC (c : Cart) (p : SLog) : Cart := pruneK c p.an p.al
def rightK (l : List SLog) (x : SLog) : Bool :=
 decide ((meantK ((toldU (goneK l x.key) x l).map (·.1))).2 = 0) && (decide ((goneK l x.key).foldl cutC (meantK ((toldU (goneK l x.key) x l).map (·.1))).1 = x.c.1) && leqL ((goneK l x.key).foldl keepC x.s.1.ctx) x.c.1.ctx)
theorem told_snoc {pr l : List SLog} {x y : SLog} {i : Nat} (h : l[i]? = some y) : toldU pr x (l.take (i + 1)) = toldU pr x (l.take i) ++ if toldB pr x y = true then [y.u] else [] := by
 unfold toldU
 rw [List.take_add_one, h, Option.toList_some, List.filter_append, List.map_append]
 congr 1
 rw [List.filter_cons, List.filter_nil]
 split <;> rfl
theorem told_len (pr l : List SLog) (x : SLog) : (toldU pr x l).length ≤ l.length := by
 unfold toldU
 rw [List.length_map]
 exact List.length_filter_le _ _
theorem upd_enc (x : SUpd) : #[Value.string (bs x.1.key), .int .i64 x.1.dot.node, .int .i64 x.1.dot.life, .int .i64 x.1.dot.count, .string (bs x.1.item), .int .i64 x.1.qty, .int .u64 (x.1.price.toNat : Int), .slice x.2.a1 x.2.n1 x.2.c1, .slice x.2.a2 x.2.n2 x.2.c2, .slice x.2.a3 x.2.n3 x.2.c3] = (SUpd.enc x).toArray := rfl
structure CutOk (c : Cart) (T : Ctx) : Prop where
 l1 : c.ents.length ≤ 1048576
 l2 : c.ctx.marks.length ≤ 1048576
 l3 : c.ctx.cloud.length ≤ 1048576
 l4 : T.marks.length ≤ 1048576
 l5 : T.cloud.length ≤ 1048576
 may : ∀ m ∈ T.marks, mayD m = true
theorem CutOk.cut {c : Cart} {T : Ctx} (h : CutOk c T) (p : SLog) : CutOk (cutC c p) (keepC T p) := by
 obtain ⟨h1, h2, h3, h4, h5, h6⟩ := h
 have f := fun (α : Type) (q : α → Bool) (l : List α) => List.length_filter_le q l
 refine ⟨?_, ?_, ?_, ?_, ?_, ?_⟩
 · exact Nat.le_trans (List.length_filter_le _ _) h1
 · exact Nat.le_trans (List.length_filter_le _ _) h2
 · exact Nat.le_trans (List.length_filter_le _ _) h3
 · exact Nat.le_trans (List.length_filter_le _ _) h4
 · exact Nat.le_trans (List.length_filter_le _ _) h5
 · exact fun m hm => h6 m (List.mem_filter.1 hm).1
theorem meant_cart {U : List Upd} (h : (meantK U).2 = 0) : CartOk (meantK U).1 := by
 unfold meantK at h ⊢
 split at h
 · rename_i h1
   rw [if_pos h1]
   split at h
   · rename_i h2
     rw [if_pos h2]
     split at h
     · rename_i h3
       rw [if_pos h3]
       split at h
       · rename_i h4
         rw [if_pos h4]
         exact (canE_ok _).1 h4
       · rename_i h4; exact absurd h h4
     · rename_i h3; exact absurd h h3
   · rename_i h2; exact absurd h h2
 · exact absurd h (by decide)
end Go.Fw
namespace Go.Proofs.YtakpdbmdfnialaaGreat
open Go.Fw Go.Proofs Go.RowKit Go.Proofs.Tryz
theorem c125 (w0 : World) (v : Value) (l : List SLog) (x : SLog) (h : Sl SLog.enc 22 w0 w0.heap.size v l) (hl : LogsRd w0 l) (hn : l.length ≤ 1048576) (hx : LogRd w0 x) (hB : RoomU ((toldU (goneK l x.key) x l).map (·.1))) (hm1 : ∀ m ∈ x.s.1.ctx.marks, mayD m = true) (hm2 : ∀ m ∈ x.c.1.ctx.marks, mayD m = true) (hs1 : x.s.1.ctx.marks.length ≤ 1048576) (hs2 : x.s.1.ctx.cloud.length ≤ 1048576) :
   Calls Tryz.prog 125 #[v, .agg (SLog.enc x).toArray] w0 fun e w' => e = .returned (.bool (rightK l x)) ∧ Bel w0.heap.size w0 w' := by
 have hs := h
 obtain ⟨A, cap, rfl, hl0, hcap, hA⟩ := h
 have hpl := gone_len l x.key
 have hlp : LogsRd w0 (goneK l x.key) := fun y hy9 => hl y (List.mem_filter.1 hy9).1
 have q1 := hx.c.ctx
 have q2 := hx.s.ctx
 have q3 := hx.c.ents
 refine enter2 func125 rfl ntmps125 rfl fun a S => wp_seq_k fun _ hK1 => wp_region_lit (Zj (Zw S (.t rfl) rfl fun g1 a w S => run S (.ac rfl <| .z) fun a w S => Zb (Za (hK1 _ _ (wp_seq_k fun _ hK1 => wp_region_lit (run S (.mv rfl <| .fa underlying96 sizeOf9 15 rfl rfl rfl <| .ld gt9 0 rfl rfl rfl <| .z) fun a w S => ?_))))))
 (refine Zj (Yb S call119 (.cons (.t rfl) (.cons (.t rfl) .nil)) (c119 _ _ _ _ (by exact .old S.wd (by assumption)) (by assumption)) rfl ?_); clear S a w; rintro _ _ ⟨A1, r1, rfl, rfl⟩ a w S)
 refine run S (.as rfl <| .z) fun a w S => Zb (Za (hK1 _ _ (sg S (.ac rfl <| .z) fun a w S => wp_seq_k fun _ hK1 => sg S (.mv rfl <| .ln underlying84 rfl <| .mc rfl <| .z) fun a w S => wp_block ?_)))
 replace S := S.nil_ 77 10 SUpd.enc none
 refine Xb S [6, 20] (X := Nat × Option Addr × Nat) (fun q => [(6, true, .slice q.2.1 (toldU (goneK l x.key) x (l.take q.1)).length q.2.2), (20, true, .int .i64 (q.1 : Int))])
   (fun q => [rowOf 77 10 SUpd.enc q.2.1 q.2.2 (toldU (goneK l x.key) x (l.take q.1)), rowOf 96 22 SLog.enc A1 r1 (goneK l x.key), .blk g1 (.cells (SLog.enc x).toArray 96)]) (fun q => q.1 ≤ l.length) (fun q => l.length - q.1) (0, none, 0) (Nat.zero_le _) ?_
 clear S
 rintro ⟨i, B, cB⟩ a w hi S
 dsimp only at hi S
 have htl := told_len (goneK l x.key) (l.take i) x
 rw [List.length_take] at htl
 by_cases hlt : i < l.length
 · obtain ⟨gq, oq, y, rfl, hy9, hd, hc⟩ := Yg hA hlt
   have hst := told_snoc (pr := goneK l x.key) (x := x) hy9
   generalize toldU (goneK l x.key) x (l.take i) = G at *
   generalize hpr : goneK l x.key = pr at *
   by_cases hk : y.kind = 1
   · have rw_k := decide_eq_true hk
     by_cases hky : y.u.1.key = x.key
     · have rw_y := decide_eq_true hky
       cases hcv : x.c.1.ctx.covers y.u.1.dot with
       | true =>
         have rw_c := hcv
         have ht : toldB pr x y = true := by unfold toldB; rw [rw_k, rw_y, hcv]; rfl
         rw [ht, if_pos rfl] at hst
         have rw_e := upd_enc y.u
         refine sg S (.lt (by omega) rfl rfl <| .z) fun a w S => wp_seq_k fun _ hK2 => Zg S (.t rfl) (wp_skip (Za (hK2 _ _ (wp_seq_k fun _ hK2 => wp_block (wp_seq_k fun _ hK3 => wp_region_lit (run S (.ix underlying84 sizeOf96 (by omega) rfl rfl <| .yy (Zp ⟨isAgg96, sizeOf96⟩ (.t rfl) (vs := [_, _, _, _, _, _, _, _, _, _, _, _, _, _, _, _, _, _, _, _, _, _]) rfl (fun _ => hc)) rfl <| .z) fun a w S => Zj (Zn S zeroValue96 (cs := _) rfl rfl fun g2 a w S => Zj (Zq S sizeOf96 (.t rfl) (.t rfl) (k := 0) rfl rfl rfl (by simp [Value.oneCell']) fun a w S => Zb (Za (hK3 _ _ (wp_seq_k fun _ hK3 => wp_region_lit (run S (.fa underlying96 sizeOf3 0 rfl rfl rfl <| .ld gt3 0 rfl rfl rfl <| .yy (Yu (by omega) (Ye (.t rfl) Ev.c)) rfl <| .mv rfl <| .gy rfl rfl (Zc (FieldT.mk underlying96 rfl sizeOf77 rfl) (.t rfl) (i' := 3) rfl) <| .gy rfl rfl (Zc (FieldT.mk underlying77 rfl sizeOf9 rfl) (.t rfl) (i' := 3) rfl) <| .gy rfl rfl (Zt ⟨isAgg9, sizeOf9⟩ (.t rfl) (k := 0) rfl rfl) <| .gy rfl rfl (Zc (FieldT.mk underlying96 rfl sizeOf9 rfl) (.t rfl) (i' := 15) rfl) <| .gy rfl rfl (Zt ⟨isAgg9, sizeOf9⟩ (.t rfl) (k := 3) rfl rfl) <| .gy rfl rfl (Xa (.t rfl) (.t rfl)) <| .z) fun a w S => ?_))))))))))))
         rw [rw_y] at S
         refine run S (.yy (Zv (.t rfl) (.t rfl)) rfl <| .mv rfl <| .gy rfl rfl (Zc (FieldT.mk underlying96 rfl sizeOf37 rfl) (.t rfl) (i' := 19) rfl) <| .gy rfl rfl (Zc (FieldT.mk underlying37 rfl sizeOf35 rfl) (.t rfl) (i' := 20) rfl) <| .gy rfl rfl (Zz ⟨isAgg35, sizeOf35⟩ (.t rfl) (k := 3) rfl rfl) <| .gy rfl rfl (Zc (FieldT.mk underlying96 rfl sizeOf77 rfl) (.t rfl) (i' := 3) rfl) <| .gy rfl rfl (Zc (FieldT.mk underlying77 rfl sizeOf74 rfl) (.t rfl) (i' := 4) rfl) <| .gy rfl rfl (Zz ⟨isAgg74, sizeOf74⟩ (.t rfl) (k := 0) rfl rfl) <| .gx rfl rfl (Zf call109 (.cons (.t rfl) (.cons (.t rfl) .nil)) (fun hp w W => c109 _ _ _ _ _ _ _ (by exact .old W (by assumption)))) <| .z) fun a w S => ?_
         rw [rw_c] at S
         refine run S (.gy rfl rfl (Zi (.t rfl)) <| .sk rfl rfl rfl <| .sk rfl rfl rfl <| .sk rfl rfl rfl <| .sk rfl rfl rfl <| .sk rfl rfl rfl <| .gy rfl rfl (Zv (.t rfl) Ev.c) <| .yy (Zv (.t rfl) (.t rfl)) rfl <| .z) fun a w S => Zb (Za (hK3 _ _ (Zg S (.t rfl) (wp_region_lit (run S (.mv rfl <| .fa underlying96 sizeOf77 3 rfl rfl rfl <| .la gt77 0 rfl rfl rfl <| .z) fun a w S => ?_)))))
         rw [rw_e] at S
         refine Zj (Yf S underlying72 inf77 rfl rfl rfl (.t rfl) rfl rfl rfl fun g3 a w S => ?_)
         rw [rw_e] at S
         refine Zj (Yw S underlying72 inf77 rfl (k := 2) (j := 0) rfl (.t rfl) (.t rfl) rfl rfl rfl rfl (by first | omega | (simp only [List.length_append, List.length_cons, List.length_nil]; omega)) rfl rfl rfl fun A2 cap1 a w S => ?_)
         rw [rw_e] at S
         refine run S (.as rfl <| .z) fun a w S => ?_
         rw [rw_e] at S
         refine Zb ?_
         rw [rw_e] at S
         refine Zk (Za (hK2 _ _ ?_))
         rw [rw_e] at S
         refine wp_region_lit ?_
         rw [rw_e] at S
         refine run S (.ad (by unfold I64; omega) rfl <| .z) fun a w S => ?_
         rw [rw_e] at S
         refine run S (.mv rfl <| .z) fun a w S => ?_
         rw [rw_e] at S
         refine Zb ?_
         rw [rw_e] at S
         refine Za ?_
         rw [rw_e] at S
         exact ⟨(i + 1, A2, cap1), by dsimp only; omega, by dsimp only; omega, by dsimp only; rw [hst]; exact S.pk⟩
       | false =>
         have rw_c := hcv
         cases hfg : forgotK pr y.u.1.dot with
         | true =>
           have rw_f := hfg
           have ht : toldB pr x y = true := by unfold toldB; rw [rw_k, rw_y, hcv, hfg]; rfl
           rw [ht, if_pos rfl] at hst
           have rw_e := upd_enc y.u
           refine sg S (.lt (by omega) rfl rfl <| .z) fun a w S => wp_seq_k fun _ hK2 => Zg S (.t rfl) (wp_skip (Za (hK2 _ _ (wp_seq_k fun _ hK2 => wp_block (wp_seq_k fun _ hK3 => wp_region_lit (run S (.ix underlying84 sizeOf96 (by omega) rfl rfl <| .yy (Zp ⟨isAgg96, sizeOf96⟩ (.t rfl) (vs := [_, _, _, _, _, _, _, _, _, _, _, _, _, _, _, _, _, _, _, _, _, _]) rfl (fun _ => hc)) rfl <| .z) fun a w S => Zj (Zn S zeroValue96 (cs := _) rfl rfl fun g2 a w S => Zj (Zq S sizeOf96 (.t rfl) (.t rfl) (k := 0) rfl rfl rfl (by simp [Value.oneCell']) fun a w S => Zb (Za (hK3 _ _ (wp_seq_k fun _ hK3 => wp_region_lit (run S (.fa underlying96 sizeOf3 0 rfl rfl rfl <| .ld gt3 0 rfl rfl rfl <| .yy (Yu (by omega) (Ye (.t rfl) Ev.c)) rfl <| .mv rfl <| .gy rfl rfl (Zc (FieldT.mk underlying96 rfl sizeOf77 rfl) (.t rfl) (i' := 3) rfl) <| .gy rfl rfl (Zc (FieldT.mk underlying77 rfl sizeOf9 rfl) (.t rfl) (i' := 3) rfl) <| .gy rfl rfl (Zt ⟨isAgg9, sizeOf9⟩ (.t rfl) (k := 0) rfl rfl) <| .gy rfl rfl (Zc (FieldT.mk underlying96 rfl sizeOf9 rfl) (.t rfl) (i' := 15) rfl) <| .gy rfl rfl (Zt ⟨isAgg9, sizeOf9⟩ (.t rfl) (k := 3) rfl rfl) <| .gy rfl rfl (Xa (.t rfl) (.t rfl)) <| .z) fun a w S => ?_))))))))))))
           rw [rw_y] at S
           refine run S (.yy (Zv (.t rfl) (.t rfl)) rfl <| .mv rfl <| .gy rfl rfl (Zc (FieldT.mk underlying96 rfl sizeOf37 rfl) (.t rfl) (i' := 19) rfl) <| .gy rfl rfl (Zc (FieldT.mk underlying37 rfl sizeOf35 rfl) (.t rfl) (i' := 20) rfl) <| .gy rfl rfl (Zz ⟨isAgg35, sizeOf35⟩ (.t rfl) (k := 3) rfl rfl) <| .gy rfl rfl (Zc (FieldT.mk underlying96 rfl sizeOf77 rfl) (.t rfl) (i' := 3) rfl) <| .gy rfl rfl (Zc (FieldT.mk underlying77 rfl sizeOf74 rfl) (.t rfl) (i' := 4) rfl) <| .gy rfl rfl (Zz ⟨isAgg74, sizeOf74⟩ (.t rfl) (k := 0) rfl rfl) <| .gx rfl rfl (Zf call109 (.cons (.t rfl) (.cons (.t rfl) .nil)) (fun hp w W => c109 _ _ _ _ _ _ _ (by exact .old W (by assumption)))) <| .z) fun a w S => ?_
           rw [rw_c] at S
           refine run S (.gy rfl rfl (Zi (.t rfl)) <| .gy rfl rfl (Zi (.t rfl)) <| .gy rfl rfl (Zc (FieldT.mk underlying96 rfl sizeOf77 rfl) (.t rfl) (i' := 3) rfl) <| .gy rfl rfl (Zc (FieldT.mk underlying77 rfl sizeOf74 rfl) (.t rfl) (i' := 4) rfl) <| .gy rfl rfl (Zz ⟨isAgg74, sizeOf74⟩ (.t rfl) (k := 0) rfl rfl) <| .gx rfl rfl (Zf call118 (.cons (.t rfl) (.cons (.t rfl) .nil)) (fun hp w W => c118 _ _ _ _ _ _ (by exact Sl.of_own W (k := 2) rfl (fun _ => rfl)) (by exact .old W (by assumption)))) <| .z) fun a w S => ?_
           rw [rw_f] at S
           refine run S (.gy rfl rfl (Zu (.t rfl) (.t rfl)) <| .yy (Zv (.t rfl) (.t rfl)) rfl <| .z) fun a w S => Zb (Za (hK3 _ _ (Zg S (.t rfl) (wp_region_lit (run S (.mv rfl <| .fa underlying96 sizeOf77 3 rfl rfl rfl <| .la gt77 0 rfl rfl rfl <| .z) fun a w S => ?_)))))
           rw [rw_e] at S
           refine Zj (Yf S underlying72 inf77 rfl rfl rfl (.t rfl) rfl rfl rfl fun g3 a w S => ?_)
           rw [rw_e] at S
           refine Zj (Yw S underlying72 inf77 rfl (k := 2) (j := 0) rfl (.t rfl) (.t rfl) rfl rfl rfl rfl (by first | omega | (simp only [List.length_append, List.length_cons, List.length_nil]; omega)) rfl rfl rfl fun A2 cap1 a w S => ?_)
           rw [rw_e] at S
           refine run S (.as rfl <| .z) fun a w S => ?_
           rw [rw_e] at S
           refine Zb ?_
           rw [rw_e] at S
           refine Zk (Za (hK2 _ _ ?_))
           rw [rw_e] at S
           refine wp_region_lit ?_
           rw [rw_e] at S
           refine run S (.ad (by unfold I64; omega) rfl <| .z) fun a w S => ?_
           rw [rw_e] at S
           refine run S (.mv rfl <| .z) fun a w S => ?_
           rw [rw_e] at S
           refine Zb ?_
           rw [rw_e] at S
           refine Za ?_
           rw [rw_e] at S
           exact ⟨(i + 1, A2, cap1), by dsimp only; omega, by dsimp only; omega, by dsimp only; rw [hst]; exact S.pk⟩
         | false =>
           have rw_f := hfg
           have ht : toldB pr x y = false := by unfold toldB; rw [rw_k, rw_y, hcv, hfg]; rfl
           rw [ht, if_neg (by decide), List.append_nil] at hst
           refine sg S (.lt (by omega) rfl rfl <| .z) fun a w S => wp_seq_k fun _ hK2 => Zg S (.t rfl) (wp_skip (Za (hK2 _ _ (wp_seq_k fun _ hK2 => wp_block (wp_seq_k fun _ hK3 => wp_region_lit (run S (.ix underlying84 sizeOf96 (by omega) rfl rfl <| .yy (Zp ⟨isAgg96, sizeOf96⟩ (.t rfl) (vs := [_, _, _, _, _, _, _, _, _, _, _, _, _, _, _, _, _, _, _, _, _, _]) rfl (fun _ => hc)) rfl <| .z) fun a w S => Zj (Zn S zeroValue96 (cs := _) rfl rfl fun g2 a w S => Zj (Zq S sizeOf96 (.t rfl) (.t rfl) (k := 0) rfl rfl rfl (by simp [Value.oneCell']) fun a w S => Zb (Za (hK3 _ _ (wp_seq_k fun _ hK3 => wp_region_lit (run S (.fa underlying96 sizeOf3 0 rfl rfl rfl <| .ld gt3 0 rfl rfl rfl <| .yy (Yu (by omega) (Ye (.t rfl) Ev.c)) rfl <| .mv rfl <| .gy rfl rfl (Zc (FieldT.mk underlying96 rfl sizeOf77 rfl) (.t rfl) (i' := 3) rfl) <| .gy rfl rfl (Zc (FieldT.mk underlying77 rfl sizeOf9 rfl) (.t rfl) (i' := 3) rfl) <| .gy rfl rfl (Zt ⟨isAgg9, sizeOf9⟩ (.t rfl) (k := 0) rfl rfl) <| .gy rfl rfl (Zc (FieldT.mk underlying96 rfl sizeOf9 rfl) (.t rfl) (i' := 15) rfl) <| .gy rfl rfl (Zt ⟨isAgg9, sizeOf9⟩ (.t rfl) (k := 3) rfl rfl) <| .gy rfl rfl (Xa (.t rfl) (.t rfl)) <| .z) fun a w S => ?_))))))))))))
           rw [rw_y] at S
           refine run S (.yy (Zv (.t rfl) (.t rfl)) rfl <| .mv rfl <| .gy rfl rfl (Zc (FieldT.mk underlying96 rfl sizeOf37 rfl) (.t rfl) (i' := 19) rfl) <| .gy rfl rfl (Zc (FieldT.mk underlying37 rfl sizeOf35 rfl) (.t rfl) (i' := 20) rfl) <| .gy rfl rfl (Zz ⟨isAgg35, sizeOf35⟩ (.t rfl) (k := 3) rfl rfl) <| .gy rfl rfl (Zc (FieldT.mk underlying96 rfl sizeOf77 rfl) (.t rfl) (i' := 3) rfl) <| .gy rfl rfl (Zc (FieldT.mk underlying77 rfl sizeOf74 rfl) (.t rfl) (i' := 4) rfl) <| .gy rfl rfl (Zz ⟨isAgg74, sizeOf74⟩ (.t rfl) (k := 0) rfl rfl) <| .gx rfl rfl (Zf call109 (.cons (.t rfl) (.cons (.t rfl) .nil)) (fun hp w W => c109 _ _ _ _ _ _ _ (by exact .old W (by assumption)))) <| .z) fun a w S => ?_
           rw [rw_c] at S
           refine run S (.gy rfl rfl (Zi (.t rfl)) <| .gy rfl rfl (Zi (.t rfl)) <| .gy rfl rfl (Zc (FieldT.mk underlying96 rfl sizeOf77 rfl) (.t rfl) (i' := 3) rfl) <| .gy rfl rfl (Zc (FieldT.mk underlying77 rfl sizeOf74 rfl) (.t rfl) (i' := 4) rfl) <| .gy rfl rfl (Zz ⟨isAgg74, sizeOf74⟩ (.t rfl) (k := 0) rfl rfl) <| .gx rfl rfl (Zf call118 (.cons (.t rfl) (.cons (.t rfl) .nil)) (fun hp w W => c118 _ _ _ _ _ _ (by exact Sl.of_own W (k := 2) rfl (fun _ => rfl)) (by exact .old W (by assumption)))) <| .z) fun a w S => ?_
           rw [rw_f] at S
           refine run S (.gy rfl rfl (Zu (.t rfl) (.t rfl)) <| .yy (Zv (.t rfl) (.t rfl)) rfl <| .z) fun a w S => Zb (Za (hK3 _ _ (Ze S (.t rfl) (wp_skip (Zk (Za (hK2 _ _ (wp_region_lit (run S (.ad (by unfold I64; omega) rfl <| .mv rfl <| .z) fun a w S => Zb (Za ?_))))))))))
           exact ⟨(i + 1, B, cB), by dsimp only; omega, by dsimp only; omega, by dsimp only; rw [hst]; exact S.pk⟩
     · have rw_y := decide_eq_false hky
       have ht : toldB pr x y = false := by unfold toldB; rw [rw_k, rw_y]; rfl
       rw [ht, if_neg (by decide), List.append_nil] at hst
       refine sg S (.lt (by omega) rfl rfl <| .z) fun a w S => wp_seq_k fun _ hK2 => Zg S (.t rfl) (wp_skip (Za (hK2 _ _ (wp_seq_k fun _ hK2 => wp_block (wp_seq_k fun _ hK3 => wp_region_lit (run S (.ix underlying84 sizeOf96 (by omega) rfl rfl <| .yy (Zp ⟨isAgg96, sizeOf96⟩ (.t rfl) (vs := [_, _, _, _, _, _, _, _, _, _, _, _, _, _, _, _, _, _, _, _, _, _]) rfl (fun _ => hc)) rfl <| .z) fun a w S => Zj (Zn S zeroValue96 (cs := _) rfl rfl fun g2 a w S => Zj (Zq S sizeOf96 (.t rfl) (.t rfl) (k := 0) rfl rfl rfl (by simp [Value.oneCell']) fun a w S => Zb (Za (hK3 _ _ (wp_seq_k fun _ hK3 => wp_region_lit (run S (.fa underlying96 sizeOf3 0 rfl rfl rfl <| .ld gt3 0 rfl rfl rfl <| .yy (Yu (by omega) (Ye (.t rfl) Ev.c)) rfl <| .mv rfl <| .gy rfl rfl (Zc (FieldT.mk underlying96 rfl sizeOf77 rfl) (.t rfl) (i' := 3) rfl) <| .gy rfl rfl (Zc (FieldT.mk underlying77 rfl sizeOf9 rfl) (.t rfl) (i' := 3) rfl) <| .gy rfl rfl (Zt ⟨isAgg9, sizeOf9⟩ (.t rfl) (k := 0) rfl rfl) <| .gy rfl rfl (Zc (FieldT.mk underlying96 rfl sizeOf9 rfl) (.t rfl) (i' := 15) rfl) <| .gy rfl rfl (Zt ⟨isAgg9, sizeOf9⟩ (.t rfl) (k := 3) rfl rfl) <| .gy rfl rfl (Xa (.t rfl) (.t rfl)) <| .z) fun a w S => ?_))))))))))))
       rw [rw_y] at S
       refine run S (.yy (Zv (.t rfl) (.t rfl)) rfl <| .mv rfl <| .sk rfl rfl rfl <| .sk rfl rfl rfl <| .sk rfl rfl rfl <| .sk rfl rfl rfl <| .sk rfl rfl rfl <| .sk rfl rfl rfl <| .sk rfl rfl rfl <| .sk rfl rfl rfl <| .s0 rfl rfl <| .s0 rfl rfl <| .s0 rfl rfl <| .s0 rfl rfl <| .s0 rfl rfl <| .sk rfl rfl rfl <| .yy (Zu (.t rfl) Ev.c) rfl <| .z) fun a w S => Zb (Za (hK3 _ _ (Ze S (.t rfl) (wp_skip (Zk (Za (hK2 _ _ (wp_region_lit (run S (.ad (by unfold I64; omega) rfl <| .mv rfl <| .z) fun a w S => Zb (Za ?_))))))))))
       exact ⟨(i + 1, B, cB), by dsimp only; omega, by dsimp only; omega, by dsimp only; rw [hst]; exact S.pk⟩
   · have rw_k := decide_eq_false hk
     have ht : toldB pr x y = false := by unfold toldB; rw [rw_k]; rfl
     rw [ht, if_neg (by decide), List.append_nil] at hst
     refine sg S (.lt (by omega) rfl rfl <| .z) fun a w S => wp_seq_k fun _ hK2 => Zg S (.t rfl) (wp_skip (Za (hK2 _ _ (wp_seq_k fun _ hK2 => wp_block (wp_seq_k fun _ hK3 => wp_region_lit (run S (.ix underlying84 sizeOf96 (by omega) rfl rfl <| .yy (Zp ⟨isAgg96, sizeOf96⟩ (.t rfl) (vs := [_, _, _, _, _, _, _, _, _, _, _, _, _, _, _, _, _, _, _, _, _, _]) rfl (fun _ => hc)) rfl <| .z) fun a w S => Zj (Zn S zeroValue96 (cs := _) rfl rfl fun g2 a w S => Zj (Zq S sizeOf96 (.t rfl) (.t rfl) (k := 0) rfl rfl rfl (by simp [Value.oneCell']) fun a w S => Zb (Za (hK3 _ _ (sg S (.fa underlying96 sizeOf3 0 rfl rfl rfl <| .ld gt3 0 rfl rfl rfl <| .yy (Yq (by omega) (Ye (.t rfl) Ev.c)) rfl <| .mv rfl <| .sk rfl rfl rfl <| .sk rfl rfl rfl <| .sk rfl rfl rfl <| .sk rfl rfl rfl <| .sk rfl rfl rfl <| .sk rfl rfl rfl <| .yy (Zu (.t rfl) Ev.c) rfl <| .mv rfl <| .sk rfl rfl rfl <| .sk rfl rfl rfl <| .sk rfl rfl rfl <| .sk rfl rfl rfl <| .sk rfl rfl rfl <| .sk rfl rfl rfl <| .sk rfl rfl rfl <| .sk rfl rfl rfl <| .s0 rfl rfl <| .s0 rfl rfl <| .s0 rfl rfl <| .s0 rfl rfl <| .s0 rfl rfl <| .sk rfl rfl rfl <| .yy (Zu (.t rfl) Ev.c) rfl <| .z) fun a w S => Ze S (.t rfl) (wp_skip (Zk (Za (hK2 _ _ (wp_region_lit ?_))))))))))))))))
     refine run S (.ad (by unfold I64; omega) rfl <| .mv rfl <| .z) fun a w S => Zb (Za ?_)
     exact ⟨(i + 1, B, cB), by dsimp only; omega, by dsimp only; omega, by dsimp only; rw [hst]; exact S.pk⟩
 obtain rfl : i = l.length := by omega
 rw [List.take_length] at S
 have htl := told_len (goneK l x.key) l x
 have hur : ∀ u ∈ toldU (goneK l x.key) x l, CartRd w0 u.1.seen u.2 := fun u hu => by
   obtain ⟨y, hy9, rfl⟩ := List.mem_map.1 hu
   exact (hl y (List.mem_filter.1 hy9).1).u
 have hR : rightK l x = (decide ((meantK ((toldU (goneK l x.key) x l).map (·.1))).2 = 0) && (decide ((goneK l x.key).foldl cutC (meantK ((toldU (goneK l x.key) x l).map (·.1))).1 = x.c.1) && leqL ((goneK l x.key).foldl keepC x.s.1.ctx) x.c.1.ctx)) := rfl
 generalize toldU (goneK l x.key) x l = V at *
 generalize goneK l x.key = pr at *
 by_cases hm0 : (meantK (V.map (·.1))).2 = 0
 rotate_left
 · have rw_m : decide ((meantK (V.map (·.1))).2 ≠ 0) = true := decide_eq_true hm0
   refine sg S (.ge (by omega) rfl rfl <| .z) fun a w S => wp_seq_k fun _ hK2 => Ze S (.t rfl) (wp_exit (Zh (Zh (Ya (Za (hK1 _ _ (wp_seq_k fun _ hK1 => wp_region_lit (run S (.mv rfl <| .z) fun a w S => ?_))))))))
   (refine Zj (Yb S call39 (.cons (.t rfl) .nil) (c39 _ _ _ (by exact Sl.of_own S.wd (k := 0) rfl (fun _ => rfl)) (by exact .old S.wd (by assumption)) (by omega) (by assumption)) rfl ?_); clear S a w; rintro _ _ ⟨A11, r11, A21, r21, A31, r31, rfl, rfl⟩ a w S)
   simp only [List.nil_append] at S
   refine run S (.mv rfl <| .ex rfl rfl <| .ex rfl rfl <| .z) fun a w S => Zj (Zn S zeroValue37 (cs := _) rfl rfl fun g2 a w S => Zj (Zq S sizeOf37 (.t rfl) (.t rfl) (k := 0) rfl rfl rfl (by simp [Value.oneCell']) fun a w S => run S (.as rfl <| .z) fun a w S => Zb (Za (hK1 _ _ (wp_seq_k fun _ hK1 => sg S (.mv rfl <| .yy (Yu (by omega) (Yh (.t rfl) Ev.c)) rfl <| .z) fun a w S => Zg S (.t rfl) (sg S (.ac rfl <| .z) fun a w S => wp_ret (Zd (Zm S (results1 S results125 (Rv.tmp rfl)) ?_))))))))
   exact ⟨by rw [hR, decide_eq_false hm0]; rfl, S.wd.below⟩
 have rw_m := hm0
 obtain ⟨M, rw_M⟩ : ∃ M, (meantK (V.map (·.1))).1 = M := ⟨_, rfl⟩
 have hMl := cart_lens (by rw [← rw_M]; exact meant_cart hm0 : CartOk M)
 refine sg S (.ge (by omega) rfl rfl <| .z) fun a w S => wp_seq_k fun _ hK2 => Ze S (.t rfl) (wp_exit (Zh (Zh (Ya (Za (hK1 _ _ (wp_seq_k fun _ hK1 => wp_region_lit (run S (.mv rfl <| .z) fun a w S => ?_))))))))
 (refine Zj (Yb S call39 (.cons (.t rfl) .nil) (c39 _ _ _ (by exact Sl.of_own S.wd (k := 0) rfl (fun _ => rfl)) (by exact .old S.wd (by assumption)) (by omega) (by assumption)) rfl ?_); clear S a w; rintro _ _ ⟨A11, r11, A21, r21, A31, r31, rfl, rfl⟩ a w S)
 simp only [List.nil_append] at S
 rw [rw_m] at S
 rw [rw_M] at S
 refine run S (.mv rfl <| .ex rfl rfl <| .ex rfl rfl <| .z) fun a w S => Zj (Zn S zeroValue37 (cs := _) rfl rfl fun g2 a w S => Zj (Zq S sizeOf37 (.t rfl) (.t rfl) (k := 0) rfl rfl rfl (by simp [Value.oneCell']) fun a w S => run S (.as rfl <| .z) fun a w S => Zb (Za (hK1 _ _ (wp_seq_k fun _ hK1 => sg S (.mv rfl <| .yy (Yq (by omega) (Yh (.t rfl) Ev.c)) rfl <| .z) fun a w S => Ze S (.t rfl) (wp_skip (Za (hK1 _ _ (wp_seq_k fun _ hK1 => wp_region_lit (run S (.fa underlying96 sizeOf37 16 rfl rfl rfl <| .fa underlying37 sizeOf35 17 rfl rfl rfl <| .la gt35 6 rfl rfl rfl <| .z) fun a w S => Zj (Zn S zeroValue35 (cs := _) rfl rfl fun g3 a w S => Zj (Zq S sizeOf35 (.t rfl) (.t rfl) (k := 0) rfl rfl rfl (by simp [Value.oneCell']) fun a w S => Zb (Za (hK1 _ _ (wp_seq_k fun _ hK1 => sg S (.mv rfl <| .ln underlying84 rfl <| .mc rfl <| .z) fun a w S => wp_block ?_)))))))))))))))
 refine Xb S [69] (X := Nat × ((Option Addr × Nat) × (Option Addr × Nat) × (Option Addr × Nat)) × Cart × Option ((Option Addr × Nat) × (Option Addr × Nat)) × Ctx) (fun p => [(69, true, .int .i64 (p.1 : Int))])
   (fun p => match p.2.2.2.1 with
     | none => [rowOf 100 6 Ent.enc p.2.1.1.1 p.2.1.1.2 p.2.2.1.ents, rowOf 30 3 Dot.enc p.2.1.2.1.1 p.2.1.2.1.2 p.2.2.1.ctx.marks, rowOf 74 3 Dot.enc p.2.1.2.2.1 p.2.1.2.2.2 p.2.2.1.ctx.cloud, .blk g2 (.cells #[.slice p.2.1.1.1 p.2.2.1.ents.length p.2.1.1.2, .slice p.2.1.2.1.1 p.2.2.1.ctx.marks.length p.2.1.2.1.2, .slice p.2.1.2.2.1 p.2.2.1.ctx.cloud.length p.2.1.2.2.2] 37), .blk g3 (.cells #[.slice x.s.2.a2 x.s.2.n2 x.s.2.c2, .slice x.s.2.a3 x.s.2.n3 x.s.2.c3] 35), rowOf 77 10 SUpd.enc B cB V, rowOf 96 22 SLog.enc A1 r1 pr, .blk g1 (.cells (SLog.enc x).toArray 96)]
     | some o => [rowOf 100 6 Ent.enc p.2.1.1.1 p.2.1.1.2 p.2.2.1.ents, rowOf 30 3 Dot.enc p.2.1.2.1.1 p.2.1.2.1.2 p.2.2.1.ctx.marks, rowOf 74 3 Dot.enc p.2.1.2.2.1 p.2.1.2.2.2 p.2.2.1.ctx.cloud, .blk g2 (.cells #[.slice p.2.1.1.1 p.2.2.1.ents.length p.2.1.1.2, .slice p.2.1.2.1.1 p.2.2.1.ctx.marks.length p.2.1.2.1.2, .slice p.2.1.2.2.1 p.2.2.1.ctx.cloud.length p.2.1.2.2.2] 37), .blk g3 (.cells #[.slice o.1.1 p.2.2.2.2.marks.length o.1.2, .slice o.2.1 p.2.2.2.2.cloud.length o.2.2] 35), rowOf 30 3 Dot.enc o.1.1 o.1.2 p.2.2.2.2.marks, rowOf 74 3 Dot.enc o.2.1 o.2.2 p.2.2.2.2.cloud, rowOf 77 10 SUpd.enc B cB V, rowOf 96 22 SLog.enc A1 r1 pr, .blk g1 (.cells (SLog.enc x).toArray 96)])
   (fun p => p.1 ≤ pr.length ∧ p.2.2.1 = (pr.take p.1).foldl cutC M ∧ p.2.2.2.2 = (pr.take p.1).foldl keepC x.s.1.ctx ∧ (p.2.2.2.1 = none → p.2.2.2.2 = x.s.1.ctx) ∧ CutOk p.2.2.1 p.2.2.2.2) (fun p => pr.length - p.1)
   (0, ((A11, r11), (A21, r21), (A31, r31)), M, none, x.s.1.ctx) ⟨Nat.zero_le _, rfl, rfl, fun _ => rfl, ⟨by dsimp only; omega, by dsimp only; omega, by dsimp only; omega, hs1, hs2, hm1⟩⟩ ?_
 clear S
 rintro ⟨i, ⟨⟨E1, e1⟩, ⟨E2, e2⟩, ⟨E3, e3⟩⟩, c, o, T⟩ a w ⟨hi, hcI, hTI, hoI, hok⟩ S
 dsimp only at hi hcI hTI hoI hok S
 by_cases hlt : i < pr.length
 · obtain ⟨gP, rfl⟩ : ∃ gP, A1 = some ⟨gP, 0, none⟩ := by
     cases o with
     | none => exact S.wd.row_at (k := 6) rfl (by have := (S.wd.room (k := 6) rfl).1; omega)
     | some o => exact S.wd.row_at (k := 8) rfl (by have := (S.wd.room (k := 8) rfl).1; omega)
   obtain ⟨y, hy9⟩ : ∃ y, pr[i]? = some y := ⟨_, List.getElem?_eq_getElem hlt⟩
   have hc2 : (pr.take (i + 1)).foldl cutC M = cutC c y := by rw [List.take_add_one, hy9, Option.toList_some, List.foldl_append, ← hcI]; rfl
   have hT2 : (pr.take (i + 1)).foldl keepC x.s.1.ctx = keepC T y := by rw [List.take_add_one, hy9, Option.toList_some, List.foldl_append, ← hTI]; rfl
   obtain ⟨k1, k2, k3, k4, k5, k6⟩ := id hok
   cases o with
   | none =>
     obtain rfl := hoI rfl
     have halt_d := trivial
     refine sg S (.lt (by omega) rfl rfl <| .z) fun a w S => wp_seq_k fun _ hK3 => Zg S (.t rfl) (wp_skip (Za (hK3 _ _ (wp_seq_k fun _ hK3 => wp_block (wp_seq_k fun _ hK4 => wp_region_lit (run S (.ix underlying84 sizeOf96 (by omega) rfl rfl <| .yy (Wu ⟨isAgg96, sizeOf96⟩ (.t rfl) (k := 6) rfl hy9 (fun _ => rfl)) rfl <| .z) fun a w S => Zj (Zn S zeroValue96 (cs := _) rfl rfl fun g4 a w S => Zj (Zq S sizeOf96 (.t rfl) (.t rfl) (k := 0) rfl rfl rfl (by simp [Value.oneCell']) fun a w S => Zb (Za (hK4 _ _ ?_))))))))))
     clear halt_d
     refine Wr S (by kernel_rfl) [.blk g4 (.cells (SLog.enc y).toArray 96), rowOf 100 6 Ent.enc E1 e1 c.ents, rowOf 30 3 Dot.enc E2 e2 c.ctx.marks, rowOf 74 3 Dot.enc E3 e3 c.ctx.cloud, rowOf 77 10 SUpd.enc B cB V, rowOf 96 22 SLog.enc (some ⟨gP, 0, none⟩) r1 pr, .blk g1 (.cells (SLog.enc x).toArray 96)] ?_
     clear S
     intro a w S
     have hold_r := trivial
     refine hy 1 S rfl (Zc (FieldT.mk underlying96 rfl sizeOf66 rfl) (.t rfl) (i' := 13) rfl) rfl fun a w S => hy 2 S rfl (Zz ⟨isAgg66, sizeOf66⟩ (.t rfl) (k := 0) rfl rfl) rfl fun a w S => hy 5 S rfl (Zc (FieldT.mk underlying96 rfl sizeOf66 rfl) (.t rfl) (i' := 13) rfl) rfl fun a w S => hy 6 S rfl (Zz ⟨isAgg66, sizeOf66⟩ (.t rfl) (k := 0) rfl rfl) rfl fun a w S => ?_
     refine Xv (i := 0) (j := 4) (by kernel_rfl) rfl rfl ?_ ?_
     (refine Vf S (Yr.ys (Zz ⟨isAgg37, sizeOf37⟩ (.t rfl) (k := 4) rfl rfl)) rfl ?_; clear S a w; intro a w S; refine Yj S ?_)
     refine Xv (i := 3) (j := 4) (by kernel_rfl) rfl rfl ?_ ?_
     (refine Yb S call68 (.cons (.t rfl) (.cons (.t rfl) .nil)) (c68 _ _ _ _ _ _ _ (by exact Sl.of_own S.wd (k := 1) rfl (fun _ => rfl)) (by exact ⟨(by exact Sl.of_own S.wd (k := 2) rfl (fun _ => rfl)), (by exact Sl.of_own S.wd (k := 3) rfl (fun _ => rfl))⟩) (by assumption) (by assumption) (by assumption)) rfl ?_; clear S a w; rintro _ _ ⟨A12, r12, A22, r22, A32, r32, rfl, rfl⟩ a w S; refine Yj S ?_)
     simp only [List.nil_append] at S
     refine h_q (i := 4) S (by repeat (first | exact List.Sublist.refl _ | exact List.nil_sublist _ | refine .cons_cons _ ?_ | refine .cons _ ?_)) rfl (by kernel_rfl) (Yr.ys (Zz ⟨isAgg35, sizeOf35⟩ (.t rfl) (k := 8) rfl rfl)) rfl fun a w S => ?_
     (refine h_m (i := 7) rfl (by kernel_rfl) (Yb S call142 (.cons (.t rfl) (.cons (.t rfl) .nil)) (c142 _ _ _ _ _ _ (by exact .old S.wd (by assumption)) (by assumption) (by assumption)) rfl ?_); clear S a w; rintro _ _ ⟨A13, r13, A23, r23, rfl, rfl⟩ a w S; refine Yj S ?_)
     (refine Xq (i := 8) rfl (by kernel_rfl) (Zq S sizeOf37 (.t rfl) (.t rfl) (k := 9) rfl rfl rfl (by simp [Value.oneCell']) ?_); clear S a w; intro a w S; refine Yj S ?_)
     (refine Xq (i := 9) rfl (by kernel_rfl) (Zq S sizeOf35 (.t rfl) (.t rfl) (k := 10) rfl rfl rfl (by simp [Value.oneCell']) ?_); clear S a w; intro a w S; refine Yj S ?_)
     refine Xf (by kernel_rfl) (Zk (Za (hK3 _ _ (wp_region_lit (run S (.ad (by unfold I64; omega) rfl <| .mv rfl <| .z) fun a w S => Zb (Za ?_))))))
     rotate_left
     (refine Vf S (Yr.ys (Zz ⟨isAgg35, sizeOf35⟩ (.t rfl) (k := 5) rfl rfl)) rfl ?_; clear S a w; intro a w S; refine Yj S ?_)
     (refine h_m (i := 3) rfl (by kernel_rfl) (Yb S call68 (.cons (.t rfl) (.cons (.t rfl) .nil)) (c68 _ _ _ _ _ _ _ (by exact Sl.of_own S.wd (k := 1) rfl (fun _ => rfl)) (by exact ⟨(by exact Sl.of_own S.wd (k := 2) rfl (fun _ => rfl)), (by exact Sl.of_own S.wd (k := 3) rfl (fun _ => rfl))⟩) (by assumption) (by assumption) (by assumption)) rfl ?_); clear S a w; rintro _ _ ⟨A12, r12, A22, r22, A32, r32, rfl, rfl⟩ a w S; refine Yj S ?_)
     simp only [List.nil_append] at S
     (refine h_m (i := 7) rfl (by kernel_rfl) (Yb S call142 (.cons (.t rfl) (.cons (.t rfl) .nil)) (c142 _ _ _ _ _ _ (by exact .old S.wd (by assumption)) (by assumption) (by assumption)) rfl ?_); clear S a w; rintro _ _ ⟨A13, r13, A23, r23, rfl, rfl⟩ a w S; refine Yj S ?_)
     (refine Xq (i := 8) rfl (by kernel_rfl) (Zq S sizeOf37 (.t rfl) (.t rfl) (k := 9) rfl rfl rfl (by simp [Value.oneCell']) ?_); clear S a w; intro a w S; refine Yj S ?_)
     (refine Xq (i := 9) rfl (by kernel_rfl) (Zq S sizeOf35 (.t rfl) (.t rfl) (k := 10) rfl rfl rfl (by simp [Value.oneCell']) ?_); clear S a w; intro a w S; refine Yj S ?_)
     refine Xf (by kernel_rfl) (Zk (Za (hK3 _ _ (wp_region_lit (run S (.ad (by unfold I64; omega) rfl <| .mv rfl <| .z) fun a w S => Zb (Za ?_))))))
     rotate_left
     (refine Vf S (Yr.ys (Zz ⟨isAgg35, sizeOf35⟩ (.t rfl) (k := 5) rfl rfl)) rfl ?_; clear S a w; intro a w S; refine Yj S ?_)
     refine h_q (i := 0) S (by repeat (first | exact List.Sublist.refl _ | exact List.nil_sublist _ | refine .cons_cons _ ?_ | refine .cons _ ?_)) rfl (by kernel_rfl) (Yr.ys (Zz ⟨isAgg37, sizeOf37⟩ (.t rfl) (k := 4) rfl rfl)) rfl fun a w S => ?_
     (refine h_m (i := 3) rfl (by kernel_rfl) (Yb S call68 (.cons (.t rfl) (.cons (.t rfl) .nil)) (c68 _ _ _ _ _ _ _ (by exact Sl.of_own S.wd (k := 1) rfl (fun _ => rfl)) (by exact ⟨(by exact Sl.of_own S.wd (k := 2) rfl (fun _ => rfl)), (by exact Sl.of_own S.wd (k := 3) rfl (fun _ => rfl))⟩) (by assumption) (by assumption) (by assumption)) rfl ?_); clear S a w; rintro _ _ ⟨A12, r12, A22, r22, A32, r32, rfl, rfl⟩ a w S; refine Yj S ?_)
     simp only [List.nil_append] at S
     (refine h_m (i := 7) rfl (by kernel_rfl) (Yb S call142 (.cons (.t rfl) (.cons (.t rfl) .nil)) (c142 _ _ _ _ _ _ (by exact .old S.wd (by assumption)) (by assumption) (by assumption)) rfl ?_); clear S a w; rintro _ _ ⟨A13, r13, A23, r23, rfl, rfl⟩ a w S; refine Yj S ?_)
     (refine Xq (i := 8) rfl (by kernel_rfl) (Zq S sizeOf37 (.t rfl) (.t rfl) (k := 9) rfl rfl rfl (by simp [Value.oneCell']) ?_); clear S a w; intro a w S; refine Yj S ?_)
     (refine Xq (i := 9) rfl (by kernel_rfl) (Zq S sizeOf35 (.t rfl) (.t rfl) (k := 10) rfl rfl rfl (by simp [Value.oneCell']) ?_); clear S a w; intro a w S; refine Yj S ?_)
     refine Xf (by kernel_rfl) (Zk (Za (hK3 _ _ (wp_region_lit (run S (.ad (by unfold I64; omega) rfl <| .mv rfl <| .z) fun a w S => Zb (Za ?_))))))
     rotate_left
     all_goals exact ⟨(i + 1, ((A12, r12), (A22, r22), (A32, r32)), cutC c y, some ((A13, r13), (A23, r23)), keepC x.s.1.ctx y), ⟨by dsimp only; omega, hc2.symm, hT2.symm, fun h => (by cases h), hok.cut y⟩, by dsimp only; omega, S.pk⟩
   | some o =>
     obtain ⟨⟨P1, p1⟩, ⟨P2, p2⟩⟩ := o
     dsimp only at S
     have halt_d := trivial
     refine sg S (.lt (by omega) rfl rfl <| .z) fun a w S => wp_seq_k fun _ hK3 => Zg S (.t rfl) (wp_skip (Za (hK3 _ _ (wp_seq_k fun _ hK3 => wp_block (wp_seq_k fun _ hK4 => wp_region_lit (run S (.ix underlying84 sizeOf96 (by omega) rfl rfl <| .yy (Wu ⟨isAgg96, sizeOf96⟩ (.t rfl) (k := 8) rfl hy9 (fun _ => rfl)) rfl <| .z) fun a w S => Zj (Zn S zeroValue96 (cs := _) rfl rfl fun g4 a w S => Zj (Zq S sizeOf96 (.t rfl) (.t rfl) (k := 0) rfl rfl rfl (by simp [Value.oneCell']) fun a w S => Zb (Za (hK4 _ _ ?_))))))))))
     clear halt_d
     refine Wr S (by kernel_rfl) [.blk g4 (.cells (SLog.enc y).toArray 96), rowOf 100 6 Ent.enc E1 e1 c.ents, rowOf 30 3 Dot.enc E2 e2 c.ctx.marks, rowOf 74 3 Dot.enc E3 e3 c.ctx.cloud, rowOf 30 3 Dot.enc P1 p1 T.marks, rowOf 74 3 Dot.enc P2 p2 T.cloud, rowOf 77 10 SUpd.enc B cB V, rowOf 96 22 SLog.enc (some ⟨gP, 0, none⟩) r1 pr, .blk g1 (.cells (SLog.enc x).toArray 96)] ?_
     clear S
     intro a w S
     have hold_r := trivial
     refine hy 1 S rfl (Zc (FieldT.mk underlying96 rfl sizeOf66 rfl) (.t rfl) (i' := 13) rfl) rfl fun a w S => hy 2 S rfl (Zz ⟨isAgg66, sizeOf66⟩ (.t rfl) (k := 0) rfl rfl) rfl fun a w S => hy 5 S rfl (Zc (FieldT.mk underlying96 rfl sizeOf66 rfl) (.t rfl) (i' := 13) rfl) rfl fun a w S => hy 6 S rfl (Zz ⟨isAgg66, sizeOf66⟩ (.t rfl) (k := 0) rfl rfl) rfl fun a w S => ?_
     refine Xv (i := 0) (j := 4) (by kernel_rfl) rfl rfl ?_ ?_
     (refine Vf S (Yr.ys (Zz ⟨isAgg37, sizeOf37⟩ (.t rfl) (k := 4) rfl rfl)) rfl ?_; clear S a w; intro a w S; refine Yj S ?_)
     refine Xv (i := 3) (j := 4) (by kernel_rfl) rfl rfl ?_ ?_
     (refine Yb S call68 (.cons (.t rfl) (.cons (.t rfl) .nil)) (c68 _ _ _ _ _ _ _ (by exact Sl.of_own S.wd (k := 1) rfl (fun _ => rfl)) (by exact ⟨(by exact Sl.of_own S.wd (k := 2) rfl (fun _ => rfl)), (by exact Sl.of_own S.wd (k := 3) rfl (fun _ => rfl))⟩) (by assumption) (by assumption) (by assumption)) rfl ?_; clear S a w; rintro _ _ ⟨A12, r12, A22, r22, A32, r32, rfl, rfl⟩ a w S; refine Yj S ?_)
     refine h_q (i := 4) S (by repeat (first | exact List.Sublist.refl _ | exact List.nil_sublist _ | refine .cons_cons _ ?_ | refine .cons _ ?_)) rfl (by kernel_rfl) (Yr.ys (Zz ⟨isAgg35, sizeOf35⟩ (.t rfl) (k := 8) rfl rfl)) rfl fun a w S => ?_
     (refine h_m (i := 7) rfl (by kernel_rfl) (Yb S call142 (.cons (.t rfl) (.cons (.t rfl) .nil)) (c142 _ _ _ _ _ _ (by exact ⟨(by exact Sl.of_own S.wd (k := 9) rfl (fun _ => rfl)), (by exact Sl.of_own S.wd (k := 10) rfl (fun _ => rfl))⟩) (by assumption) (by assumption)) rfl ?_); clear S a w; rintro _ _ ⟨A13, r13, A23, r23, rfl, rfl⟩ a w S; refine Yj S ?_)
     (refine Xq (i := 8) rfl (by kernel_rfl) (Zq S sizeOf37 (.t rfl) (.t rfl) (k := 9) rfl rfl rfl (by simp [Value.oneCell']) ?_); clear S a w; intro a w S; refine Yj S ?_)
     (refine Xq (i := 9) rfl (by kernel_rfl) (Zq S sizeOf35 (.t rfl) (.t rfl) (k := 10) rfl rfl rfl (by simp [Value.oneCell']) ?_); clear S a w; intro a w S; refine Yj S ?_)
     refine Xf (by kernel_rfl) (Zk (Za (hK3 _ _ (wp_region_lit (run S (.ad (by unfold I64; omega) rfl <| .mv rfl <| .z) fun a w S => Zb (Za ?_))))))
     rotate_left
     (refine Vf S (Yr.ys (Zz ⟨isAgg35, sizeOf35⟩ (.t rfl) (k := 5) rfl rfl)) rfl ?_; clear S a w; intro a w S; refine Yj S ?_)
     (refine h_m (i := 3) rfl (by kernel_rfl) (Yb S call68 (.cons (.t rfl) (.cons (.t rfl) .nil)) (c68 _ _ _ _ _ _ _ (by exact Sl.of_own S.wd (k := 1) rfl (fun _ => rfl)) (by exact ⟨(by exact Sl.of_own S.wd (k := 2) rfl (fun _ => rfl)), (by exact Sl.of_own S.wd (k := 3) rfl (fun _ => rfl))⟩) (by assumption) (by assumption) (by assumption)) rfl ?_); clear S a w; rintro _ _ ⟨A12, r12, A22, r22, A32, r32, rfl, rfl⟩ a w S; refine Yj S ?_)
     (refine h_m (i := 7) rfl (by kernel_rfl) (Yb S call142 (.cons (.t rfl) (.cons (.t rfl) .nil)) (c142 _ _ _ _ _ _ (by exact ⟨(by exact Sl.of_own S.wd (k := 9) rfl (fun _ => rfl)), (by exact Sl.of_own S.wd (k := 10) rfl (fun _ => rfl))⟩) (by assumption) (by assumption)) rfl ?_); clear S a w; rintro _ _ ⟨A13, r13, A23, r23, rfl, rfl⟩ a w S; refine Yj S ?_)
     (refine Xq (i := 8) rfl (by kernel_rfl) (Zq S sizeOf37 (.t rfl) (.t rfl) (k := 9) rfl rfl rfl (by simp [Value.oneCell']) ?_); clear S a w; intro a w S; refine Yj S ?_)
     (refine Xq (i := 9) rfl (by kernel_rfl) (Zq S sizeOf35 (.t rfl) (.t rfl) (k := 10) rfl rfl rfl (by simp [Value.oneCell']) ?_); clear S a w; intro a w S; refine Yj S ?_)
     refine Xf (by kernel_rfl) (Zk (Za (hK3 _ _ (wp_region_lit (run S (.ad (by unfold I64; omega) rfl <| .mv rfl <| .z) fun a w S => Zb (Za ?_))))))
     rotate_left
     (refine Vf S (Yr.ys (Zz ⟨isAgg35, sizeOf35⟩ (.t rfl) (k := 5) rfl rfl)) rfl ?_; clear S a w; intro a w S; refine Yj S ?_)
     refine h_q (i := 0) S (by repeat (first | exact List.Sublist.refl _ | exact List.nil_sublist _ | refine .cons_cons _ ?_ | refine .cons _ ?_)) rfl (by kernel_rfl) (Yr.ys (Zz ⟨isAgg37, sizeOf37⟩ (.t rfl) (k := 4) rfl rfl)) rfl fun a w S => ?_
     (refine h_m (i := 3) rfl (by kernel_rfl) (Yb S call68 (.cons (.t rfl) (.cons (.t rfl) .nil)) (c68 _ _ _ _ _ _ _ (by exact Sl.of_own S.wd (k := 1) rfl (fun _ => rfl)) (by exact ⟨(by exact Sl.of_own S.wd (k := 2) rfl (fun _ => rfl)), (by exact Sl.of_own S.wd (k := 3) rfl (fun _ => rfl))⟩) (by assumption) (by assumption) (by assumption)) rfl ?_); clear S a w; rintro _ _ ⟨A12, r12, A22, r22, A32, r32, rfl, rfl⟩ a w S; refine Yj S ?_)
     (refine h_m (i := 7) rfl (by kernel_rfl) (Yb S call142 (.cons (.t rfl) (.cons (.t rfl) .nil)) (c142 _ _ _ _ _ _ (by exact ⟨(by exact Sl.of_own S.wd (k := 9) rfl (fun _ => rfl)), (by exact Sl.of_own S.wd (k := 10) rfl (fun _ => rfl))⟩) (by assumption) (by assumption)) rfl ?_); clear S a w; rintro _ _ ⟨A13, r13, A23, r23, rfl, rfl⟩ a w S; refine Yj S ?_)
     (refine Xq (i := 8) rfl (by kernel_rfl) (Zq S sizeOf37 (.t rfl) (.t rfl) (k := 9) rfl rfl rfl (by simp [Value.oneCell']) ?_); clear S a w; intro a w S; refine Yj S ?_)
     (refine Xq (i := 9) rfl (by kernel_rfl) (Zq S sizeOf35 (.t rfl) (.t rfl) (k := 10) rfl rfl rfl (by simp [Value.oneCell']) ?_); clear S a w; intro a w S; refine Yj S ?_)
     refine Xf (by kernel_rfl) (Zk (Za (hK3 _ _ (wp_region_lit (run S (.ad (by unfold I64; omega) rfl <| .mv rfl <| .z) fun a w S => Zb (Za ?_))))))
     rotate_left
     all_goals exact ⟨(i + 1, ((A12, r12), (A22, r22), (A32, r32)), cutC c y, some ((A13, r13), (A23, r23)), keepC T y), ⟨by dsimp only; omega, hc2.symm, hT2.symm, fun h => (by cases h), hok.cut y⟩, by dsimp only; omega, S.pk⟩
 obtain rfl : i = pr.length := by omega
 rw [List.take_length] at hcI hTI
 have k6 := hok.may
 have hfin : rightK l x = (decide (c = x.c.1) && leqL T x.c.1.ctx) := by rw [hR, decide_eq_true hm0, rw_M, ← hcI, ← hTI]; rfl
 cases o with
 | none =>
   obtain rfl := hoI rfl
   refine sg S (.ge (by omega) rfl rfl <| .z) fun a w S => wp_seq_k fun _ hK3 => Ze S (.t rfl) (wp_exit (Zh (Zh (Ya (Za (hK1 _ _ (wp_seq_k fun _ hK1 => wp_region_lit (run S (.la gt37 3 rfl rfl rfl <| .fa underlying96 sizeOf37 19 rfl rfl rfl <| .la gt37 7 rfl rfl rfl <| .xx (Zf call95 (.cons (.t rfl) (.cons (.t rfl) .nil)) (fun hp w W => c95 _ _ _ _ _ _ _ _ _ (by exact Sl.of_own W (k := 0) rfl (fun _ => rfl)) (by exact ⟨(by exact Sl.of_own W (k := 1) rfl (fun _ => rfl)), (by exact Sl.of_own W (k := 2) rfl (fun _ => rfl))⟩) (by exact .old W (by assumption)) (by exact .old W (by assumption)))) rfl <| .z) fun a w S => ?_))))))))
   simp only [List.nil_append] at S
   refine run S (.mv rfl <| .z) fun a w S => Yd S rfl rfl (Yr.ys (Zz ⟨isAgg35, sizeOf35⟩ (.t rfl) (k := 4) rfl rfl)) rfl fun a w S => Yd S rfl rfl (Yr.ys (Zc (FieldT.mk underlying96 rfl sizeOf37 rfl) (.t rfl) (i' := 19) rfl)) rfl fun a w S => Yd S rfl rfl (Yr.ys (Zc (FieldT.mk underlying37 rfl sizeOf35 rfl) (Ev.g rfl) (i' := 20) rfl)) rfl fun a w S => Yd S rfl rfl (Yr.ys (Zz ⟨isAgg35, sizeOf35⟩ (Ev.g rfl) (k := 7) rfl rfl)) rfl fun a w S => Yd S rfl rfl (Zf call173 (.cons (Ev.g rfl) (.cons (Ev.g rfl) .nil)) (fun hp w W => c173 _ _ _ _ _ _ _ (by exact .old W (by assumption)) (by exact .old W (by assumption)) (by assumption) (by assumption))) rfl fun a w S => run S (.yy (Xn (.t rfl) (Ev.g rfl) Ev.c) rfl <| .as rfl <| .z) fun a w S => Zb (Za (hK1 _ _ (wp_ret (Zm S (results1 S results125 (Rv.tmp rfl)) ?_))))
   exact ⟨by rw [hfin], S.wd.below⟩
 | some o =>
   obtain ⟨⟨P1, p1⟩, ⟨P2, p2⟩⟩ := o
   dsimp only at S
   refine sg S (.ge (by omega) rfl rfl <| .z) fun a w S => wp_seq_k fun _ hK3 => Ze S (.t rfl) (wp_exit (Zh (Zh (Ya (Za (hK1 _ _ (wp_seq_k fun _ hK1 => wp_region_lit (run S (.la gt37 3 rfl rfl rfl <| .fa underlying96 sizeOf37 19 rfl rfl rfl <| .la gt37 9 rfl rfl rfl <| .xx (Zf call95 (.cons (.t rfl) (.cons (.t rfl) .nil)) (fun hp w W => c95 _ _ _ _ _ _ _ _ _ (by exact Sl.of_own W (k := 0) rfl (fun _ => rfl)) (by exact ⟨(by exact Sl.of_own W (k := 1) rfl (fun _ => rfl)), (by exact Sl.of_own W (k := 2) rfl (fun _ => rfl))⟩) (by exact .old W (by assumption)) (by exact .old W (by assumption)))) rfl <| .mv rfl <| .z) fun a w S => Yd S rfl rfl (Yr.ys (Zz ⟨isAgg35, sizeOf35⟩ (.t rfl) (k := 4) rfl rfl)) rfl fun a w S => Yd S rfl rfl (Yr.ys (Zc (FieldT.mk underlying96 rfl sizeOf37 rfl) (.t rfl) (i' := 19) rfl)) rfl fun a w S => Yd S rfl rfl (Yr.ys (Zc (FieldT.mk underlying37 rfl sizeOf35 rfl) (Ev.g rfl) (i' := 20) rfl)) rfl fun a w S => Yd S rfl rfl (Yr.ys (Zz ⟨isAgg35, sizeOf35⟩ (Ev.g rfl) (k := 9) rfl rfl)) rfl fun a w S => ?_))))))))
   refine Yd S rfl rfl (Zf call173 (.cons (Ev.g rfl) (.cons (Ev.g rfl) .nil)) (fun hp w W => c173 _ _ _ _ _ _ _ (by exact ⟨(by exact Sl.of_own W (k := 5) rfl (fun _ => rfl)), (by exact Sl.of_own W (k := 6) rfl (fun _ => rfl))⟩) (by exact .old W (by assumption)) (by assumption) (by assumption))) rfl fun a w S => run S (.yy (Xn (.t rfl) (Ev.g rfl) Ev.c) rfl <| .as rfl <| .z) fun a w S => Zb (Za (hK1 _ _ (wp_ret (Zm S (results1 S results125 (Rv.tmp rfl)) ?_))))
   exact ⟨by rw [hfin], S.wd.below⟩
end Go.Proofs.YtakpdbmdfnialaaGreat
namespace Go.Fw
open Go.RowKit
theorem Sl.take_n {α : Type} {enc : α → List Value} {size B : Nat} {w : World} {A : Option Addr} {l : List α} {cap m : Nat} (h : Sl enc size w B (.slice A l.length cap) l) (hm : m ≤ l.length) : Sl enc size w B (.slice A m cap) (l.take m) := by
 obtain ⟨A', cap', e, h2, h3, h4⟩ := h
 simp only [Value.slice.injEq, true_and] at e
 obtain ⟨rfl, rfl⟩ := e
 have hl : (l.take m).length = m := by rw [List.length_take]; omega
 refine ⟨A, cap, by rw [hl], by omega, h3, fun hp => ?_⟩
 obtain ⟨g, o, k1, k2, k3⟩ := h4 (by omega)
 refine ⟨g, o, k1, k2, fun k x hx => k3 k x ?_⟩
 rw [List.getElem?_take] at hx
 split at hx
 · exact hx
 · cases hx
def readsF (l : List SLog) : Nat → List SLog → Int × Int
 | _, [] => (0, 0)
 | i, x :: r => if x.kind = 3 then (if rightK (l.take i) x = true then readsF l (i + 1) r else ((i : Int), 260)) else readsF l (i + 1) r
def readsK (l : List SLog) : Int × Int := readsF l 0 l
theorem readsF_at {l : List SLog} {x : SLog} {i : Nat} (h : l[i]? = some x) : readsF l i (l.drop i) = if x.kind = 3 then (if rightK (l.take i) x = true then readsF l (i + 1) (l.drop (i + 1)) else ((i : Int), 260)) else readsF l (i + 1) (l.drop (i + 1)) := by
 obtain ⟨h1, h2⟩ := List.getElem?_eq_some_iff.1 h
 rw [List.drop_eq_getElem_cons h1, h2, readsF]
structure JrnOk (w : World) (l : List SLog) : Prop where
 rd : LogsRd w l
 len : l.length ≤ 1048576
 ok : ∀ x ∈ l, CartOk x.s.1 ∧ ∀ m ∈ x.c.1.ctx.marks, mayD m = true
 room : ∀ i x, l[i]? = some x → RoomU ((toldU (goneK (l.take i) x.key) x (l.take i)).map (·.1))
theorem JrnOk.old {w0 w : World} {L : List Chunk} {l : List SLog} (W : Wd w0 L w) (h : JrnOk w0 l) : JrnOk w l := ⟨h.rd.old W, h.len, h.ok, h.room⟩
theorem CartOk.mayM {c : Cart} (h : CartOk c) : ∀ m ∈ c.ctx.marks, mayD m = true := ((canL_iff _).1 h.ctx).2.mayM
end Go.Fw
namespace Go.Proofs.YtakpdbmdfnialaaGreat
open Go.Fw Go.Proofs Go.RowKit Go.Proofs.Tryz
theorem d126 (w0 : World) (v : Value) (l : List SLog) (h : Sl SLog.enc 22 w0 w0.heap.size v l) (hl : JrnOk w0 l) :
   Calls Tryz.prog 126 #[.agg #[.int .i64 3, .func (.func 125) #[] #[]], v] w0 fun e w' => e = .returned (.tuple #[.int .i64 (readsK l).1, .int .i64 (readsK l).2]) ∧ Bel w0.heap.size w0 w' := by
 have hs := h
 obtain ⟨A, cap, rfl, hl0, hcap, hA⟩ := h
 refine enter2 func126 rfl ntmps126 rfl fun a S => wp_seq_k fun _ hK1 => wp_region_lit (Zj (Zw S (.t rfl) rfl fun g1 a w S => run S (.ac rfl <| .ac rfl <| .z) fun a w S => Zb (Za (hK1 _ _ (wp_seq_k fun _ hK1 => sg S (.mv rfl <| .ln underlying84 rfl <| .mc rfl <| .z) fun a w S => wp_block ?_)))))
 refine Xb S [10] (X := Nat) (fun q => [(10, true, .int .i64 (q : Int))])
   (fun q => [.blk g1 (.cells #[.int .i64 3, .func (.func 125) #[] #[]] 170)])
   (fun q => q ≤ l.length ∧ readsF l q (l.drop q) = readsK l) (fun q => l.length - q) 0 ⟨Nat.zero_le _, rfl⟩ ?_
 clear S
 rintro q a w ⟨hq, hF⟩ S
 by_cases hlt : q < l.length
 · obtain ⟨gq, oq, x, rfl, hx, hd, hc⟩ := Yg hA hlt
   rw [readsF_at hx] at hF
   by_cases hk : x.kind = 3
   · have rw_k := decide_eq_true hk
     rw [if_pos hk] at hF
     have hxr := hl.rd x (List.mem_of_getElem? hx)
     obtain ⟨o1, m2⟩ := hl.ok x (List.mem_of_getElem? hx)
     have hroom := hl.room q x hx
     have m1 := o1.mayM
     obtain ⟨l1, l2, l3⟩ := cart_lens o1
     have ht : (l.take q).length = q := by rw [List.length_take]; omega
     have hst := Sl.take_n hs (m := q) (by omega)
     have hlt2 : LogsRd w0 (l.take q) := fun y hy => hl.rd y (List.mem_of_mem_take hy)
     have hlen := hl.len
     cases hB : rightK (l.take q) x with
     | true =>
       have rw_B := hB
       rw [if_pos hB] at hF
       have halt_r := trivial
       refine sg S (.lt (by omega) rfl rfl <| .z) fun a w S => wp_seq_k fun _ hK2 => Zg S (.t rfl) (wp_skip (Za (hK2 _ _ (wp_seq_k fun _ hK2 => wp_block (wp_seq_k fun _ hK3 => wp_region_lit (run S (.mv rfl <| .ix underlying84 sizeOf96 (by omega) rfl rfl <| .yy (Zp ⟨isAgg96, sizeOf96⟩ (.t rfl) (vs := [_, _, _, _, _, _, _, _, _, _, _, _, _, _, _, _, _, _, _, _, _, _]) rfl (fun _ => hc)) rfl <| .z) fun a w S => Zj (Zn S zeroValue96 (cs := _) rfl rfl fun g2 a w S => run S (.as rfl <| .z) fun a w S => Zj (Zq S sizeOf96 (.t rfl) (.t rfl) (k := 0) rfl rfl rfl (by simp [Value.oneCell']) fun a w S => Zb (Za (hK3 _ _ (wp_seq_k fun _ hK3 => ?_)))))))))))
       clear halt_r
       refine Wr S (by kernel_rfl) [.blk g2 (.cells (SLog.enc x).toArray 96), .blk g1 (.cells #[.int .i64 3, .func (.func 125) #[] #[]] 170)] ?_
       clear S
       intro a w S
       have hold_r := trivial
       refine hy 0 S rfl (Zc (FieldT.mk underlying96 rfl sizeOf3 rfl) (.t rfl) (i' := 0) rfl) rfl fun a w S => hy 1 S rfl (Zt ⟨isAgg3, sizeOf3⟩ (.t rfl) (k := 0) rfl rfl) rfl fun a w S => hy 2 S rfl (Zc (FieldT.mk underlying170 rfl sizeOf3 rfl) (.t rfl) (i' := 0) rfl) rfl fun a w S => hy 3 S rfl (Zt ⟨isAgg3, sizeOf3⟩ (.t rfl) (k := 1) rfl rfl) rfl fun a w S => hy 4 S rfl (Yu (by omega) (Ye (.t rfl) (.t rfl))) rfl fun a w S => ?_
       refine hy 5 S rfl (Zi (.t rfl)) rfl fun a w S => hyt 6 S rfl rfl rfl (Zc (FieldT.mk underlying170 rfl sizeOf168 rfl) (.t rfl) (i' := 1) rfl) rfl fun a w S => hyt 7 S rfl rfl rfl (Zt ⟨isAgg168, sizeOf168⟩ (.t rfl) (k := 1) rfl rfl) rfl fun a w S => hyt 8 S rfl rfl rfl (Zi (.t rfl)) rfl fun a w S => hyt 9 S rfl rfl rfl (Zi (.t rfl)) rfl fun a w S => ?_
       refine hyt 10 S rfl rfl rfl (Va underlying84 sizeOf96 (.t rfl) (.t rfl) (fun _ => by first | omega | (simp; done) | (simp; omega))) rfl fun a w S => hyt 11 S rfl rfl rfl (Zz ⟨isAgg96, sizeOf96⟩ (.t rfl) (k := 0) rfl rfl) rfl fun a w S => h_qg (i := 12) S (by repeat (first | exact List.Sublist.refl _ | exact List.nil_sublist _ | refine .cons_cons _ ?_ | refine .cons _ ?_)) rfl (by kernel_rfl) rfl rfl (ys_callV (.t rfl) call125 (.cons (.t rfl) (.cons (.t rfl) .nil)) (fun hp w W => c125 _ _ _ _ (by exact .old W (by assumption)) (by exact .old W (by assumption)) (by omega) (by exact .old W (by assumption)) (by assumption) (by assumption) (by assumption) (by omega) (by omega))) rfl fun a w S => ?_
       rw [rw_B] at S
       refine hyt 13 S rfl rfl rfl (Xh (.t rfl)) rfl fun a w S => hy 14 S rfl (Zv (.t rfl) (.t rfl)) rfl fun a w S => Xf (by kernel_rfl) (Za (hK3 _ _ (Ze S (.t rfl) (wp_skip (Zk (Za (hK2 _ _ (wp_region_lit (run S (.ad (by unfold I64; omega) rfl <| .mv rfl <| .z) fun a w S => Zb (Za ?_))))))))))
       exact ⟨q + 1, ⟨by omega, hF⟩, by omega, S.pk⟩
     | false =>
       have rw_B := hB
       rw [if_neg (by rw [hB]; decide)] at hF
       have halt_r := trivial
       refine sg S (.lt (by omega) rfl rfl <| .z) fun a w S => wp_seq_k fun _ hK2 => Zg S (.t rfl) (wp_skip (Za (hK2 _ _ (wp_seq_k fun _ hK2 => wp_block (wp_seq_k fun _ hK3 => wp_region_lit (run S (.mv rfl <| .ix underlying84 sizeOf96 (by omega) rfl rfl <| .yy (Zp ⟨isAgg96, sizeOf96⟩ (.t rfl) (vs := [_, _, _, _, _, _, _, _, _, _, _, _, _, _, _, _, _, _, _, _, _, _]) rfl (fun _ => hc)) rfl <| .z) fun a w S => Zj (Zn S zeroValue96 (cs := _) rfl rfl fun g2 a w S => run S (.as rfl <| .z) fun a w S => Zj (Zq S sizeOf96 (.t rfl) (.t rfl) (k := 0) rfl rfl rfl (by simp [Value.oneCell']) fun a w S => Zb (Za (hK3 _ _ (wp_seq_k fun _ hK3 => ?_)))))))))))
       clear halt_r
       refine Wr S (by kernel_rfl) [.blk g2 (.cells (SLog.enc x).toArray 96), .blk g1 (.cells #[.int .i64 3, .func (.func 125) #[] #[]] 170)] ?_
       clear S
       intro a w S
       have hold_r := trivial
       refine hy 0 S rfl (Zc (FieldT.mk underlying96 rfl sizeOf3 rfl) (.t rfl) (i' := 0) rfl) rfl fun a w S => hy 1 S rfl (Zt ⟨isAgg3, sizeOf3⟩ (.t rfl) (k := 0) rfl rfl) rfl fun a w S => hy 2 S rfl (Zc (FieldT.mk underlying170 rfl sizeOf3 rfl) (.t rfl) (i' := 0) rfl) rfl fun a w S => hy 3 S rfl (Zt ⟨isAgg3, sizeOf3⟩ (.t rfl) (k := 1) rfl rfl) rfl fun a w S => hy 4 S rfl (Yu (by omega) (Ye (.t rfl) (.t rfl))) rfl fun a w S => ?_
       refine hy 5 S rfl (Zi (.t rfl)) rfl fun a w S => hyt 6 S rfl rfl rfl (Zc (FieldT.mk underlying170 rfl sizeOf168 rfl) (.t rfl) (i' := 1) rfl) rfl fun a w S => hyt 7 S rfl rfl rfl (Zt ⟨isAgg168, sizeOf168⟩ (.t rfl) (k := 1) rfl rfl) rfl fun a w S => hyt 8 S rfl rfl rfl (Zi (.t rfl)) rfl fun a w S => hyt 9 S rfl rfl rfl (Zi (.t rfl)) rfl fun a w S => ?_
       refine hyt 10 S rfl rfl rfl (Va underlying84 sizeOf96 (.t rfl) (.t rfl) (fun _ => by first | omega | (simp; done) | (simp; omega))) rfl fun a w S => hyt 11 S rfl rfl rfl (Zz ⟨isAgg96, sizeOf96⟩ (.t rfl) (k := 0) rfl rfl) rfl fun a w S => h_qg (i := 12) S (by repeat (first | exact List.Sublist.refl _ | exact List.nil_sublist _ | refine .cons_cons _ ?_ | refine .cons _ ?_)) rfl (by kernel_rfl) rfl rfl (ys_callV (.t rfl) call125 (.cons (.t rfl) (.cons (.t rfl) .nil)) (fun hp w W => c125 _ _ _ _ (by exact .old W (by assumption)) (by exact .old W (by assumption)) (by omega) (by exact .old W (by assumption)) (by assumption) (by assumption) (by assumption) (by omega) (by omega))) rfl fun a w S => ?_
       rw [rw_B] at S
       refine hyt 13 S rfl rfl rfl (Xh (.t rfl)) rfl fun a w S => hy 14 S rfl (Zv (.t rfl) (.t rfl)) rfl fun a w S => Xf (by kernel_rfl) (Za (hK3 _ _ (Zg S (.t rfl) (sg S (.mv rfl <| .as rfl <| .ac rfl <| .z) fun a w S => wp_ret (Zr (Zd (Zd (Zr (Zd (Zm S (results2 S results126 (Rv.tmp rfl) (Rv.tmp rfl)) ?_))))))))))
       rw [← hF]
       exact ⟨rfl, S.wd.below⟩
   · have rw_k := decide_eq_false hk
     rw [if_neg hk] at hF
     refine sg S (.lt (by omega) rfl rfl <| .z) fun a w S => wp_seq_k fun _ hK2 => Zg S (.t rfl) (wp_skip (Za (hK2 _ _ (wp_seq_k fun _ hK2 => wp_block (wp_seq_k fun _ hK3 => wp_region_lit (run S (.mv rfl <| .ix underlying84 sizeOf96 (by omega) rfl rfl <| .yy (Zp ⟨isAgg96, sizeOf96⟩ (.t rfl) (vs := [_, _, _, _, _, _, _, _, _, _, _, _, _, _, _, _, _, _, _, _, _, _]) rfl (fun _ => hc)) rfl <| .z) fun a w S => Zj (Zn S zeroValue96 (cs := _) rfl rfl fun g2 a w S => run S (.as rfl <| .z) fun a w S => Zj (Zq S sizeOf96 (.t rfl) (.t rfl) (k := 0) rfl rfl rfl (by simp [Value.oneCell']) fun a w S => Zb (Za (hK3 _ _ (wp_seq_k fun _ hK3 => Yc S (by kernel_rfl) (by kernel_rfl) fun a S => qrun S (.fa underlying96 sizeOf3 0 rfl rfl rfl <| .ld gt3 0 rfl rfl rfl <| .fa underlying170 sizeOf3 0 rfl rfl rfl <| .ld gt3 1 rfl rfl rfl <| .yy (Yq (by omega) (Ye (.t rfl) (.t rfl))) rfl <| .mv rfl <| .sk rfl rfl rfl <| .sk rfl rfl rfl <| .sk rfl rfl rfl <| .sk rfl rfl rfl <| .sk rfl rfl rfl <| .sk rfl rfl rfl <| .sk rfl rfl rfl <| .sk rfl rfl rfl <| .yy (Zu (.t rfl) Ev.c) rfl <| .z) fun a S => ?_)))))))))))
     (refine Yt ?_; intro w W; replace S := St.mk S W; clear W)
     refine Za (hK3 _ _ (Ze S (.t rfl) (wp_skip (Zk (Za (hK2 _ _ (wp_region_lit (run S (.ad (by unfold I64; omega) rfl <| .mv rfl <| .z) fun a w S => Zb (Za ?_)))))))))
     exact ⟨q + 1, ⟨by omega, hF⟩, by omega, S.pk⟩
 obtain rfl : q = l.length := by omega
 rw [List.drop_length] at hF
 refine sg S (.ge (by omega) rfl rfl <| .z) fun a w S => wp_seq_k fun _ hK2 => Ze S (.t rfl) (wp_exit (Zh (Zh (Ya (Za (hK1 _ _ (sg S (.ac rfl <| .ac rfl <| .z) fun a w S => wp_ret (Zm S (results2 S results126 (Rv.tmp rfl) (Rv.tmp rfl)) ?_))))))))
 rw [← hF]
 exact ⟨rfl, S.wd.below⟩
theorem c51 (w0 : World) (v : Value) (l : List SLog) (h : Sl SLog.enc 22 w0 w0.heap.size v l) (hl : JrnOk w0 l) :
   Calls Tryz.prog 51 #[v] w0 fun e w' => e = .returned (.tuple #[.int .i64 (readsK l).1, .int .i64 (readsK l).2]) ∧ Bel w0.heap.size w0 w' := by
 refine enter1 func51 rfl ntmps51 rfl fun a S => sg S (.ac rfl <| .ac rfl <| .z) fun a w S => sg S (.yy (Xd (ps := [(0, _), (1, _)]) (us := [_, _]) bld170 (.cons Ev.c (.cons Ev.f .nil)) rfl) rfl <| .mv rfl <| .xx (Zf call126 (.cons (.t rfl) (.cons (.t rfl) .nil)) (fun hp w W => d126 _ _ _ (by exact .old W (by assumption)) (by exact .old W (by assumption)))) rfl <| .ex rfl rfl <| .ex rfl rfl <| .as rfl <| .as rfl <| .z) fun a w S => wp_ret (Zm S (results2 S results51 (Rv.tmp rfl) (Rv.tmp rfl)) ?_)
 exact ⟨rfl, S.wd.below⟩
end Go.Proofs.YtakpdbmdfnialaaGreat
namespace Go.Fw
open Go.RowKit
def SLog.nul (x : SLog) : SLog := x.at3 ⟨none, 0, 0, none, 0, 0, none, 0, 0⟩ ⟨none, 0, 0, none, 0, 0, none, 0, 0⟩ ⟨none, 0, 0, none, 0, 0, none, 0, 0⟩
def SmallL (l : List SLog) : Prop := ∀ x ∈ l, lenC3 x.u.1.seen ∧ lenC3 x.s.1 ∧ lenC3 x.c.1
structure LogIn (w1 : World) (bs : List Nat) (x : SLog) : Prop where
 u : CartIn w1 bs x.u.1.seen x.u.2
 s : CartIn w1 bs x.s.1 x.s.2
 c : CartIn w1 bs x.c.1 x.c.2
theorem LogIn.rd {w0 w w1 : World} {L : List Chunk} {bs : List Nat} {k : Nat} {x : SLog} (h : LogIn w1 bs x) (W : Wd w0 L w) (hk : L[k]? = some (.ice w1 bs)) : LogRd w x := ⟨h.u.rd W hk, h.s.rd W hk, h.c.rd W hk⟩
theorem nul_take {s l : List SLog} {i : Nat} {x y : SLog} (h : s.map SLog.nul = (l.map SLog.nul).take i) (hx : l[i]? = some x) (hy : y.nul = x.nul) : (s ++ [y]).map SLog.nul = (l.map SLog.nul).take (i + 1) := by
 rw [List.map_append, h, List.take_add_one, List.getElem?_map, hx]
 simp [hy]
end Go.Fw
namespace Go.Proofs.YtakpdbmdfnialaaGreat
open Go.Fw Go.Proofs Go.RowKit Go.Proofs.Tryz
theorem c43 (w0 : World) (v : Value) (l : List SLog) (h : Sl SLog.enc 22 w0 w0.heap.size v l) (hc : LogsRd w0 l) (hb : SmallL l) (hn : l.length ≤ 1048576) :
   Rets Tryz.prog 43 #[v] w0 fun u L => ∃ A r s w1 bs, u = .slice A s.length r ∧ L = [rowOf 96 22 SLog.enc A r s, .ice w1 bs] ∧ s.map SLog.nul = l.map SLog.nul ∧ ∀ p ∈ s, LogIn w1 bs p := by
 obtain ⟨A, cap, rfl, hl, hcap, hA⟩ := h
 unfold Go.Fw.Rets
 refine enter1 func43 rfl ntmps43 rfl fun a S => sg S (.ac rfl <| .z) fun a w S => sg S (.ac rfl <| .z) fun a w S => wp_seq_k fun _ hK1 => sg S (.mv rfl <| .ln underlying84 rfl <| .mc rfl <| .z) fun a w S => wp_block ?_
 replace S := S.nil_ 96 22 SLog.enc none
 replace S : St _ _ _ (.ice w0 [] :: _) _ _ := ⟨S.kn, S.wd.bare (fun b hb => by cases hb) (fun b hb => by cases hb)⟩
 refine Xb S [3, 8] (X := Nat × Option Addr × Nat × List SLog × World × List Nat) (fun q => [(3, true, .slice q.2.1 q.2.2.2.1.length q.2.2.1), (8, true, .int .i64 (q.1 : Int))])
   (fun q => [rowOf 96 22 SLog.enc q.2.1 q.2.2.1 q.2.2.2.1, .ice q.2.2.2.2.1 q.2.2.2.2.2]) (fun q => q.1 ≤ l.length ∧ q.2.2.2.1.map SLog.nul = (l.map SLog.nul).take q.1 ∧ ∀ p ∈ q.2.2.2.1, LogIn q.2.2.2.2.1 q.2.2.2.2.2 p) (fun q => l.length - q.1) (0, none, 0, [], w0, []) ⟨Nat.zero_le _, by simp, by simp⟩ ?_
 clear S
 rintro ⟨i, B, cB, s, w1, bs⟩ a w ⟨hi, hsm, hsi⟩ S
 dsimp only at hi hsm hsi S
 have hsl : s.length = i := by
   have := congrArg List.length hsm
   rw [List.length_map, List.length_take, List.length_map] at this
   omega
 by_cases hlt : i < l.length
 · obtain ⟨gq, oq, x, rfl, hx, hd, hcx⟩ := Yg hA hlt
   have hxc := hc x (List.mem_of_getElem? hx)
   have hxb := hb x (List.mem_of_getElem? hx)
   refine sg S (.lt (by omega) rfl rfl <| .z) fun a w S => wp_seq_k fun _ hK2 => Zg S (.t rfl) (wp_skip (Za (hK2 _ _ (wp_seq_k fun _ hK2 => wp_block (wp_seq_k fun _ hK3 => wp_region_lit (run S (.ix underlying84 sizeOf96 (by omega) rfl rfl <| .yy (Zp ⟨isAgg96, sizeOf96⟩ (.t rfl) (vs := [_, _, _, _, _, _, _, _, _, _, _, _, _, _, _, _, _, _, _, _, _, _]) rfl (fun _ => hcx)) rfl <| .z) fun a w S => Zj (Zn S zeroValue96 (cs := _) rfl rfl fun g1 a w S => Zj (Zq S sizeOf96 (.t rfl) (.t rfl) (k := 0) rfl rfl rfl (by simp [Value.oneCell']) fun a w S => Zb (Za (hK3 _ _ (wp_region_lit (run S (.mv rfl <| .la gt96 0 rfl rfl rfl <| .z) fun a w S => ?_))))))))))))
   (refine Zj (Yb S call117 (.cons (.t rfl) .nil) (c117 _ _ (by exact .old S.wd (by assumption)) (by assumption)) rfl ?_); clear S a w; rintro _ _ ⟨A11, r11, A21, r21, A31, r31, B11, q11, B21, q21, B31, q31, C11, p11, C21, p21, C31, p31, rfl, rfl⟩ a w S)
   refine Zj (Yf S underlying84 inf96 rfl rfl rfl (.t rfl) rfl rfl rfl fun g2 a w S => Zj (Yw S underlying84 inf96 rfl (k := 11) (j := 0) rfl (.t rfl) (.t rfl) rfl rfl rfl rfl (by first | omega | (simp only [List.length_append, List.length_cons, List.length_nil]; omega)) rfl rfl rfl fun A1 cap1 a w S => run S (.as rfl <| .z) fun a w S => Zb (Zk (Za (hK2 _ _ (wp_region_lit (run S (.ad (by unfold I64; omega) rfl <| .mv rfl <| .z) fun a w S => Zb (Za ?_))))))))
   obtain ⟨y, hy⟩ : ∃ y, x.at3 ⟨A11, x.u.1.seen.ents.length, r11, A21, x.u.1.seen.ctx.marks.length, r21, A31, x.u.1.seen.ctx.cloud.length, r31⟩ ⟨B11, x.s.1.ents.length, q11, B21, x.s.1.ctx.marks.length, q21, B31, x.s.1.ctx.cloud.length, q31⟩ ⟨C11, x.c.1.ents.length, p11, C21, x.c.1.ctx.marks.length, p21, C31, x.c.1.ctx.cloud.length, p31⟩ = y := ⟨_, rfl⟩
   rw [hy] at S
   have hyn : y.nul = x.nul := by rw [← hy]; rfl
   obtain ⟨bs1, W1, n1, hold1⟩ := freeze_cart (X := x.u.1.seen) (S.wd.picks (L' := [rowOf 100 6 Ent.enc A11 r11 x.u.1.seen.ents, rowOf 30 3 Dot.enc A21 r21 x.u.1.seen.ctx.marks, rowOf 74 3 Dot.enc A31 r31 x.u.1.seen.ctx.cloud, .ice w1 bs, rowOf 100 6 Ent.enc B11 q11 x.s.1.ents, rowOf 30 3 Dot.enc B21 q21 x.s.1.ctx.marks, rowOf 74 3 Dot.enc B31 q31 x.s.1.ctx.cloud, rowOf 100 6 Ent.enc C11 p11 x.c.1.ents, rowOf 30 3 Dot.enc C21 p21 x.c.1.ctx.marks, rowOf 74 3 Dot.enc C31 p31 x.c.1.ctx.cloud, rowOf 96 22 SLog.enc A1 cap1 (s ++ [y])]) (by repeat (first | exact Picks.nil | (refine Picks.rest ?_; (repeat (first | exact List.Sublist.refl _ | refine List.Sublist.cons_cons _ ?_ | refine List.Sublist.cons _ ?_)); done) | refine Picks.take 0 rfl ?_ | refine Picks.take 1 rfl ?_ | refine Picks.take 2 rfl ?_ | refine Picks.take 3 rfl ?_ | refine Picks.take 4 rfl ?_ | refine Picks.take 5 rfl ?_ | refine Picks.take 6 rfl ?_ | refine Picks.take 7 rfl ?_ | refine Picks.take 8 rfl ?_ | refine Picks.take 9 rfl ?_ | refine Picks.take 10 rfl ?_ | refine Picks.take 11 rfl ?_)))
   obtain ⟨bs2, W2, n2, hold2⟩ := freeze_cart (X := x.s.1) (W1.picks (L' := [rowOf 100 6 Ent.enc B11 q11 x.s.1.ents, rowOf 30 3 Dot.enc B21 q21 x.s.1.ctx.marks, rowOf 74 3 Dot.enc B31 q31 x.s.1.ctx.cloud, .ice w bs1, rowOf 100 6 Ent.enc C11 p11 x.c.1.ents, rowOf 30 3 Dot.enc C21 p21 x.c.1.ctx.marks, rowOf 74 3 Dot.enc C31 p31 x.c.1.ctx.cloud, rowOf 96 22 SLog.enc A1 cap1 (s ++ [y])]) (by repeat (first | exact Picks.nil | (refine Picks.rest ?_; (repeat (first | exact List.Sublist.refl _ | refine List.Sublist.cons_cons _ ?_ | refine List.Sublist.cons _ ?_)); done) | refine Picks.take 0 rfl ?_ | refine Picks.take 1 rfl ?_ | refine Picks.take 2 rfl ?_ | refine Picks.take 3 rfl ?_ | refine Picks.take 4 rfl ?_ | refine Picks.take 5 rfl ?_ | refine Picks.take 6 rfl ?_ | refine Picks.take 7 rfl ?_ | refine Picks.take 8 rfl ?_ | refine Picks.take 9 rfl ?_ | refine Picks.take 10 rfl ?_ | refine Picks.take 11 rfl ?_)))
   obtain ⟨bs3, W3, n3, hold3⟩ := freeze_cart (X := x.c.1) (W2.picks (L' := [rowOf 100 6 Ent.enc C11 p11 x.c.1.ents, rowOf 30 3 Dot.enc C21 p21 x.c.1.ctx.marks, rowOf 74 3 Dot.enc C31 p31 x.c.1.ctx.cloud, .ice w bs2, rowOf 96 22 SLog.enc A1 cap1 (s ++ [y])]) (by repeat (first | exact Picks.nil | (refine Picks.rest ?_; (repeat (first | exact List.Sublist.refl _ | refine List.Sublist.cons_cons _ ?_ | refine List.Sublist.cons _ ?_)); done) | refine Picks.take 0 rfl ?_ | refine Picks.take 1 rfl ?_ | refine Picks.take 2 rfl ?_ | refine Picks.take 3 rfl ?_ | refine Picks.take 4 rfl ?_ | refine Picks.take 5 rfl ?_ | refine Picks.take 6 rfl ?_ | refine Picks.take 7 rfl ?_ | refine Picks.take 8 rfl ?_ | refine Picks.take 9 rfl ?_ | refine Picks.take 10 rfl ?_ | refine Picks.take 11 rfl ?_)))
   replace S := St.mk S.kn W3
   refine ⟨(i + 1, A1, cap1, s ++ [y], w, bs3), ⟨by dsimp only; omega, nul_take hsm hx hyn, fun p hp => ?_⟩, by dsimp only; omega, S.pk⟩
   rcases List.mem_append.1 hp with hp | hp
   · obtain ⟨i1, i2, i3⟩ := hsi p hp
     exact ⟨hold3 _ _ (hold2 _ _ (hold1 _ _ i1)), hold3 _ _ (hold2 _ _ (hold1 _ _ i2)), hold3 _ _ (hold2 _ _ (hold1 _ _ i3))⟩
   · rw [List.mem_singleton.1 hp, ← hy]
     exact ⟨hold3 _ _ (hold2 _ _ n1), hold3 _ _ n2, n3⟩
 obtain rfl : i = l.length := by omega
 rw [List.take_of_length_le (by simp)] at hsm
 refine sg S (.ge (by omega) rfl rfl <| .z) fun a w S => wp_seq_k fun _ hK2 => Ze S (.t rfl) (wp_exit (Zh (Zh (Ya (Za (hK1 _ _ (sg S (.mv rfl <| .as rfl <| .z) fun a w S => wp_ret (Zm S (results1 S results43 (Rv.tmp rfl)) ?_))))))))
 exact ⟨_, _, rfl, S.wd.pk, _, _, s, _, _, rfl, rfl, hsm, hsi⟩
end Go.Proofs.YtakpdbmdfnialaaGreat
namespace Go.Proofs.YtakpdbmdfnialaaGreat
open Go.Fw Go.Proofs Go.RowKit Go.ChangeShapes Go.WideShapes Go.ChangeAt Go.Deep Go.Joins Go.Proofs.Tryz
section
variable {H : Type} {enc : TypeId × Value → H} {w : World}
theorem rdActor : Rdr enc Tryz.prog w 66 fun cs _ => ∃ n l : Int, cs = [.int .i64 n, .int .i64 l] := by
 refine (Rdr.struct underlying66 (by kernel_rfl) (.cons (Rdr.int underlying3) (.cons (Rdr.int underlying3) .nil))).mono ?_
 rintro cs b ⟨_, _, rfl, ⟨_, _, x, rfl, _⟩, _, _, rfl, ⟨_, _, y, rfl, _⟩, rfl⟩
 exact ⟨x, y, rfl⟩
def LgRd (w : World) (x : SLog) (b : Nat) : Prop := LogRd w x ∧ lensC x.u.1.seen b ∧ lensC x.s.1 b ∧ lensC x.c.1 b
theorem lens_le {X : Cart} {b b' : Nat} (h : lensC X b) (hb : b ≤ b') : lensC X b' := by
 obtain ⟨h1, h2, h3⟩ := h
 exact ⟨by omega, by omega, by omega⟩
end
end Go.Proofs.YtakpdbmdfnialaaGreat
