/- Contracts and laws that the statement Ajo leans on, part 3. -/
import Derived.Test.YtakpdbmdfnialaaGreatAjoK2
import Derived.WalkKit
import Derived.Below
import Derived.OrdersHeld
import Derived.Deep.Quiet
import Derived.Laws.StructEq
import Derived.Deep.MidRow
import Derived.Sort.Grow
import Derived.Shelf.GgSortFunc.InsertionK
import Derived.Shelf.SlSortCmp.Insertion
import Derived.Shelf.SlSortCmp.NoneTotal
import Derived.Shelf.SlGeneric
import Derived.Shelf.SlSortCmp.WholeK
import Derived.Ground.SlsfProg
import Derived.Test.YtakpdbmdfnialaaGreatProg
set_option linter.unusedVariables false
set_option linter.unusedSimpArgs false
set_option maxRecDepth 100000
set_option maxHeartbeats 4000000
namespace Go.Proofs.YtakpdbmdfnialaaGreat
open Go.Fw Go.Proofs Go.RowKit Go.Proofs.Tryz
theorem c81 (w0 : World) (v1 v2 : Value) (C : Ctx) (h : RdCtx w0 w0.heap.size v1 v2 C) :
   Calls Tryz.prog 81 #[.agg #[v1, v2]] w0 fun e w' => e = .returned (.bool (canL C)) ∧ Bel w0.heap.size w0 w' := by
 obtain ⟨⟨A, cap, rfl, hl, hcap, hA⟩, ⟨A', cap', rfl, hl', hcap', hA'⟩⟩ := h
 have hS : Sl Dot.enc 3 w0 w0.heap.size (.slice A C.marks.length cap) C.marks := ⟨A, cap, rfl, hl, hcap, hA⟩
 refine enter1 func81 rfl ntmps81 rfl fun a S => wp_seq_k fun _ hK1 => wp_region_lit (Zj (Zw S (.t rfl) rfl fun g1 a w S => run S (.ac rfl <| .z) fun a w S => Zb (Za (hK1 _ _ (wp_seq_k fun _ hK1 => wp_seq_k fun _ hK2 => wp_region_lit (run S (.fa underlying35 sizeOf32 0 rfl rfl rfl <| .ld gt32 0 rfl rfl rfl <| .ln underlying32 rfl <| .yy (Yn (.t rfl) Ev.c) rfl <| .mv rfl <| .z) fun a w S => Yp S rfl rfl (Yr.ys (Zc (FieldT.mk underlying35 rfl sizeOf33 rfl) (.t rfl) (i' := 1) rfl)) rfl fun a w S => Yp S rfl rfl (Yr.ys (Zt ⟨isAgg33, sizeOf33⟩ (Ev.g rfl) (k := 0) rfl rfl)) rfl fun a w S => Yp S rfl rfl (Yr.ys (Wt underlying33 (Ev.g rfl))) rfl fun a w S => Yp S rfl rfl (Yr.ys (Yn (Ev.g rfl) Ev.c)) rfl fun a w S => run S (.yy (Wj (.t rfl) Ev.c (Ev.g rfl)) rfl <| .z) fun a w S => Zb (Za (hK2 _ _ ?_))))))))
 refine Xi S (.t rfl) (fun h1 => ?_) (fun h1 => ?_)
 refine sg S (.ac rfl <| .z) fun a w S => wp_ret (Zd (Zm S (results1 S results81 (Rv.tmp rfl)) ?_))
 rotate_left
 refine wp_skip (Za (hK1 _ _ (wp_seq_k fun _ hK1 => sg S (.fa underlying35 sizeOf32 0 rfl rfl rfl <| .ld gt32 0 rfl rfl rfl <| .ln underlying32 rfl <| .mc rfl <| .z) fun a w S => wp_block ?_)))
 rotate_left
 · exact ⟨by rw [canL_big (by simp at h1; omega)], S.wd.below⟩
 · have hbig : C.marks.length ≤ 64 ∧ C.cloud.length ≤ 64 := by simp at h1; omega
   refine Xk S (X := Nat) (fun k => [(20, true, .int .i64 (k : Int))]) (fun _ L => L) (fun k => k ≤ C.marks.length ∧ (∀ x ∈ C.marks.take k, mayD x = true) ∧ okM (prevD C.marks k) (C.marks.drop k) = okM none C.marks) (fun k => C.marks.length - k) 0 ⟨Nat.zero_le _, by simp, rfl⟩ ?_
   clear S h1
   intro k a w ⟨hk, hmy, hno⟩ S
   by_cases hlt : k < C.marks.length
   · obtain ⟨g, o, m, rfl, hmm, hd, hc⟩ := Yg hA hlt
     rw [hd, okM] at hno
     obtain ⟨m1, m2, m3⟩ := m
     cases rw_b : mayD ⟨m1, m2, m3⟩ with
     | false =>
       refine sg S (.lt (by omega) rfl rfl <| .z) fun a w S => wp_seq_k fun _ hK2 => Zg S (.t rfl) (wp_skip (Za (hK2 _ _ (wp_seq_k fun _ hK2 => wp_block (wp_seq_k fun _ hK3 => wp_region_lit (run S (.mv rfl <| .ix underlying32 sizeOf30 (by omega) rfl rfl <| .yy (Zp ⟨isAgg30, sizeOf30⟩ (.t rfl) (vs := [_, _, _]) rfl (fun _ => hc)) rfl <| .z) fun a w S => Zj (Zn S zeroValue30 (cs := _) rfl rfl fun g2 a w S => run S (.as rfl <| .z) fun a w S => Zj (Zq S sizeOf30 (.t rfl) (.t rfl) (k := 0) rfl rfl rfl (by simp [Value.oneCell']) fun a w S => Zb (Za (hK3 _ _ (wp_seq_k fun _ hK3 => wp_seq_k fun _ hK4 => wp_region_lit (run S (.la gt30 0 rfl rfl rfl <| .xx (Zf call146 (.cons (.t rfl) .nil) (fun hp w W => c146 _ _ _ _)) rfl <| .z) fun a w S => ?_))))))))))))
       rw [rw_b] at S
       refine run S (.nt rfl <| .z) fun a w S => Zb (Za (hK4 _ _ (Zg S (.t rfl) (sg S (.ac rfl <| .z) fun a w S => wp_ret (Zd (Zr (Zd (Zd (Zr (Zd (Zm S (results1 S results81 (Rv.tmp rfl)) ?_)))))))))))
       exact ⟨by rw [canL_M (by rw [← hno, rw_b]; rfl)], S.wd.below⟩
     | true =>
       have hlm := Xw rw_b
       rcases k with _ | k
       · refine sg S (.lt (by omega) rfl rfl <| .z) fun a w S => wp_seq_k fun _ hK2 => Zg S (.t rfl) (wp_skip (Za (hK2 _ _ (wp_seq_k fun _ hK2 => wp_block (wp_seq_k fun _ hK3 => wp_region_lit (run S (.mv rfl <| .yy (Ym (j := 0) underlying32 sizeOf30 (.t rfl) (.t rfl) (fun _ => by omega)) rfl <| .yy (Zp ⟨isAgg30, sizeOf30⟩ (.t rfl) (vs := [_, _, _]) rfl (fun _ => hc)) rfl <| .z) fun a w S => Zj (Zn S zeroValue30 (cs := _) rfl rfl fun g2 a w S => run S (.as rfl <| .z) fun a w S => Zj (Zq S sizeOf30 (.t rfl) (.t rfl) (k := 0) rfl rfl rfl (by simp [Value.oneCell']) fun a w S => Zb (Za (hK3 _ _ (wp_seq_k fun _ hK3 => wp_seq_k fun _ hK4 => wp_region_lit (run S (.la gt30 0 rfl rfl rfl <| .xx (Zf call146 (.cons (.t rfl) .nil) (fun hp w W => c146 _ _ _ _)) rfl <| .z) fun a w S => ?_))))))))))))
         rw [rw_b] at S
         refine run S (.nt rfl <| .z) fun a w S => Zb (Za (hK4 _ _ (Ze S (.t rfl) (wp_skip (Za (hK3 _ _ (wp_seq_k fun _ hK3 => Yc S (by kernel_rfl) (by kernel_rfl) fun a S => qrun S (.mv rfl <| .yy (Yq (by omega) (Yn (.t rfl) Ev.c)) rfl <| .mv rfl <| .sk rfl rfl rfl <| .sk rfl rfl rfl <| .sk rfl rfl rfl <| .sk rfl rfl rfl <| .sk rfl rfl rfl <| .sk rfl rfl rfl <| .sk rfl rfl rfl <| .sk rfl rfl rfl <| .sk rfl rfl rfl <| .sk rfl rfl rfl <| .sk rfl rfl rfl <| .s0 rfl rfl <| .s0 rfl rfl <| .s0 rfl rfl <| .s0 rfl rfl <| .s0 rfl rfl <| .s0 rfl rfl <| .s0 rfl rfl <| .s0 rfl rfl <| .s0 rfl rfl <| .s0 rfl rfl <| .s0 rfl rfl <| .s0 rfl rfl <| .s0 rfl rfl <| .s0 rfl rfl <| .s0 rfl rfl <| .s0 rfl rfl <| .s0 rfl rfl <| .s0 rfl rfl <| .s0 rfl rfl <| .s0 rfl rfl <| .s0 rfl rfl <| .s0 rfl rfl <| .sk rfl rfl rfl <| .yy (Zu (.t rfl) Ev.c) rfl <| .z) fun a S => ?_)))))))
         (refine Yt ?_; intro w W; replace S := St.mk S W; clear W)
         refine Za (hK3 _ _ (Ze S (.t rfl) (wp_skip (Zk (Za (hK2 _ _ (wp_region_lit (run S (.ad (by unfold I64; omega) rfl <| .mv rfl <| .z) fun a w S => Zb (Za ?_)))))))))
         exact ⟨0 + 1, ⟨by omega, step_all hmm hmy rw_b, by rw [prevD, hmm, ← hno, rw_b]; rfl⟩, by omega, S.wk⟩
       · obtain ⟨g', o', m', e', hmm', hd', hc'⟩ := Yg hA (show k < C.marks.length by omega)
         cases e'
         obtain ⟨p1, p2, p3⟩ := m'
         have hg : gapM (prevD C.marks (k + 1)) ⟨m1, m2, m3⟩ = decide (orderD ⟨p1, p2, 0⟩ ⟨m1, m2, 0⟩ < 0) := by rw [prevD, hmm']; rfl
         unfold orderD at hg
         dsimp only at hg
         have yes : gapM (prevD C.marks (k + 1)) ⟨m1, m2, m3⟩ = true → okM (prevD C.marks (k + 1 + 1)) (C.marks.drop (k + 1 + 1)) = okM none C.marks := fun h => by
           rw [prevD, hmm, ← hno, rw_b, h]; rfl
         have no : gapM (prevD C.marks (k + 1)) ⟨m1, m2, m3⟩ = false → canL C = false := fun h => canL_M (by rw [← hno, rw_b, h]; rfl)
         clear hno
         by_cases g1 : m1 < p1
         · refine sg S (.lt (by omega) rfl rfl <| .z) fun a w S => wp_seq_k fun _ hK2 => Zg S (.t rfl) (wp_skip (Za (hK2 _ _ (wp_seq_k fun _ hK2 => wp_block (wp_seq_k fun _ hK3 => wp_region_lit (run S (.mv rfl <| .ix underlying32 sizeOf30 (by omega) rfl rfl <| .yy (Zp ⟨isAgg30, sizeOf30⟩ (.t rfl) (vs := [_, _, _]) rfl (fun _ => hc)) rfl <| .z) fun a w S => Zj (Zn S zeroValue30 (cs := _) rfl rfl fun g2 a w S => run S (.as rfl <| .z) fun a w S => Zj (Zq S sizeOf30 (.t rfl) (.t rfl) (k := 0) rfl rfl rfl (by simp [Value.oneCell']) fun a w S => Zb (Za (hK3 _ _ (wp_seq_k fun _ hK3 => wp_seq_k fun _ hK4 => wp_region_lit (run S (.la gt30 0 rfl rfl rfl <| .xx (Zf call146 (.cons (.t rfl) .nil) (fun hp w W => c146 _ _ _ _)) rfl <| .z) fun a w S => ?_))))))))))))
           rw [rw_b] at S
           refine run S (.nt rfl <| .z) fun a w S => Zb (Za (hK4 _ _ (Ze S (.t rfl) (wp_skip (Za (hK3 _ _ (wp_seq_k fun _ hK3 => Yc S (by kernel_rfl) (by kernel_rfl) fun a S => ?_)))))))
           refine qrun S (.mv rfl <| .yy (Yu (by omega) (Yn (.t rfl) Ev.c)) rfl <| .mv rfl <| .gy rfl rfl (Zc (FieldT.mk underlying35 rfl sizeOf32 rfl) (.t rfl) (i' := 0) rfl) <| .gy rfl rfl (Zt ⟨isAgg32, sizeOf32⟩ (.t rfl) (k := 1) rfl rfl) <| .gy rfl rfl (Zi (.t rfl)) <| .gy rfl rfl (Xt (.t rfl) Ev.c (by omega)) <| .gy rfl rfl (Ym underlying32 sizeOf30 (.t rfl) (.t rfl) (fun _ => by omega)) <| .gy rfl rfl (Zy (FieldT.mk underlying30 rfl sizeOf3 rfl) (.t rfl)) <| .gy rfl rfl (Yv ⟨isAgg3, sizeOf3⟩ (.t rfl) (fun _ => hc' _ _ rfl)) <| .gy rfl rfl (Zc (FieldT.mk underlying30 rfl sizeOf3 rfl) (.t rfl) (i' := 0) rfl) <| .gy rfl rfl (Zt ⟨isAgg3, sizeOf3⟩ (.t rfl) (k := 0) rfl rfl) <| .gy rfl rfl (Yu (by omega) (Yn (.t rfl) (.t rfl))) <| .gy rfl rfl (Zi (.t rfl)) <| .sk rfl rfl rfl <| .sk rfl rfl rfl <| .sk rfl rfl rfl <| .sk rfl rfl rfl <| .sk rfl rfl rfl <| .sk rfl rfl rfl <| .sk rfl rfl rfl <| .sk rfl rfl rfl <| .sk rfl rfl rfl <| .sk rfl rfl rfl <| .sk rfl rfl rfl <| .s0 rfl rfl <| .s0 rfl rfl <| .s0 rfl rfl <| .s0 rfl rfl <| .s0 rfl rfl <| .s0 rfl rfl <| .s0 rfl rfl <| .s0 rfl rfl <| .s0 rfl rfl <| .s0 rfl rfl <| .sk rfl rfl rfl <| .gy rfl rfl (Zv (.t rfl) Ev.c) <| .yy (Zv (.t rfl) (.t rfl)) rfl <| .z) fun a S => ?_
           (refine Yt ?_; intro w W; replace S := St.mk S W; clear W)
           refine Za (hK3 _ _ (Zg S (.t rfl) (sg S (.ac rfl <| .z) fun a w S => wp_ret (Zr (Zd (Zd (Zr (Zd (Zm S (results1 S results81 (Rv.tmp rfl)) ?_)))))))))
           exact ⟨by rw [no (by rw [hg, if_pos (by omega)]; exact decide_eq_false (by omega))], S.wd.below⟩
         · by_cases g2 : p1 = m1
           · by_cases g3 : m2 ≤ p2
             · refine sg S (.lt (by omega) rfl rfl <| .z) fun a w S => wp_seq_k fun _ hK2 => Zg S (.t rfl) (wp_skip (Za (hK2 _ _ (wp_seq_k fun _ hK2 => wp_block (wp_seq_k fun _ hK3 => wp_region_lit (run S (.mv rfl <| .ix underlying32 sizeOf30 (by omega) rfl rfl <| .yy (Zp ⟨isAgg30, sizeOf30⟩ (.t rfl) (vs := [_, _, _]) rfl (fun _ => hc)) rfl <| .z) fun a w S => Zj (Zn S zeroValue30 (cs := _) rfl rfl fun g4 a w S => run S (.as rfl <| .z) fun a w S => Zj (Zq S sizeOf30 (.t rfl) (.t rfl) (k := 0) rfl rfl rfl (by simp [Value.oneCell']) fun a w S => Zb (Za (hK3 _ _ (wp_seq_k fun _ hK3 => wp_seq_k fun _ hK4 => wp_region_lit (run S (.la gt30 0 rfl rfl rfl <| .xx (Zf call146 (.cons (.t rfl) .nil) (fun hp w W => c146 _ _ _ _)) rfl <| .z) fun a w S => ?_))))))))))))
               rw [rw_b] at S
               refine run S (.nt rfl <| .z) fun a w S => Zb (Za (hK4 _ _ (Ze S (.t rfl) (wp_skip (Za (hK3 _ _ (wp_seq_k fun _ hK3 => Yc S (by kernel_rfl) (by kernel_rfl) fun a S => ?_)))))))
               refine qrun S (.mv rfl <| .yy (Yu (by omega) (Yn (.t rfl) Ev.c)) rfl <| .mv rfl <| .gy rfl rfl (Zc (FieldT.mk underlying35 rfl sizeOf32 rfl) (.t rfl) (i' := 0) rfl) <| .gy rfl rfl (Zt ⟨isAgg32, sizeOf32⟩ (.t rfl) (k := 1) rfl rfl) <| .gy rfl rfl (Zi (.t rfl)) <| .gy rfl rfl (Xt (.t rfl) Ev.c (by omega)) <| .gy rfl rfl (Ym underlying32 sizeOf30 (.t rfl) (.t rfl) (fun _ => by omega)) <| .gy rfl rfl (Zy (FieldT.mk underlying30 rfl sizeOf3 rfl) (.t rfl)) <| .gy rfl rfl (Yv ⟨isAgg3, sizeOf3⟩ (.t rfl) (fun _ => hc' _ _ rfl)) <| .gy rfl rfl (Zc (FieldT.mk underlying30 rfl sizeOf3 rfl) (.t rfl) (i' := 0) rfl) <| .gy rfl rfl (Zt ⟨isAgg3, sizeOf3⟩ (.t rfl) (k := 0) rfl rfl) <| .gy rfl rfl (Yq (by omega) (Yn (.t rfl) (.t rfl))) <| .gy rfl rfl (Zi (.t rfl)) <| .gy rfl rfl (Zc (FieldT.mk underlying35 rfl sizeOf32 rfl) (.t rfl) (i' := 0) rfl) <| .gy rfl rfl (Zt ⟨isAgg32, sizeOf32⟩ (.t rfl) (k := 1) rfl rfl) <| .gy rfl rfl (Zi (.t rfl)) <| .gy rfl rfl (Xt (.t rfl) Ev.c (by omega)) <| .gy rfl rfl (Ym underlying32 sizeOf30 (.t rfl) (.t rfl) (fun _ => by omega)) <| .gy rfl rfl (Zy (FieldT.mk underlying30 rfl sizeOf3 rfl) (.t rfl)) <| .gy rfl rfl (Yv ⟨isAgg3, sizeOf3⟩ (.t rfl) (fun _ => hc' _ _ rfl)) <| .gy rfl rfl (Zc (FieldT.mk underlying30 rfl sizeOf3 rfl) (.t rfl) (i' := 0) rfl) <| .gy rfl rfl (Zt ⟨isAgg3, sizeOf3⟩ (.t rfl) (k := 0) rfl rfl) <| .gy rfl rfl (Yu (by omega) (Ye (.t rfl) (.t rfl))) <| .gy rfl rfl (Zi (.t rfl)) <| .gy rfl rfl (Zc (FieldT.mk underlying35 rfl sizeOf32 rfl) (.t rfl) (i' := 0) rfl) <| .gy rfl rfl (Zt ⟨isAgg32, sizeOf32⟩ (.t rfl) (k := 1) rfl rfl) <| .gy rfl rfl (Zi (.t rfl)) <| .gy rfl rfl (Xt (.t rfl) Ev.c (by omega)) <| .gy rfl rfl (Ym underlying32 sizeOf30 (.t rfl) (.t rfl) (fun _ => by omega)) <| .gy rfl rfl (Zy (FieldT.mk underlying30 rfl sizeOf3 rfl) (.t rfl)) <| .gy rfl rfl (Yv ⟨isAgg3, sizeOf3⟩ (.t rfl) (fun _ => hc' _ _ rfl)) <| .gy rfl rfl (Zc (FieldT.mk underlying30 rfl sizeOf3 rfl) (.t rfl) (i' := 1) rfl) <| .gy rfl rfl (Zt ⟨isAgg3, sizeOf3⟩ (.t rfl) (k := 0) rfl rfl) <| .gy rfl rfl (Yu (by omega) (Xp (.t rfl) (.t rfl))) <| .gy rfl rfl (Zv (.t rfl) (.t rfl)) <| .gy rfl rfl (Zu (.t rfl) (.t rfl)) <| .yy (Zv (.t rfl) (.t rfl)) rfl <| .z) fun a S => ?_
               (refine Yt ?_; intro w W; replace S := St.mk S W; clear W)
               refine Za (hK3 _ _ (Zg S (.t rfl) (sg S (.ac rfl <| .z) fun a w S => wp_ret (Zr (Zd (Zd (Zr (Zd (Zm S (results1 S results81 (Rv.tmp rfl)) ?_)))))))))
               exact ⟨by rw [no (by rw [hg, if_neg (by omega)]; split <;> exact decide_eq_false (by omega))], S.wd.below⟩
             · refine sg S (.lt (by omega) rfl rfl <| .z) fun a w S => wp_seq_k fun _ hK2 => Zg S (.t rfl) (wp_skip (Za (hK2 _ _ (wp_seq_k fun _ hK2 => wp_block (wp_seq_k fun _ hK3 => wp_region_lit (run S (.mv rfl <| .ix underlying32 sizeOf30 (by omega) rfl rfl <| .yy (Zp ⟨isAgg30, sizeOf30⟩ (.t rfl) (vs := [_, _, _]) rfl (fun _ => hc)) rfl <| .z) fun a w S => Zj (Zn S zeroValue30 (cs := _) rfl rfl fun g4 a w S => run S (.as rfl <| .z) fun a w S => Zj (Zq S sizeOf30 (.t rfl) (.t rfl) (k := 0) rfl rfl rfl (by simp [Value.oneCell']) fun a w S => Zb (Za (hK3 _ _ (wp_seq_k fun _ hK3 => wp_seq_k fun _ hK4 => wp_region_lit (run S (.la gt30 0 rfl rfl rfl <| .xx (Zf call146 (.cons (.t rfl) .nil) (fun hp w W => c146 _ _ _ _)) rfl <| .z) fun a w S => ?_))))))))))))
               rw [rw_b] at S
               refine run S (.nt rfl <| .z) fun a w S => Zb (Za (hK4 _ _ (Ze S (.t rfl) (wp_skip (Za (hK3 _ _ (wp_seq_k fun _ hK3 => Yc S (by kernel_rfl) (by kernel_rfl) fun a S => ?_)))))))
               refine qrun S (.mv rfl <| .yy (Yu (by omega) (Yn (.t rfl) Ev.c)) rfl <| .mv rfl <| .gy rfl rfl (Zc (FieldT.mk underlying35 rfl sizeOf32 rfl) (.t rfl) (i' := 0) rfl) <| .gy rfl rfl (Zt ⟨isAgg32, sizeOf32⟩ (.t rfl) (k := 1) rfl rfl) <| .gy rfl rfl (Zi (.t rfl)) <| .gy rfl rfl (Xt (.t rfl) Ev.c (by omega)) <| .gy rfl rfl (Ym underlying32 sizeOf30 (.t rfl) (.t rfl) (fun _ => by omega)) <| .gy rfl rfl (Zy (FieldT.mk underlying30 rfl sizeOf3 rfl) (.t rfl)) <| .gy rfl rfl (Yv ⟨isAgg3, sizeOf3⟩ (.t rfl) (fun _ => hc' _ _ rfl)) <| .gy rfl rfl (Zc (FieldT.mk underlying30 rfl sizeOf3 rfl) (.t rfl) (i' := 0) rfl) <| .gy rfl rfl (Zt ⟨isAgg3, sizeOf3⟩ (.t rfl) (k := 0) rfl rfl) <| .gy rfl rfl (Yq (by omega) (Yn (.t rfl) (.t rfl))) <| .gy rfl rfl (Zi (.t rfl)) <| .gy rfl rfl (Zc (FieldT.mk underlying35 rfl sizeOf32 rfl) (.t rfl) (i' := 0) rfl) <| .gy rfl rfl (Zt ⟨isAgg32, sizeOf32⟩ (.t rfl) (k := 1) rfl rfl) <| .gy rfl rfl (Zi (.t rfl)) <| .gy rfl rfl (Xt (.t rfl) Ev.c (by omega)) <| .gy rfl rfl (Ym underlying32 sizeOf30 (.t rfl) (.t rfl) (fun _ => by omega)) <| .gy rfl rfl (Zy (FieldT.mk underlying30 rfl sizeOf3 rfl) (.t rfl)) <| .gy rfl rfl (Yv ⟨isAgg3, sizeOf3⟩ (.t rfl) (fun _ => hc' _ _ rfl)) <| .gy rfl rfl (Zc (FieldT.mk underlying30 rfl sizeOf3 rfl) (.t rfl) (i' := 0) rfl) <| .gy rfl rfl (Zt ⟨isAgg3, sizeOf3⟩ (.t rfl) (k := 0) rfl rfl) <| .gy rfl rfl (Yu (by omega) (Ye (.t rfl) (.t rfl))) <| .gy rfl rfl (Zi (.t rfl)) <| .gy rfl rfl (Zc (FieldT.mk underlying35 rfl sizeOf32 rfl) (.t rfl) (i' := 0) rfl) <| .gy rfl rfl (Zt ⟨isAgg32, sizeOf32⟩ (.t rfl) (k := 1) rfl rfl) <| .gy rfl rfl (Zi (.t rfl)) <| .gy rfl rfl (Xt (.t rfl) Ev.c (by omega)) <| .gy rfl rfl (Ym underlying32 sizeOf30 (.t rfl) (.t rfl) (fun _ => by omega)) <| .gy rfl rfl (Zy (FieldT.mk underlying30 rfl sizeOf3 rfl) (.t rfl)) <| .gy rfl rfl (Yv ⟨isAgg3, sizeOf3⟩ (.t rfl) (fun _ => hc' _ _ rfl)) <| .gy rfl rfl (Zc (FieldT.mk underlying30 rfl sizeOf3 rfl) (.t rfl) (i' := 1) rfl) <| .gy rfl rfl (Zt ⟨isAgg3, sizeOf3⟩ (.t rfl) (k := 0) rfl rfl) <| .gy rfl rfl (Yq (by omega) (Xp (.t rfl) (.t rfl))) <| .gy rfl rfl (Zv (.t rfl) (.t rfl)) <| .gy rfl rfl (Zu (.t rfl) (.t rfl)) <| .yy (Zv (.t rfl) (.t rfl)) rfl <| .z) fun a S => ?_
               (refine Yt ?_; intro w W; replace S := St.mk S W; clear W)
               refine Za (hK3 _ _ (Ze S (.t rfl) (wp_skip (Zk (Za (hK2 _ _ (wp_region_lit (run S (.ad (by unfold I64; omega) rfl <| .mv rfl <| .z) fun a w S => Zb (Za ?_)))))))))
               exact ⟨k + 1 + 1, ⟨by omega, step_all hmm hmy rw_b, yes (by rw [hg, if_neg (by omega), if_pos (by omega)]; exact decide_eq_true (by omega))⟩, by omega, S.wk⟩
           · refine sg S (.lt (by omega) rfl rfl <| .z) fun a w S => wp_seq_k fun _ hK2 => Zg S (.t rfl) (wp_skip (Za (hK2 _ _ (wp_seq_k fun _ hK2 => wp_block (wp_seq_k fun _ hK3 => wp_region_lit (run S (.mv rfl <| .ix underlying32 sizeOf30 (by omega) rfl rfl <| .yy (Zp ⟨isAgg30, sizeOf30⟩ (.t rfl) (vs := [_, _, _]) rfl (fun _ => hc)) rfl <| .z) fun a w S => Zj (Zn S zeroValue30 (cs := _) rfl rfl fun g3 a w S => run S (.as rfl <| .z) fun a w S => Zj (Zq S sizeOf30 (.t rfl) (.t rfl) (k := 0) rfl rfl rfl (by simp [Value.oneCell']) fun a w S => Zb (Za (hK3 _ _ (wp_seq_k fun _ hK3 => wp_seq_k fun _ hK4 => wp_region_lit (run S (.la gt30 0 rfl rfl rfl <| .xx (Zf call146 (.cons (.t rfl) .nil) (fun hp w W => c146 _ _ _ _)) rfl <| .z) fun a w S => ?_))))))))))))
             rw [rw_b] at S
             refine run S (.nt rfl <| .z) fun a w S => Zb (Za (hK4 _ _ (Ze S (.t rfl) (wp_skip (Za (hK3 _ _ (wp_seq_k fun _ hK3 => Yc S (by kernel_rfl) (by kernel_rfl) fun a S => ?_)))))))
             refine qrun S (.mv rfl <| .yy (Yu (by omega) (Yn (.t rfl) Ev.c)) rfl <| .mv rfl <| .gy rfl rfl (Zc (FieldT.mk underlying35 rfl sizeOf32 rfl) (.t rfl) (i' := 0) rfl) <| .gy rfl rfl (Zt ⟨isAgg32, sizeOf32⟩ (.t rfl) (k := 1) rfl rfl) <| .gy rfl rfl (Zi (.t rfl)) <| .gy rfl rfl (Xt (.t rfl) Ev.c (by omega)) <| .gy rfl rfl (Ym underlying32 sizeOf30 (.t rfl) (.t rfl) (fun _ => by omega)) <| .gy rfl rfl (Zy (FieldT.mk underlying30 rfl sizeOf3 rfl) (.t rfl)) <| .gy rfl rfl (Yv ⟨isAgg3, sizeOf3⟩ (.t rfl) (fun _ => hc' _ _ rfl)) <| .gy rfl rfl (Zc (FieldT.mk underlying30 rfl sizeOf3 rfl) (.t rfl) (i' := 0) rfl) <| .gy rfl rfl (Zt ⟨isAgg3, sizeOf3⟩ (.t rfl) (k := 0) rfl rfl) <| .gy rfl rfl (Yq (by omega) (Yn (.t rfl) (.t rfl))) <| .gy rfl rfl (Zi (.t rfl)) <| .gy rfl rfl (Zc (FieldT.mk underlying35 rfl sizeOf32 rfl) (.t rfl) (i' := 0) rfl) <| .gy rfl rfl (Zt ⟨isAgg32, sizeOf32⟩ (.t rfl) (k := 1) rfl rfl) <| .gy rfl rfl (Zi (.t rfl)) <| .gy rfl rfl (Xt (.t rfl) Ev.c (by omega)) <| .gy rfl rfl (Ym underlying32 sizeOf30 (.t rfl) (.t rfl) (fun _ => by omega)) <| .gy rfl rfl (Zy (FieldT.mk underlying30 rfl sizeOf3 rfl) (.t rfl)) <| .gy rfl rfl (Yv ⟨isAgg3, sizeOf3⟩ (.t rfl) (fun _ => hc' _ _ rfl)) <| .gy rfl rfl (Zc (FieldT.mk underlying30 rfl sizeOf3 rfl) (.t rfl) (i' := 0) rfl) <| .gy rfl rfl (Zt ⟨isAgg3, sizeOf3⟩ (.t rfl) (k := 0) rfl rfl) <| .gy rfl rfl (Yq (by omega) (Ye (.t rfl) (.t rfl))) <| .gy rfl rfl (Zi (.t rfl)) <| .sk rfl rfl rfl <| .sk rfl rfl rfl <| .sk rfl rfl rfl <| .sk rfl rfl rfl <| .sk rfl rfl rfl <| .sk rfl rfl rfl <| .sk rfl rfl rfl <| .sk rfl rfl rfl <| .sk rfl rfl rfl <| .sk rfl rfl rfl <| .gy rfl rfl (Zu (.t rfl) Ev.c) <| .gy rfl rfl (Zu (.t rfl) (.t rfl)) <| .yy (Zv (.t rfl) (.t rfl)) rfl <| .z) fun a S => ?_
             (refine Yt ?_; intro w W; replace S := St.mk S W; clear W)
             refine Za (hK3 _ _ (Ze S (.t rfl) (wp_skip (Zk (Za (hK2 _ _ (wp_region_lit (run S (.ad (by unfold I64; omega) rfl <| .mv rfl <| .z) fun a w S => Zb (Za ?_)))))))))
             exact ⟨k + 1 + 1, ⟨by omega, step_all hmm hmy rw_b, yes (by rw [hg, if_pos (by omega)]; exact decide_eq_true (by omega))⟩, by omega, S.wk⟩
   · have hend : k = C.marks.length := by omega
     subst hend
     rw [List.take_length] at hmy
     rw [List.drop_length, okM] at hno
     have hM := hno.symm
     clear hno hk hlt
     refine sg S (.ge (by omega) rfl rfl <| .z) fun a w S => wp_seq_k fun _ hK2 => Ze S (.t rfl) (wp_exit (Zh (Zh (Ya (Za (hK1 _ _ (wp_seq_k fun _ hK1 => sg S (.fa underlying35 sizeOf33 1 rfl rfl rfl <| .ld gt33 0 rfl rfl rfl <| .ln underlying33 rfl <| .mc rfl <| .z) fun a w S => wp_block ?_)))))))
     refine Xk S (X := Nat) (fun k => [(70, true, .int .i64 (k : Int))]) (fun _ L => L) (fun k => k ≤ C.cloud.length ∧ (∀ x ∈ C.cloud.take k, mayD x = true) ∧ okC C.marks (prevD C.cloud k) (C.cloud.drop k) = okC C.marks none C.cloud) (fun k => C.cloud.length - k) 0 ⟨Nat.zero_le _, by simp, rfl⟩ ?_
     clear S
     intro k a w ⟨hk, hmy', hno⟩ S
     by_cases hlt : k < C.cloud.length
     · obtain ⟨g, o, m, rfl, hmm, hd, hc⟩ := Yg hA' hlt
       rw [hd, okC] at hno
       have hmk := Wf (x := m.node) (y := m.life) hmy
       obtain ⟨m1, m2, m3⟩ := m
       dsimp only at hmk hno
       have rw_n : (⟨m1, m2, m3⟩ : Dot).node = m1 := rfl
       have rw_l : (⟨m1, m2, m3⟩ : Dot).life = m2 := rfl
       have rw_k : (⟨m1, m2, m3⟩ : Dot).count = m3 := rfl
       cases rw_b : mayD ⟨m1, m2, m3⟩ with
       | false =>
         refine sg S (.lt (by omega) rfl rfl <| .z) fun a w S => wp_seq_k fun _ hK3 => Zg S (.t rfl) (wp_skip (Za (hK3 _ _ (wp_seq_k fun _ hK3 => wp_block (wp_seq_k fun _ hK4 => wp_region_lit (run S (.mv rfl <| .ix underlying33 sizeOf74 (by omega) rfl rfl <| .yy (Zp ⟨isAgg74, sizeOf74⟩ (.t rfl) (vs := [_, _, _]) rfl (fun _ => hc)) rfl <| .z) fun a w S => ?_))))))
         rw [rw_n] at S
         rw [rw_l] at S
         rw [rw_k] at S
         refine Zj (Zn S zeroValue74 (cs := _) rfl rfl fun g2 a w S => run S (.as rfl <| .z) fun a w S => Zj (Zq S sizeOf74 (.t rfl) (.t rfl) (k := 0) rfl rfl rfl (by simp [Value.oneCell']) fun a w S => Zb (Za (hK4 _ _ (wp_seq_k fun _ hK4 => wp_seq_k fun _ hK5 => Yc S (by kernel_rfl) (by kernel_rfl) fun a S => qrun S (.la gt74 0 rfl rfl rfl <| .xx (Zf call147 (.cons (.t rfl) .nil) (fun hp w W => c147 _ _ _ _)) rfl <| .z) fun a S => ?_)))))
         rw [rw_b] at S
         refine qrun S (.nt rfl <| .mv rfl <| .sk rfl rfl rfl <| .sk rfl rfl rfl <| .sk rfl rfl rfl <| .sk rfl rfl rfl <| .sk rfl rfl rfl <| .sk rfl rfl rfl <| .sk rfl rfl rfl <| .sk rfl rfl rfl <| .sk rfl rfl rfl <| .sk rfl rfl rfl <| .sk rfl rfl rfl <| .yy (Zv (.t rfl) Ev.c) rfl <| .z) fun a S => ?_
         (refine Yt ?_; intro w W; replace S := St.mk S W; clear W)
         refine Za (hK5 _ _ (Zg S (.t rfl) (sg S (.ac rfl <| .z) fun a w S => wp_ret (Zd (Zr (Zd (Zd (Zr (Zd (Zm S (results1 S results81 (Rv.tmp rfl)) ?_))))))))))
         exact ⟨by rw [canL_C (by rw [← hno, rw_b]; rfl)], S.wd.below⟩
       | true =>
         have hlm := Xw rw_b
         dsimp only at hlm
         by_cases hgt : m3 ≤ markOf C.marks m1 m2 + 1
         · have hf : okC C.marks none C.cloud = false := by
             rw [← hno, rw_b, decide_eq_false (by omega), Bool.and_false]; rfl
           refine sg S (.lt (by omega) rfl rfl <| .z) fun a w S => wp_seq_k fun _ hK3 => Zg S (.t rfl) (wp_skip (Za (hK3 _ _ (wp_seq_k fun _ hK3 => wp_block (wp_seq_k fun _ hK4 => wp_region_lit (run S (.mv rfl <| .ix underlying33 sizeOf74 (by omega) rfl rfl <| .yy (Zp ⟨isAgg74, sizeOf74⟩ (.t rfl) (vs := [_, _, _]) rfl (fun _ => hc)) rfl <| .z) fun a w S => ?_))))))
           rw [rw_n] at S
           rw [rw_l] at S
           rw [rw_k] at S
           refine Zj (Zn S zeroValue74 (cs := _) rfl rfl fun g2 a w S => run S (.as rfl <| .z) fun a w S => Zj (Zq S sizeOf74 (.t rfl) (.t rfl) (k := 0) rfl rfl rfl (by simp [Value.oneCell']) fun a w S => Zb (Za (hK4 _ _ (wp_seq_k fun _ hK4 => wp_seq_k fun _ hK5 => Yc S (by kernel_rfl) (by kernel_rfl) fun a S => qrun S (.la gt74 0 rfl rfl rfl <| .xx (Zf call147 (.cons (.t rfl) .nil) (fun hp w W => c147 _ _ _ _)) rfl <| .z) fun a S => ?_)))))
           rw [rw_b] at S
           refine qrun S (.nt rfl <| .mv rfl <| .gy rfl rfl (Zc (FieldT.mk underlying74 rfl sizeOf3 rfl) (.t rfl) (i' := 2) rfl) <| .gy rfl rfl (Zt ⟨isAgg3, sizeOf3⟩ (.t rfl) (k := 0) rfl rfl) <| .gy rfl rfl (Zc (FieldT.mk underlying35 rfl sizeOf32 rfl) (.t rfl) (i' := 0) rfl) <| .gy rfl rfl (Zt ⟨isAgg32, sizeOf32⟩ (.t rfl) (k := 1) rfl rfl) <| .gy rfl rfl (Zc (FieldT.mk underlying74 rfl sizeOf3 rfl) (.t rfl) (i' := 0) rfl) <| .gy rfl rfl (Zt ⟨isAgg3, sizeOf3⟩ (.t rfl) (k := 0) rfl rfl) <| .gy rfl rfl (Zc (FieldT.mk underlying74 rfl sizeOf3 rfl) (.t rfl) (i' := 1) rfl) <| .gy rfl rfl (Zt ⟨isAgg3, sizeOf3⟩ (.t rfl) (k := 0) rfl rfl) <| .gx rfl rfl (Zf call143 (.cons (.t rfl) (.cons (.t rfl) (.cons (.t rfl) .nil))) (fun hp w W => c143 _ _ _ _ _ (by exact .old W (by assumption)))) <| .gy rfl rfl (Xu (.t rfl) Ev.c (fun _ => by unfold I64; omega)) <| .gy rfl rfl (Yu (by omega) (Xg (.t rfl) (.t rfl))) <| .yy (Zu (.t rfl) (.t rfl)) rfl <| .z) fun a S => ?_
           (refine Yt ?_; intro w W; replace S := St.mk S W; clear W)
           refine Za (hK5 _ _ (Zg S (.t rfl) (sg S (.ac rfl <| .z) fun a w S => wp_ret (Zd (Zr (Zd (Zd (Zr (Zd (Zm S (results1 S results81 (Rv.tmp rfl)) ?_))))))))))
           exact ⟨by rw [canL_C hf], S.wd.below⟩
         · rcases k with _ | k
           · refine sg S (.lt (by omega) rfl rfl <| .z) fun a w S => wp_seq_k fun _ hK3 => Zg S (.t rfl) (wp_skip (Za (hK3 _ _ (wp_seq_k fun _ hK3 => wp_block (wp_seq_k fun _ hK4 => wp_region_lit (run S (.mv rfl <| .yy (Ym (j := 0) underlying33 sizeOf74 (.t rfl) (.t rfl) (fun _ => by omega)) rfl <| .yy (Zp ⟨isAgg74, sizeOf74⟩ (.t rfl) (vs := [_, _, _]) rfl (fun _ => hc)) rfl <| .z) fun a w S => ?_))))))
             rw [rw_n] at S
             rw [rw_l] at S
             rw [rw_k] at S
             refine Zj (Zn S zeroValue74 (cs := _) rfl rfl fun g2 a w S => run S (.as rfl <| .z) fun a w S => Zj (Zq S sizeOf74 (.t rfl) (.t rfl) (k := 0) rfl rfl rfl (by simp [Value.oneCell']) fun a w S => Zb (Za (hK4 _ _ (wp_seq_k fun _ hK4 => wp_seq_k fun _ hK5 => Yc S (by kernel_rfl) (by kernel_rfl) fun a S => qrun S (.la gt74 0 rfl rfl rfl <| .xx (Zf call147 (.cons (.t rfl) .nil) (fun hp w W => c147 _ _ _ _)) rfl <| .z) fun a S => ?_)))))
             rw [rw_b] at S
             refine qrun S (.nt rfl <| .mv rfl <| .gy rfl rfl (Zc (FieldT.mk underlying74 rfl sizeOf3 rfl) (.t rfl) (i' := 2) rfl) <| .gy rfl rfl (Zt ⟨isAgg3, sizeOf3⟩ (.t rfl) (k := 0) rfl rfl) <| .gy rfl rfl (Zc (FieldT.mk underlying35 rfl sizeOf32 rfl) (.t rfl) (i' := 0) rfl) <| .gy rfl rfl (Zt ⟨isAgg32, sizeOf32⟩ (.t rfl) (k := 1) rfl rfl) <| .gy rfl rfl (Zc (FieldT.mk underlying74 rfl sizeOf3 rfl) (.t rfl) (i' := 0) rfl) <| .gy rfl rfl (Zt ⟨isAgg3, sizeOf3⟩ (.t rfl) (k := 0) rfl rfl) <| .gy rfl rfl (Zc (FieldT.mk underlying74 rfl sizeOf3 rfl) (.t rfl) (i' := 1) rfl) <| .gy rfl rfl (Zt ⟨isAgg3, sizeOf3⟩ (.t rfl) (k := 0) rfl rfl) <| .gx rfl rfl (Zf call143 (.cons (.t rfl) (.cons (.t rfl) (.cons (.t rfl) .nil))) (fun hp w W => c143 _ _ _ _ _ (by exact .old W (by assumption)))) <| .gy rfl rfl (Xu (.t rfl) Ev.c (fun _ => by unfold I64; omega)) <| .gy rfl rfl (Yq (by omega) (Xg (.t rfl) (.t rfl))) <| .yy (Zu (.t rfl) (.t rfl)) rfl <| .z) fun a S => ?_
             (refine Yt ?_; intro w W; replace S := St.mk S W; clear W)
             refine Za (hK5 _ _ (Ze S (.t rfl) (wp_skip (Za (hK4 _ _ (wp_seq_k fun _ hK4 => Yc S (by kernel_rfl) (by kernel_rfl) fun a S => qrun S (.mv rfl <| .yy (Yq (by omega) (Yn (.t rfl) Ev.c)) rfl <| .mv rfl <| .sk rfl rfl rfl <| .sk rfl rfl rfl <| .sk rfl rfl rfl <| .sk rfl rfl rfl <| .sk rfl rfl rfl <| .sk rfl rfl rfl <| .sk rfl rfl rfl <| .sk rfl rfl rfl <| .sk rfl rfl rfl <| .yy (Zu (.t rfl) Ev.c) rfl <| .z) fun a S => ?_))))))
             (refine Yt ?_; intro w W; replace S := St.mk S W; clear W)
             refine Za (hK4 _ _ (Ze S (.t rfl) (wp_skip (Zk (Za (hK3 _ _ (wp_region_lit (run S (.ad (by unfold I64; omega) rfl <| .mv rfl <| .z) fun a w S => Zb (Za ?_)))))))))
             exact ⟨0 + 1, ⟨by omega, step_all hmm hmy' rw_b, by rw [prevD, hmm, ← hno, rw_b, prevD, gapC, decide_eq_true (by omega)]; rfl⟩, by omega, S.wk⟩
           · obtain ⟨g', o', m', e', hmm', hd', hc'⟩ := Yg hA' (show k < C.cloud.length by omega)
             cases e'
             obtain ⟨p1, p2, p3⟩ := m'
             have hg : gapC (prevD C.cloud (k + 1)) ⟨m1, m2, m3⟩ = belowD ⟨p1, p2, p3⟩ ⟨m1, m2, m3⟩ := by
               rw [prevD, hmm']
               unfold gapC orderD belowD
               dsimp only
               repeat' split
               all_goals simp only [decide_eq_decide]
               all_goals omega
             cases rw_c : belowD ⟨p1, p2, p3⟩ ⟨m1, m2, m3⟩ with
             | false =>
               refine sg S (.lt (by omega) rfl rfl <| .z) fun a w S => wp_seq_k fun _ hK3 => Zg S (.t rfl) (wp_skip (Za (hK3 _ _ (wp_seq_k fun _ hK3 => wp_block (wp_seq_k fun _ hK4 => wp_region_lit (run S (.mv rfl <| .ix underlying33 sizeOf74 (by omega) rfl rfl <| .yy (Zp ⟨isAgg74, sizeOf74⟩ (.t rfl) (vs := [_, _, _]) rfl (fun _ => hc)) rfl <| .z) fun a w S => ?_))))))
               rw [rw_n] at S
               rw [rw_l] at S
               rw [rw_k] at S
               refine Zj (Zn S zeroValue74 (cs := _) rfl rfl fun g2 a w S => run S (.as rfl <| .z) fun a w S => Zj (Zq S sizeOf74 (.t rfl) (.t rfl) (k := 0) rfl rfl rfl (by simp [Value.oneCell']) fun a w S => Zb (Za (hK4 _ _ (wp_seq_k fun _ hK4 => wp_seq_k fun _ hK5 => Yc S (by kernel_rfl) (by kernel_rfl) fun a S => qrun S (.la gt74 0 rfl rfl rfl <| .xx (Zf call147 (.cons (.t rfl) .nil) (fun hp w W => c147 _ _ _ _)) rfl <| .z) fun a S => ?_)))))
               rw [rw_b] at S
               refine qrun S (.nt rfl <| .mv rfl <| .gy rfl rfl (Zc (FieldT.mk underlying74 rfl sizeOf3 rfl) (.t rfl) (i' := 2) rfl) <| .gy rfl rfl (Zt ⟨isAgg3, sizeOf3⟩ (.t rfl) (k := 0) rfl rfl) <| .gy rfl rfl (Zc (FieldT.mk underlying35 rfl sizeOf32 rfl) (.t rfl) (i' := 0) rfl) <| .gy rfl rfl (Zt ⟨isAgg32, sizeOf32⟩ (.t rfl) (k := 1) rfl rfl) <| .gy rfl rfl (Zc (FieldT.mk underlying74 rfl sizeOf3 rfl) (.t rfl) (i' := 0) rfl) <| .gy rfl rfl (Zt ⟨isAgg3, sizeOf3⟩ (.t rfl) (k := 0) rfl rfl) <| .gy rfl rfl (Zc (FieldT.mk underlying74 rfl sizeOf3 rfl) (.t rfl) (i' := 1) rfl) <| .gy rfl rfl (Zt ⟨isAgg3, sizeOf3⟩ (.t rfl) (k := 0) rfl rfl) <| .gx rfl rfl (Zf call143 (.cons (.t rfl) (.cons (.t rfl) (.cons (.t rfl) .nil))) (fun hp w W => c143 _ _ _ _ _ (by exact .old W (by assumption)))) <| .gy rfl rfl (Xu (.t rfl) Ev.c (fun _ => by unfold I64; omega)) <| .gy rfl rfl (Yq (by omega) (Xg (.t rfl) (.t rfl))) <| .yy (Zu (.t rfl) (.t rfl)) rfl <| .z) fun a S => ?_
               (refine Yt ?_; intro w W; replace S := St.mk S W; clear W)
               refine Za (hK5 _ _ (Ze S (.t rfl) (wp_skip (Za (hK4 _ _ (wp_seq_k fun _ hK4 => Yc S (by kernel_rfl) (by kernel_rfl) fun a S => qrun S (.mv rfl <| .yy (Yu (by omega) (Yn (.t rfl) Ev.c)) rfl <| .mv rfl <| .gy rfl rfl (Zc (FieldT.mk underlying35 rfl sizeOf33 rfl) (.t rfl) (i' := 1) rfl) <| .gy rfl rfl (Zt ⟨isAgg33, sizeOf33⟩ (.t rfl) (k := 1) rfl rfl) <| .gy rfl rfl (Zi (.t rfl)) <| .gy rfl rfl (Xt (.t rfl) Ev.c (by omega)) <| .gy rfl rfl (Ym underlying33 sizeOf74 (.t rfl) (.t rfl) (fun _ => by omega)) <| .gy rfl rfl (Zp ⟨isAgg74, sizeOf74⟩ (.t rfl) (vs := [_, _, _]) rfl (fun _ => hc')) <| .gy rfl rfl (Zz ⟨isAgg74, sizeOf74⟩ (.t rfl) (k := 0) rfl rfl) <| .gx rfl rfl (Zf call148 (.cons (.t rfl) (.cons (.t rfl) .nil)) (fun hp w W => c148 _ _ _ _ _ _ _)) <| .z) fun a S => ?_))))))
               rw [rw_c] at S
               refine qrun S (.gy rfl rfl (Xh (.t rfl)) <| .yy (Zv (.t rfl) (.t rfl)) rfl <| .z) fun a S => ?_
               (refine Yt ?_; intro w W; replace S := St.mk S W; clear W)
               refine Za (hK4 _ _ (Zg S (.t rfl) (sg S (.ac rfl <| .z) fun a w S => wp_ret (Zr (Zd (Zd (Zr (Zd (Zm S (results1 S results81 (Rv.tmp rfl)) ?_)))))))))
               exact ⟨by rw [canL_C (by rw [← hno, rw_b, hg, rw_c]; rfl)], S.wd.below⟩
             | true =>
               refine sg S (.lt (by omega) rfl rfl <| .z) fun a w S => wp_seq_k fun _ hK3 => Zg S (.t rfl) (wp_skip (Za (hK3 _ _ (wp_seq_k fun _ hK3 => wp_block (wp_seq_k fun _ hK4 => wp_region_lit (run S (.mv rfl <| .ix underlying33 sizeOf74 (by omega) rfl rfl <| .yy (Zp ⟨isAgg74, sizeOf74⟩ (.t rfl) (vs := [_, _, _]) rfl (fun _ => hc)) rfl <| .z) fun a w S => ?_))))))
               rw [rw_n] at S
               rw [rw_l] at S
               rw [rw_k] at S
               refine Zj (Zn S zeroValue74 (cs := _) rfl rfl fun g2 a w S => run S (.as rfl <| .z) fun a w S => Zj (Zq S sizeOf74 (.t rfl) (.t rfl) (k := 0) rfl rfl rfl (by simp [Value.oneCell']) fun a w S => Zb (Za (hK4 _ _ (wp_seq_k fun _ hK4 => wp_seq_k fun _ hK5 => Yc S (by kernel_rfl) (by kernel_rfl) fun a S => qrun S (.la gt74 0 rfl rfl rfl <| .xx (Zf call147 (.cons (.t rfl) .nil) (fun hp w W => c147 _ _ _ _)) rfl <| .z) fun a S => ?_)))))
               rw [rw_b] at S
               refine qrun S (.nt rfl <| .mv rfl <| .gy rfl rfl (Zc (FieldT.mk underlying74 rfl sizeOf3 rfl) (.t rfl) (i' := 2) rfl) <| .gy rfl rfl (Zt ⟨isAgg3, sizeOf3⟩ (.t rfl) (k := 0) rfl rfl) <| .gy rfl rfl (Zc (FieldT.mk underlying35 rfl sizeOf32 rfl) (.t rfl) (i' := 0) rfl) <| .gy rfl rfl (Zt ⟨isAgg32, sizeOf32⟩ (.t rfl) (k := 1) rfl rfl) <| .gy rfl rfl (Zc (FieldT.mk underlying74 rfl sizeOf3 rfl) (.t rfl) (i' := 0) rfl) <| .gy rfl rfl (Zt ⟨isAgg3, sizeOf3⟩ (.t rfl) (k := 0) rfl rfl) <| .gy rfl rfl (Zc (FieldT.mk underlying74 rfl sizeOf3 rfl) (.t rfl) (i' := 1) rfl) <| .gy rfl rfl (Zt ⟨isAgg3, sizeOf3⟩ (.t rfl) (k := 0) rfl rfl) <| .gx rfl rfl (Zf call143 (.cons (.t rfl) (.cons (.t rfl) (.cons (.t rfl) .nil))) (fun hp w W => c143 _ _ _ _ _ (by exact .old W (by assumption)))) <| .gy rfl rfl (Xu (.t rfl) Ev.c (fun _ => by unfold I64; omega)) <| .gy rfl rfl (Yq (by omega) (Xg (.t rfl) (.t rfl))) <| .yy (Zu (.t rfl) (.t rfl)) rfl <| .z) fun a S => ?_
               (refine Yt ?_; intro w W; replace S := St.mk S W; clear W)
               refine Za (hK5 _ _ (Ze S (.t rfl) (wp_skip (Za (hK4 _ _ (wp_seq_k fun _ hK4 => Yc S (by kernel_rfl) (by kernel_rfl) fun a S => qrun S (.mv rfl <| .yy (Yu (by omega) (Yn (.t rfl) Ev.c)) rfl <| .mv rfl <| .gy rfl rfl (Zc (FieldT.mk underlying35 rfl sizeOf33 rfl) (.t rfl) (i' := 1) rfl) <| .gy rfl rfl (Zt ⟨isAgg33, sizeOf33⟩ (.t rfl) (k := 1) rfl rfl) <| .gy rfl rfl (Zi (.t rfl)) <| .gy rfl rfl (Xt (.t rfl) Ev.c (by omega)) <| .gy rfl rfl (Ym underlying33 sizeOf74 (.t rfl) (.t rfl) (fun _ => by omega)) <| .gy rfl rfl (Zp ⟨isAgg74, sizeOf74⟩ (.t rfl) (vs := [_, _, _]) rfl (fun _ => hc')) <| .gy rfl rfl (Zz ⟨isAgg74, sizeOf74⟩ (.t rfl) (k := 0) rfl rfl) <| .gx rfl rfl (Zf call148 (.cons (.t rfl) (.cons (.t rfl) .nil)) (fun hp w W => c148 _ _ _ _ _ _ _)) <| .z) fun a S => ?_))))))
               rw [rw_c] at S
               refine qrun S (.gy rfl rfl (Xh (.t rfl)) <| .yy (Zv (.t rfl) (.t rfl)) rfl <| .z) fun a S => ?_
               (refine Yt ?_; intro w W; replace S := St.mk S W; clear W)
               refine Za (hK4 _ _ (Ze S (.t rfl) (wp_skip (Zk (Za (hK3 _ _ (wp_region_lit (run S (.ad (by unfold I64; omega) rfl <| .mv rfl <| .z) fun a w S => Zb (Za ?_)))))))))
               exact ⟨k + 1 + 1, ⟨by omega, step_all hmm hmy' rw_b, by rw [prevD, hmm, ← hno, rw_b, hg, rw_c, decide_eq_true (by omega)]; rfl⟩, by omega, S.wk⟩
     · have hend : k = C.cloud.length := by omega
       subst hend
       rw [List.drop_length, okC] at hno
       refine sg S (.ge (by omega) rfl rfl <| .z) fun a w S => wp_seq_k fun _ hK3 => Ze S (.t rfl) (wp_exit (Zh (Zh (Ya (Za (hK1 _ _ (sg S (.ac rfl <| .z) fun a w S => wp_ret (Zm S (results1 S results81 (Rv.tmp rfl)) ?_))))))))
       exact ⟨by rw [canL_yes hbig hM hno.symm], S.wd.below⟩
end Go.Proofs.YtakpdbmdfnialaaGreat
namespace Go.Fw
theorem can_covers {C : Ctx} (h : canL C = true) (d : Dot) : C.coversR d = C.covers d := (covers_eq (fun m hm => by
 have := Xw ((can_nf h).mayC m hm)
 omega) d).symm
theorem items_step {l : List Ent} {k : Nat} {x : Ent} (hx : l[k]? = some x) : itemsN (l.take (k + 1)) = itemsN (l.take k) + if (l.take k).getLast?.map (·.item) = some x.item then 0 else 1 := by
 rw [List.take_add_one, hx, Option.toList_some]
 unfold itemsN
 rw [items_snoc]
 simp
theorem take_last {l : List Ent} {k : Nat} {p : Ent} (hp : l[k]? = some p) : (l.take (k + 1)).getLast? = some p := by
 rw [List.take_add_one, hp, Option.toList_some]
 simp
theorem ents_step {C : Ctx} {l : List Ent} {k : Nat} {x : Ent} (hx : l[k]? = some x) : entsE C (l.take k) (l.drop k) = if entE C (l.take k) x = 0 then entsE C (l.take (k + 1)) (l.drop (k + 1)) else entE C (l.take k) x := by
 have hlt : k < l.length := (List.getElem?_eq_some_iff.1 hx).1
 have e : l[k] = x := (List.getElem?_eq_some_iff.1 hx).2
 rw [List.drop_eq_getElem_cons hlt, e, entsE, List.take_add_one, hx, Option.toList_some]
theorem dup_at {l : List Ent} {k j : Nat} {y : Ent} (hj : j < k) (hy : l[j]? = some y) : y.dot ∈ (l.take k).map (·.dot) := by
 refine List.mem_map.2 ⟨y, List.mem_of_getElem? (i := j) ?_, rfl⟩
 rw [List.getElem?_take, if_pos hj, hy]
theorem dup_step {l : List Ent} {j : Nat} {y : Ent} {d : Dot} (hy : l[j]? = some y) (h : d ∉ (l.take j).map (·.dot)) (hne : y.dot ≠ d) : d ∉ (l.take (j + 1)).map (·.dot) := by
 rw [List.take_add_one, hy, Option.toList_some, List.map_append]
 intro hm
 rcases List.mem_append.1 hm with hm | hm
 · exact h hm
 · simp at hm
   exact hne hm.symm
end Go.Fw
namespace Go.Proofs.YtakpdbmdfnialaaGreat
open Go.Fw Go.Proofs Go.RowKit Go.Proofs.Tryz
theorem c86 (w0 : World) (v : Value) (l : List Ent) (h : Sl Ent.enc 6 w0 w0.heap.size v l) (hn : l.length ≤ 4194304) :
   Calls Tryz.prog 86 #[v] w0 fun e w' => e = .returned (.int .i64 (itemsN l : Int)) ∧ Bel w0.heap.size w0 w' := by
 obtain ⟨A, cap, rfl, hl, hcap, hA⟩ := h
 refine enter1 func86 rfl ntmps86 rfl fun a S => sg S (.ac rfl <| .z) fun a w S => sg S (.ac rfl <| .z) fun a w S => wp_seq_k fun _ hK1 => sg S (.mv rfl <| .ln underlying31 rfl <| .mc rfl <| .z) fun a w S => wp_block ?_
 refine Xb S [3, 4, 5, 8] (X := Nat) (fun k => [(3, true, .int .i64 (itemsN (l.take k) : Int)), (8, true, .int .i64 (k : Int))]) (fun _ => []) (fun k => k ≤ l.length) (fun k => l.length - k) 0 (Nat.zero_le _) ?_
 clear S
 intro k a w hk S
 by_cases hlt : k < l.length
 · obtain ⟨g, o, x, rfl, hx, hd, hc⟩ := Yg hA hlt
   have hst := items_step hx
   have hle := itemsFrom_le (l.take k) none
   rw [show itemsFrom none (l.take k) = itemsN (l.take k) from rfl, List.length_take] at hle
   rcases k with _ | k
   · have rw_1 : ((itemsN (l.take 0) : Nat) : Int) + 1 = ((itemsN (l.take 1) : Nat) : Int) := by rw [hst]; simp
     refine sg S (.lt (by omega) rfl rfl <| .z) fun a w S => wp_seq_k fun _ hK2 => Zg S (.t rfl) (wp_skip (Za (hK2 _ _ (wp_seq_k fun _ hK2 => wp_block (wp_seq_k fun _ hK3 => wp_region_lit (run S (.mv rfl <| .yy (Ym (j := 0) underlying31 sizeOf100 (.t rfl) (.t rfl) (fun _ => by omega)) rfl <| .yy (Zp ⟨isAgg100, sizeOf100⟩ (.t rfl) (vs := [_, _, _, _, _, _]) rfl (fun _ => hc)) rfl <| .z) fun a w S => Zj (Zn S zeroValue100 (cs := _) rfl rfl fun g1 a w S => run S (.as rfl <| .z) fun a w S => Zj (Zq S sizeOf100 (.t rfl) (.t rfl) (k := 0) rfl rfl rfl (by simp [Value.oneCell']) fun a w S => Zb (Za (hK3 _ _ (wp_seq_k fun _ hK3 => Yc S (by kernel_rfl) (by kernel_rfl) fun a S => qrun S (.mv rfl <| .yy (Yu (by omega) (Ye (.t rfl) Ev.c)) rfl <| .mv rfl <| .sk rfl rfl rfl <| .sk rfl rfl rfl <| .sk rfl rfl rfl <| .sk rfl rfl rfl <| .sk rfl rfl rfl <| .sk rfl rfl rfl <| .sk rfl rfl rfl <| .sk rfl rfl rfl <| .sk rfl rfl rfl <| .yy (Zv (.t rfl) Ev.c) rfl <| .z) fun a S => ?_)))))))))))
     (refine Yt ?_; intro w W; replace S := St.mk S W; clear W)
     refine Za (hK3 _ _ (Zg S (.t rfl) (wp_region_lit (run S (.mv rfl <| .ad (by unfold I64; omega) rfl <| .z) fun a w S => ?_))))
     rw [rw_1] at S
     refine run S (.as rfl <| .z) fun a w S => Zb (Zk (Za (hK2 _ _ (wp_region_lit (run S (.ad (by unfold I64; omega) rfl <| .mv rfl <| .z) fun a w S => Zb (Za ?_))))))
     exact ⟨0 + 1, by omega, by omega, S.pk⟩
   · obtain ⟨g', o', p, e', hp, hd', hc'⟩ := Yg hA (show k < l.length by omega)
     cases e'
     rw [take_last hp] at hst
     clear hA
     by_cases he : p.item = x.item
     · rw [if_pos (by simp [he])] at hst
       have rw_e : decide (p.item ≠ x.item) = false := decide_eq_false (fun h => h he)
       refine sg S (.lt (by omega) rfl rfl <| .z) fun a w S => wp_seq_k fun _ hK2 => Zg S (.t rfl) (wp_skip (Za (hK2 _ _ (wp_seq_k fun _ hK2 => wp_block (wp_seq_k fun _ hK3 => wp_region_lit (run S (.mv rfl <| .ix underlying31 sizeOf100 (by omega) rfl rfl <| .yy (Zp ⟨isAgg100, sizeOf100⟩ (.t rfl) (vs := [_, _, _, _, _, _]) rfl (fun _ => hc)) rfl <| .z) fun a w S => Zj (Zn S zeroValue100 (cs := _) rfl rfl fun g1 a w S => run S (.as rfl <| .z) fun a w S => Zj (Zq S sizeOf100 (.t rfl) (.t rfl) (k := 0) rfl rfl rfl (by simp [Value.oneCell']) fun a w S => Zb (Za (hK3 _ _ (wp_seq_k fun _ hK3 => Yc S (by kernel_rfl) (by kernel_rfl) fun a S => ?_)))))))))))
       refine qrun S (.mv rfl <| .yy (Yq (by omega) (Ye (.t rfl) Ev.c)) rfl <| .mv rfl <| .gy rfl rfl (Zi (.t rfl)) <| .gy rfl rfl (Zi (.t rfl)) <| .gy rfl rfl (Xt (.t rfl) Ev.c (by omega)) <| .gy rfl rfl (Ym underlying31 sizeOf100 (.t rfl) (.t rfl) (fun _ => by omega)) <| .gy rfl rfl (Zy (FieldT.mk underlying100 rfl sizeOf9 rfl) (.t rfl)) <| .gy rfl rfl (Yv ⟨isAgg9, sizeOf9⟩ (.t rfl) (fun _ => hc' _ _ rfl)) <| .gy rfl rfl (Zc (FieldT.mk underlying100 rfl sizeOf9 rfl) (.t rfl) (i' := 0) rfl) <| .gy rfl rfl (Zt ⟨isAgg9, sizeOf9⟩ (.t rfl) (k := 0) rfl rfl) <| .gy rfl rfl (Xs (.t rfl) (.t rfl)) <| .z) fun a S => ?_
       rw [rw_e] at S
       refine qrun S (.yy (Zu (.t rfl) (.t rfl)) rfl <| .z) fun a S => ?_
       (refine Yt ?_; intro w W; replace S := St.mk S W; clear W)
       refine Za (hK3 _ _ (Ze S (.t rfl) (wp_skip (Zk (Za (hK2 _ _ (wp_region_lit (run S (.ad (by unfold I64; omega) rfl <| .mv rfl <| .z) fun a w S => Zb (Za ?_)))))))))
       rw [← show itemsN (l.take (k + 1 + 1)) = itemsN (l.take (k + 1)) by rw [hst]; rfl] at S
       exact ⟨k + 1 + 1, by omega, by omega, S.pk⟩
     · rw [if_neg (by simp [he])] at hst
       have rw_e : decide (p.item ≠ x.item) = true := decide_eq_true he
       have rw_1 : ((itemsN (l.take (k + 1)) : Nat) : Int) + 1 = ((itemsN (l.take (k + 1 + 1)) : Nat) : Int) := by rw [hst]; omega
       refine sg S (.lt (by omega) rfl rfl <| .z) fun a w S => wp_seq_k fun _ hK2 => Zg S (.t rfl) (wp_skip (Za (hK2 _ _ (wp_seq_k fun _ hK2 => wp_block (wp_seq_k fun _ hK3 => wp_region_lit (run S (.mv rfl <| .ix underlying31 sizeOf100 (by omega) rfl rfl <| .yy (Zp ⟨isAgg100, sizeOf100⟩ (.t rfl) (vs := [_, _, _, _, _, _]) rfl (fun _ => hc)) rfl <| .z) fun a w S => Zj (Zn S zeroValue100 (cs := _) rfl rfl fun g1 a w S => run S (.as rfl <| .z) fun a w S => Zj (Zq S sizeOf100 (.t rfl) (.t rfl) (k := 0) rfl rfl rfl (by simp [Value.oneCell']) fun a w S => Zb (Za (hK3 _ _ (wp_seq_k fun _ hK3 => Yc S (by kernel_rfl) (by kernel_rfl) fun a S => ?_)))))))))))
       refine qrun S (.mv rfl <| .yy (Yq (by omega) (Ye (.t rfl) Ev.c)) rfl <| .mv rfl <| .gy rfl rfl (Zi (.t rfl)) <| .gy rfl rfl (Zi (.t rfl)) <| .gy rfl rfl (Xt (.t rfl) Ev.c (by omega)) <| .gy rfl rfl (Ym underlying31 sizeOf100 (.t rfl) (.t rfl) (fun _ => by omega)) <| .gy rfl rfl (Zy (FieldT.mk underlying100 rfl sizeOf9 rfl) (.t rfl)) <| .gy rfl rfl (Yv ⟨isAgg9, sizeOf9⟩ (.t rfl) (fun _ => hc' _ _ rfl)) <| .gy rfl rfl (Zc (FieldT.mk underlying100 rfl sizeOf9 rfl) (.t rfl) (i' := 0) rfl) <| .gy rfl rfl (Zt ⟨isAgg9, sizeOf9⟩ (.t rfl) (k := 0) rfl rfl) <| .gy rfl rfl (Xs (.t rfl) (.t rfl)) <| .z) fun a S => ?_
       rw [rw_e] at S
       refine qrun S (.yy (Zu (.t rfl) (.t rfl)) rfl <| .z) fun a S => ?_
       (refine Yt ?_; intro w W; replace S := St.mk S W; clear W)
       refine Za (hK3 _ _ (Zg S (.t rfl) (wp_region_lit (run S (.mv rfl <| .ad (by unfold I64; omega) rfl <| .z) fun a w S => ?_))))
       rw [rw_1] at S
       refine run S (.as rfl <| .z) fun a w S => Zb (Zk (Za (hK2 _ _ (wp_region_lit (run S (.ad (by unfold I64; omega) rfl <| .mv rfl <| .z) fun a w S => Zb (Za ?_))))))
       exact ⟨k + 1 + 1, by omega, by omega, S.pk⟩
 · obtain rfl : k = l.length := by omega
   rw [List.take_length] at S
   refine sg S (.ge (by omega) rfl rfl <| .z) fun a w S => wp_seq_k fun _ hK2 => Ze S (.t rfl) (wp_exit (Zh (Zh (Ya (Za (hK1 _ _ (sg S (.mv rfl <| .as rfl <| .z) fun a w S => wp_ret (Zm S (results1 S results86 (Rv.tmp rfl)) ?_))))))))
   exact ⟨rfl, S.wd.below⟩
theorem c32 (w0 : World) (v1 v2 v3 : Value) (c : Cart) (h : Sl Ent.enc 6 w0 w0.heap.size v1 c.ents) (hr : RdCtx w0 w0.heap.size v2 v3 c.ctx) :
   Calls Tryz.prog 32 #[.agg #[v1, v2, v3]] w0 fun e w' => e = .returned (.int .i64 (canE c)) ∧ Bel w0.heap.size w0 w' := by
 obtain ⟨l, C⟩ := c
 dsimp only at h hr
 have hs := h
 obtain ⟨A, cap, rfl, hl, hcap, hA⟩ := h
 unfold canE
 dsimp only
 cases rw_C : canL C with
 | false =>
   refine enter1 func32 rfl ntmps32 rfl fun a S => wp_seq_k fun _ hK1 => wp_region_lit (Zj (Zw S (.t rfl) rfl fun g1 a w S => run S (.ac rfl <| .z) fun a w S => Zb (Za (hK1 _ _ (wp_seq_k fun _ hK1 => wp_seq_k fun _ hK2 => wp_region_lit (run S (.fa underlying37 sizeOf35 1 rfl rfl rfl <| .la gt35 0 rfl rfl rfl <| .xx (Zf call81 (.cons (.t rfl) .nil) (fun hp w W => c81 _ _ _ _ (by exact .old W (by assumption)))) rfl <| .z) fun a w S => ?_))))))
   rw [rw_C] at S
   refine run S (.nt rfl <| .z) fun a w S => Zb (Za (hK2 _ _ (Zg S (.t rfl) (sg S (.ac rfl <| .z) fun a w S => wp_ret (Zd (Zm S (results1 S results32 (Rv.tmp rfl)) ?_))))))
   exact ⟨rfl, S.wd.below⟩
 | true =>
 rw [if_neg (by simp)]
 by_cases hbig : 64 < l.length
 · refine enter1 func32 rfl ntmps32 rfl fun a S => wp_seq_k fun _ hK1 => wp_region_lit (Zj (Zw S (.t rfl) rfl fun g1 a w S => run S (.ac rfl <| .z) fun a w S => Zb (Za (hK1 _ _ (wp_seq_k fun _ hK1 => wp_seq_k fun _ hK2 => wp_region_lit (run S (.fa underlying37 sizeOf35 1 rfl rfl rfl <| .la gt35 0 rfl rfl rfl <| .xx (Zf call81 (.cons (.t rfl) .nil) (fun hp w W => c81 _ _ _ _ (by exact .old W (by assumption)))) rfl <| .z) fun a w S => ?_))))))
   rw [rw_C] at S
   refine run S (.nt rfl <| .z) fun a w S => Zb (Za (hK2 _ _ (Ze S (.t rfl) (wp_skip (Za (hK1 _ _ (wp_seq_k fun _ hK1 => sg S (.fa underlying37 sizeOf31 0 rfl rfl rfl <| .ld gt31 0 rfl rfl rfl <| .ln underlying31 rfl <| .yy (Yu (by omega) (Yn (.t rfl) Ev.c)) rfl <| .z) fun a w S => Zg S (.t rfl) (sg S (.ac rfl <| .z) fun a w S => wp_ret (Zd (Zm S (results1 S results32 (Rv.tmp rfl)) ?_))))))))))
   exact ⟨by rw [if_pos hbig], S.wd.below⟩
 rw [if_neg hbig]
 have rw_cov := can_covers rw_C
 refine enter1 func32 rfl ntmps32 rfl fun a S => wp_seq_k fun _ hK1 => wp_region_lit (Zj (Zw S (.t rfl) rfl fun g1 a w S => run S (.ac rfl <| .z) fun a w S => Zb (Za (hK1 _ _ (wp_seq_k fun _ hK1 => wp_seq_k fun _ hK2 => wp_region_lit (run S (.fa underlying37 sizeOf35 1 rfl rfl rfl <| .la gt35 0 rfl rfl rfl <| .xx (Zf call81 (.cons (.t rfl) .nil) (fun hp w W => c81 _ _ _ _ (by exact .old W (by assumption)))) rfl <| .z) fun a w S => ?_))))))
 rw [rw_C] at S
 refine run S (.nt rfl <| .z) fun a w S => Zb (Za (hK2 _ _ (Ze S (.t rfl) (wp_skip (Za (hK1 _ _ (wp_seq_k fun _ hK1 => sg S (.fa underlying37 sizeOf31 0 rfl rfl rfl <| .ld gt31 0 rfl rfl rfl <| .ln underlying31 rfl <| .yy (Yq (by omega) (Yn (.t rfl) Ev.c)) rfl <| .z) fun a w S => Ze S (.t rfl) (wp_skip (Za (hK1 _ _ (wp_seq_k fun _ hK1 => sg S (.fa underlying37 sizeOf31 0 rfl rfl rfl <| .ld gt31 0 rfl rfl rfl <| .ln underlying31 rfl <| .mc rfl <| .z) fun a w S => wp_block ?_)))))))))))
 refine Xb S [3, 4, 6, 18] (X := Nat) (fun k => [(18, true, .int .i64 (k : Int))]) (fun _ => [.blk g1 (.cells #[.slice A l.length cap, v2, v3] 37)])
   (fun k => k ≤ l.length ∧ entsE C (l.take k) (l.drop k) = entsE C [] l) (fun k => l.length - k) 0 ⟨Nat.zero_le _, rfl⟩ ?_
 clear S
 intro k a w ⟨hk, hno⟩ S
 by_cases hlt : k < l.length
 rotate_left
 · obtain rfl : k = l.length := by omega
   rw [List.drop_length, entsE] at hno
   by_cases hi : 32 < itemsN l
   · refine sg S (.ge (by omega) rfl rfl <| .z) fun a w S => wp_seq_k fun _ hK2 => Ze S (.t rfl) (wp_exit (Zh (Zh (Ya (Za (hK1 _ _ (wp_seq_k fun _ hK1 => sg S (.fa underlying37 sizeOf31 0 rfl rfl rfl <| .ld gt31 0 rfl rfl rfl <| .xx (Zf call86 (.cons (.t rfl) .nil) (fun hp w W => c86 _ _ _ (by exact .old W (by assumption)) (by omega))) rfl <| .yy (Yu (by omega) (Yn (.t rfl) Ev.c)) rfl <| .z) fun a w S => Zg S (.t rfl) (sg S (.ac rfl <| .z) fun a w S => wp_ret (Zd (Zm S (results1 S results32 (Rv.tmp rfl)) ?_))))))))))
     exact ⟨by rw [if_pos hno.symm, if_pos hi], S.wd.below⟩
   · refine sg S (.ge (by omega) rfl rfl <| .z) fun a w S => wp_seq_k fun _ hK2 => Ze S (.t rfl) (wp_exit (Zh (Zh (Ya (Za (hK1 _ _ (wp_seq_k fun _ hK1 => sg S (.fa underlying37 sizeOf31 0 rfl rfl rfl <| .ld gt31 0 rfl rfl rfl <| .xx (Zf call86 (.cons (.t rfl) .nil) (fun hp w W => c86 _ _ _ (by exact .old W (by assumption)) (by omega))) rfl <| .yy (Yq (by omega) (Yn (.t rfl) Ev.c)) rfl <| .z) fun a w S => Ze S (.t rfl) (wp_skip (Za (hK1 _ _ (sg S (.ac rfl <| .z) fun a w S => wp_ret (Zm S (results1 S results32 (Rv.tmp rfl)) ?_))))))))))))
     exact ⟨by rw [if_pos hno.symm, if_neg hi], S.wd.below⟩
 obtain ⟨g, o, x, rfl, hx, hd, hc⟩ := Yg hA hlt
 have hst := ents_step (C := C) hx
 rw [hno] at hst
 have bad : entE C (l.take k) x ≠ 0 → (if entsE C [] l = 0 then (if 32 < itemsN l then (51 : Int) else 0) else entsE C [] l) = entE C (l.take k) x := fun h => by
   rw [if_neg h] at hst
   rw [hst, if_neg h]
 cases rw_n : nameB x.item with
 | false =>
   have he : entE C (l.take k) x = 6 := by unfold entE; rw [if_pos rw_n]
   rw [bad (by rw [he]; decide), he]
   refine sg S (.lt (by omega) rfl rfl <| .z) fun a w S => wp_seq_k fun _ hK2 => Zg S (.t rfl) (wp_skip (Za (hK2 _ _ (wp_seq_k fun _ hK2 => wp_block (wp_seq_k fun _ hK3 => wp_region_lit (run S (.mv rfl <| .ix underlying31 sizeOf100 (by omega) rfl rfl <| .yy (Zp ⟨isAgg100, sizeOf100⟩ (.t rfl) (vs := [_, _, _, _, _, _]) rfl (fun _ => hc)) rfl <| .z) fun a w S => Zj (Zn S zeroValue100 (cs := _) rfl rfl fun g2 a w S => run S (.as rfl <| .z) fun a w S => Zj (Zq S sizeOf100 (.t rfl) (.t rfl) (k := 0) rfl rfl rfl (by simp [Value.oneCell']) fun a w S => Zb (Za (hK3 _ _ (wp_seq_k fun _ hK3 => wp_block (wp_seq_k fun _ hK4 => wp_region_lit (run S (.fa underlying100 sizeOf9 0 rfl rfl rfl <| .ld gt9 0 rfl rfl rfl <| .xx (Zf call82 (.cons (.t rfl) .nil) (fun hp w W => c82 _ _)) rfl <| .z) fun a w S => ?_)))))))))))))
   rw [rw_n] at S
   refine run S (.nt rfl <| .as rfl <| .z) fun a w S => Zb (Za (hK4 _ _ (Zg S (.t rfl) (sg S (.ac rfl <| .z) fun a w S => wp_ret (Zr (Zd (Zr (Zd (Zd (Zr (Zd (Zm S (results1 S results32 (Rv.tmp rfl)) ?_))))))))))))
   exact ⟨rfl, S.wd.below⟩
 | true =>
 by_cases hq : x.qty < 1 ∨ 1000000 < x.qty
 · have he : entE C (l.take k) x = 52 := by unfold entE; rw [if_neg (by simp [rw_n]), if_pos hq]
   rw [bad (by rw [he]; decide), he]
   have rw_q : (decide (1 ≤ x.qty) && decide (x.qty ≤ 1000000)) = false := by simp; omega
   refine sg S (.lt (by omega) rfl rfl <| .z) fun a w S => wp_seq_k fun _ hK2 => Zg S (.t rfl) (wp_skip (Za (hK2 _ _ (wp_seq_k fun _ hK2 => wp_block (wp_seq_k fun _ hK3 => wp_region_lit (run S (.mv rfl <| .ix underlying31 sizeOf100 (by omega) rfl rfl <| .yy (Zp ⟨isAgg100, sizeOf100⟩ (.t rfl) (vs := [_, _, _, _, _, _]) rfl (fun _ => hc)) rfl <| .z) fun a w S => Zj (Zn S zeroValue100 (cs := _) rfl rfl fun g2 a w S => run S (.as rfl <| .z) fun a w S => Zj (Zq S sizeOf100 (.t rfl) (.t rfl) (k := 0) rfl rfl rfl (by simp [Value.oneCell']) fun a w S => Zb (Za (hK3 _ _ (wp_seq_k fun _ hK3 => wp_block (wp_seq_k fun _ hK4 => wp_region_lit (run S (.fa underlying100 sizeOf9 0 rfl rfl rfl <| .ld gt9 0 rfl rfl rfl <| .xx (Zf call82 (.cons (.t rfl) .nil) (fun hp w W => c82 _ _)) rfl <| .z) fun a w S => ?_)))))))))))))
   rw [rw_n] at S
   refine run S (.nt rfl <| .as rfl <| .z) fun a w S => Zb (Za (hK4 _ _ (Ze S (.t rfl) (wp_seq_k fun _ hK4 => wp_region_lit (run S (.fa underlying100 sizeOf3 4 rfl rfl rfl <| .ld gt3 0 rfl rfl rfl <| .xx (Zf call83 (.cons (.t rfl) (.cons Ev.c .nil)) (fun hp w W => c83 _ _ _)) rfl <| .z) fun a w S => ?_)))))
   rw [rw_q] at S
   refine run S (.nt rfl <| .as rfl <| .z) fun a w S => Zb (Za (hK4 _ _ (Zg S (.t rfl) (sg S (.ac rfl <| .z) fun a w S => wp_ret (Zr (Zd (Zr (Zd (Zd (Zr (Zd (Zm S (results1 S results32 (Rv.tmp rfl)) ?_))))))))))))
   exact ⟨rfl, S.wd.below⟩
 have rw_q : (decide (1 ≤ x.qty) && decide (x.qty ≤ 1000000)) = true := by simp; omega
 cases rw_p : priceB x.price with
 | false =>
   have he : entE C (l.take k) x = 53 := by unfold entE; rw [if_neg (by simp [rw_n]), if_neg hq, if_pos rw_p]
   rw [bad (by rw [he]; decide), he]
   refine sg S (.lt (by omega) rfl rfl <| .z) fun a w S => wp_seq_k fun _ hK2 => Zg S (.t rfl) (wp_skip (Za (hK2 _ _ (wp_seq_k fun _ hK2 => wp_block (wp_seq_k fun _ hK3 => wp_region_lit (run S (.mv rfl <| .ix underlying31 sizeOf100 (by omega) rfl rfl <| .yy (Zp ⟨isAgg100, sizeOf100⟩ (.t rfl) (vs := [_, _, _, _, _, _]) rfl (fun _ => hc)) rfl <| .z) fun a w S => Zj (Zn S zeroValue100 (cs := _) rfl rfl fun g2 a w S => run S (.as rfl <| .z) fun a w S => Zj (Zq S sizeOf100 (.t rfl) (.t rfl) (k := 0) rfl rfl rfl (by simp [Value.oneCell']) fun a w S => Zb (Za (hK3 _ _ (wp_seq_k fun _ hK3 => wp_block (wp_seq_k fun _ hK4 => wp_region_lit (run S (.fa underlying100 sizeOf9 0 rfl rfl rfl <| .ld gt9 0 rfl rfl rfl <| .xx (Zf call82 (.cons (.t rfl) .nil) (fun hp w W => c82 _ _)) rfl <| .z) fun a w S => ?_)))))))))))))
   rw [rw_n] at S
   refine run S (.nt rfl <| .as rfl <| .z) fun a w S => Zb (Za (hK4 _ _ (Ze S (.t rfl) (wp_seq_k fun _ hK4 => wp_region_lit (run S (.fa underlying100 sizeOf3 4 rfl rfl rfl <| .ld gt3 0 rfl rfl rfl <| .xx (Zf call83 (.cons (.t rfl) (.cons Ev.c .nil)) (fun hp w W => c83 _ _ _)) rfl <| .z) fun a w S => ?_)))))
   rw [rw_q] at S
   refine run S (.nt rfl <| .as rfl <| .z) fun a w S => Zb (Za (hK4 _ _ (Ze S (.t rfl) (wp_seq_k fun _ hK4 => wp_region_lit (run S (.fa underlying100 sizeOf75 5 rfl rfl rfl <| .ld gt75 0 rfl rfl rfl <| .xx (Zf call84 (.cons (.t rfl) .nil) (fun hp w W => c84 _ _)) rfl <| .z) fun a w S => ?_)))))
   rw [rw_p] at S
   refine run S (.nt rfl <| .as rfl <| .z) fun a w S => Zb (Za (hK4 _ _ (Zg S (.t rfl) (sg S (.ac rfl <| .z) fun a w S => wp_ret (Zr (Zd (Zr (Zd (Zd (Zr (Zd (Zm S (results1 S results32 (Rv.tmp rfl)) ?_))))))))))))
   exact ⟨rfl, S.wd.below⟩
 | true =>
 have he0 : entE C (l.take k) x = if C.covers x.dot = false ∨ backE (l.take k).getLast? x = true then 50 else if x.dot ∈ (l.take k).map (·.dot) then 50 else 0 := by unfold entE; rw [if_neg (by simp [rw_n]), if_neg hq, if_neg (by simp [rw_p])]
 cases rw_c : C.covers x.dot with
 | false =>
   rw [if_pos (.inl rw_c)] at he0
   rw [bad (by rw [he0]; decide), he0]
   have rw_c2 : C.covers ⟨x.dot.node, x.dot.life, x.dot.count⟩ = false := rw_c
   refine sg S (.lt (by omega) rfl rfl <| .z) fun a w S => wp_seq_k fun _ hK2 => Zg S (.t rfl) (wp_skip (Za (hK2 _ _ (wp_seq_k fun _ hK2 => wp_block (wp_seq_k fun _ hK3 => wp_region_lit (run S (.mv rfl <| .ix underlying31 sizeOf100 (by omega) rfl rfl <| .yy (Zp ⟨isAgg100, sizeOf100⟩ (.t rfl) (vs := [_, _, _, _, _, _]) rfl (fun _ => hc)) rfl <| .z) fun a w S => Zj (Zn S zeroValue100 (cs := _) rfl rfl fun g2 a w S => run S (.as rfl <| .z) fun a w S => Zj (Zq S sizeOf100 (.t rfl) (.t rfl) (k := 0) rfl rfl rfl (by simp [Value.oneCell']) fun a w S => Zb (Za (hK3 _ _ (wp_seq_k fun _ hK3 => wp_block (wp_seq_k fun _ hK4 => wp_region_lit (run S (.fa underlying100 sizeOf9 0 rfl rfl rfl <| .ld gt9 0 rfl rfl rfl <| .xx (Zf call82 (.cons (.t rfl) .nil) (fun hp w W => c82 _ _)) rfl <| .z) fun a w S => ?_)))))))))))))
   rw [rw_n] at S
   refine run S (.nt rfl <| .as rfl <| .z) fun a w S => Zb (Za (hK4 _ _ (Ze S (.t rfl) (wp_seq_k fun _ hK4 => wp_region_lit (run S (.fa underlying100 sizeOf3 4 rfl rfl rfl <| .ld gt3 0 rfl rfl rfl <| .xx (Zf call83 (.cons (.t rfl) (.cons Ev.c .nil)) (fun hp w W => c83 _ _ _)) rfl <| .z) fun a w S => ?_)))))
   rw [rw_q] at S
   refine run S (.nt rfl <| .as rfl <| .z) fun a w S => Zb (Za (hK4 _ _ (Ze S (.t rfl) (wp_seq_k fun _ hK4 => wp_region_lit (run S (.fa underlying100 sizeOf75 5 rfl rfl rfl <| .ld gt75 0 rfl rfl rfl <| .xx (Zf call84 (.cons (.t rfl) .nil) (fun hp w W => c84 _ _)) rfl <| .z) fun a w S => ?_)))))
   rw [rw_p] at S
   refine run S (.nt rfl <| .as rfl <| .z) fun a w S => Zb (Za (hK4 _ _ (Ze S (.t rfl) (wp_seq_k fun _ hK4 => Yc S (by kernel_rfl) (by kernel_rfl) fun a S => qrun S (.fa underlying37 sizeOf35 1 rfl rfl rfl <| .la gt35 1 rfl rfl rfl <| .fa underlying100 sizeOf74 1 rfl rfl rfl <| .la gt74 0 rfl rfl rfl <| .xx (Zf call77 (.cons (.t rfl) (.cons (.t rfl) .nil)) (fun hp w W => c77 _ _ _ _ _ _ _ (by exact .old W (by assumption)))) rfl <| .z) fun a S => ?_))))
   rw [rw_cov] at S
   rw [rw_c] at S
   refine qrun S (.nt rfl <| .mv rfl <| .sk rfl rfl rfl <| .sk rfl rfl rfl <| .sk rfl rfl rfl <| .s0 rfl rfl <| .s0 rfl rfl <| .s0 rfl rfl <| .s0 rfl rfl <| .s0 rfl rfl <| .s0 rfl rfl <| .s0 rfl rfl <| .s0 rfl rfl <| .s0 rfl rfl <| .sk rfl rfl rfl <| .yy (Zv (.t rfl) Ev.c) rfl <| .as rfl <| .z) fun a S => ?_
   (refine Yt ?_; intro w W; replace S := St.mk S W; clear W)
   refine Za (hK4 _ _ (Zg S (.t rfl) (sg S (.ac rfl <| .z) fun a w S => wp_ret (Zr (Zd (Zr (Zd (Zd (Zr (Zd (Zm S (results1 S results32 (Rv.tmp rfl)) ?_)))))))))))
   exact ⟨rfl, S.wd.below⟩
 | true =>
 have rw_c2 : C.covers ⟨x.dot.node, x.dot.life, x.dot.count⟩ = true := rw_c
 rcases k with _ | k
 · have hnb : ¬ (C.covers x.dot = false ∨ backE (l.take 0).getLast? x = true) := by simp [rw_c, backE]
   refine sg S (.lt (by omega) rfl rfl <| .z) fun a w S => wp_seq_k fun _ hK2 => Zg S (.t rfl) (wp_skip (Za (hK2 _ _ (wp_seq_k fun _ hK2 => wp_block (wp_seq_k fun _ hK3 => wp_region_lit (run S (.mv rfl <| .yy (Ym (j := 0) underlying31 sizeOf100 (.t rfl) (.t rfl) (fun _ => by omega)) rfl <| .yy (Zp ⟨isAgg100, sizeOf100⟩ (.t rfl) (vs := [_, _, _, _, _, _]) rfl (fun _ => hc)) rfl <| .z) fun a w S => Zj (Zn S zeroValue100 (cs := _) rfl rfl fun g2 a w S => run S (.as rfl <| .z) fun a w S => Zj (Zq S sizeOf100 (.t rfl) (.t rfl) (k := 0) rfl rfl rfl (by simp [Value.oneCell']) fun a w S => Zb (Za (hK3 _ _ (wp_seq_k fun _ hK3 => wp_block (wp_seq_k fun _ hK4 => wp_region_lit (run S (.fa underlying100 sizeOf9 0 rfl rfl rfl <| .ld gt9 0 rfl rfl rfl <| .xx (Zf call82 (.cons (.t rfl) .nil) (fun hp w W => c82 _ _)) rfl <| .z) fun a w S => ?_)))))))))))))
   rw [rw_n] at S
   refine run S (.nt rfl <| .as rfl <| .z) fun a w S => Zb (Za (hK4 _ _ (Ze S (.t rfl) (wp_seq_k fun _ hK4 => wp_region_lit (run S (.fa underlying100 sizeOf3 4 rfl rfl rfl <| .ld gt3 0 rfl rfl rfl <| .xx (Zf call83 (.cons (.t rfl) (.cons Ev.c .nil)) (fun hp w W => c83 _ _ _)) rfl <| .z) fun a w S => ?_)))))
   rw [rw_q] at S
   refine run S (.nt rfl <| .as rfl <| .z) fun a w S => Zb (Za (hK4 _ _ (Ze S (.t rfl) (wp_seq_k fun _ hK4 => wp_region_lit (run S (.fa underlying100 sizeOf75 5 rfl rfl rfl <| .ld gt75 0 rfl rfl rfl <| .xx (Zf call84 (.cons (.t rfl) .nil) (fun hp w W => c84 _ _)) rfl <| .z) fun a w S => ?_)))))
   rw [rw_p] at S
   refine run S (.nt rfl <| .as rfl <| .z) fun a w S => Zb (Za (hK4 _ _ (Ze S (.t rfl) (wp_seq_k fun _ hK4 => Yc S (by kernel_rfl) (by kernel_rfl) fun a S => qrun S (.fa underlying37 sizeOf35 1 rfl rfl rfl <| .la gt35 1 rfl rfl rfl <| .fa underlying100 sizeOf74 1 rfl rfl rfl <| .la gt74 0 rfl rfl rfl <| .xx (Zf call77 (.cons (.t rfl) (.cons (.t rfl) .nil)) (fun hp w W => c77 _ _ _ _ _ _ _ (by exact .old W (by assumption)))) rfl <| .z) fun a S => ?_))))
   rw [rw_cov] at S
   rw [rw_c] at S
   refine qrun S (.nt rfl <| .mv rfl <| .gy rfl rfl (Zi (.t rfl)) <| .gy rfl rfl (Yq (by omega) (Yn (.t rfl) Ev.c)) <| .gy rfl rfl (Zi (.t rfl)) <| .sk rfl rfl rfl <| .sk rfl rfl rfl <| .sk rfl rfl rfl <| .sk rfl rfl rfl <| .sk rfl rfl rfl <| .sk rfl rfl rfl <| .sk rfl rfl rfl <| .sk rfl rfl rfl <| .sk rfl rfl rfl <| .gy rfl rfl (Zu (.t rfl) Ev.c) <| .yy (Zu (.t rfl) (.t rfl)) rfl <| .as rfl <| .z) fun a S => ?_
   (refine Yt ?_; intro w W; replace S := St.mk S W; clear W)
   refine Za (hK4 _ _ (Ze S (.t rfl) (wp_skip (Zk (Za (hK3 _ _ (sg S (.fa underlying37 sizeOf31 0 rfl rfl rfl <| .ld gt31 1 rfl rfl rfl <| .mv rfl <| .yy (Va underlying31 sizeOf100 (.t rfl) (.t rfl) (fun _ => by first | omega | (simp; done) | (simp; omega))) rfl <| .ln underlying31 rfl <| .mc rfl <| .z) fun a w S => wp_block ?_)))))))
   refine Xb S [6, 65] (X := Nat) (fun j => [(65, true, .int .i64 (j : Int))]) (fun _ => [.blk g2 (.cells (Ent.enc x).toArray 100), .blk g1 (.cells #[.slice (some ⟨g, o, none⟩) l.length cap, v2, v3] 37)])
     (fun j => j ≤ 0 ∧ x.dot ∉ (l.take j).map (·.dot)) (fun j => 0 - j) 0 ⟨Nat.zero_le _, by simp⟩ ?_
   clear S
   intro j a w ⟨hj, hdup⟩ S
   by_cases hjk : j < 0
   · obtain ⟨g3, o3, y, e3, hy, hdy, hcy⟩ := Yg hA (show j < l.length by omega)
     cases e3
     by_cases he : y.dot = x.dot
     · have hin : x.dot ∈ (l.take (0)).map (·.dot) := he ▸ dup_at hjk hy
       rw [if_neg hnb, if_pos hin] at he0
       rw [bad (by rw [he0]; decide), he0]
       have rw_e := decide_eq_true (Wn.1 he)
       refine sg S (.lt (by omega) rfl rfl <| .z) fun a w S => wp_seq_k fun _ hK3 => Zg S (.t rfl) (wp_skip (Za (hK3 _ _ (wp_seq_k fun _ hK3 => wp_block (wp_seq_k fun _ hK4 => wp_region_lit (run S (.ix underlying31 sizeOf100 (by omega) rfl rfl <| .yy (Zp ⟨isAgg100, sizeOf100⟩ (.t rfl) (vs := [_, _, _, _, _, _]) rfl (fun _ => hcy)) rfl <| .z) fun a w S => Zj (Zn S zeroValue100 (cs := _) rfl rfl fun g3 a w S => Zj (Zq S sizeOf100 (.t rfl) (.t rfl) (k := 0) rfl rfl rfl (by simp [Value.oneCell']) fun a w S => Zb (Za (hK4 _ _ (wp_seq_k fun _ hK4 => wp_region_lit (run S (.fa underlying100 sizeOf74 1 rfl rfl rfl <| .la gt74 0 rfl rfl rfl <| .fa underlying100 sizeOf74 1 rfl rfl rfl <| .la gt74 1 rfl rfl rfl <| .yy (Wa (.t rfl) (.t rfl) eq74) rfl <| .z) fun a w S => ?_))))))))))))
       rw [rw_e] at S
       refine Zb (Za (hK4 _ _ (Zg S (.t rfl) (sg S (.ac rfl <| .z) fun a w S => wp_ret (Zr (Zd (Zd (Zr (Zr (Zd (Zd (Zr (Zd (Zm S (results1 S results32 (Rv.tmp rfl)) ?_))))))))))))))
       exact ⟨rfl, S.wd.below⟩
     · have rw_e := decide_eq_false (fun h => he (Wn.2 h))
       refine sg S (.lt (by omega) rfl rfl <| .z) fun a w S => wp_seq_k fun _ hK3 => Zg S (.t rfl) (wp_skip (Za (hK3 _ _ (wp_seq_k fun _ hK3 => wp_block (wp_seq_k fun _ hK4 => wp_region_lit (run S (.ix underlying31 sizeOf100 (by omega) rfl rfl <| .yy (Zp ⟨isAgg100, sizeOf100⟩ (.t rfl) (vs := [_, _, _, _, _, _]) rfl (fun _ => hcy)) rfl <| .z) fun a w S => Zj (Zn S zeroValue100 (cs := _) rfl rfl fun g3 a w S => Zj (Zq S sizeOf100 (.t rfl) (.t rfl) (k := 0) rfl rfl rfl (by simp [Value.oneCell']) fun a w S => Zb (Za (hK4 _ _ (wp_seq_k fun _ hK4 => wp_region_lit (run S (.fa underlying100 sizeOf74 1 rfl rfl rfl <| .la gt74 0 rfl rfl rfl <| .fa underlying100 sizeOf74 1 rfl rfl rfl <| .la gt74 1 rfl rfl rfl <| .yy (Wa (.t rfl) (.t rfl) eq74) rfl <| .z) fun a w S => ?_))))))))))))
       rw [rw_e] at S
       refine Zb (Za (hK4 _ _ (Ze S (.t rfl) (wp_skip (Zk (Za (hK3 _ _ (wp_region_lit (run S (.ad (by unfold I64; omega) rfl <| .mv rfl <| .z) fun a w S => Zb (Za ?_))))))))))
       exact ⟨j + 1, ⟨by omega, dup_step hy hdup he⟩, by omega, S.pk⟩
   · obtain rfl : j = 0 := by omega
     rw [if_neg hnb, if_neg hdup] at he0
     rw [if_pos he0] at hst
     refine sg S (.ge (by omega) rfl rfl <| .z) fun a w S => wp_seq_k fun _ hK3 => Ze S (.t rfl) (wp_exit (Zh (Zh (Ya (Zk (Za (hK2 _ _ (wp_region_lit (run S (.ad (by unfold I64; omega) rfl <| .mv rfl <| .z) fun a w S => Zb (Za ?_))))))))))
     exact ⟨0 + 1, ⟨by omega, hst.symm⟩, by omega, S.pk⟩
 obtain ⟨g4, o4, p, e4, hp, hdp, hcp⟩ := Yg hA (show k < l.length by omega)
 cases e4
 rw [take_last hp] at he0
 by_cases hlt2 : ltE p x
 · have hnb : ¬ (C.covers x.dot = false ∨ backE (some p) x = true) := by simp [rw_c, backE, hlt2]
   have rw_l : decide (ltE p x) = true := decide_eq_true hlt2
   refine sg S (.lt (by omega) rfl rfl <| .z) fun a w S => wp_seq_k fun _ hK2 => Zg S (.t rfl) (wp_skip (Za (hK2 _ _ (wp_seq_k fun _ hK2 => wp_block (wp_seq_k fun _ hK3 => wp_region_lit (run S (.mv rfl <| .ix underlying31 sizeOf100 (by omega) rfl rfl <| .yy (Zp ⟨isAgg100, sizeOf100⟩ (.t rfl) (vs := [_, _, _, _, _, _]) rfl (fun _ => hc)) rfl <| .z) fun a w S => Zj (Zn S zeroValue100 (cs := _) rfl rfl fun g2 a w S => run S (.as rfl <| .z) fun a w S => Zj (Zq S sizeOf100 (.t rfl) (.t rfl) (k := 0) rfl rfl rfl (by simp [Value.oneCell']) fun a w S => Zb (Za (hK3 _ _ (wp_seq_k fun _ hK3 => wp_block (wp_seq_k fun _ hK4 => wp_region_lit (run S (.fa underlying100 sizeOf9 0 rfl rfl rfl <| .ld gt9 0 rfl rfl rfl <| .xx (Zf call82 (.cons (.t rfl) .nil) (fun hp w W => c82 _ _)) rfl <| .z) fun a w S => ?_)))))))))))))
   rw [rw_n] at S
   refine run S (.nt rfl <| .as rfl <| .z) fun a w S => Zb (Za (hK4 _ _ (Ze S (.t rfl) (wp_seq_k fun _ hK4 => wp_region_lit (run S (.fa underlying100 sizeOf3 4 rfl rfl rfl <| .ld gt3 0 rfl rfl rfl <| .xx (Zf call83 (.cons (.t rfl) (.cons Ev.c .nil)) (fun hp w W => c83 _ _ _)) rfl <| .z) fun a w S => ?_)))))
   rw [rw_q] at S
   refine run S (.nt rfl <| .as rfl <| .z) fun a w S => Zb (Za (hK4 _ _ (Ze S (.t rfl) (wp_seq_k fun _ hK4 => wp_region_lit (run S (.fa underlying100 sizeOf75 5 rfl rfl rfl <| .ld gt75 0 rfl rfl rfl <| .xx (Zf call84 (.cons (.t rfl) .nil) (fun hp w W => c84 _ _)) rfl <| .z) fun a w S => ?_)))))
   rw [rw_p] at S
   refine run S (.nt rfl <| .as rfl <| .z) fun a w S => Zb (Za (hK4 _ _ (Ze S (.t rfl) (wp_seq_k fun _ hK4 => Yc S (by kernel_rfl) (by kernel_rfl) fun a S => qrun S (.fa underlying37 sizeOf35 1 rfl rfl rfl <| .la gt35 1 rfl rfl rfl <| .fa underlying100 sizeOf74 1 rfl rfl rfl <| .la gt74 0 rfl rfl rfl <| .xx (Zf call77 (.cons (.t rfl) (.cons (.t rfl) .nil)) (fun hp w W => c77 _ _ _ _ _ _ _ (by exact .old W (by assumption)))) rfl <| .z) fun a S => ?_))))
   rw [rw_cov] at S
   rw [rw_c] at S
   refine qrun S (.nt rfl <| .mv rfl <| .gy rfl rfl (Zi (.t rfl)) <| .gy rfl rfl (Yu (by omega) (Yn (.t rfl) Ev.c)) <| .gy rfl rfl (Zi (.t rfl)) <| .gy rfl rfl (Zz ⟨isAgg100, sizeOf100⟩ (.t rfl) (k := 0) rfl rfl) <| .gy rfl rfl (Zc (FieldT.mk underlying37 rfl sizeOf31 rfl) (.t rfl) (i' := 0) rfl) <| .gy rfl rfl (Zt ⟨isAgg31, sizeOf31⟩ (.t rfl) (k := 1) rfl rfl) <| .gy rfl rfl (Zi (.t rfl)) <| .gy rfl rfl (Xt (.t rfl) Ev.c (by omega)) <| .gy rfl rfl (Ym underlying31 sizeOf100 (.t rfl) (.t rfl) (fun _ => by omega)) <| .gy rfl rfl (Zp ⟨isAgg100, sizeOf100⟩ (.t rfl) (vs := [_, _, _, _, _, _]) rfl (fun _ => hcp)) <| .gx rfl rfl (Zf call85 (.cons (.t rfl) (.cons (.t rfl) .nil)) (fun hp w W => c85 _ _ _)) <| .z) fun a S => ?_
   rw [rw_l] at S
   refine qrun S (.gy rfl rfl (Xh (.t rfl)) <| .gy rfl rfl (Zv (.t rfl) (.t rfl)) <| .yy (Zu (.t rfl) (.t rfl)) rfl <| .as rfl <| .z) fun a S => ?_
   (refine Yt ?_; intro w W; replace S := St.mk S W; clear W)
   refine Za (hK4 _ _ (Ze S (.t rfl) (wp_skip (Zk (Za (hK3 _ _ (sg S (.fa underlying37 sizeOf31 0 rfl rfl rfl <| .ld gt31 1 rfl rfl rfl <| .mv rfl <| .yy (Va underlying31 sizeOf100 (.t rfl) (.t rfl) (fun _ => by first | omega | (simp; done) | (simp; omega))) rfl <| .ln underlying31 rfl <| .mc rfl <| .z) fun a w S => wp_block ?_)))))))
   refine Xb S [6, 65] (X := Nat) (fun j => [(65, true, .int .i64 (j : Int))]) (fun _ => [.blk g2 (.cells (Ent.enc x).toArray 100), .blk g1 (.cells #[.slice (some ⟨g, o, none⟩) l.length cap, v2, v3] 37)])
     (fun j => j ≤ (k + 1) ∧ x.dot ∉ (l.take j).map (·.dot)) (fun j => (k + 1) - j) 0 ⟨Nat.zero_le _, by simp⟩ ?_
   clear S
   intro j a w ⟨hj, hdup⟩ S
   by_cases hjk : j < (k + 1)
   · obtain ⟨g3, o3, y, e3, hy, hdy, hcy⟩ := Yg hA (show j < l.length by omega)
     cases e3
     by_cases he : y.dot = x.dot
     · have hin : x.dot ∈ (l.take ((k + 1))).map (·.dot) := he ▸ dup_at hjk hy
       rw [if_neg hnb, if_pos hin] at he0
       rw [bad (by rw [he0]; decide), he0]
       have rw_e := decide_eq_true (Wn.1 he)
       refine sg S (.lt (by omega) rfl rfl <| .z) fun a w S => wp_seq_k fun _ hK3 => Zg S (.t rfl) (wp_skip (Za (hK3 _ _ (wp_seq_k fun _ hK3 => wp_block (wp_seq_k fun _ hK4 => wp_region_lit (run S (.ix underlying31 sizeOf100 (by omega) rfl rfl <| .yy (Zp ⟨isAgg100, sizeOf100⟩ (.t rfl) (vs := [_, _, _, _, _, _]) rfl (fun _ => hcy)) rfl <| .z) fun a w S => Zj (Zn S zeroValue100 (cs := _) rfl rfl fun g3 a w S => Zj (Zq S sizeOf100 (.t rfl) (.t rfl) (k := 0) rfl rfl rfl (by simp [Value.oneCell']) fun a w S => Zb (Za (hK4 _ _ (wp_seq_k fun _ hK4 => wp_region_lit (run S (.fa underlying100 sizeOf74 1 rfl rfl rfl <| .la gt74 0 rfl rfl rfl <| .fa underlying100 sizeOf74 1 rfl rfl rfl <| .la gt74 1 rfl rfl rfl <| .yy (Wa (.t rfl) (.t rfl) eq74) rfl <| .z) fun a w S => ?_))))))))))))
       rw [rw_e] at S
       refine Zb (Za (hK4 _ _ (Zg S (.t rfl) (sg S (.ac rfl <| .z) fun a w S => wp_ret (Zr (Zd (Zd (Zr (Zr (Zd (Zd (Zr (Zd (Zm S (results1 S results32 (Rv.tmp rfl)) ?_))))))))))))))
       exact ⟨rfl, S.wd.below⟩
     · have rw_e := decide_eq_false (fun h => he (Wn.2 h))
       refine sg S (.lt (by omega) rfl rfl <| .z) fun a w S => wp_seq_k fun _ hK3 => Zg S (.t rfl) (wp_skip (Za (hK3 _ _ (wp_seq_k fun _ hK3 => wp_block (wp_seq_k fun _ hK4 => wp_region_lit (run S (.ix underlying31 sizeOf100 (by omega) rfl rfl <| .yy (Zp ⟨isAgg100, sizeOf100⟩ (.t rfl) (vs := [_, _, _, _, _, _]) rfl (fun _ => hcy)) rfl <| .z) fun a w S => Zj (Zn S zeroValue100 (cs := _) rfl rfl fun g3 a w S => Zj (Zq S sizeOf100 (.t rfl) (.t rfl) (k := 0) rfl rfl rfl (by simp [Value.oneCell']) fun a w S => Zb (Za (hK4 _ _ (wp_seq_k fun _ hK4 => wp_region_lit (run S (.fa underlying100 sizeOf74 1 rfl rfl rfl <| .la gt74 0 rfl rfl rfl <| .fa underlying100 sizeOf74 1 rfl rfl rfl <| .la gt74 1 rfl rfl rfl <| .yy (Wa (.t rfl) (.t rfl) eq74) rfl <| .z) fun a w S => ?_))))))))))))
       rw [rw_e] at S
       refine Zb (Za (hK4 _ _ (Ze S (.t rfl) (wp_skip (Zk (Za (hK3 _ _ (wp_region_lit (run S (.ad (by unfold I64; omega) rfl <| .mv rfl <| .z) fun a w S => Zb (Za ?_))))))))))
       exact ⟨j + 1, ⟨by omega, dup_step hy hdup he⟩, by omega, S.pk⟩
   · obtain rfl : j = (k + 1) := by omega
     rw [if_neg hnb, if_neg hdup] at he0
     rw [if_pos he0] at hst
     refine sg S (.ge (by omega) rfl rfl <| .z) fun a w S => wp_seq_k fun _ hK3 => Ze S (.t rfl) (wp_exit (Zh (Zh (Ya (Zk (Za (hK2 _ _ (wp_region_lit (run S (.ad (by unfold I64; omega) rfl <| .mv rfl <| .z) fun a w S => Zb (Za ?_))))))))))
     exact ⟨(k + 1) + 1, ⟨by omega, hst.symm⟩, by omega, S.pk⟩
 · rw [if_pos (.inr (by simp [backE, hlt2]))] at he0
   rw [bad (by rw [he0]; decide), he0]
   have rw_l : decide (ltE p x) = false := decide_eq_false hlt2
   refine sg S (.lt (by omega) rfl rfl <| .z) fun a w S => wp_seq_k fun _ hK2 => Zg S (.t rfl) (wp_skip (Za (hK2 _ _ (wp_seq_k fun _ hK2 => wp_block (wp_seq_k fun _ hK3 => wp_region_lit (run S (.mv rfl <| .ix underlying31 sizeOf100 (by omega) rfl rfl <| .yy (Zp ⟨isAgg100, sizeOf100⟩ (.t rfl) (vs := [_, _, _, _, _, _]) rfl (fun _ => hc)) rfl <| .z) fun a w S => Zj (Zn S zeroValue100 (cs := _) rfl rfl fun g2 a w S => run S (.as rfl <| .z) fun a w S => Zj (Zq S sizeOf100 (.t rfl) (.t rfl) (k := 0) rfl rfl rfl (by simp [Value.oneCell']) fun a w S => Zb (Za (hK3 _ _ (wp_seq_k fun _ hK3 => wp_block (wp_seq_k fun _ hK4 => wp_region_lit (run S (.fa underlying100 sizeOf9 0 rfl rfl rfl <| .ld gt9 0 rfl rfl rfl <| .xx (Zf call82 (.cons (.t rfl) .nil) (fun hp w W => c82 _ _)) rfl <| .z) fun a w S => ?_)))))))))))))
   rw [rw_n] at S
   refine run S (.nt rfl <| .as rfl <| .z) fun a w S => Zb (Za (hK4 _ _ (Ze S (.t rfl) (wp_seq_k fun _ hK4 => wp_region_lit (run S (.fa underlying100 sizeOf3 4 rfl rfl rfl <| .ld gt3 0 rfl rfl rfl <| .xx (Zf call83 (.cons (.t rfl) (.cons Ev.c .nil)) (fun hp w W => c83 _ _ _)) rfl <| .z) fun a w S => ?_)))))
   rw [rw_q] at S
   refine run S (.nt rfl <| .as rfl <| .z) fun a w S => Zb (Za (hK4 _ _ (Ze S (.t rfl) (wp_seq_k fun _ hK4 => wp_region_lit (run S (.fa underlying100 sizeOf75 5 rfl rfl rfl <| .ld gt75 0 rfl rfl rfl <| .xx (Zf call84 (.cons (.t rfl) .nil) (fun hp w W => c84 _ _)) rfl <| .z) fun a w S => ?_)))))
   rw [rw_p] at S
   refine run S (.nt rfl <| .as rfl <| .z) fun a w S => Zb (Za (hK4 _ _ (Ze S (.t rfl) (wp_seq_k fun _ hK4 => Yc S (by kernel_rfl) (by kernel_rfl) fun a S => qrun S (.fa underlying37 sizeOf35 1 rfl rfl rfl <| .la gt35 1 rfl rfl rfl <| .fa underlying100 sizeOf74 1 rfl rfl rfl <| .la gt74 0 rfl rfl rfl <| .xx (Zf call77 (.cons (.t rfl) (.cons (.t rfl) .nil)) (fun hp w W => c77 _ _ _ _ _ _ _ (by exact .old W (by assumption)))) rfl <| .z) fun a S => ?_))))
   rw [rw_cov] at S
   rw [rw_c] at S
   refine qrun S (.nt rfl <| .mv rfl <| .gy rfl rfl (Zi (.t rfl)) <| .gy rfl rfl (Yu (by omega) (Yn (.t rfl) Ev.c)) <| .gy rfl rfl (Zi (.t rfl)) <| .gy rfl rfl (Zz ⟨isAgg100, sizeOf100⟩ (.t rfl) (k := 0) rfl rfl) <| .gy rfl rfl (Zc (FieldT.mk underlying37 rfl sizeOf31 rfl) (.t rfl) (i' := 0) rfl) <| .gy rfl rfl (Zt ⟨isAgg31, sizeOf31⟩ (.t rfl) (k := 1) rfl rfl) <| .gy rfl rfl (Zi (.t rfl)) <| .gy rfl rfl (Xt (.t rfl) Ev.c (by omega)) <| .gy rfl rfl (Ym underlying31 sizeOf100 (.t rfl) (.t rfl) (fun _ => by omega)) <| .gy rfl rfl (Zp ⟨isAgg100, sizeOf100⟩ (.t rfl) (vs := [_, _, _, _, _, _]) rfl (fun _ => hcp)) <| .gx rfl rfl (Zf call85 (.cons (.t rfl) (.cons (.t rfl) .nil)) (fun hp w W => c85 _ _ _)) <| .z) fun a S => ?_
   rw [rw_l] at S
   refine qrun S (.gy rfl rfl (Xh (.t rfl)) <| .gy rfl rfl (Zv (.t rfl) (.t rfl)) <| .yy (Zu (.t rfl) (.t rfl)) rfl <| .as rfl <| .z) fun a S => ?_
   (refine Yt ?_; intro w W; replace S := St.mk S W; clear W)
   refine Za (hK4 _ _ (Zg S (.t rfl) (sg S (.ac rfl <| .z) fun a w S => wp_ret (Zr (Zd (Zr (Zd (Zd (Zr (Zd (Zm S (results1 S results32 (Rv.tmp rfl)) ?_)))))))))))
   exact ⟨rfl, S.wd.below⟩
end Go.Proofs.YtakpdbmdfnialaaGreat
namespace Go.Proofs.YtakpdbmdfnialaaGreat
open Go.Fw Go.Proofs Go.RowKit Go.Proofs.Tryz
theorem c183 (w0 w : World) (L : List Chunk) (A1 A2 : Option Addr) (c1 c2 : Nat) (m d : List Dot) (W : Wd w0 (rowOf 30 3 Dot.enc A1 c1 m :: rowOf 74 3 Dot.enc A2 c2 d :: L) w) (hn : m.length + d.length ≤ 4000000) (hi : ∀ x ∈ m, mayD x = true) (hi' : ∀ x ∈ d, mayD x = true) :
   RetsO Tryz.prog 183 #[.slice A1 m.length c1, .slice A2 d.length c2] w0 w fun v L' => ∃ A1' c1' A2' c2', v = .agg #[.slice A1' (settledL (d.length + 1) m d).marks.length c1', .slice A2' (settledL (d.length + 1) m d).cloud.length c2'] ∧
     L' = rowOf 30 3 Dot.enc A1' c1' (settledL (d.length + 1) m d).marks :: rowOf 74 3 Dot.enc A2' c2' (settledL (d.length + 1) m d).cloud :: L := by
 refine enterW2 W func183 rfl ntmps183 rfl fun a S => ?_
 clear W
 refine wp_seq_k fun _ hK1 => wp_region_lit (Zj (Zn S zeroValue35 (cs := _) rfl rfl fun g1 a w S => Zb (Za (hK1 _ _ (wp_seq_k fun _ hK1 => sg S (.ac rfl <| .z) fun a w S => wp_block ?_)))))
 refine Xk S.back2 (X := Bool × Option Addr × Nat × List Dot × Option Addr × Nat × List Dot)
   (fun q => [(5, true, .bool q.1), (0, true, .slice q.2.1 q.2.2.2.1.length q.2.2.1), (1, true, .slice q.2.2.2.2.1 q.2.2.2.2.2.2.length q.2.2.2.2.2.1)])
   (fun q _ => rowOf 30 3 Dot.enc q.2.1 q.2.2.1 q.2.2.2.1 :: rowOf 74 3 Dot.enc q.2.2.2.2.1 q.2.2.2.2.2.1 q.2.2.2.2.2.2 :: .blk g1 (.cells #[.slice none 0 0, .slice none 0 0] 35) :: L)
   (fun q => (∀ x ∈ q.2.2.2.1, mayD x = true) ∧ (∀ x ∈ q.2.2.2.2.2.2, mayD x = true) ∧ q.2.2.2.1.length + q.2.2.2.2.2.2.length ≤ 4000000 ∧ (q.1 = true → ∃ f, q.2.2.2.2.2.2.length < f ∧ settledL f q.2.2.2.1 q.2.2.2.2.2.2 = settledL (d.length + 1) m d) ∧ (q.1 = false → ⟨q.2.2.2.1, q.2.2.2.2.2.2⟩ = settledL (d.length + 1) m d))
   (fun q => if q.1 then q.2.2.2.2.2.2.length + 1 else 0) (true, A1, c1, m, A2, c2, d) ⟨hi, hi', hn, fun _ => ⟨_, Nat.lt_succ_self _, rfl⟩, fun h => by cases h⟩ ?_
 clear S
 intro ⟨again, B, cB, ms, D, cD, ds⟩ a w ⟨hms, hds, hln, hag, hno⟩ S
 dsimp only at hms hds hln hag hno S
 cases again
 · have hno := hno rfl
   refine wp_seq_k fun _ hK2 => sg S (.mv rfl <| .z) fun a w S => Ze S (.t rfl) (wp_exit (Zh (Zh (Ya (Za (hK1 _ _ (wp_seq_k fun _ hK1 => wp_region_lit (run S (.mv rfl <| .mv rfl <| .yy (Xd (ps := [(0, Go.Operand.tmp 43), (1, Go.Operand.tmp 44)]) (us := [_, _]) bld35 (.cons (.t rfl) (.cons (.t rfl) .nil)) rfl) rfl <| .z) fun a w S => Zj (Zq S sizeOf35 (.t rfl) (.t rfl) (k := 2) rfl rfl rfl (by simp [Value.oneCell']) fun a w S => Zb (Za (hK1 _ _ (wp_ret (Zm S (results1 S results183 (Rv.cell (k := 2) ⟨isAgg35, sizeOf35⟩ rfl rfl rfl)) ?_)))))))))))))
   rw [← hno]
   exact ⟨_, _, rfl, S.wd.sub (by repeat (first | exact List.Sublist.refl _ | exact List.nil_sublist _ | refine .cons_cons _ ?_ | refine .cons _ ?_)), B, cB, D, cD, rfl, rfl⟩
 · obtain ⟨f, hf, hset⟩ := hag rfl
   clear hno hag
   refine wp_seq_k fun _ hK2 => sg S (.mv rfl <| .z) fun a w S => Zg S (.t rfl) (wp_skip (Za (hK2 _ _ (wp_block (sg S (.ac rfl <| .z) fun a w S => sg S (.ac rfl <| .z) fun a w S => wp_seq_k fun _ hK2 => sg S (.mv rfl <| .ln underlying33 rfl <| .mc rfl <| .z) fun a w S => wp_block ?_)))))
   refine Xk (S.nil_ 74 3 Dot.enc none).swap (X := Nat × Bool × Option Addr × Nat × List Dot × Option Addr × Nat × List Dot)
     (fun q => [(13, true, .int .i64 (q.1 : Int)), (5, true, .bool q.2.1), (0, true, .slice q.2.2.1 q.2.2.2.2.1.length q.2.2.2.1), (6, true, .slice q.2.2.2.2.2.1 q.2.2.2.2.2.2.2.length q.2.2.2.2.2.2.1)])
     (fun q _ => rowOf 30 3 Dot.enc q.2.2.1 q.2.2.2.1 q.2.2.2.2.1 :: rowOf 74 3 Dot.enc q.2.2.2.2.2.1 q.2.2.2.2.2.2.1 q.2.2.2.2.2.2.2 :: rowOf 74 3 Dot.enc D cD ds :: .blk g1 (.cells #[.slice none 0 0, .slice none 0 0] 35) :: L)
     (fun q => q.1 ≤ ds.length ∧ (∀ x ∈ q.2.2.2.2.1, mayD x = true) ∧ q.2.2.2.2.1.length + q.2.2.2.2.2.2.2.length + (ds.length - q.1) ≤ 4000000 ∧ settleIn (ds.drop q.1) q.2.2.2.2.1 q.2.2.2.2.2.2.2 q.2.1 = settleIn ds ms [] false)
     (fun q => ds.length - q.1) (0, false, B, cB, ms, none, 0, []) ⟨Nat.zero_le _, hms, by dsimp only [List.length_nil]; omega, rfl⟩ ?_
   clear S
   intro ⟨k, ag, B', cB', ms', E, cE, ls⟩ a w ⟨hk, hms', hln', hno⟩ S
   dsimp only at hk hms' hln' hno S
   by_cases hlt : k < ds.length
   · obtain ⟨g, y, rfl, hmm, hd⟩ := own_at (k := 2) S.wd rfl hlt
     have hmay := hds y (List.mem_of_getElem? hmm)
     have hmk := Wf (x := y.node) (y := y.life) hms'
     rw [hd, settleIn] at hno
     refine sg S (.lt (by omega) rfl rfl <| .z) fun a w S => wp_seq_k fun _ hK3 => Zg S (.t rfl) (wp_skip (Za (hK3 _ _ (wp_seq_k fun _ hK3 => wp_block (wp_seq_k fun _ hK4 => wp_region_lit (run S (.ix underlying33 sizeOf74 (by omega) rfl rfl <| .yy (Wu ⟨isAgg74, sizeOf74⟩ (.t rfl) (k := 2) rfl hmm (fun _ => rfl)) rfl <| .z) fun a w S => Zj (Zn S zeroValue74 (cs := _) rfl rfl fun g2 a w S => Zj (Zq S sizeOf74 (.t rfl) (.t rfl) (k := 0) rfl rfl rfl (by simp [Value.oneCell']) fun a w S => Zb (Za (hK4 _ _ (sg S (.mv rfl <| .fa underlying74 sizeOf3 0 rfl rfl rfl <| .ld gt3 0 rfl rfl rfl <| .fa underlying74 sizeOf3 1 rfl rfl rfl <| .ld gt3 0 rfl rfl rfl <| .xx (Zf call143 (.cons (.t rfl) (.cons (.t rfl) (.cons (.t rfl) .nil))) (fun hp w W => c143 _ _ _ _ _ (by exact Sl.of_own W (k := 1) rfl (fun _ => rfl)))) rfl <| .as rfl <| .z) fun a w S => wp_block (sg S (.fa underlying74 sizeOf3 2 rfl rfl rfl <| .ld gt3 0 rfl rfl rfl <| .mv rfl <| .yy (Xg (.t rfl) (.t rfl)) rfl <| .as rfl <| .z) fun a w S => ?_))))))))))))
     refine Xz S (.t rfl) (fun h1 => ?_) (fun h1 => ?_)
     refine wp_skip (Zk (Zk (Za (hK3 _ _ (wp_region_lit (run S (.ad (by unfold I64; omega) rfl <| .mv rfl <| .z) fun a w S => Zb (Za ?_)))))))
     rotate_left
     refine sg S (.fa underlying74 sizeOf3 2 rfl rfl rfl <| .ld gt3 0 rfl rfl rfl <| .mv rfl <| .ad (by unfold I64; omega) rfl <| .yy (Ye (.t rfl) (.t rfl)) rfl <| .as rfl <| .z) fun a w S => ?_
     refine Xz S (.t rfl) (fun h2 => ?_) (fun h2 => ?_)
     refine wp_seq_k fun _ hK4 => wp_region_lit (run S (.mv rfl <| .la gt74 0 rfl rfl rfl <| .z) fun a w S => ?_)
     (refine Zj (Yb S call181 (.cons (.t rfl) (.cons (.t rfl) .nil)) (c181 _ _ _ _ _ _ (by exact Sl.of_own S.wd (k := 1) rfl (fun _ => rfl)) (by omega)) rfl ?_); clear S a w; rintro _ _ ⟨A3, c3, rfl, rfl⟩ a w S)
     refine run S (.as rfl <| .z) fun a w S => Zb (Za (hK4 _ _ (wp_region_lit (run S (.ac rfl <| .z) fun a w S => Zb (Zk (Zk (Za (hK3 _ _ (wp_region_lit (run S (.ad (by unfold I64; omega) rfl <| .mv rfl <| .z) fun a w S => Zb (Za ?_)))))))))))
     rotate_left
     refine wp_region_lit (run S (.mv rfl <| .la gt74 0 rfl rfl rfl <| .z) fun a w S => Zj (Yf S underlying33 inf74 rfl rfl rfl (.t rfl) rfl rfl rfl fun g3 a w S => Zj (Yw S underlying33 inf74 rfl (k := 3) (j := 0) rfl (.t rfl) (.t rfl) rfl rfl rfl rfl (by first | omega | (simp only [List.length_append, List.length_cons, List.length_nil]; omega)) rfl rfl rfl fun A3 cap1 a w S => run S (.as rfl <| .z) fun a w S => Zb (Zk (Zk (Za (hK3 _ _ (wp_region_lit (run S (.ad (by unfold I64; omega) rfl <| .mv rfl <| .z) fun a w S => Zb (Za ?_))))))))))
     rotate_left
     · rw [if_pos h1] at hno
       exact ⟨(k + 1, ag, B', cB', ms', E, cE, ls), ⟨by dsimp only; omega, hms', by dsimp only; omega, hno⟩, by dsimp only; omega, S.wk⟩
     · rw [if_neg h1, if_pos h2] at hno
       have hsl := setL_len y ms' false
       simp only [Bool.false_eq_true, if_false] at hsl
       exact ⟨(k + 1, true, A3, c3, setL y false ms', E, cE, ls), ⟨by dsimp only; omega, setL_may hmay hms', by dsimp only; omega, hno⟩, by dsimp only; omega, S.wk⟩
     · rw [if_neg h1, if_neg h2] at hno
       exact ⟨(k + 1, ag, B', cB', ms', A3, cap1, ls ++ [y]), ⟨by dsimp only; omega, hms', by simp; omega, hno⟩, by dsimp only; omega, S.wk⟩
   · refine sg S (.ge (by omega) rfl rfl <| .z) fun a w S => wp_seq_k fun _ hK3 => Ze S (.t rfl) (wp_exit (Zh (Zh (Ya (Za (hK2 _ _ (wp_region_lit (run S (.mv rfl <| .as rfl <| .z) fun a w S => Zb (Zk (Za ?_))))))))))
     have hend : k = ds.length := by omega
     subst hend
     rw [List.drop_length, settleIn] at hno
     have hl3 := Vb ds ms [] false
     have hv := Vc (b := false) hds hms (l := []) (by simp)
     rw [← hno] at hl3 hv
     simp only [List.length_nil] at hl3
     obtain ⟨f, rfl⟩ : ∃ f', f = f' + 1 := ⟨f - 1, by omega⟩
     rw [settledL, ← hno] at hset
     refine ⟨(ag, B', cB', ms', E, cE, ls), ⟨hv.1, hv.2, by dsimp only; omega, fun h => ?_, fun h => ?_⟩, ?_, S.wk⟩
     · dsimp only at h
       subst h
       exact ⟨f, by have := hl3.2.1 trivial rfl; dsimp only; omega, hset⟩
     · dsimp only at h
       subst h
       exact hset
     · dsimp only
       cases ag
       · simp
       · have := hl3.2.1 trivial rfl
         simp; omega
theorem c145 (w0 : World) (v1 v2 : Value) (l d : List Dot) (h : Sl Dot.enc 3 w0 w0.heap.size v1 l) (h' : Sl Dot.enc 3 w0 w0.heap.size v2 d) (hn : l.length ≤ 1900000) (hn' : d.length ≤ 1900000) :
   Rets Tryz.prog 145 #[v1, v2] w0 fun v L => ∃ A1 c1 A2 c2, v = .tuple #[.agg #[.slice A1 (normalL l d).1.marks.length c1, .slice A2 (normalL l d).1.cloud.length c2], .int .i64 (normalL l d).2] ∧
     L = [rowOf 30 3 Dot.enc A1 c1 (normalL l d).1.marks, rowOf 74 3 Dot.enc A2 c2 (normalL l d).1.cloud] := by
 obtain ⟨A, cap, rfl, hl, hcap, hA⟩ := h
 obtain ⟨A', cap', rfl, hl', hcap', hA'⟩ := h'
 unfold Go.Fw.Rets
 refine enter2 func145 rfl ntmps145 rfl fun a S => wp_seq_k fun _ hK1 => wp_region_lit (Zj (Zn S zeroValue35 (cs := _) rfl rfl fun g1 a w S => run S (.ac rfl <| .z) fun a w S => Zb (Za (hK1 _ _ (wp_seq_k fun _ hK1 => sg S (.mv rfl <| .ln underlying32 rfl <| .mc rfl <| .z) fun a w S => wp_block ?_)))))
 refine Xk S (X := Nat) (fun k => [(19, true, .int .i64 (k : Int))]) (fun _ L => L) (fun k => k ≤ l.length ∧ ∀ x ∈ l.take k, mayD x = true) (fun k => l.length - k) 0 ⟨Nat.zero_le _, by simp⟩ ?_
 clear S
 intro k a w ⟨hk, hno⟩ S
 by_cases hlt : k < l.length
 · obtain ⟨g, o, m, rfl, hmm, hd, hc⟩ := Yg hA hlt
   clear hA
   refine sg S (.lt (by omega) rfl rfl <| .z) fun a w S => wp_seq_k fun _ hK2 => Zg S (.t rfl) (wp_skip (Za (hK2 _ _ (wp_seq_k fun _ hK2 => wp_block (wp_seq_k fun _ hK3 => wp_region_lit (run S (.ix underlying32 sizeOf30 (by omega) rfl rfl <| .yy (Zp ⟨isAgg30, sizeOf30⟩ (.t rfl) (vs := [_, _, _]) rfl (fun _ => hc)) rfl <| .z) fun a w S => Zj (Zn S zeroValue30 (cs := _) rfl rfl fun g2 a w S => Zj (Zq S sizeOf30 (.t rfl) (.t rfl) (k := 0) rfl rfl rfl (by simp [Value.oneCell']) fun a w S => Zb (Za (hK3 _ _ (sg S (.la gt30 0 rfl rfl rfl <| .xx (Zf call146 (.cons (.t rfl) .nil) (fun hp w W => c146 _ _ _ _)) rfl <| .nt rfl <| .z) fun a w S => ?_)))))))))))
   refine Xi S (.t rfl) (fun h1 => ?_) (fun h1 => ?_)
   refine wp_seq_k fun _ hK3 => wp_region_lit (run S (.yy (Xd (ps := []) (us := [_, _]) bld35 .nil rfl) rfl <| .z) fun a w S => Zj (Zq S sizeOf35 (.t rfl) (.t rfl) (k := 1) rfl rfl rfl (by simp [Value.oneCell']) fun a w S => run S (.ac rfl <| .z) fun a w S => Zb (Za (hK3 _ _ (wp_ret (Zr (Zd (Zd (Zr (Zd (Zm S (results2 S results145 (Rv.cell (k := 1) ⟨isAgg35, sizeOf35⟩ rfl rfl rfl) (Rv.tmp rfl)) ?_)))))))))))
   rotate_left
   refine wp_skip (Zk (Za (hK2 _ _ (wp_region_lit (run S (.ad (by unfold I64; omega) rfl <| .mv rfl <| .z) fun a w S => Zb (Za ?_))))))
   rotate_left
   · rw [normalL_bad1 hmm (by simpa using h1)]
     exact ⟨_, _, rfl, ((S.nil_ 74 3 Dot.enc none).nil_ 30 3 Dot.enc none).wd.sub (by repeat (first | exact List.Sublist.refl _ | exact List.nil_sublist _ | refine .cons_cons _ ?_ | refine .cons _ ?_)), none, 0, none, 0, rfl, rfl⟩
   · exact ⟨k + 1, ⟨by omega, all_step hmm hno (by simpa using h1)⟩, by omega, S.wk⟩
 · have hend : k = l.length := by omega
   subst hend
   rw [List.take_length] at hno
   have hml := hno
   clear hno
   refine sg S (.ge (by omega) rfl rfl <| .z) fun a w S => wp_seq_k fun _ hK2 => Ze S (.t rfl) (wp_exit (Zh (Zh (Ya (Za (hK1 _ _ (wp_seq_k fun _ hK1 => sg S (.mv rfl <| .ln underlying33 rfl <| .mc rfl <| .z) fun a w S => wp_block ?_)))))))
   refine Xk S (X := Nat) (fun k => [(30, true, .int .i64 (k : Int))]) (fun _ L => L) (fun k => k ≤ d.length ∧ ∀ x ∈ d.take k, mayD x = true) (fun k => d.length - k) 0 ⟨Nat.zero_le _, by simp⟩ ?_
   clear S
   intro k a w ⟨hk, hno⟩ S
   by_cases hlt : k < d.length
   · obtain ⟨g, o, m, rfl, hmm, hd, hc⟩ := Yg hA' hlt
     clear hA'
     refine sg S (.lt (by omega) rfl rfl <| .z) fun a w S => wp_seq_k fun _ hK3 => Zg S (.t rfl) (wp_skip (Za (hK3 _ _ (wp_seq_k fun _ hK3 => wp_block (wp_seq_k fun _ hK4 => wp_region_lit (run S (.ix underlying33 sizeOf74 (by omega) rfl rfl <| .yy (Zp ⟨isAgg74, sizeOf74⟩ (.t rfl) (vs := [_, _, _]) rfl (fun _ => hc)) rfl <| .z) fun a w S => Zj (Zn S zeroValue74 (cs := _) rfl rfl fun g2 a w S => Zj (Zq S sizeOf74 (.t rfl) (.t rfl) (k := 0) rfl rfl rfl (by simp [Value.oneCell']) fun a w S => Zb (Za (hK4 _ _ (sg S (.la gt74 0 rfl rfl rfl <| .xx (Zf call147 (.cons (.t rfl) .nil) (fun hp w W => c147 _ _ _ _)) rfl <| .nt rfl <| .z) fun a w S => ?_)))))))))))
     refine Xi S (.t rfl) (fun h1 => ?_) (fun h1 => ?_)
     refine wp_seq_k fun _ hK4 => wp_region_lit (run S (.yy (Xd (ps := []) (us := [_, _]) bld35 .nil rfl) rfl <| .z) fun a w S => Zj (Zq S sizeOf35 (.t rfl) (.t rfl) (k := 1) rfl rfl rfl (by simp [Value.oneCell']) fun a w S => run S (.ac rfl <| .z) fun a w S => Zb (Za (hK4 _ _ (wp_ret (Zr (Zd (Zd (Zr (Zd (Zm S (results2 S results145 (Rv.cell (k := 1) ⟨isAgg35, sizeOf35⟩ rfl rfl rfl) (Rv.tmp rfl)) ?_)))))))))))
     rotate_left
     refine wp_skip (Zk (Za (hK3 _ _ (wp_region_lit (run S (.ad (by unfold I64; omega) rfl <| .mv rfl <| .z) fun a w S => Zb (Za ?_))))))
     rotate_left
     · rw [normalL_bad2 hmm (by simpa using h1)]
       exact ⟨_, _, rfl, ((S.nil_ 74 3 Dot.enc none).nil_ 30 3 Dot.enc none).wd.sub (by repeat (first | exact List.Sublist.refl _ | exact List.nil_sublist _ | refine .cons_cons _ ?_ | refine .cons _ ?_)), none, 0, none, 0, rfl, rfl⟩
     · exact ⟨k + 1, ⟨by omega, all_step hmm hno (by simpa using h1)⟩, by omega, S.wk⟩
   · have hend : k = d.length := by omega
     subst hend
     rw [List.take_length] at hno
     have hmd := hno
     clear hno
     refine sg S (.ge (by omega) rfl rfl <| .z) fun a w S => wp_seq_k fun _ hK3 => Ze S (.t rfl) (wp_exit (Zh (Zh (Ya (Za (hK1 _ _ (sg S (.ac rfl <| .z) fun a w S => wp_seq_k fun _ hK1 => sg S (.mv rfl <| .ln underlying32 rfl <| .mc rfl <| .z) fun a w S => wp_block ?_)))))))
     refine Xk (S.nil_ 30 3 Dot.enc none) (X := Nat × Option Addr × Nat) (fun q => [(41, true, .int .i64 (q.1 : Int)), (10, true, .slice q.2.1 (setF (l.take q.1)).length q.2.2)])
       (fun q _ => rowOf 30 3 Dot.enc q.2.1 q.2.2 (setF (l.take q.1)) :: [.blk g1 (.cells #[.slice none 0 0, .slice none 0 0] 35)]) (fun q => q.1 ≤ l.length) (fun q => l.length - q.1) (0, none, 0) (Nat.zero_le _) ?_
     clear S
     intro ⟨k, B1, cB1⟩ a w hk S
     dsimp only at hk S
     have hfl := setF_len (l.take k)
     rw [List.length_take] at hfl
     by_cases hlt : k < l.length
     · obtain ⟨g, o, m, rfl, hmm, hd, hc⟩ := Yg hA hlt
       clear hA
       refine sg S (.lt (by omega) rfl rfl <| .z) fun a w S => wp_seq_k fun _ hK4 => Zg S (.t rfl) (wp_skip (Za (hK4 _ _ (wp_seq_k fun _ hK4 => wp_block (wp_seq_k fun _ hK5 => wp_region_lit (run S (.ix underlying32 sizeOf30 (by omega) rfl rfl <| .yy (Zp ⟨isAgg30, sizeOf30⟩ (.t rfl) (vs := [_, _, _]) rfl (fun _ => hc)) rfl <| .z) fun a w S => Zj (Zn S zeroValue30 (cs := _) rfl rfl fun g2 a w S => Zj (Zq S sizeOf30 (.t rfl) (.t rfl) (k := 0) rfl rfl rfl (by simp [Value.oneCell']) fun a w S => Zb (Za (hK5 _ _ (wp_region_lit (run S (.mv rfl <| .la gt30 0 rfl rfl rfl <| .z) fun a w S => ?_))))))))))))
       (refine Zj (Yb S call181 (.cons (.t rfl) (.cons (.t rfl) .nil)) (c181 _ _ _ _ _ _ (by exact Sl.of_own S.wd (k := 1) rfl (fun _ => rfl)) (by omega)) rfl ?_); clear S a w; rintro _ _ ⟨A1, c1, rfl, rfl⟩ a w S)
       refine run S (.as rfl <| .z) fun a w S => Zb (Zk (Za (hK4 _ _ (wp_region_lit (run S (.ad (by unfold I64; omega) rfl <| .mv rfl <| .z) fun a w S => Zb (Za ?_))))))
       exact ⟨(k + 1, A1, c1), by dsimp only; omega, by dsimp only; omega, by dsimp only; rw [setF_step hmm]; exact S.wk⟩
     · have hend : k = l.length := by omega
       subst hend
       rw [List.take_length] at S
       refine sg S (.ge (by omega) rfl rfl <| .z) fun a w S => wp_seq_k fun _ hK4 => Ze S (.t rfl) (wp_exit (Zh (Zh (Ya (Za (hK1 _ _ (sg S (.ac rfl <| .z) fun a w S => wp_seq_k fun _ hK1 => sg S (.mv rfl <| .ln underlying33 rfl <| .mc rfl <| .z) fun a w S => wp_block ?_)))))))
       refine Xk (S.nil_ 74 3 Dot.enc none) (X := Nat × Option Addr × Nat) (fun q => [(51, true, .int .i64 (q.1 : Int)), (13, true, .slice q.2.1 (insF (d.take q.1)).length q.2.2)])
         (fun q _ => rowOf 74 3 Dot.enc q.2.1 q.2.2 (insF (d.take q.1)) :: [rowOf 30 3 Dot.enc B1 cB1 (setF l), .blk g1 (.cells #[.slice none 0 0, .slice none 0 0] 35)]) (fun q => q.1 ≤ d.length) (fun q => d.length - q.1) (0, none, 0) (Nat.zero_le _) ?_
       clear S
       intro ⟨k, B2, cB2⟩ a w hk S
       dsimp only at hk S
       have hfl := insF_len (d.take k)
       rw [List.length_take] at hfl
       by_cases hlt : k < d.length
       · obtain ⟨g, o, m, rfl, hmm, hd, hc⟩ := Yg hA' hlt
         clear hA'
         refine sg S (.lt (by omega) rfl rfl <| .z) fun a w S => wp_seq_k fun _ hK5 => Zg S (.t rfl) (wp_skip (Za (hK5 _ _ (wp_seq_k fun _ hK5 => wp_block (wp_seq_k fun _ hK6 => wp_region_lit (run S (.ix underlying33 sizeOf74 (by omega) rfl rfl <| .yy (Zp ⟨isAgg74, sizeOf74⟩ (.t rfl) (vs := [_, _, _]) rfl (fun _ => hc)) rfl <| .z) fun a w S => Zj (Zn S zeroValue74 (cs := _) rfl rfl fun g2 a w S => Zj (Zq S sizeOf74 (.t rfl) (.t rfl) (k := 0) rfl rfl rfl (by simp [Value.oneCell']) fun a w S => Zb (Za (hK6 _ _ (wp_region_lit (run S (.mv rfl <| .la gt74 0 rfl rfl rfl <| .z) fun a w S => ?_))))))))))))
         (refine Zj (Yb S call182 (.cons (.t rfl) (.cons (.t rfl) .nil)) (c182 _ _ _ _ _ _ (by exact Sl.of_own S.wd (k := 1) rfl (fun _ => rfl)) (by omega)) rfl ?_); clear S a w; rintro _ _ ⟨A1, c1, rfl, rfl⟩ a w S)
         refine run S (.as rfl <| .z) fun a w S => Zb (Zk (Za (hK5 _ _ (wp_region_lit (run S (.ad (by unfold I64; omega) rfl <| .mv rfl <| .z) fun a w S => Zb (Za ?_))))))
         exact ⟨(k + 1, A1, c1), by dsimp only; omega, by dsimp only; omega, by dsimp only; rw [insF_step hmm]; exact S.wk⟩
       · have hend : k = d.length := by omega
         subst hend
         rw [List.take_length] at S
         refine sg S (.ge (by omega) rfl rfl <| .z) fun a w S => wp_seq_k fun _ hK5 => Ze S (.t rfl) (wp_exit (Zh (Zh (Ya (Za (hK1 _ _ (wp_seq_k fun _ hK1 => wp_region_lit (run S (.mv rfl <| .mv rfl <| .z) fun a w S => ?_))))))))
         have hl1 := setF_len l
         have hl2 := insF_len d
         refine Zj (Vn S.swap call183 (.cons (.t rfl) (.cons (.t rfl) .nil)) (c183 _ _ _ _ _ _ _ _ _ S.swap.wd (by omega) (setF_may hml) (insF_may hmd)) rfl ?_)
         clear S
         rintro _ _ ⟨A3, c3, A4, c4, rfl, rfl⟩ a w S
         refine Zj (Zn S zeroValue35 (cs := _) rfl rfl fun g2 a w S => Zj (Zq S sizeOf35 (.t rfl) (.t rfl) (k := 0) rfl rfl rfl (by simp [Value.oneCell']) fun a w S => Zb (Za (hK1 _ _ (wp_seq_k fun _ hK1 => wp_seq_k fun _ hK6 => wp_region_lit (run S (.fa underlying35 sizeOf32 0 rfl rfl rfl <| .ld gt32 0 rfl rfl rfl <| .ln underlying32 rfl <| .yy (Yn (.t rfl) Ev.c) rfl <| .mv rfl <| .z) fun a w S => Yp S rfl rfl (Yr.ys (Zc (FieldT.mk underlying35 rfl sizeOf33 rfl) (.t rfl) (i' := 1) rfl)) rfl fun a w S => Yp S rfl rfl (Yr.ys (Zt ⟨isAgg33, sizeOf33⟩ (Ev.g rfl) (k := 0) rfl rfl)) rfl fun a w S => Yp S rfl rfl (Yr.ys (Wt underlying33 (Ev.g rfl))) rfl fun a w S => Yp S rfl rfl (Yr.ys (Yn (Ev.g rfl) Ev.c)) rfl fun a w S => run S (.yy (Wj (.t rfl) Ev.c (Ev.g rfl)) rfl <| .z) fun a w S => Zb (Za (hK6 _ _ ?_))))))))
         refine Xi S (.t rfl) (fun h1 => ?_) (fun h1 => ?_)
         refine wp_seq_k fun _ hK6 => wp_region_lit (run S (.yy (Xd (ps := []) (us := [_, _]) bld35 .nil rfl) rfl <| .z) fun a w S => Zj (Zq S sizeOf35 (.t rfl) (.t rfl) (k := 3) rfl rfl rfl (by simp [Value.oneCell']) fun a w S => run S (.ac rfl <| .z) fun a w S => Zb (Za (hK6 _ _ (wp_ret (Zd (Zm S (results2 S results145 (Rv.cell (k := 3) ⟨isAgg35, sizeOf35⟩ rfl rfl rfl) (Rv.tmp rfl)) ?_)))))))
         rotate_left
         refine wp_skip (Za (hK1 _ _ (wp_seq_k fun _ hK1 => wp_region_lit (run S (.la gt35 0 rfl rfl rfl <| .z) fun a w S => Zj (Zq S sizeOf35 (.t rfl) (.t rfl) (k := 3) rfl rfl rfl (by simp [Value.oneCell']) fun a w S => run S (.ac rfl <| .z) fun a w S => Zb (Za (hK1 _ _ (wp_ret (Zm S (results2 S results145 (Rv.cell (k := 3) ⟨isAgg35, sizeOf35⟩ rfl rfl rfl) (Rv.tmp rfl)) ?_)))))))))
         rotate_left
         · rw [normalL_ok hml hmd, if_pos (by simp at h1; omega)]
           exact ⟨_, _, rfl, ((S.nil_ 74 3 Dot.enc none).nil_ 30 3 Dot.enc none).wd.sub (by repeat (first | exact List.Sublist.refl _ | exact List.nil_sublist _ | refine .cons_cons _ ?_ | refine .cons _ ?_)), none, 0, none, 0, rfl, rfl⟩
         · rw [normalL_ok hml hmd, if_neg (by simp at h1; omega)]
           exact ⟨_, _, rfl, S.wd.sub (by repeat (first | exact List.Sublist.refl _ | exact List.nil_sublist _ | refine .cons_cons _ ?_ | refine .cons _ ?_)), A3, c3, A4, c4, rfl, rfl⟩
end Go.Proofs.YtakpdbmdfnialaaGreat
namespace Go.Proofs.YtakpdbmdfnialaaGreat
open Go.Fw Go.Proofs Go.RowKit Go.Proofs.Tryz
theorem c200 (w0 : World) (x : Int) : Calls Tryz.prog 200 #[.int .i64 x] w0 fun e w' => e = .returned (.bool (decide (0 ≤ x) && decide (x < 8))) ∧ Bel w0.heap.size w0 w' := by
 refine enter1 func200 rfl ntmps200 rfl fun a S => sg S (.ac rfl <| .z) fun a w S => wp_seq_k fun _ hK1 => wp_region_lit (run S (.mv rfl <| .yy (Xp (.t rfl) Ev.c) rfl <| .mv rfl <| .z) fun a w S => Yd S rfl rfl (Yr.ys (Zi (.t rfl))) rfl fun a w S => Yd S rfl rfl (Yr.ys (Yy (Ev.g rfl) Ev.c)) rfl fun a w S => run S (.yy (Xn (.t rfl) (Ev.g rfl) Ev.c) rfl <| .as rfl <| .z) fun a w S => Zb (Za (hK1 _ _ (wp_ret (Zm S (results1 S results200 (Rv.tmp rfl)) ?_)))))
 exact ⟨rfl, S.wd.below⟩
theorem c201 (w0 : World) (x : Int) : Calls Tryz.prog 201 #[.int .i64 x] w0 fun e w' => e = .returned (.bool (decide (1 ≤ x) && decide (x ≤ 1099511627776))) ∧ Bel w0.heap.size w0 w' := by
 refine enter1 func201 rfl ntmps201 rfl fun a S => sg S (.ac rfl <| .z) fun a w S => wp_seq_k fun _ hK1 => wp_region_lit (run S (.mv rfl <| .yy (Xp (.t rfl) Ev.c) rfl <| .mv rfl <| .z) fun a w S => Yd S rfl rfl (Yr.ys (Zi (.t rfl))) rfl fun a w S => Yd S rfl rfl (Yr.ys (Xg (Ev.g rfl) Ev.c)) rfl fun a w S => run S (.yy (Xn (.t rfl) (Ev.g rfl) Ev.c) rfl <| .as rfl <| .z) fun a w S => Zb (Za (hK1 _ _ (wp_ret (Zm S (results1 S results201 (Rv.tmp rfl)) ?_)))))
 exact ⟨rfl, S.wd.below⟩
theorem c202 (w0 : World) (x : Int) : Calls Tryz.prog 202 #[.int .i64 x] w0 fun e w' => e = .returned (.bool (decide (1 ≤ x) && decide (x ≤ 1099511627776))) ∧ Bel w0.heap.size w0 w' := by
 refine enter1 func202 rfl ntmps202 rfl fun a S => sg S (.ac rfl <| .z) fun a w S => wp_seq_k fun _ hK1 => wp_region_lit (run S (.mv rfl <| .yy (Xp (.t rfl) Ev.c) rfl <| .mv rfl <| .z) fun a w S => Yd S rfl rfl (Yr.ys (Zi (.t rfl))) rfl fun a w S => Yd S rfl rfl (Yr.ys (Xg (Ev.g rfl) Ev.c)) rfl fun a w S => run S (.yy (Xn (.t rfl) (Ev.g rfl) Ev.c) rfl <| .as rfl <| .z) fun a w S => Zb (Za (hK1 _ _ (wp_ret (Zm S (results1 S results202 (Rv.tmp rfl)) ?_)))))
 exact ⟨rfl, S.wd.below⟩
theorem c162 (w0 : World) (x y z : Int) (b : Bool) (hb : mayD ⟨x, y, z⟩ = b) :
   Calls Tryz.prog 162 #[.agg #[.int .i64 x, .int .i64 y, .int .i64 z]] w0 fun e w' => e = .returned (.bool b) ∧ Bel w0.heap.size w0 w' := by
 refine enter1 func162 rfl ntmps162 rfl fun a S => wp_seq_k fun _ hK1 => wp_region_lit (Zj (Zw S (.t rfl) rfl fun g1 a w S => run S (.ac rfl <| .z) fun a w S => Zb (Za (hK1 _ _ (wp_seq_k fun _ hK1 => wp_region_lit (run S (.fa underlying74 sizeOf3 0 rfl rfl rfl <| .ld gt3 0 rfl rfl rfl <| .xx (Zf call200 (.cons (.t rfl) .nil) (fun hp w W => c200 _ _)) rfl <| .mv rfl <| .z) fun a w S => Yd S rfl rfl (Yr.ys (Zc (FieldT.mk underlying74 rfl sizeOf3 rfl) (.t rfl) (i' := 1) rfl)) rfl fun a w S => Yd S rfl rfl (Yr.ys (Zt ⟨isAgg3, sizeOf3⟩ (Ev.g rfl) (k := 0) rfl rfl)) rfl fun a w S => Yd S rfl rfl (Zf call201 (.cons (Ev.g rfl) .nil) (fun hp w W => c201 _ _)) rfl fun a w S => run S (.yy (Xn (.t rfl) (Ev.g rfl) Ev.c) rfl <| .mv rfl <| .z) fun a w S => Yd S rfl rfl (Yr.ys (Zc (FieldT.mk underlying74 rfl sizeOf3 rfl) (.t rfl) (i' := 2) rfl)) rfl fun a w S => Yd S rfl rfl (Yr.ys (Zt ⟨isAgg3, sizeOf3⟩ (Ev.g rfl) (k := 0) rfl rfl)) rfl fun a w S => Yd S rfl rfl (Zf call202 (.cons (Ev.g rfl) .nil) (fun hp w W => c202 _ _)) rfl fun a w S => run S (.yy (Xn (.t rfl) (Ev.g rfl) Ev.c) rfl <| .as rfl <| .z) fun a w S => Zb (Za (hK1 _ _ (wp_ret (Zm S (results1 S results162 (Rv.tmp rfl)) ?_))))))))))
 refine ⟨?_, S.wd.below⟩
 subst hb
 simp [mayD, Bool.and_assoc]
theorem c165 (w0 : World) (x y z x' y' z' : Int) (h : (0 ≤ x ∧ x ≤ 1099511627776) ∧ (0 ≤ y ∧ y ≤ 1099511627776) ∧ 0 ≤ z ∧ z ≤ 1099511627776) (h' : (0 ≤ x' ∧ x' ≤ 1099511627776) ∧ (0 ≤ y' ∧ y' ≤ 1099511627776) ∧ 0 ≤ z' ∧ z' ≤ 1099511627776) :
   Calls Tryz.prog 165 #[.agg #[.int .i64 x, .int .i64 y, .int .i64 z], .agg #[.int .i64 x', .int .i64 y', .int .i64 z']] w0 fun e w' => e = .returned (.int .i64 (orderD ⟨x, y, z⟩ ⟨x', y', z'⟩)) ∧ Bel w0.heap.size w0 w' := by
 refine enter2 func165 rfl ntmps165 rfl fun a S => wp_seq_k fun _ hK1 => wp_region_lit (Zj (Zw S (.t rfl) rfl fun g1 a w S => Zj (Zw S (.t rfl) rfl fun g2 a w S => run S (.ac rfl <| .z) fun a w S => Zb (Za (hK1 _ _ (wp_seq_k fun _ hK1 => wp_block (sg S (.fa underlying74 sizeOf3 0 rfl rfl rfl <| .ld gt3 1 rfl rfl rfl <| .fa underlying74 sizeOf3 0 rfl rfl rfl <| .ld gt3 0 rfl rfl rfl <| .yy (Yh (.t rfl) (.t rfl)) rfl <| .as rfl <| .z) fun a w S => ?_)))))))
 refine Xz S (.t rfl) (fun h1 => ?_) (fun h1 => ?_)
 refine sg S (.fa underlying74 sizeOf3 0 rfl rfl rfl <| .ld gt3 1 rfl rfl rfl <| .fa underlying74 sizeOf3 0 rfl rfl rfl <| .ld gt3 0 rfl rfl rfl <| .yy (Xm (.t rfl) (.t rfl) (fun _ => by unfold I64; omega)) rfl <| .as rfl <| .z) fun a w S => wp_ret (Zr (Zd (Zm S (results1 S results165 (Rv.tmp rfl)) ?_)))
 rotate_left
 refine sg S (.fa underlying74 sizeOf3 1 rfl rfl rfl <| .ld gt3 1 rfl rfl rfl <| .fa underlying74 sizeOf3 1 rfl rfl rfl <| .ld gt3 0 rfl rfl rfl <| .yy (Yh (.t rfl) (.t rfl)) rfl <| .as rfl <| .z) fun a w S => ?_
 refine Xz S (.t rfl) (fun h2 => ?_) (fun h2 => ?_)
 refine sg S (.fa underlying74 sizeOf3 1 rfl rfl rfl <| .ld gt3 1 rfl rfl rfl <| .fa underlying74 sizeOf3 1 rfl rfl rfl <| .ld gt3 0 rfl rfl rfl <| .yy (Xm (.t rfl) (.t rfl) (fun _ => by unfold I64; omega)) rfl <| .as rfl <| .z) fun a w S => wp_ret (Zr (Zd (Zm S (results1 S results165 (Rv.tmp rfl)) ?_)))
 rotate_left
 refine wp_skip (Zk (Za (hK1 _ _ (sg S (.fa underlying74 sizeOf3 2 rfl rfl rfl <| .ld gt3 1 rfl rfl rfl <| .fa underlying74 sizeOf3 2 rfl rfl rfl <| .ld gt3 0 rfl rfl rfl <| .yy (Xm (.t rfl) (.t rfl) (fun _ => by unfold I64; omega)) rfl <| .as rfl <| .z) fun a w S => wp_ret (Zm S (results1 S results165 (Rv.tmp rfl)) ?_)))))
 rotate_left
 all_goals refine ⟨?_, S.wd.below⟩
 all_goals simp_all [orderD]
theorem c137 (w0 : World) (v1 v2 : Value) (C : Ctx) (h : RdCtx w0 w0.heap.size v1 v2 C) :
   Calls Tryz.prog 137 #[.agg #[v1, v2]] w0 fun e w' => e = .returned (.bool (canL C)) ∧ Bel w0.heap.size w0 w' := by
 obtain ⟨⟨A, cap, rfl, hl, hcap, hA⟩, ⟨A', cap', rfl, hl', hcap', hA'⟩⟩ := h
 have hS : Sl Dot.enc 3 w0 w0.heap.size (.slice A C.marks.length cap) C.marks := ⟨A, cap, rfl, hl, hcap, hA⟩
 refine enter1 func137 rfl ntmps137 rfl fun a S => wp_seq_k fun _ hK1 => wp_region_lit (Zj (Zw S (.t rfl) rfl fun g1 a w S => run S (.ac rfl <| .z) fun a w S => Zb (Za (hK1 _ _ (wp_seq_k fun _ hK1 => wp_seq_k fun _ hK2 => wp_region_lit (run S (.fa underlying35 sizeOf32 0 rfl rfl rfl <| .ld gt32 0 rfl rfl rfl <| .ln underlying32 rfl <| .yy (Yn (.t rfl) Ev.c) rfl <| .mv rfl <| .z) fun a w S => Yp S rfl rfl (Yr.ys (Zc (FieldT.mk underlying35 rfl sizeOf33 rfl) (.t rfl) (i' := 1) rfl)) rfl fun a w S => Yp S rfl rfl (Yr.ys (Zt ⟨isAgg33, sizeOf33⟩ (Ev.g rfl) (k := 0) rfl rfl)) rfl fun a w S => Yp S rfl rfl (Yr.ys (Wt underlying33 (Ev.g rfl))) rfl fun a w S => Yp S rfl rfl (Yr.ys (Yn (Ev.g rfl) Ev.c)) rfl fun a w S => run S (.yy (Wj (.t rfl) Ev.c (Ev.g rfl)) rfl <| .z) fun a w S => Zb (Za (hK2 _ _ ?_))))))))
 refine Xi S (.t rfl) (fun h1 => ?_) (fun h1 => ?_)
 refine sg S (.ac rfl <| .z) fun a w S => wp_ret (Zd (Zm S (results1 S results137 (Rv.tmp rfl)) ?_))
 rotate_left
 refine wp_skip (Za (hK1 _ _ (wp_seq_k fun _ hK1 => sg S (.fa underlying35 sizeOf32 0 rfl rfl rfl <| .ld gt32 0 rfl rfl rfl <| .ln underlying32 rfl <| .mc rfl <| .z) fun a w S => wp_block ?_)))
 rotate_left
 · exact ⟨by rw [canL_big (by simp at h1; omega)], S.wd.below⟩
 · have hbig : C.marks.length ≤ 64 ∧ C.cloud.length ≤ 64 := by simp at h1; omega
   refine Xk S (X := Nat) (fun k => [(21, true, .int .i64 (k : Int))]) (fun _ L => L) (fun k => k ≤ C.marks.length ∧ (∀ x ∈ C.marks.take k, mayD x = true) ∧ okM (prevD C.marks k) (C.marks.drop k) = okM none C.marks) (fun k => C.marks.length - k) 0 ⟨Nat.zero_le _, by simp, rfl⟩ ?_
   clear S h1
   intro k a w ⟨hk, hmy, hno⟩ S
   by_cases hlt : k < C.marks.length
   · obtain ⟨g, o, m, rfl, hmm, hd, hc⟩ := Yg hA hlt
     rw [hd, okM] at hno
     cases hb : mayD m with
     | false =>
       refine sg S (.lt (by omega) rfl rfl <| .z) fun a w S => wp_seq_k fun _ hK2 => Zg S (.t rfl) (wp_skip (Za (hK2 _ _ (wp_seq_k fun _ hK2 => wp_block (wp_seq_k fun _ hK3 => wp_region_lit (run S (.mv rfl <| .ix underlying32 sizeOf30 (by omega) rfl rfl <| .yy (Zp ⟨isAgg30, sizeOf30⟩ (.t rfl) (vs := [_, _, _]) rfl (fun _ => hc)) rfl <| .z) fun a w S => Zj (Zn S zeroValue30 (cs := _) rfl rfl fun g2 a w S => run S (.as rfl <| .z) fun a w S => Zj (Zq S sizeOf30 (.t rfl) (.t rfl) (k := 0) rfl rfl rfl (by simp [Value.oneCell']) fun a w S => Zb (Za (hK3 _ _ (wp_seq_k fun _ hK3 => sg S (.la gt30 0 rfl rfl rfl <| .xx (Zf call163 (.cons (.t rfl) .nil) (fun hp w W => c163 _ _ _ _)) rfl <| .xx (Zf call162 (.cons (.t rfl) .nil) (fun hp w W => c162 _ _ _ _ _ (by assumption))) rfl <| .nt rfl <| .z) fun a w S => Zg S (.t rfl) (sg S (.ac rfl <| .z) fun a w S => wp_ret (Zd (Zr (Zd (Zd (Zr (Zd (Zm S (results1 S results137 (Rv.tmp rfl)) ?_)))))))))))))))))))
       exact ⟨by rw [canL_M (by rw [← hno, hb]; rfl)], S.wd.below⟩
     | true =>
       have hlm := Xw hb
       rcases k with _ | k
       · refine sg S (.lt (by omega) rfl rfl <| .z) fun a w S => wp_seq_k fun _ hK2 => Zg S (.t rfl) (wp_skip (Za (hK2 _ _ (wp_seq_k fun _ hK2 => wp_block (wp_seq_k fun _ hK3 => wp_region_lit (run S (.mv rfl <| .yy (Ym (j := 0) underlying32 sizeOf30 (.t rfl) (.t rfl) (fun _ => by omega)) rfl <| .yy (Zp ⟨isAgg30, sizeOf30⟩ (.t rfl) (vs := [_, _, _]) rfl (fun _ => hc)) rfl <| .z) fun a w S => Zj (Zn S zeroValue30 (cs := _) rfl rfl fun g2 a w S => run S (.as rfl <| .z) fun a w S => Zj (Zq S sizeOf30 (.t rfl) (.t rfl) (k := 0) rfl rfl rfl (by simp [Value.oneCell']) fun a w S => Zb (Za (hK3 _ _ (wp_seq_k fun _ hK3 => sg S (.la gt30 0 rfl rfl rfl <| .xx (Zf call163 (.cons (.t rfl) .nil) (fun hp w W => c163 _ _ _ _)) rfl <| .xx (Zf call162 (.cons (.t rfl) .nil) (fun hp w W => c162 _ _ _ _ _ (by assumption))) rfl <| .nt rfl <| .z) fun a w S => Ze S (.t rfl) (wp_skip (Za (hK3 _ _ (sg S (.mv rfl <| .yy (Yq (by omega) (Yn (.t rfl) Ev.c)) rfl <| .z) fun a w S => Ze S (.t rfl) (wp_skip (Zk (Za (hK2 _ _ (wp_region_lit (run S (.ad (by unfold I64; omega) rfl <| .mv rfl <| .z) fun a w S => Zb ?_)))))))))))))))))))))
         refine Za ?_
         exact ⟨0 + 1, ⟨by omega, all_step hmm hmy hb, by rw [prevD, hmm, ← hno, hb]; rfl⟩, by omega, S.wk⟩
       · obtain ⟨g', o', m', e', hmm', hd', hc'⟩ := Yg hA (show k < C.marks.length by omega)
         cases e'
         have hlm' := Xw (hmy m' (by rw [List.take_add_one, hmm']; simp))
         have e : orderD m'.nl m.nl = orderD ⟨m'.node, m'.life, 0⟩ ⟨m.node, m.life, 0⟩ := rfl
         refine sg S (.lt (by omega) rfl rfl <| .z) fun a w S => wp_seq_k fun _ hK2 => Zg S (.t rfl) (wp_skip (Za (hK2 _ _ (wp_seq_k fun _ hK2 => wp_block (wp_seq_k fun _ hK3 => wp_region_lit (run S (.mv rfl <| .ix underlying32 sizeOf30 (by omega) rfl rfl <| .yy (Zp ⟨isAgg30, sizeOf30⟩ (.t rfl) (vs := [_, _, _]) rfl (fun _ => hc)) rfl <| .z) fun a w S => Zj (Zn S zeroValue30 (cs := _) rfl rfl fun g2 a w S => run S (.as rfl <| .z) fun a w S => Zj (Zq S sizeOf30 (.t rfl) (.t rfl) (k := 0) rfl rfl rfl (by simp [Value.oneCell']) fun a w S => Zb (Za (hK3 _ _ (wp_seq_k fun _ hK3 => sg S (.la gt30 0 rfl rfl rfl <| .xx (Zf call163 (.cons (.t rfl) .nil) (fun hp w W => c163 _ _ _ _)) rfl <| .xx (Zf call162 (.cons (.t rfl) .nil) (fun hp w W => c162 _ _ _ _ _ (by assumption))) rfl <| .nt rfl <| .z) fun a w S => Ze S (.t rfl) (wp_skip (Za (hK3 _ _ (sg S (.mv rfl <| .yy (Yu (by omega) (Yn (.t rfl) Ev.c)) rfl <| .z) fun a w S => Zg S (.t rfl) (wp_seq_k fun _ hK3 => wp_region_lit ?_))))))))))))))))
         refine run S (.fa underlying35 sizeOf32 0 rfl rfl rfl <| .ld gt32 1 rfl rfl rfl <| .mv rfl <| .yy (Xt (.t rfl) Ev.c (by omega)) rfl <| .ix underlying32 sizeOf30 (by omega) rfl rfl <| .yy (Zp ⟨isAgg30, sizeOf30⟩ (.t rfl) (vs := [_, _, _]) rfl (fun _ => hc')) rfl <| .z) fun a w S => Zj (Zn S zeroValue30 (cs := _) rfl rfl fun g3 a w S => Zj (Zq S sizeOf30 (.t rfl) (.t rfl) (k := 0) rfl rfl rfl (by simp [Value.oneCell']) fun a w S => Zb (Za (hK3 _ _ (sg S (.fa underlying30 sizeOf3 0 rfl rfl rfl <| .ld gt3 0 rfl rfl rfl <| .fa underlying30 sizeOf3 1 rfl rfl rfl <| .ld gt3 0 rfl rfl rfl <| .yy (Xd (ps := [(0, Go.Operand.tmp 39), (1, Go.Operand.tmp 41)]) (us := [_, _, _]) bld74 (.cons (.t rfl) (.cons (.t rfl) .nil)) rfl) rfl <| .fa underlying30 sizeOf3 0 rfl rfl rfl <| .ld gt3 1 rfl rfl rfl <| .fa underlying30 sizeOf3 1 rfl rfl rfl <| .ld gt3 1 rfl rfl rfl <| .yy (Xd (ps := [(0, Go.Operand.tmp 44), (1, Go.Operand.tmp 46)]) (us := [_, _, _]) bld74 (.cons (.t rfl) (.cons (.t rfl) .nil)) rfl) rfl <| .xx (Zf call165 (.cons (.t rfl) (.cons (.t rfl) .nil)) (fun hp w W => c165 _ _ _ _ _ _ _ (by omega) (by omega))) rfl <| .yy (Xp (.t rfl) Ev.c) rfl <| .z) fun a w S => ?_)))))
         refine Xz S (.t rfl) (fun h1 => ?_) (fun h1 => ?_)
         refine sg S (.ac rfl <| .z) fun a w S => wp_ret (Zr (Zd (Zd (Zr (Zd (Zm S (results1 S results137 (Rv.tmp rfl)) ?_))))))
         rotate_left
         refine wp_skip (Zk (Za (hK2 _ _ (wp_region_lit (run S (.ad (by unfold I64; omega) rfl <| .mv rfl <| .z) fun a w S => Zb (Za ?_))))))
         rotate_left
         · exact ⟨by rw [canL_M (by rw [← hno, hb, prevD, hmm', gapM, decide_eq_false (by omega)]; rfl)], S.wd.below⟩
         · exact ⟨k + 1 + 1, ⟨by omega, all_step hmm hmy hb, by rw [prevD, hmm, ← hno, hb, prevD, hmm', gapM, decide_eq_true (by omega)]; rfl⟩, by omega, S.wk⟩
   · have hend : k = C.marks.length := by omega
     subst hend
     rw [List.take_length] at hmy
     rw [List.drop_length, okM] at hno
     have hM := hno.symm
     clear hno hk hlt
     refine sg S (.ge (by omega) rfl rfl <| .z) fun a w S => wp_seq_k fun _ hK2 => Ze S (.t rfl) (wp_exit (Zh (Zh (Ya (Za (hK1 _ _ (wp_seq_k fun _ hK1 => sg S (.fa underlying35 sizeOf33 1 rfl rfl rfl <| .ld gt33 0 rfl rfl rfl <| .ln underlying33 rfl <| .mc rfl <| .z) fun a w S => wp_block ?_)))))))
     refine Xk S (X := Nat) (fun k => [(54, true, .int .i64 (k : Int))]) (fun _ L => L) (fun k => k ≤ C.cloud.length ∧ (∀ x ∈ C.cloud.take k, mayD x = true) ∧ okC C.marks (prevD C.cloud k) (C.cloud.drop k) = okC C.marks none C.cloud) (fun k => C.cloud.length - k) 0 ⟨Nat.zero_le _, by simp, rfl⟩ ?_
     clear S
     intro k a w ⟨hk, hmy', hno⟩ S
     by_cases hlt : k < C.cloud.length
     · obtain ⟨g, o, m, rfl, hmm, hd, hc⟩ := Yg hA' hlt
       rw [hd, okC] at hno
       have hmk := Wf (x := m.node) (y := m.life) hmy
       cases hb : mayD m with
       | false =>
         refine sg S (.lt (by omega) rfl rfl <| .z) fun a w S => wp_seq_k fun _ hK3 => Zg S (.t rfl) (wp_skip (Za (hK3 _ _ (wp_seq_k fun _ hK3 => wp_block (wp_seq_k fun _ hK4 => wp_region_lit (run S (.mv rfl <| .ix underlying33 sizeOf74 (by omega) rfl rfl <| .yy (Zp ⟨isAgg74, sizeOf74⟩ (.t rfl) (vs := [_, _, _]) rfl (fun _ => hc)) rfl <| .z) fun a w S => Zj (Zn S zeroValue74 (cs := _) rfl rfl fun g2 a w S => run S (.as rfl <| .z) fun a w S => Zj (Zq S sizeOf74 (.t rfl) (.t rfl) (k := 0) rfl rfl rfl (by simp [Value.oneCell']) fun a w S => Zb (Za (hK4 _ _ (wp_seq_k fun _ hK4 => Yc S (by kernel_rfl) (by kernel_rfl) fun a S => qrun S (.la gt74 0 rfl rfl rfl <| .xx (Zf call162 (.cons (.t rfl) .nil) (fun hp w W => c162 _ _ _ _ _ (by assumption))) rfl <| .nt rfl <| .mv rfl <| .sk rfl rfl rfl <| .sk rfl rfl rfl <| .sk rfl rfl rfl <| .s0 rfl rfl <| .s0 rfl rfl <| .s0 rfl rfl <| .s0 rfl rfl <| .s0 rfl rfl <| .s0 rfl rfl <| .s0 rfl rfl <| .s0 rfl rfl <| .s0 rfl rfl <| .sk rfl rfl rfl <| .yy (Zv (.t rfl) Ev.c) rfl <| .mv rfl <| .sk rfl rfl rfl <| .sk rfl rfl rfl <| .sk rfl rfl rfl <| .sk rfl rfl rfl <| .sk rfl rfl rfl <| .sk rfl rfl rfl <| .sk rfl rfl rfl <| .sk rfl rfl rfl <| .yy (Zv (.t rfl) Ev.c) rfl <| .z) fun a S => ?_)))))))))))
         (refine Yt ?_; intro w W; replace S := St.mk S W; clear W)
         refine Za (hK4 _ _ (Zg S (.t rfl) (sg S (.ac rfl <| .z) fun a w S => wp_ret (Zr (Zd (Zd (Zr (Zd (Zm S (results1 S results137 (Rv.tmp rfl)) ?_)))))))))
         exact ⟨by rw [canL_C (by rw [← hno, hb]; rfl)], S.wd.below⟩
       | true =>
         have hlm := Xw hb
         rcases k with _ | k
         · refine sg S (.lt (by omega) rfl rfl <| .z) fun a w S => wp_seq_k fun _ hK3 => Zg S (.t rfl) (wp_skip (Za (hK3 _ _ (wp_seq_k fun _ hK3 => wp_block (wp_seq_k fun _ hK4 => wp_region_lit (run S (.mv rfl <| .yy (Ym (j := 0) underlying33 sizeOf74 (.t rfl) (.t rfl) (fun _ => by omega)) rfl <| .yy (Zp ⟨isAgg74, sizeOf74⟩ (.t rfl) (vs := [_, _, _]) rfl (fun _ => hc)) rfl <| .z) fun a w S => Zj (Zn S zeroValue74 (cs := _) rfl rfl fun g2 a w S => run S (.as rfl <| .z) fun a w S => Zj (Zq S sizeOf74 (.t rfl) (.t rfl) (k := 0) rfl rfl rfl (by simp [Value.oneCell']) fun a w S => Zb (Za (hK4 _ _ (wp_seq_k fun _ hK4 => Yc S (by kernel_rfl) (by kernel_rfl) fun a S => ?_)))))))))))
           refine qrun S (.la gt74 0 rfl rfl rfl <| .xx (Zf call162 (.cons (.t rfl) .nil) (fun hp w W => c162 _ _ _ _ _ (by assumption))) rfl <| .nt rfl <| .mv rfl <| .gy rfl rfl (Zi (.t rfl)) <| .gy rfl rfl (Yq (by omega) (Yn (.t rfl) Ev.c)) <| .gy rfl rfl (Zi (.t rfl)) <| .sk rfl rfl rfl <| .sk rfl rfl rfl <| .sk rfl rfl rfl <| .sk rfl rfl rfl <| .sk rfl rfl rfl <| .sk rfl rfl rfl <| .sk rfl rfl rfl <| .sk rfl rfl rfl <| .sk rfl rfl rfl <| .gy rfl rfl (Zu (.t rfl) Ev.c) <| .yy (Zu (.t rfl) (.t rfl)) rfl <| .mv rfl <| .gy rfl rfl (Zc (FieldT.mk underlying74 rfl sizeOf3 rfl) (.t rfl) (i' := 2) rfl) <| .gy rfl rfl (Zt ⟨isAgg3, sizeOf3⟩ (.t rfl) (k := 0) rfl rfl) <| .gy rfl rfl (Zz ⟨isAgg35, sizeOf35⟩ (.t rfl) (k := 1) rfl rfl) <| .gy rfl rfl (Zz ⟨isAgg74, sizeOf74⟩ (.t rfl) (k := 0) rfl rfl) <| .gx rfl rfl (Zf call141 (.cons (.t rfl) .nil) (fun hp w W => c141 _ _ _ _)) <| .gx rfl rfl (Zf call140 (.cons (.t rfl) (.cons (.t rfl) .nil)) (fun hp w W => c140 _ _ _ _ _ _ (by exact .old W (by assumption)))) <| .gy rfl rfl (Xu (.t rfl) Ev.c (fun _ => by unfold I64; omega)) <| .gy rfl rfl (Xg (.t rfl) (.t rfl)) <| .yy (Zu (.t rfl) (.t rfl)) rfl <| .z) fun a S => ?_
           (refine Yt ?_; intro w W; replace S := St.mk S W; clear W)
           refine Za (hK4 _ _ ?_)
           refine Xz S (.t rfl) (fun h1 => ?_) (fun h1 => ?_)
           refine sg S (.ac rfl <| .z) fun a w S => wp_ret (Zr (Zd (Zd (Zr (Zd (Zm S (results1 S results137 (Rv.tmp rfl)) ?_))))))
           rotate_left
           refine wp_skip (Zk (Za (hK3 _ _ (wp_region_lit (run S (.ad (by unfold I64; omega) rfl <| .mv rfl <| .z) fun a w S => Zb (Za ?_))))))
           rotate_left
           · have hf : okC C.marks none C.cloud = false := by
               rw [← hno, Bool.eq_false_iff]
               intro hh
               simp [hb, prevD, gapC] at hh
               omega
             exact ⟨by rw [canL_C hf], S.wd.below⟩
           · exact ⟨0 + 1, ⟨by omega, all_step hmm hmy' hb, by rw [prevD, hmm, ← hno, hb, prevD, gapC, decide_eq_true (by omega)]; rfl⟩, by omega, S.wk⟩
         · obtain ⟨g', o', m', e', hmm', hd', hc'⟩ := Yg hA' (show k < C.cloud.length by omega)
           cases e'
           have hlm' := Xw (hmy' m' (by rw [List.take_add_one, hmm']; simp))
           have e : orderD m' m = orderD ⟨m'.node, m'.life, m'.count⟩ ⟨m.node, m.life, m.count⟩ := rfl
           refine sg S (.lt (by omega) rfl rfl <| .z) fun a w S => wp_seq_k fun _ hK3 => Zg S (.t rfl) (wp_skip (Za (hK3 _ _ (wp_seq_k fun _ hK3 => wp_block (wp_seq_k fun _ hK4 => wp_region_lit (run S (.mv rfl <| .ix underlying33 sizeOf74 (by omega) rfl rfl <| .yy (Zp ⟨isAgg74, sizeOf74⟩ (.t rfl) (vs := [_, _, _]) rfl (fun _ => hc)) rfl <| .z) fun a w S => Zj (Zn S zeroValue74 (cs := _) rfl rfl fun g2 a w S => run S (.as rfl <| .z) fun a w S => Zj (Zq S sizeOf74 (.t rfl) (.t rfl) (k := 0) rfl rfl rfl (by simp [Value.oneCell']) fun a w S => Zb (Za (hK4 _ _ (wp_seq_k fun _ hK4 => Yc S (by kernel_rfl) (by kernel_rfl) fun a S => ?_)))))))))))
           refine qrun S (.la gt74 0 rfl rfl rfl <| .xx (Zf call162 (.cons (.t rfl) .nil) (fun hp w W => c162 _ _ _ _ _ (by assumption))) rfl <| .nt rfl <| .mv rfl <| .gy rfl rfl (Zi (.t rfl)) <| .gy rfl rfl (Yu (by omega) (Yn (.t rfl) Ev.c)) <| .gy rfl rfl (Zi (.t rfl)) <| .gy rfl rfl (Zc (FieldT.mk underlying35 rfl sizeOf33 rfl) (.t rfl) (i' := 1) rfl) <| .gy rfl rfl (Zt ⟨isAgg33, sizeOf33⟩ (.t rfl) (k := 1) rfl rfl) <| .gy rfl rfl (Zi (.t rfl)) <| .gy rfl rfl (Xt (.t rfl) Ev.c (by omega)) <| .gy rfl rfl (Ym underlying33 sizeOf74 (.t rfl) (.t rfl) (fun _ => by omega)) <| .gy rfl rfl (Zp ⟨isAgg74, sizeOf74⟩ (.t rfl) (vs := [_, _, _]) rfl (fun _ => hc')) <| .gy rfl rfl (Zz ⟨isAgg74, sizeOf74⟩ (.t rfl) (k := 0) rfl rfl) <| .gx rfl rfl (Zf call165 (.cons (.t rfl) (.cons (.t rfl) .nil)) (fun hp w W => c165 _ _ _ _ _ _ _ (by omega) (by omega))) <| .gy rfl rfl (Xp (.t rfl) Ev.c) <| .gy rfl rfl (Zv (.t rfl) (.t rfl)) <| .yy (Zu (.t rfl) (.t rfl)) rfl <| .mv rfl <| .z) fun a S => q_yf S rfl rfl (Yr.ys (Zc (FieldT.mk underlying74 rfl sizeOf3 rfl) (.t rfl) (i' := 2) rfl)) rfl fun a S => q_yf S rfl rfl (Yr.ys (Zt ⟨isAgg3, sizeOf3⟩ (Ev.g rfl) (k := 0) rfl rfl)) rfl fun a S => q_yf S rfl rfl (Yr.ys (Zz ⟨isAgg35, sizeOf35⟩ (.t rfl) (k := 1) rfl rfl)) rfl fun a S => ?_
           refine q_yf S rfl rfl (Yr.ys (Zz ⟨isAgg74, sizeOf74⟩ (.t rfl) (k := 0) rfl rfl)) rfl fun a S => q_yf S rfl rfl (Zf call141 (.cons (Ev.g rfl) .nil) (fun hp w W => c141 _ _ _ _)) rfl fun a S => q_yf S rfl rfl (Zf call140 (.cons (Ev.g rfl) (.cons (Ev.g rfl) .nil)) (fun hp w W => c140 _ _ _ _ _ _ (by exact .old W (by assumption)))) rfl fun a S => q_yf S rfl rfl (Yr.ys (Xu (Ev.g rfl) Ev.c (fun _ => by unfold I64; omega))) rfl fun a S => q_yf S rfl rfl (Yr.ys (Xg (Ev.g rfl) (Ev.g rfl))) rfl fun a S => qrun S (.yy (Wj (.t rfl) Ev.c (Ev.g rfl)) rfl <| .z) fun a S => ?_
           (refine Yt ?_; intro w W; replace S := St.mk S W; clear W)
           refine Za (hK4 _ _ ?_)
           refine Xi S (.t rfl) (fun h1 => ?_) (fun h1 => ?_)
           refine sg S (.ac rfl <| .z) fun a w S => wp_ret (Zr (Zd (Zd (Zr (Zd (Zm S (results1 S results137 (Rv.tmp rfl)) ?_))))))
           rotate_left
           refine wp_skip (Zk (Za (hK3 _ _ (wp_region_lit (run S (.ad (by unfold I64; omega) rfl <| .mv rfl <| .z) fun a w S => Zb (Za ?_))))))
           rotate_left
           · have hf : okC C.marks none C.cloud = false := by
               rw [← hno, Bool.eq_false_iff]
               intro hh
               simp [hb, prevD, hmm', gapC] at hh h1
               omega
             exact ⟨by rw [canL_C hf], S.wd.below⟩
           · simp at h1
             exact ⟨k + 1 + 1, ⟨by omega, all_step hmm hmy' hb, by rw [prevD, hmm, ← hno, hb, prevD, hmm', gapC, decide_eq_true (by omega), decide_eq_true (by omega)]; rfl⟩, by omega, S.wk⟩
     · have hend : k = C.cloud.length := by omega
       subst hend
       rw [List.drop_length, okC] at hno
       refine sg S (.ge (by omega) rfl rfl <| .z) fun a w S => wp_seq_k fun _ hK3 => Ze S (.t rfl) (wp_exit (Zh (Zh (Ya (Za (hK1 _ _ (sg S (.ac rfl <| .z) fun a w S => wp_ret (Zm S (results1 S results137 (Rv.tmp rfl)) ?_))))))))
       exact ⟨by rw [canL_yes hbig hM hno.symm], S.wd.below⟩
end Go.Proofs.YtakpdbmdfnialaaGreat
namespace Go.Proofs.YtakpdbmdfnialaaGreat
open Go.Fw Go.Proofs Go.RowKit Go.Proofs.Tryz
theorem c173 (w0 : World) (v1 v2 v3 v4 : Value) (C D : Ctx) (h : RdCtx w0 w0.heap.size v1 v2 C) (h' : RdCtx w0 w0.heap.size v3 v4 D) (hv : ∀ x ∈ C.marks, mayD x = true) (hv' : ∀ x ∈ D.marks, mayD x = true) :
   Calls Tryz.prog 173 #[.agg #[v1, v2], .agg #[v3, v4]] w0 fun e w' => e = .returned (.bool (leqL C D)) ∧ Bel w0.heap.size w0 w' := by
 obtain ⟨⟨A, cap, rfl, hl, hcap, hA⟩, ⟨A', cap', rfl, hl', hcap', hA'⟩⟩ := h
 obtain ⟨hD1, hD2⟩ := h'
 have hD : RdCtx w0 w0.heap.size v3 v4 D := ⟨hD1, hD2⟩
 refine enter2 func173 rfl ntmps173 rfl fun a S => wp_seq_k fun _ hK1 => wp_region_lit (Zj (Zw S (.t rfl) rfl fun g1 a w S => Zj (Zw S (.t rfl) rfl fun g2 a w S => run S (.ac rfl <| .z) fun a w S => Zb (Za (hK1 _ _ (wp_seq_k fun _ hK1 => sg S (.fa underlying35 sizeOf32 0 rfl rfl rfl <| .ld gt32 1 rfl rfl rfl <| .ln underlying32 rfl <| .mc rfl <| .z) fun a w S => wp_block ?_))))))
 refine Xk S (X := Nat) (fun k => [(14, true, .int .i64 (k : Int))]) (fun _ L => L) (fun k => k ≤ C.marks.length ∧ ∀ x ∈ C.marks.take k, leqM D x = true) (fun k => C.marks.length - k) 0 ⟨Nat.zero_le _, by simp⟩ ?_
 clear S
 intro k a w ⟨hk, hno⟩ S
 by_cases hlt : k < C.marks.length
 · obtain ⟨g, o, m, rfl, hmm, hd, hc⟩ := Yg hA hlt
   clear hA
   have hlm := Xw (hv m (List.mem_of_getElem? hmm))
   have hmk := Wf (x := m.node) (y := m.life) hv'
   refine sg S (.lt (by omega) rfl rfl <| .z) fun a w S => wp_seq_k fun _ hK2 => Zg S (.t rfl) (wp_skip (Za (hK2 _ _ (wp_seq_k fun _ hK2 => wp_block (wp_seq_k fun _ hK3 => wp_region_lit (run S (.ix underlying32 sizeOf30 (by omega) rfl rfl <| .yy (Zp ⟨isAgg30, sizeOf30⟩ (.t rfl) (vs := [_, _, _]) rfl (fun _ => hc)) rfl <| .z) fun a w S => Zj (Zn S zeroValue30 (cs := _) rfl rfl fun g3 a w S => Zj (Zq S sizeOf30 (.t rfl) (.t rfl) (k := 0) rfl rfl rfl (by simp [Value.oneCell']) fun a w S => Zb (Za (hK3 _ _ (wp_seq_k fun _ hK3 => Yc S (by kernel_rfl) (by kernel_rfl) fun a S => qrun S (.la gt35 1 rfl rfl rfl <| .la gt30 0 rfl rfl rfl <| .xx (Zf call163 (.cons (.t rfl) .nil) (fun hp w W => c163 _ _ _ _)) rfl <| .xx (Zf call141 (.cons (.t rfl) .nil) (fun hp w W => c141 _ _ _ _)) rfl <| .xx (Zf call140 (.cons (.t rfl) (.cons (.t rfl) .nil)) (fun hp w W => c140 _ _ _ _ _ _ (by exact .old W (by assumption)))) rfl <| .as rfl <| .z) fun a S => ?_)))))))))))
   (refine Yt ?_; intro w W; replace S := St.mk S W; clear W)
   refine Za (hK3 _ _ (sg S (.mv rfl <| .ad (by unfold I64; omega) rfl <| .as rfl <| .z) fun a w S => wp_block ?_))
   refine Xk S (X := Nat × Int) (fun q => [(8, true, .int .i64 q.2)]) (fun _ L => L) (fun q => q.2 = markOf D.marks m.node m.life + 1 + q.1 ∧ q.1 ≤ 64 ∧ ∀ j : Nat, j < q.1 → (⟨m.node, m.life, markOf D.marks m.node m.life + 1 + j⟩ : Dot) ∈ D.cloud) (fun q => 65 - q.1) (0, markOf D.marks m.node m.life + 1) ⟨by simp, by simp, fun j hj => absurd hj (Nat.not_lt_zero _)⟩ ?_
   clear S
   intro ⟨i, z⟩ a w ⟨hz, hi, hin⟩ S
   dsimp only at hz hi hin S
   by_cases hle : z ≤ m.count
   · refine wp_seq_k fun _ hK3 => sg S (.mv rfl <| .fa underlying30 sizeOf3 2 rfl rfl rfl <| .ld gt3 0 rfl rfl rfl <| .yy (Yu (by omega) (Xg (.t rfl) (.t rfl))) rfl <| .z) fun a w S => Zg S (.t rfl) (wp_skip (Za (hK3 _ _ (wp_seq_k fun _ hK3 => wp_block (wp_seq_k fun _ hK4 => wp_region_lit (run S (.mv rfl <| .mv rfl <| .yy (Xm (.t rfl) (.t rfl) (fun _ => by unfold I64; omega)) rfl <| .yy (Yn (.t rfl) Ev.c) rfl <| .mv rfl <| .z) fun a w S => Yp S rfl rfl (Yr.ys (Zc (FieldT.mk underlying35 rfl sizeOf33 rfl) (.t rfl) (i' := 1) rfl)) rfl fun a w S => Yp S rfl rfl (Yr.ys (Zt ⟨isAgg33, sizeOf33⟩ (Ev.g rfl) (k := 1) rfl rfl)) rfl fun a w S => Yp S rfl rfl (Yr.ys (Zc (FieldT.mk underlying30 rfl sizeOf3 rfl) (.t rfl) (i' := 0) rfl)) rfl fun a w S => Yp S rfl rfl (Yr.ys (Zt ⟨isAgg3, sizeOf3⟩ (Ev.g rfl) (k := 0) rfl rfl)) rfl fun a w S => Yp S rfl rfl (Yr.ys (Zc (FieldT.mk underlying30 rfl sizeOf3 rfl) (.t rfl) (i' := 1) rfl)) rfl fun a w S => Yp S rfl rfl (Yr.ys (Zt ⟨isAgg3, sizeOf3⟩ (Ev.g rfl) (k := 0) rfl rfl)) rfl fun a w S => Yp S rfl rfl (Yr.ys (Zi (.t rfl))) rfl fun a w S => ?_))))))
     refine Yp S rfl rfl (Yr.ys (Xd (ps := [(0, Go.Operand.tmp 39), (1, Go.Operand.tmp 41), (2, Go.Operand.tmp 42)]) (us := [_, _, _]) bld74 (.cons (Ev.g rfl) (.cons (Ev.g rfl) (.cons (Ev.g rfl) .nil))) rfl)) rfl fun a w S => Yp S rfl rfl (Zf call159 (.cons (Ev.g rfl) (.cons (Ev.g rfl) .nil)) (fun hp w W => c159 _ _ _ _ _ _ (by exact .old W (by assumption)))) rfl fun a w S => Yp S rfl rfl (Yr.ys (Xh (Ev.g rfl))) rfl fun a w S => run S (.yy (Wj (.t rfl) Ev.c (Ev.g rfl)) rfl <| .z) fun a w S => Zb (Za (hK4 _ _ ?_))
     refine Xi S (.t rfl) (fun h1 => ?_) (fun h1 => ?_)
     refine sg S (.ac rfl <| .z) fun a w S => wp_ret (Zr (Zd (Zd (Zr (Zr (Zd (Zd (Zr (Zd (Zm S (results1 S results173 (Rv.tmp rfl)) ?_))))))))))
     rotate_left
     refine wp_skip (Zk (Za (hK3 _ _ (wp_region_lit (run S (.mv rfl <| .ad (by unfold I64; omega) rfl <| .as rfl <| .z) fun a w S => Zb (Za ?_))))))
     rotate_left
     · refine ⟨?_, S.wd.below⟩
       subst hz
       simp at h1
       rw [leqL_m hmm (leqM_no (i := i) (by omega) (h1.imp (fun h => by omega) id))]
     · simp at h1
       refine ⟨(i + 1, z + 1), ⟨by dsimp only; omega, by dsimp only; omega, fun j hj => ?_⟩, by dsimp only; omega, S.wk⟩
       dsimp only at hj
       rcases Nat.lt_or_ge j i with hj' | hj'
       · exact hin j hj'
       · obtain rfl : j = i := by omega
         rw [← hz]
         exact h1.2
   · refine wp_seq_k fun _ hK3 => sg S (.mv rfl <| .fa underlying30 sizeOf3 2 rfl rfl rfl <| .ld gt3 0 rfl rfl rfl <| .yy (Yq (by omega) (Xg (.t rfl) (.t rfl))) rfl <| .z) fun a w S => Ze S (.t rfl) (wp_exit (Zh (Zh (Ya (Zk (Za (hK2 _ _ (wp_region_lit (run S (.ad (by unfold I64; omega) rfl <| .mv rfl <| .z) fun a w S => Zb (Za ?_))))))))))
     exact ⟨k + 1, ⟨by omega, step_all hmm hno (leqM_yes (i := i) (by omega) hi hin)⟩, by omega, S.wk⟩
 · refine sg S (.ge (by omega) rfl rfl <| .z) fun a w S => wp_seq_k fun _ hK2 => Ze S (.t rfl) (wp_exit (Zh (Zh (Ya (Za (hK1 _ _ (wp_seq_k fun _ hK1 => sg S (.fa underlying35 sizeOf33 1 rfl rfl rfl <| .ld gt33 1 rfl rfl rfl <| .ln underlying33 rfl <| .mc rfl <| .z) fun a w S => wp_block ?_)))))))
   have hend : k = C.marks.length := by omega
   subst hend
   rw [List.take_length] at hno
   refine Xk S (X := Nat) (fun k => [(51, true, .int .i64 (k : Int))]) (fun _ L => L) (fun k => k ≤ C.cloud.length ∧ ∀ x ∈ C.cloud.take k, D.covers x = true) (fun k => C.cloud.length - k) 0 ⟨Nat.zero_le _, by simp⟩ ?_
   clear S
   intro k a w ⟨hk, hno'⟩ S
   by_cases hlt : k < C.cloud.length
   · obtain ⟨g, o, m, rfl, hmm, hd, hc⟩ := Yg hA' hlt
     clear hA'
     refine sg S (.lt (by omega) rfl rfl <| .z) fun a w S => wp_seq_k fun _ hK3 => Zg S (.t rfl) (wp_skip (Za (hK3 _ _ (wp_seq_k fun _ hK3 => wp_block (wp_seq_k fun _ hK4 => wp_region_lit (run S (.ix underlying33 sizeOf74 (by omega) rfl rfl <| .yy (Zp ⟨isAgg74, sizeOf74⟩ (.t rfl) (vs := [_, _, _]) rfl (fun _ => hc)) rfl <| .z) fun a w S => Zj (Zn S zeroValue74 (cs := _) rfl rfl fun g3 a w S => Zj (Zq S sizeOf74 (.t rfl) (.t rfl) (k := 0) rfl rfl rfl (by simp [Value.oneCell']) fun a w S => Zb (Za (hK4 _ _ (sg S (.la gt35 1 rfl rfl rfl <| .la gt74 0 rfl rfl rfl <| .xx (Zf call109 (.cons (.t rfl) (.cons (.t rfl) .nil)) (fun hp w W => c109 _ _ _ _ _ _ _ (by exact .old W (by assumption)))) rfl <| .nt rfl <| .z) fun a w S => ?_)))))))))))
     refine Xi S (.t rfl) (fun h1 => ?_) (fun h1 => ?_)
     refine sg S (.ac rfl <| .z) fun a w S => wp_ret (Zr (Zd (Zd (Zr (Zd (Zm S (results1 S results173 (Rv.tmp rfl)) ?_))))))
     rotate_left
     refine wp_skip (Zk (Za (hK3 _ _ (wp_region_lit (run S (.ad (by unfold I64; omega) rfl <| .mv rfl <| .z) fun a w S => Zb (Za ?_))))))
     rotate_left
     · exact ⟨by rw [leqL_c hmm (by simpa using h1)], S.wd.below⟩
     · exact ⟨k + 1, ⟨by omega, step_all hmm hno' (by simpa using h1)⟩, by omega, S.wk⟩
   · have hend : k = C.cloud.length := by omega
     subst hend
     rw [List.take_length] at hno'
     refine sg S (.ge (by omega) rfl rfl <| .z) fun a w S => wp_seq_k fun _ hK3 => Ze S (.t rfl) (wp_exit (Zh (Zh (Ya (Za (hK1 _ _ (sg S (.ac rfl <| .z) fun a w S => wp_ret (Zm S (results1 S results173 (Rv.tmp rfl)) ?_))))))))
     exact ⟨by rw [leqL_yes hno hno'], S.wd.below⟩
end Go.Proofs.YtakpdbmdfnialaaGreat
namespace Go.Fw
theorem Dot.enc_len (x : Dot) : (Dot.enc x).length = 3 := rfl
theorem Dot.enc_one (x : Dot) : ∀ u ∈ Dot.enc x, u.oneCell' = true := fun u hu => by simp [Dot.enc] at hu; rcases hu with rfl | rfl | rfl <;> rfl
end Go.Fw
namespace Go.Proofs.YtakpdbmdfnialaaGreat
open Go.Fw Go.Proofs Go.RowKit Go.Proofs.Tryz
theorem c136 (w0 : World) (v1 : Value) (l : List Dot) (h : Sl Dot.enc 3 w0 w0.heap.size v1 l) (hn : l.length ≤ 4194304) :
   Rets Tryz.prog 136 #[v1] w0 fun v L => ∃ A c, v = .slice A l.length c ∧ L = [rowOf 74 3 Dot.enc A c l] := by
 have h0 := h
 obtain ⟨A, cap, rfl, hl, hcap, hA⟩ := h
 unfold Go.Fw.Rets
 refine enter1 func136 rfl ntmps136 rfl fun a S => sg S (.ac rfl <| .z) fun a w S => wp_seq_k fun _ hK1 => sg S (.mv rfl <| .yy (ys_sNil underlying33 (.t rfl) Ev.c) rfl <| .z) fun a w S => ?_
 refine Xi S (.t rfl) (fun h1 => ?_) (fun h1 => ?_)
 refine sg S (.ac rfl <| .z) fun a w S => wp_ret (Zd (Zm S (results1 S results136 (Rv.tmp rfl)) ?_))
 rotate_left
 refine wp_skip (Za (hK1 _ _ (wp_seq_k fun _ hK1 => wp_region_lit (Zj (op_bslice0 S underlying33 sizeOf74 rfl fun g1 a w S => run S (.mv rfl <| .z) fun a w S => Zj (Xy _ (S.nil_ 74 _ Go.Fw.Dot.enc _) underlying33 underlying33 (.inr ⟨_, rfl⟩) inf74 rfl (k := 0) rfl (.t rfl) (.t rfl) (Src.sl (Sl.old S.wd h0) (by decide) Go.Fw.Dot.enc_len Go.Fw.Dot.enc_one) (by first | omega | (simp only [List.length_append, List.length_cons, List.length_nil]; omega) | (simp; omega)) rfl rfl rfl fun A1 cap1 a w S => ?_))))))
 simp only [List.nil_append] at S
 refine run S (.as rfl <| .z) fun a w S => Zb (Za (hK1 _ _ (wp_ret (Zm S (results1 S results136 (Rv.tmp rfl)) ?_))))
 rotate_left
 · have hnil : l = [] := by
     refine List.eq_nil_of_length_eq_zero (Decidable.byContradiction fun hne => ?_)
     obtain ⟨g, o, rfl, _⟩ := hA (by omega)
     cases h1
   subst hnil
   exact ⟨_, _, rfl, (S.nil_ 74 3 Dot.enc none).wd.sub (by repeat (first | exact List.Sublist.refl _ | exact List.nil_sublist _ | refine .cons_cons _ ?_ | refine .cons _ ?_)), none, 0, rfl, rfl⟩
 · try simp only [List.nil_append] at S ⊢
   exact ⟨_, _, rfl, S.wd.sub (by repeat (first | exact List.Sublist.refl _ | exact List.nil_sublist _ | refine .cons_cons _ ?_ | refine .cons _ ?_)), _, _, rfl, rfl⟩
end Go.Proofs.YtakpdbmdfnialaaGreat
namespace Go.Proofs.YtakpdbmdfnialaaGreat
open Go.Fw Go.Proofs Go.RowKit Go.Proofs.Tryz
set_option maxHeartbeats 1000000 in
theorem k206 {α : Type} {enc : α → List Value} (he : ∀ x, (enc x).length = 3) (h1 : ∀ x, ∀ u ∈ enc x, u.oneCell' = true) {w0 w : World} {L : List Chunk} {A : Option Addr} {cap gv : Nat} {l : List α} {x : α} {vs : List Value} {E' : TypeId}
   (W : Wd w0 (rowOf 30 3 enc A cap l :: .blk gv (.cells vs.toArray E') :: L) w) (hvs : vs = enc x) (i : Nat) (hi : i ≤ l.length) (hn : l.length ≤ 4194304) :
   RetsO Tryz.prog 206 #[.slice A l.length cap, .int .i64 (i : Int), .slice (some ⟨gv, 0, none⟩) 1 1] w0 w fun v L' => ∃ A' c', v = .slice A' (l.length + 1) c' ∧ L' = rowOf 30 3 enc A' c' (l.take i ++ x :: l.drop i) :: L := by
 obtain ⟨hlc, hcm⟩ := W.room (k := 0) rfl
 have hf1 : ∀ u ∈ l.flatMap enc, u.oneCell' = true := fun u hu => by
   obtain ⟨y, _, hy⟩ := List.mem_flatMap.1 hu
   exact h1 y u hy
 have hd1 : ∀ u ∈ (l.drop i).flatMap enc, u.oneCell' = true := fun u hu => by
   obtain ⟨y, _, hy⟩ := List.mem_flatMap.1 hu
   exact h1 y u hy
 have hx := he x
 have hfl := Wg he l
 have hdl := Wg he (l.drop i)
 have hdi : (l.drop i).length = l.length - i := List.length_drop
 have rw_1 : ((1 : Nat) : Int) = 1 := rfl
 unfold RetsO
 refine enterW3 W func206 rfl ntmps206 rfl fun a S => ?_
 by_cases hil : i = l.length
 · refine sg S (.ac rfl <| .z) fun a w S => sg S (.mv rfl <| .mv rfl <| .yy (ys_slLo underlying32 sizeOf30 (.t rfl) (.t rfl) (fun _ => by first | omega | (simp; done) | (simp; omega))) rfl <| .z) fun a w S => wp_seq_k fun _ hK1 => wp_region_lit (run S (.mv rfl <| .ln underlying32 rfl <| .z) fun a w S => ?_)
   rw [rw_1] at S
   refine run S (.as rfl <| .z) fun a w S => Zb (Za (hK1 _ _ (wp_seq_k fun _ hK1 => sg S (.mv rfl <| .yy (Yq (by omega) (Ye (.t rfl) Ev.c)) rfl <| .z) fun a w S => Ze S (.t rfl) (wp_skip (Za (hK1 _ _ (sg S (.mv rfl <| .ln underlying32 rfl <| .as rfl <| .z) fun a w S => wp_seq_k fun _ hK1 => sg S (.mv rfl <| .mv rfl <| .yy (Yu (by omega) (Ye (.t rfl) (.t rfl))) rfl <| .z) fun a w S => Zg S (.t rfl) (wp_seq_k fun _ hK2 => wp_region_lit (run S (.mv rfl <| .mv rfl <| .z) fun a w S => ?_)))))))))
   refine Zj (Xy [x] S underlying32 underlying32 (.inr ⟨_, rfl⟩) inf30 rfl (k := 0) rfl (.t rfl) (.t rfl) (by
     have h := Src.blk (P := Tryz.prog) (size := 3) (m := 1) (c := 1) S.wd (k := 1) rfl (by rw [hvs, he]) (by rw [hvs]; exact h1 x)
     simpa [hvs] using h) (by simp; omega) rfl rfl rfl ?_)
   clear S
   intro A1 cap1 a w S
   refine run S (.as rfl <| .z) fun a w S => Zb (Za (hK2 _ _ (wp_ret (Zd (Zm S (results1 S results206 (Rv.tmp rfl)) ?_)))))
   refine ⟨_, rowOf 30 3 enc A1 cap1 (l ++ [x]) :: L, rfl, S.wd.sub (by repeat (first | exact List.Sublist.refl _ | exact List.nil_sublist _ | refine .cons_cons _ ?_ | refine .cons _ ?_)), A1, cap1, by simp, ?_⟩
   rw [hil, List.take_length, List.drop_length]
 by_cases hroom : l.length + 1 ≤ cap
 · have rw_2 : (l.length : Int) + 1 = ((l.length + 1 : Nat) : Int) := by omega
   have rw_3 : (i : Int) + 1 = ((i + 1 : Nat) : Int) := by omega
   obtain ⟨g, cs, rfl, hcs, _, hcm', htk, W2⟩ := S.wd.open_row (k := 0) rfl (by omega)
   replace S := St.mk S.kn W2
   clear W W2
   have hlen : cs.length = cap * 3 := hcs
   refine sg S (.ac rfl <| .z) fun a w S => sg S (.mv rfl <| .mv rfl <| .yy (Wk underlying32 sizeOf30 (.t rfl) (.t rfl) (fun _ => by omega)) rfl <| .z) fun a w S => wp_seq_k fun _ hK1 => wp_region_lit (run S (.mv rfl <| .ln underlying32 rfl <| .z) fun a w S => ?_)
   rw [rw_1] at S
   refine run S (.as rfl <| .z) fun a w S => Zb (Za (hK1 _ _ (wp_seq_k fun _ hK1 => sg S (.mv rfl <| .yy (Yq (by omega) (Ye (.t rfl) Ev.c)) rfl <| .z) fun a w S => Ze S (.t rfl) (wp_skip (Za (hK1 _ _ (sg S (.mv rfl <| .ln underlying32 rfl <| .as rfl <| .z) fun a w S => wp_seq_k fun _ hK1 => sg S (.mv rfl <| .mv rfl <| .yy (Yq (by omega) (Ye (.t rfl) (.t rfl))) rfl <| .z) fun a w S => Ze S (.t rfl) (wp_skip (Za (hK1 _ _ (wp_seq_k fun _ hK1 => wp_seq_k fun _ hK2 => wp_region_lit (run S (.mv rfl <| .mv rfl <| .yy (Xu (.t rfl) (.t rfl) (fun _ => by unfold I64; omega)) rfl <| .z) fun a w S => ?_))))))))))))
   rw [rw_2] at S
   refine run S (.mv rfl <| .yy (ys_cap underlying32 (.t rfl)) rfl <| .yy (Yq (by omega) (Yn (.t rfl) (.t rfl))) rfl <| .z) fun a w S => Zb (Za (hK2 _ _ (Ze S (.t rfl) (wp_skip (Za (hK1 _ _ (wp_seq_k fun _ hK1 => wp_region_lit (run S (.mv rfl <| .mv rfl <| .mv rfl <| .yy (Xu (.t rfl) (.t rfl) (fun _ => by unfold I64; omega)) rfl <| .z) fun a w S => ?_))))))))
   rw [rw_2] at S
   refine run S (.yy (Va underlying32 sizeOf30 (.t rfl) (.t rfl) (fun _ => by first | omega | (simp; done) | (simp; omega))) rfl <| .as rfl <| .z) fun a w S => Zb (Za (hK1 _ _ (wp_seq_k fun _ hK1 => wp_seq_k fun _ hK2 => wp_region_lit (run S (.mv rfl <| .mv rfl <| .mv rfl <| .mv rfl <| .yy (Xu (.t rfl) (.t rfl) (fun _ => by unfold I64; omega)) rfl <| .z) fun a w S => ?_))))
   rw [rw_3] at S
   refine run S (.yy (Wk underlying32 sizeOf30 (.t rfl) (.t rfl) (fun _ => by omega)) rfl <| .z) fun a w S => Yk S (Yr.ys (ys_overlaps (tS := 32) (tR := 4) (ka := 1) (kb := 0) func228 (by kernel_rfl) (by kernel_rfl) (by kernel_rfl) (by kernel_rfl) underlying32 sizeOf30 (.t rfl) (.t rfl) rfl rfl (by decide) (fun h => by rw [h] at hlen; simp at hlen; omega))) rfl ?_
   clear S
   intro a w S
   refine run S (.nt rfl <| .z) fun a w S => Zb (Za (hK2 _ _ (Zg S (.t rfl) (wp_seq_k fun _ hK2 => Wr S (by kernel_rfl) [] fun a w S => hy 0 S rfl (Zi (.t rfl)) rfl fun a w S => hy 1 S rfl (Zi (.t rfl)) rfl fun a w S => hy 2 S rfl (Zi (.t rfl)) rfl fun a w S => hy 3 S rfl (Xu (.t rfl) (.t rfl) (fun _ => by unfold I64; omega)) rfl fun a w S => ?_))))
   rw [rw_3] at S
   refine hy 4 S rfl (Wk underlying32 sizeOf30 (.t rfl) (.t rfl) (fun _ => by omega)) rfl fun a w S => hy 5 S rfl (Zi (.t rfl)) rfl fun a w S => hy 6 S rfl (Zi (.t rfl)) rfl fun a w S => hy 7 S rfl (Wk underlying32 sizeOf30 (.t rfl) (.t rfl) (fun _ => by omega)) rfl fun a w S => ?_
   have hnew : (cs.drop (0 + i * 3)).take ((l.length - i) * 3) = (l.drop i).flatMap enc := by
     rw [← flat_drop he, ← htk, Nat.zero_add, List.drop_take, ← Nat.sub_mul]
   refine h_m (i := 8) rfl (by kernel_rfl) (op_copyG (m := l.length - i) (q := l.length + 1 - i) S underlying32 sizeOf30 (.t rfl) (.t rfl) (k := 0) rfl (fun W => rfl) (by omega) (first_blk S.wd (k := 0) rfl (by omega)) (by rw [hnew]; omega) (by rw [hnew]; exact hd1) rfl ?_)
   clear S
   intro a w S
   refine Yj S ?_
   rw [hnew] at S
   refine Xf (by kernel_rfl) (Za (hK2 _ _ (wp_seq_k fun _ hK2 => wp_region_lit (run S (.mv rfl <| .mv rfl <| .yy (Wk underlying32 sizeOf30 (.t rfl) (.t rfl) (fun _ => by omega)) rfl <| .mv rfl <| .z) fun a w S => Zj (op_copyG (m := 1) (q := 1) S underlying32 sizeOf30 (.t rfl) (.t rfl) (k := 0) rfl (fun W => rfl) (by omega) (first_blk S.wd (k := 1) rfl (by rw [hvs]; omega)) (by rw [Ve, hvs]; simp; omega) (by rw [hvs]; exact fun u hu => h1 x u (by simpa using List.mem_of_mem_take hu)) rfl ?_)))))
   clear S
   intro a w S
   have hv3 : (vs.drop 0).take (1 * 3) = enc x := by rw [List.drop_zero, hvs, List.take_of_length_le (by omega)]
   rw [hv3] at S
   refine Zb ?_
   rw [rw_1] at S
   refine Za (hK2 _ _ (sg S (.mv rfl <| .as rfl <| .z) fun a w S => wp_ret (Zd (Zm S (results1 S results206 (Rv.tmp rfl)) ?_))))
   have hfin := (ins_cells (cs := cs) (a := (l.take i).flatMap enc) (x := enc x) (d := (l.drop i).flatMap enc) (o := 0 + i * 3) (by rw [Nat.zero_add, ← flat_take he, ← htk, List.take_take, Nat.min_eq_left (Nat.mul_le_mul_right _ hi)]) (by omega) (by omega)).2
   have W3 := S.wd.close_row (k := 0) rfl (size := 3) (l.length + 1) cap ((l.take i ++ x :: l.drop i).flatMap enc) (by omega) (by rw [Ve, Ve]; exact hlen) (by omega) hcm' (by
     rw [List.flatMap_append, List.flatMap_cons, ← List.append_assoc, ← hfin, hx]
     rw [show (i + 1) * 3 = i * 3 + 3 by omega, Nat.zero_add, Nat.zero_add, Nat.add_assoc (i * 3) 3]
     congr 1
     omega)
   refine ⟨_, .row 30 3 (some ⟨g, 0, none⟩) (l.length + 1) cap ((l.take i ++ x :: l.drop i).flatMap enc) :: L, rfl, W3.sub (by repeat (first | exact List.Sublist.refl _ | exact List.nil_sublist _ | refine .cons_cons _ ?_ | refine .cons _ ?_)), some ⟨g, 0, none⟩, cap, rfl, ?_⟩
   simp only [rowOf]
   congr 2
   simp; omega
 · have rw_4 : (l.length : Int) + 1 - i = ((l.length + 1 - i : Nat) : Int) := by omega
   have rw_3 : (i : Int) + 1 = ((i + 1 : Nat) : Int) := by omega
   obtain ⟨ga, rfl⟩ := S.wd.row_at (k := 0) rfl (by omega)
   clear W
   refine sg S (.ac rfl <| .z) fun a w S => sg S (.mv rfl <| .mv rfl <| .yy (Wk underlying32 sizeOf30 (.t rfl) (.t rfl) (fun _ => by omega)) rfl <| .z) fun a w S => wp_seq_k fun _ hK1 => wp_region_lit (run S (.mv rfl <| .ln underlying32 rfl <| .z) fun a w S => ?_)
   rw [rw_1] at S
   refine run S (.as rfl <| .z) fun a w S => Zb (Za (hK1 _ _ (wp_seq_k fun _ hK1 => sg S (.mv rfl <| .yy (Yq (by omega) (Ye (.t rfl) Ev.c)) rfl <| .z) fun a w S => Ze S (.t rfl) (wp_skip (Za (hK1 _ _ (sg S (.mv rfl <| .ln underlying32 rfl <| .as rfl <| .z) fun a w S => wp_seq_k fun _ hK1 => sg S (.mv rfl <| .mv rfl <| .yy (Yq (by omega) (Ye (.t rfl) (.t rfl))) rfl <| .z) fun a w S => Ze S (.t rfl) (wp_skip (Za (hK1 _ _ (wp_seq_k fun _ hK1 => sg S (.mv rfl <| .mv rfl <| .yy (Xu (.t rfl) (.t rfl) (fun _ => by unfold I64; omega)) rfl <| .mv rfl <| .yy (ys_cap underlying32 (.t rfl)) rfl <| .yy (Yu (by omega) (Yn (.t rfl) (.t rfl))) rfl <| .z) fun a w S => Zg S (.t rfl) (wp_seq_k fun _ hK2 => wp_region_lit (run S (.mv rfl <| .mv rfl <| .yy (Va underlying32 sizeOf30 (.t rfl) (.t rfl) (fun _ => by first | omega | (simp; done) | (simp; omega))) rfl <| .mv rfl <| .mv rfl <| .yy (Xu (.t rfl) (.t rfl) (fun _ => by unfold I64; omega)) rfl <| .mv rfl <| .yy (Xm (.t rfl) (.t rfl) (fun _ => by unfold I64; omega)) rfl <| .z) fun a w S => ?_)))))))))))))
   rw [rw_4] at S
   refine Zj (op_appZ (i := i) (z := l.length + 1 - i) S underlying32 underlying3 inf30 rfl (by simp [Value.cells, Value.oneCell']) (k := 0) rfl (.t rfl) (.t rfl) hi (by omega) (by omega) rfl rfl hf1 rfl ?_)
   clear S
   intro g cs cap' a w hcs hcap' hcm' htk hcs1 S
   have hlen : cs.length = cap' * 3 := hcs
   clear hcs
   refine run S (.as rfl <| .z) fun a w S => Zb (Za (hK2 _ _ (wp_seq_k fun _ hK2 => wp_region_lit (run S (.mv rfl <| .mv rfl <| .yy (Wk underlying32 sizeOf30 (.t rfl) (.t rfl) (fun _ => by omega)) rfl <| .mv rfl <| .z) fun a w S => Zj (op_copyG (m := 1) (q := 1) S underlying32 sizeOf30 (.t rfl) (.t rfl) (k := 0) rfl (fun W => rfl) (by omega) (first_blk S.wd (k := 2) rfl (by rw [hvs]; omega)) (by rw [hvs]; simp; omega) (by rw [hvs]; exact fun u hu => h1 x u (by simpa using List.mem_of_mem_take hu)) rfl ?_)))))
   clear S
   intro a w S
   have hv3 : (vs.drop 0).take (1 * 3) = enc x := by rw [List.drop_zero, hvs, List.take_of_length_le (by omega)]
   rw [hv3] at S
   refine Zb ?_
   rw [rw_1] at S
   refine Za (hK2 _ _ (wp_seq_k fun _ hK2 => Wr S (by kernel_rfl) [] fun a w S => hy 0 S rfl (Zi (.t rfl)) rfl fun a w S => hy 1 S rfl (Zi (.t rfl)) rfl fun a w S => hy 2 S rfl (Zi (.t rfl)) rfl fun a w S => hy 3 S rfl (Xu (.t rfl) (.t rfl) (fun _ => by unfold I64; omega)) rfl fun a w S => ?_))
   rw [rw_3] at S
   refine hy 4 S rfl (Wk underlying32 sizeOf30 (.t rfl) (.t rfl) (fun _ => by omega)) rfl fun a w S => hy 5 S rfl (Zi (.t rfl)) rfl fun a w S => hy 6 S rfl (Zi (.t rfl)) rfl fun a w S => hy 7 S rfl (Wk underlying32 sizeOf30 (.t rfl) (.t rfl) (fun _ => by omega)) rfl fun a w S => ?_
   have hnew : (l.drop i).take (l.length - i) = l.drop i := List.take_of_length_le (by simp)
   refine h_m (i := 8) rfl (by kernel_rfl) (op_copyG (m := l.length - i) (q := l.length - i) S underlying32 sizeOf30 (.t rfl) (.t rfl) (k := 0) rfl (fun W => rfl) (by omega) (first_row he S.wd (k := 1) rfl (by omega)) (by rw [hnew, Ve]; omega) (by rw [hnew]; exact hd1) rfl ?_)
   clear S
   intro a w S
   refine Yj S ?_
   rw [hnew] at S
   refine Xf (by kernel_rfl) (Za (hK2 _ _ (sg S (.mv rfl <| .as rfl <| .z) fun a w S => wp_ret (Zd (Zm S (results1 S results206 (Rv.tmp rfl)) ?_)))))
   have hfin := (ins_cells (cs := cs) (a := (l.take i).flatMap enc) (x := enc x) (d := (l.drop i).flatMap enc) (o := 0 + i * 3) (by rw [Nat.zero_add, htk, flat_take he]) (by omega) (by omega)).1
   have W3 := S.wd.close_row (k := 0) rfl (size := 3) (l.length + 1) cap' ((l.take i ++ x :: l.drop i).flatMap enc) (by omega) (by rw [Ve, Ve]; exact hlen) (by omega) hcm' (by
     rw [List.flatMap_append, List.flatMap_cons, ← List.append_assoc, ← hfin, hx]
     rw [show (i + 1) * 3 = i * 3 + 3 by omega, Nat.zero_add, Nat.zero_add, Nat.add_assoc (i * 3) 3]
     congr 1
     omega)
   refine ⟨_, .row 30 3 (some ⟨g, 0, none⟩) (l.length + 1) cap' ((l.take i ++ x :: l.drop i).flatMap enc) :: L, rfl, W3.sub (by repeat (first | exact List.Sublist.refl _ | exact List.nil_sublist _ | refine .cons_cons _ ?_ | refine .cons _ ?_)), some ⟨g, 0, none⟩, cap', ?_, ?_⟩
   · congr 1
     omega
   · simp only [rowOf]
     congr 2
     simp; omega
end Go.Proofs.YtakpdbmdfnialaaGreat
namespace Go.Proofs.YtakpdbmdfnialaaGreat
open Go.Fw Go.Proofs Go.RowKit Go.Proofs.Tryz
theorem c166 {w0 w : World} {L : List Chunk} {A : Option Addr} {cap : Nat} {l : List Dot} (W : Wd w0 (rowOf 74 3 Dot.enc A cap l :: L) w) (hn : l.length ≤ 4194304) :
   RetsO Tryz.prog 166 #[.slice A l.length cap] w0 w fun v L' => v = .slice A (compactL l).length cap ∧ L' = rowOf 74 3 Dot.enc A cap (compactL l) :: L := by
 obtain ⟨hlc, hcm⟩ := W.room (k := 0) rfl
 unfold RetsO
 refine enterW1 W func166 rfl ntmps166 rfl fun a S => ?_
 by_cases h2 : l.length < 2
 · refine sg S (.ac rfl <| .z) fun a w S => wp_seq_k fun _ hK1 => sg S (.mv rfl <| .ln underlying33 rfl <| .yy (Yu (by omega) (Yy (.t rfl) Ev.c)) rfl <| .z) fun a w S => Zg S (.t rfl) (sg S (.mv rfl <| .as rfl <| .z) fun a w S => wp_ret (Zd (Zm S (results1 S results166 (Rv.tmp rfl)) ?_)))
   refine ⟨_, rowOf 74 3 Dot.enc A cap l :: L, rfl, S.wd, ?_⟩
   rw [compact_short h2]
   exact ⟨rfl, rfl⟩
 obtain ⟨g, rfl⟩ := S.wd.row_at (k := 0) rfl (by omega)
 refine sg S (.ac rfl <| .z) fun a w S => wp_seq_k fun _ hK1 => sg S (.mv rfl <| .ln underlying33 rfl <| .yy (Yq (by omega) (Yy (.t rfl) Ev.c)) rfl <| .z) fun a w S => Ze S (.t rfl) (wp_skip (Za (hK1 _ _ (wp_seq_k fun _ hK1 => sg S (.ac rfl <| .z) fun a w S => wp_block ?_))))
 refine Xk S (X := Nat) (fun k => [(3, true, .int .i64 (k : Int))]) (fun _ L => L) (fun k => 1 ≤ k ∧ k ≤ l.length ∧ compactL (l.take k) = l.take k) (fun k => l.length - k) 1 ⟨Nat.le_refl _, by omega, compact_one l⟩ ?_
 clear S
 intro k a w ⟨hk1, hk, hno⟩ S
 by_cases hlt : k < l.length
 · obtain ⟨x, hx⟩ : ∃ x, l[k]? = some x := ⟨l[k], by simp⟩
   obtain ⟨y, hy⟩ : ∃ y, l[k - 1]? = some y := ⟨l[k - 1], by simp⟩
   have rw_p : (k : Int) - 1 = ((k - 1 : Nat) : Int) := by omega
   refine wp_seq_k fun _ hK2 => sg S (.mv rfl <| .mv rfl <| .ln underlying33 rfl <| .lt (by omega) rfl rfl <| .z) fun a w S => Zg S (.t rfl) (wp_skip (Za (hK2 _ _ (wp_seq_k fun _ hK2 => wp_block (wp_seq_k fun _ hK3 => Yc S (by kernel_rfl) (by kernel_rfl) fun a S => qrun S (.mv rfl <| .mv rfl <| .ix underlying33 sizeOf74 (by omega) rfl rfl <| .yy (Wu ⟨isAgg74, sizeOf74⟩ (.t rfl) (k := 0) rfl hx (fun _ => rfl)) rfl <| .mv rfl <| .mv rfl <| .yy (Xm (.t rfl) Ev.c (fun _ => by unfold I64; omega)) rfl <| .z) fun a S => ?_)))))
   rw [rw_p] at S
   refine qrun S (.ix underlying33 sizeOf74 (by omega) rfl rfl <| .yy (Wu ⟨isAgg74, sizeOf74⟩ (.t rfl) (k := 0) rfl hy (fun _ => rfl)) rfl <| .yy (Wa (.t rfl) (.t rfl) eq74) rfl <| .z) fun a S => ?_
   (refine Yt ?_; intro w W; replace S := St.mk S W; clear W)
   refine Za (hK3 _ _ ?_)
   refine Xz S (.t rfl) (fun h1 => ?_) (fun h1 => ?_)
   refine sg S (.mv rfl <| .mv rfl <| .yy (Wk underlying33 sizeOf74 (.t rfl) (.t rfl) (fun _ => by omega)) rfl <| .as rfl <| .z) fun a w S => wp_seq_k fun _ hK3 => sg S (.ac rfl <| .z) fun a w S => wp_block ?_
   rotate_left
   refine wp_skip (Zk (Za (hK2 _ _ (wp_region_lit (run S (.mv rfl <| .ad (by unfold I64; omega) rfl <| .as rfl <| .z) fun a w S => Zb (Za ?_))))))
   rotate_left
   · have exy : x = y := (by obtain ⟨a1, a2, a3⟩ := h1; exact (Dot.eq_iff _ _).2 ⟨a1, a2, a3⟩)
     refine Xk S (X := Nat × Nat × List Dot) (fun q => [(5, true, .int .i64 (q.1 : Int)), (3, true, .int .i64 (q.2.1 : Int))]) (fun q _ => rowOf 74 3 Dot.enc (some ⟨g, 0, none⟩) cap q.2.2 :: L) (fun q => 1 ≤ q.1 ∧ k + q.1 ≤ l.length ∧ q.2.1 < k + q.1 ∧ k ≤ q.2.1 ∧ q.2.2.length = l.length ∧ q.2.2.drop (k + q.1 - 1) = l.drop (k + q.1 - 1) ∧ q.2.2.take q.2.1 = compactL (l.take (k + q.1))) (fun q => l.length - q.1) (1, k, l) ⟨Nat.le_refl _, by dsimp only; omega, by dsimp only; omega, Nat.le_refl _, rfl, rfl, by dsimp only; rw [compact_same hx (exy ▸ hy) hk1, hno]⟩ ?_
     clear S
     intro ⟨k2, kk, cur⟩ a w ⟨hk2, hk2l, hkk, hkk0, hcl, hcd, hct⟩ S
     dsimp only at hk2 hk2l hkk hkk0 hcl hcd hct S
     by_cases hlt2 : k + k2 < l.length
     · obtain ⟨u, hu⟩ : ∃ u, cur[k + k2]? = some u := ⟨cur[k + k2], by simp⟩
       obtain ⟨v, hv⟩ : ∃ v, cur[k + k2 - 1]? = some v := ⟨cur[k + k2 - 1], by simp⟩
       have rw_q : (k2 : Int) - 1 = ((k2 - 1 : Nat) : Int) := by omega
       have rw_o1 : 0 + k * 3 + k2 * 3 = 0 + (k + k2) * 3 := by omega
       have rw_o2 : 0 + k * 3 + (k2 - 1) * 3 = 0 + (k + k2 - 1) * 3 := by omega
       have hu' : l[k + k2]? = some u := by
         have := congrArg (·[1]?) hcd
         simp only [List.getElem?_drop] at this
         rw [show k + k2 - 1 + 1 = k + k2 by omega] at this
         rw [← this, hu]
       have hv' : l[k + k2 - 1]? = some v := by
         have := congrArg (·[0]?) hcd
         simp only [List.getElem?_drop, Nat.add_zero] at this
         rw [← this, hv]
       have hcd' : cur.drop (k + k2) = l.drop (k + k2) := by
         have := congrArg (·.drop 1) hcd
         simp only [List.drop_drop] at this
         rwa [show k + k2 - 1 + 1 = k + k2 by omega] at this
       obtain ⟨z, hz⟩ : ∃ z, cur[kk]? = some z := ⟨cur[kk], by simp⟩
       refine wp_seq_k fun _ hK4 => sg S (.mv rfl <| .mv rfl <| .ln underlying33 rfl <| .lt (by omega) rfl rfl <| .z) fun a w S => Zg S (.t rfl) (wp_skip (Za (hK4 _ _ (wp_seq_k fun _ hK4 => wp_block (wp_seq_k fun _ hK5 => Yc S (by kernel_rfl) (by kernel_rfl) fun a S => qrun S (.mv rfl <| .mv rfl <| .ix underlying33 sizeOf74 (by omega) rfl rfl <| .z) fun a S => ?_)))))
       rw [rw_o1] at S
       refine qrun S (.yy (Wu ⟨isAgg74, sizeOf74⟩ (.t rfl) (k := 0) rfl hu (fun _ => rfl)) rfl <| .mv rfl <| .mv rfl <| .yy (Xm (.t rfl) Ev.c (fun _ => by unfold I64; omega)) rfl <| .z) fun a S => ?_
       rw [rw_q] at S
       refine qrun S (.ix underlying33 sizeOf74 (by omega) rfl rfl <| .z) fun a S => ?_
       rw [rw_o2] at S
       refine qrun S (.yy (Wu ⟨isAgg74, sizeOf74⟩ (.t rfl) (k := 0) rfl hv (fun _ => rfl)) rfl <| .yy (Vm (.t rfl) (.t rfl) eq74) rfl <| .z) fun a S => ?_
       (refine Yt ?_; intro w W; replace S := St.mk S W; clear W)
       refine Za (hK5 _ _ ?_)
       refine Xi S (.t rfl) (fun h3 => ?_) (fun h3 => ?_)
       refine wp_seq_k fun _ hK5 => wp_region_lit (run S (.mv rfl <| .mv rfl <| .mv rfl <| .mv rfl <| .ix underlying33 sizeOf74 (by omega) rfl rfl <| .z) fun a w S => ?_)
       rw [rw_o1] at S
       refine run S (.yy (Wu ⟨isAgg74, sizeOf74⟩ (.t rfl) (k := 0) rfl hu (fun _ => rfl)) rfl <| .ix underlying33 sizeOf74 (by omega) rfl rfl <| .z) fun a w S => ?_
       rotate_left
       refine wp_skip (Zk (Za (hK4 _ _ (wp_region_lit (run S (.mv rfl <| .ad (by unfold I64; omega) rfl <| .as rfl <| .z) fun a w S => Zb (Za ?_))))))
       rotate_left
       · have huv : ¬ v = u := (fun e => by have h4 := h3; simp only [Bool.not_eq_true', decide_eq_false_iff_not] at h4; exact h4 ((Dot.eq_iff _ _).1 e.symm))
         refine Zj (op_stRow (enc := Dot.enc) (size := 3) (i := kk) (l := cur) (yn := u) S (fun _ => rfl) rfl sizeOf74 (.t rfl) (.t rfl) rfl (by simp [Dot.enc, Value.oneCell']) (k := 0) rfl hz (Nat.zero_add _) ?_)
         clear S
         intro a w S
         refine Zb (Za (hK5 _ _ (wp_region_lit (run S (.mv rfl <| .ad (by unfold I64; omega) rfl <| .as rfl <| .z) fun a w S => Zb (Zk (Za (hK4 _ _ (wp_region_lit (run S (.mv rfl <| .ad (by unfold I64; omega) rfl <| .as rfl <| .z) fun a w S => Zb (Za ?_))))))))))
         refine ⟨(k2 + 1, kk + 1, cur.set kk u), ⟨by dsimp only; omega, by dsimp only; omega, by dsimp only; omega, by dsimp only; omega, by simpa using hcl, ?_, ?_⟩, by dsimp only; omega, S.wk⟩
         · dsimp only
           rw [show k + (k2 + 1) - 1 = k + k2 by omega, List.drop_set, if_pos (by omega), hcd']
         · dsimp only
           rw [show k + (k2 + 1) = k + k2 + 1 by omega, compact_take hu' hv' (by omega), if_neg huv, ← hct, List.take_add_one, List.take_set, List.set_eq_of_length_le (by simp; omega)]
           simp [show kk < cur.length by omega]
       · have huv : u = v := ((Dot.eq_iff _ _).2 (by have h4 := h3; simp only [Bool.not_eq_false', decide_eq_true_eq] at h4; exact h4))
         refine ⟨(k2 + 1, kk, cur), ⟨by dsimp only; omega, by dsimp only; omega, by dsimp only; omega, by dsimp only; omega, hcl, ?_, ?_⟩, by dsimp only; omega, S.wk⟩
         · dsimp only
           rw [show k + (k2 + 1) - 1 = k + k2 by omega, hcd']
         · dsimp only
           rw [show k + (k2 + 1) = k + k2 + 1 by omega, compact_same hu' (huv ▸ hv') (by omega), hct]
     · refine wp_seq_k fun _ hK4 => sg S (.mv rfl <| .mv rfl <| .ln underlying33 rfl <| .ge (by omega) rfl rfl <| .z) fun a w S => Ze S (.t rfl) (wp_exit (Zh (Zh (Ya (Za (hK3 _ _ (wp_seq_k fun _ hK3 => wp_region_lit (run S (.mv rfl <| .mv rfl <| .yy (Wk underlying33 sizeOf74 (.t rfl) (.t rfl) (fun _ => by omega)) rfl <| .z) fun a w S => Zj (op_clear (enc := Dot.enc) (size := 3) (m := kk) (l := cur) S (fun _ => rfl) rfl underlying33 inf74 rfl (by simp [Value.cells, Value.oneCell']) (.t rfl) (k := 0) rfl (by omega) (by omega) ?_)))))))))
       clear S
       intro a w S
       refine Zb (Za (hK3 _ _ (sg S (.mv rfl <| .mv rfl <| .yy (Va underlying33 sizeOf74 (.t rfl) (.t rfl) (fun _ => by first | omega | (simp; done) | (simp; omega))) rfl <| .as rfl <| .z) fun a w S => wp_ret (Zr (Zd (Zd (Zr (Zd (Zm S (results1 S results166 (Rv.tmp rfl)) ?_)))))))))
       have hend : k + k2 = l.length := by omega
       rw [hend, List.take_length] at hct
       refine ⟨_, rowOf 74 3 Dot.enc (some ⟨g, 0, none⟩) cap (cur.take kk) :: L, rfl, S.wd, ?_, by rw [hct]⟩
       rw [← hct]
       simp
       omega
   · refine ⟨k + 1, ⟨by omega, by omega, ?_⟩, by omega, S.wk⟩
     have exy : ¬ y = x := (fun e => h1 ((Dot.eq_iff _ _).1 e.symm))
     rw [compact_take hx hy hk1, if_neg exy, hno, List.take_add_one, hx]; rfl
 · refine wp_seq_k fun _ hK2 => sg S (.mv rfl <| .mv rfl <| .ln underlying33 rfl <| .ge (by omega) rfl rfl <| .z) fun a w S => Ze S (.t rfl) (wp_exit (Zh (Zh (Ya (Za (hK1 _ _ (sg S (.mv rfl <| .as rfl <| .z) fun a w S => wp_ret (Zm S (results1 S results166 (Rv.tmp rfl)) ?_))))))))
   have hend : k = l.length := by omega
   subst hend
   rw [List.take_length] at hno
   refine ⟨_, rowOf 74 3 Dot.enc (some ⟨g, 0, none⟩) cap l :: L, rfl, S.wd, ?_⟩
   rw [hno]
   exact ⟨rfl, rfl⟩
end Go.Proofs.YtakpdbmdfnialaaGreat
namespace Go.Proofs.YtakpdbmdfnialaaGreat
open Go.Fw Go.Proofs Go.RowKit Go.Proofs.Tryz
theorem may_bd {d : Dot} (h : mayD d = true) : (0 ≤ d.node ∧ d.node ≤ 1099511627776) ∧ (0 ≤ d.life ∧ d.life ≤ 1099511627776) ∧ 0 ≤ d.count ∧ d.count ≤ 1099511627776 := by
 simp only [mayD, decide_eq_true_eq] at h
 omega
theorem c205 (w0 : World) (x y z x' y' z' : Int) (h : (0 ≤ x ∧ x ≤ 1099511627776) ∧ (0 ≤ y ∧ y ≤ 1099511627776) ∧ 0 ≤ z ∧ z ≤ 1099511627776) (h' : (0 ≤ x' ∧ x' ≤ 1099511627776) ∧ (0 ≤ y' ∧ y' ≤ 1099511627776) ∧ 0 ≤ z' ∧ z' ≤ 1099511627776) :
   Calls Tryz.prog 205 #[.agg #[.int .i64 x, .int .i64 y, .int .i64 z], .agg #[.int .i64 x', .int .i64 y', .int .i64 z']] w0 fun e w' => e = .returned (.int .i64 (orderD (⟨x, y, z⟩ : Dot).nl (⟨x', y', z'⟩ : Dot).nl)) ∧ Bel w0.heap.size w0 w' := by
 refine enter2 func205 rfl ntmps205 rfl fun a S => wp_seq_k fun _ hK1 => wp_region_lit (Zj (Zw S (.t rfl) rfl fun g1 a w S => Zj (Zw S (.t rfl) rfl fun g2 a w S => run S (.ac rfl <| .z) fun a w S => Zb (Za (hK1 _ _ (sg S (.fa underlying30 sizeOf3 0 rfl rfl rfl <| .ld gt3 1 rfl rfl rfl <| .fa underlying30 sizeOf3 1 rfl rfl rfl <| .ld gt3 1 rfl rfl rfl <| .yy (Xd (ps := [(0, Go.Operand.tmp 6), (1, Go.Operand.tmp 8)]) (us := [_, _, _]) bld74 (.cons (.t rfl) (.cons (.t rfl) .nil)) rfl) rfl <| .fa underlying74 sizeOf3 0 rfl rfl rfl <| .ld gt3 0 rfl rfl rfl <| .fa underlying74 sizeOf3 1 rfl rfl rfl <| .ld gt3 0 rfl rfl rfl <| .yy (Xd (ps := [(0, Go.Operand.tmp 11), (1, Go.Operand.tmp 13)]) (us := [_, _, _]) bld74 (.cons (.t rfl) (.cons (.t rfl) .nil)) rfl) rfl <| .xx (Zf call165 (.cons (.t rfl) (.cons (.t rfl) .nil)) (fun hp w W => c165 _ _ _ _ _ _ _ (by omega) (by omega))) rfl <| .as rfl <| .z) fun a w S => wp_ret (Zm S (results1 S results205 (Rv.tmp rfl)) ?_)))))))
 exact ⟨rfl, S.wd.below⟩
instance (a b : Dot) : Decidable (ltM a b) := inferInstanceAs (Decidable (_ ∨ _))
def posM (l : List Dot) (d : Dot) : Nat := (l.takeWhile fun m => decide (ltM m d)).length
theorem posM_le (l : List Dot) (d : Dot) : posM l d ≤ l.length := (List.takeWhile_sublist _).length_le
theorem posM_lt {d : Dot} : ∀ {l : List Dot}, l.Pairwise ltM → ∀ (k : Nat) (m : Dot), l[k]? = some m → (ltM m d ↔ k < posM l d)
 | [], _, k, m, h => by simp at h
 | x :: r, hp, k, m, h => by
   rw [List.pairwise_cons] at hp
   unfold posM
   rw [List.takeWhile_cons]
   cases k with
   | zero =>
     simp at h
     subst h
     by_cases hx : ltM x d
     · simp [hx]
     · simp [hx]
   | succ k =>
     simp at h
     have hm := List.mem_of_getElem? h
     have ih := posM_lt (d := d) hp.2 k m h
     have hxm := hp.1 m hm
     by_cases hx : ltM x d
     · simp only [hx, decide_true, if_true, List.length_cons]
       rw [ih]; unfold posM; omega
     · simp only [hx, decide_false]
       have : ¬ ltM m d := fun h => hx (ltM_trans hxm h)
       simp [this]
def hasM (l : List Dot) (d : Dot) : Bool := match l[posM l d]? with
 | some m => decide (m.node = d.node ∧ m.life = d.life)
 | none => false
theorem order_nl {a b : Dot} : orderD a.nl b.nl = 0 ↔ a.node = b.node ∧ a.life = b.life := by
 simp only [orderD, Dot.nl]
 split
 · omega
 · split
   · omega
   · simp; omega
theorem c204 (w0 : World) (v1 : Value) (l : List Dot) (x y z : Int) (h : Sl Dot.enc 3 w0 w0.heap.size v1 l) (hl : l.Pairwise ltM) (hm : ∀ m ∈ l, mayD m = true) (hd : mayD ⟨x, y, z⟩ = true) (hn : l.length ≤ 4194304) :
   Calls Tryz.prog 204 #[v1, .agg #[.int .i64 x, .int .i64 y, .int .i64 z], .func (.func 205) #[] #[]] w0 fun e w' => e = .returned (.tuple #[.int .i64 (posM l ⟨x, y, z⟩ : Nat), .bool (hasM l ⟨x, y, z⟩)]) ∧ Bel w0.heap.size w0 w' := by
 obtain ⟨A, cap, rfl, hl0, hcap, hA⟩ := h
 have hd2 := may_bd hd
 dsimp only at hd2
 have hpl := posM_le l ⟨x, y, z⟩
 refine enter3 func204 rfl ntmps204 rfl fun a S => wp_seq_k fun _ hK1 => wp_region_lit (Zj (Zw S (.t rfl) rfl fun g1 a w S => run S (.ac rfl <| .ac rfl <| .z) fun a w S => Zb (Za (hK1 _ _ (sg S (.mv rfl <| .ln underlying32 rfl <| .as rfl <| .z) fun a w S => sg S (.mv rfl <| .ac rfl <| .as rfl <| .z) fun a w S => wp_seq_k fun _ hK1 => wp_block ?_)))))
 refine Xk S (X := Nat × Nat) (fun q => [(9, true, .int .i64 (q.1 : Int)), (10, true, .int .i64 (q.2 : Int))]) (fun _ L => L) (fun q => q.1 ≤ posM l ⟨x, y, z⟩ ∧ posM l ⟨x, y, z⟩ ≤ q.2 ∧ q.2 ≤ l.length) (fun q => q.2 - q.1) (0, l.length) ⟨Nat.zero_le _, hpl, Nat.le_refl _⟩ ?_
 clear S
 intro ⟨i, j⟩ a w ⟨hi, hj, hjl⟩ S
 dsimp only at hi hj hjl S
 by_cases hlt : i < j
 · have hlt2 : (i + j) / 2 < l.length := by omega
   obtain ⟨g, o, m, rfl, hmm, hd', hc⟩ := Yg hA hlt2
   have hmb := may_bd (hm m (List.mem_of_getElem? hmm))
   have hpos := posM_lt (d := ⟨x, y, z⟩) hl _ m hmm
   rw [← orderM_iff] at hpos
   clear hA
   have rw_eta : (⟨m.node, m.life, m.count⟩ : Dot) = m := rfl
   have rw_h : ((i : Int) + j) / 2 = (((i + j) / 2 : Nat) : Int) := by omega
   refine wp_seq_k fun _ hK2 => sg S (.mv rfl <| .mv rfl <| .lt (by omega) rfl rfl <| .z) fun a w S => Zg S (.t rfl) (wp_skip (Za (hK2 _ _ (wp_block (wp_seq_k fun _ hK2 => wp_region_lit (run S (.mv rfl <| .mv rfl <| .yy (Xu (.t rfl) (.t rfl) (fun _ => by unfold I64; omega)) rfl <| .yy (ys_cvU underlying3 underlying61 (.t rfl) (fun _ => by omega)) rfl <| .yy (ys_shrC (m := 1) (c := 2) (.t rfl) Ev.c rfl rfl) rfl <| .z) fun a w S => ?_))))))
   rw [rw_h] at S
   refine run S (.yy (ys_cvI underlying61 underlying3 (.t rfl) (fun _ => by unfold I64; omega)) rfl <| .as rfl <| .z) fun a w S => Zb (Za (hK2 _ _ (wp_seq_k fun _ hK2 => Yc S (by kernel_rfl) (by kernel_rfl) fun a S => qrun S (.mv rfl <| .mv rfl <| .mv rfl <| .ix underlying32 sizeOf30 (by omega) rfl rfl <| .yy (Zp ⟨isAgg30, sizeOf30⟩ (.t rfl) (vs := [_, _, _]) rfl (fun _ => hc)) rfl <| .la gt74 0 rfl rfl rfl <| .xx (ys_callV (.t rfl) call205 (.cons (.t rfl) (.cons (.t rfl) .nil)) (fun hp w W => c205 _ _ _ _ _ _ _ (by assumption) (by assumption))) rfl <| .z) fun a S => ?_)))
   rw [rw_eta] at S
   refine qrun S (.yy (Yy (.t rfl) Ev.c) rfl <| .z) fun a S => ?_
   (refine Yt ?_; intro w W; replace S := St.mk S W; clear W)
   refine Za (hK2 _ _ ?_)
   refine Xz S (.t rfl) (fun h1 => ?_) (fun h1 => ?_)
   refine wp_region_lit (run S (.mv rfl <| .ad (by unfold I64; omega) rfl <| .as rfl <| .z) fun a w S => Zb (Zk (Za ?_)))
   rotate_left
   refine wp_region_lit (run S (.mv rfl <| .as rfl <| .z) fun a w S => Zb (Zk (Za ?_)))
   rotate_left
   · exact ⟨((i + j) / 2 + 1, j), ⟨by dsimp only; omega, hj, hjl⟩, by dsimp only; omega, S.wk⟩
   · exact ⟨(i, (i + j) / 2), ⟨hi, by dsimp only; omega, by dsimp only; omega⟩, by dsimp only; omega, S.wk⟩
 · obtain rfl : i = posM l ⟨x, y, z⟩ := by omega
   by_cases hin : posM l ⟨x, y, z⟩ < l.length
   · obtain ⟨g, o, m, rfl, hmm, hd', hc⟩ := Yg hA hin
     have hmb := may_bd (hm m (List.mem_of_getElem? hmm))
     have hze := order_nl (a := m) (b := ⟨x, y, z⟩)
     clear hA
     refine wp_seq_k fun _ hK2 => sg S (.mv rfl <| .mv rfl <| .ge (by omega) rfl rfl <| .z) fun a w S => Ze S (.t rfl) (wp_exit (Zh (Zh (Ya (Za (hK1 _ _ (wp_seq_k fun _ hK1 => Yc S (by kernel_rfl) (by kernel_rfl) fun a S => qrun S (.mv rfl <| .mv rfl <| .mv rfl <| .lt (by omega) rfl rfl <| .mv rfl <| .gy rfl rfl (Zi (.t rfl)) <| .gy rfl rfl (Zi (.t rfl)) <| .gy rfl rfl (Zi (.t rfl)) <| .gy rfl rfl (Ym underlying32 sizeOf30 (.t rfl) (.t rfl) (fun _ => by omega)) <| .gy rfl rfl (Zp ⟨isAgg30, sizeOf30⟩ (.t rfl) (vs := [_, _, _]) rfl (fun _ => hc)) <| .gy rfl rfl (Zz ⟨isAgg74, sizeOf74⟩ (.t rfl) (k := 0) rfl rfl) <| .gx rfl rfl (ys_callV (.t rfl) call205 (.cons (.t rfl) (.cons (.t rfl) .nil)) (fun hp w W => c205 _ _ _ _ _ _ _ (by assumption) (by assumption))) <| .gy rfl rfl (Ye (.t rfl) Ev.c) <| .yy (Zv (.t rfl) (.t rfl)) rfl <| .as rfl <| .as rfl <| .z) fun a S => ?_)))))))
     (refine Yt ?_; intro w W; replace S := St.mk S W; clear W)
     refine Za (hK1 _ _ (wp_ret (Zm S (results2 S results204 (Rv.tmp rfl) (Rv.tmp rfl)) ?_)))
     refine ⟨?_, S.wd.below⟩
     have e : hasM l ⟨x, y, z⟩ = decide (orderD m.nl (⟨x, y, z⟩ : Dot).nl = 0) := by
       unfold hasM
       simp only [hmm]
       exact decide_eq_decide.2 hze.symm
     rw [e]
   · refine wp_seq_k fun _ hK2 => sg S (.mv rfl <| .mv rfl <| .ge (by omega) rfl rfl <| .z) fun a w S => Ze S (.t rfl) (wp_exit (Zh (Zh (Ya (Za (hK1 _ _ (wp_seq_k fun _ hK1 => Yc S (by kernel_rfl) (by kernel_rfl) fun a S => qrun S (.mv rfl <| .mv rfl <| .mv rfl <| .ge (by omega) rfl rfl <| .mv rfl <| .sk rfl rfl rfl <| .sk rfl rfl rfl <| .sk rfl rfl rfl <| .sk rfl rfl rfl <| .sk rfl rfl rfl <| .sk rfl rfl rfl <| .sk rfl rfl rfl <| .sk rfl rfl rfl <| .yy (Zu (.t rfl) Ev.c) rfl <| .as rfl <| .as rfl <| .z) fun a S => ?_)))))))
     (refine Yt ?_; intro w W; replace S := St.mk S W; clear W)
     refine Za (hK1 _ _ (wp_ret (Zm S (results2 S results204 (Rv.tmp rfl) (Rv.tmp rfl)) ?_)))
     refine ⟨?_, S.wd.below⟩
     have e : hasM l ⟨x, y, z⟩ = false := by
       unfold hasM
       rw [List.getElem?_eq_none (by omega)]
     rw [e]
theorem setL_at {d : Dot} : ∀ {l : List Dot}, l.Pairwise ltM → setL d false l = match l[posM l d]? with
     | some m => if m.node = d.node ∧ m.life = d.life then l.set (posM l d) ⟨m.node, m.life, max m.count d.count⟩ else l.take (posM l d) ++ d :: l.drop (posM l d)
     | none => l.take (posM l d) ++ d :: l.drop (posM l d)
 | [], _ => by simp [setL, posM]
 | x :: r, hp => by
   rw [List.pairwise_cons] at hp
   have ih := setL_at (d := d) hp.2
   by_cases hx : ltM x d
   · have e : posM (x :: r) d = posM r d + 1 := by simp [posM, List.takeWhile_cons, hx]
     have h1 : ¬ (x.node = d.node ∧ x.life = d.life) := by unfold ltM at hx; omega
     have h2 : ¬ (!false && belowD ⟨d.node, d.life, 0⟩ ⟨x.node, x.life, 0⟩) = true := by
       rw [Bool.not_false, Bool.true_and, Xr]
       unfold ltC
       unfold ltM at hx
       dsimp only
       omega
     rw [setL, if_neg h1, if_neg h2, ih, e]
     simp only [List.getElem?_cons_succ]
     split
     · split <;> simp
     · simp
   · have e : posM (x :: r) d = 0 := by simp [posM, List.takeWhile_cons, hx]
     rw [e, setL]
     simp only [List.getElem?_cons_zero]
     split
     · rename_i h1
       rw [Vd fun q hq => ?_]
       · simp
       · have := hp.1 q hq
         unfold ltM at this ⊢
         omega
     · rename_i h1
       have h2 : (!false && belowD ⟨d.node, d.life, 0⟩ ⟨x.node, x.life, 0⟩) = true := by
         rw [Bool.not_false, Bool.true_and, Xr]
         unfold ltC
         unfold ltM at hx
         dsimp only
         omega
       rw [if_pos h2, Vd fun q hq => ?_]
       · simp
       · have := hp.1 q hq
         unfold ltM at this hx ⊢
         omega
set_option maxHeartbeats 1000000 in
theorem c167 {w0 w : World} {L : List Chunk} {A A' : Option Addr} {cap cap' : Nat} {C : Ctx} {x y z : Int}
   (W : Wd w0 (rowOf 30 3 Dot.enc A cap C.marks :: rowOf 74 3 Dot.enc A' cap' C.cloud :: L) w) (hM : C.marks.Pairwise ltM) (hm : ∀ m ∈ C.marks, mayD m = true) (hd : mayD ⟨x, y, z⟩ = true) (hn : C.marks.length ≤ 4194304) (hn' : C.cloud.length ≤ 4194304) :
   RetsO Tryz.prog 167 #[.agg #[.slice A C.marks.length cap, .slice A' C.cloud.length cap'], .agg #[.int .i64 x, .int .i64 y, .int .i64 z]] w0 w fun v L' => ∃ A1 c1 A2 c2, v = .agg #[.slice A1 (growC C ⟨x, y, z⟩).marks.length c1, .slice A2 (growC C ⟨x, y, z⟩).cloud.length c2] ∧
     L' = rowOf 30 3 Dot.enc A1 c1 (growC C ⟨x, y, z⟩).marks :: rowOf 74 3 Dot.enc A2 c2 (growC C ⟨x, y, z⟩).cloud :: L := by
 have hd2 := may_bd hd
 dsimp only at hd2
 have hmk := Wf (x := x) (y := y) hm
 have hpl := posM_le C.marks ⟨x, y, z⟩
 unfold RetsO
 refine enterW2 W func167 rfl ntmps167 rfl fun a S => ?_
 unfold growC
 dsimp only
 by_cases h1 : z ≤ markOf C.marks x y
 · rw [if_pos h1]
   refine wp_seq_k fun _ hK1 => wp_region_lit (Zj (Zw S (.t rfl) rfl fun g1 a w S => Zj (Zw S (.t rfl) rfl fun g2 a w S => Zj (Zn S zeroValue35 (cs := _) rfl rfl fun g3 a w S => Zb (Za (hK1 _ _ (wp_seq_k fun _ hK1 => Yc S (by kernel_rfl) (by kernel_rfl) fun a S => qrun S (.la gt35 2 rfl rfl rfl <| .la gt74 1 rfl rfl rfl <| .xx (Zf call141 (.cons (.t rfl) .nil) (fun hp w W => c141 _ _ _ _)) rfl <| .xx (Zf call140 (.cons (.t rfl) (.cons (.t rfl) .nil)) (fun hp w W => c140 _ _ _ _ _ _ (by exact Sl.of_own W (k := 3) rfl (fun _ => rfl)))) rfl <| .as rfl <| .z) fun a S => ?_)))))))
   (refine Yt ?_; intro w W; replace S := St.mk S W; clear W)
   refine Za (hK1 _ _ (wp_seq_k fun _ hK1 => wp_block (sg S (.fa underlying74 sizeOf3 2 rfl rfl rfl <| .ld gt3 1 rfl rfl rfl <| .mv rfl <| .yy (Yu (by omega) (Xg (.t rfl) (.t rfl))) rfl <| .as rfl <| .z) fun a w S => Zg S (.t rfl) (wp_seq_k fun _ hK2 => wp_region_lit (run S (.la gt35 2 rfl rfl rfl <| .z) fun a w S => Zj (Zq S sizeOf35 (.t rfl) (.t rfl) (k := 0) rfl rfl rfl (by simp [Value.oneCell']) fun a w S => Zb (Za (hK2 _ _ (wp_ret (Zr (Zd (Zm S (results1 S results167 (Rv.cell (k := 0) ⟨isAgg35, sizeOf35⟩ rfl rfl rfl)) ?_))))))))))))
   exact ⟨_, rowOf 30 3 Dot.enc A cap C.marks :: rowOf 74 3 Dot.enc A' cap' C.cloud :: L, rfl, S.wd.sub (by repeat (first | exact List.Sublist.refl _ | exact List.nil_sublist _ | refine .cons_cons _ ?_ | refine .cons _ ?_)), A, cap, A', cap', rfl, rfl⟩
 rw [if_neg h1]
 by_cases h2 : markOf C.marks x y + 1 < z
 · rw [if_pos h2]
   refine wp_seq_k fun _ hK1 => wp_region_lit (Zj (Zw S (.t rfl) rfl fun g1 a w S => Zj (Zw S (.t rfl) rfl fun g2 a w S => Zj (Zn S zeroValue35 (cs := _) rfl rfl fun g3 a w S => Zb (Za (hK1 _ _ (wp_seq_k fun _ hK1 => Yc S (by kernel_rfl) (by kernel_rfl) fun a S => qrun S (.la gt35 2 rfl rfl rfl <| .la gt74 1 rfl rfl rfl <| .xx (Zf call141 (.cons (.t rfl) .nil) (fun hp w W => c141 _ _ _ _)) rfl <| .xx (Zf call140 (.cons (.t rfl) (.cons (.t rfl) .nil)) (fun hp w W => c140 _ _ _ _ _ _ (by exact Sl.of_own W (k := 3) rfl (fun _ => rfl)))) rfl <| .as rfl <| .z) fun a S => ?_)))))))
   (refine Yt ?_; intro w W; replace S := St.mk S W; clear W)
   refine Za (hK1 _ _ (wp_seq_k fun _ hK1 => wp_block (sg S (.fa underlying74 sizeOf3 2 rfl rfl rfl <| .ld gt3 1 rfl rfl rfl <| .mv rfl <| .yy (Yq (by omega) (Xg (.t rfl) (.t rfl))) rfl <| .as rfl <| .z) fun a w S => Ze S (.t rfl) (sg S (.fa underlying74 sizeOf3 2 rfl rfl rfl <| .ld gt3 1 rfl rfl rfl <| .mv rfl <| .ad (by unfold I64; omega) rfl <| .yy (Yu (by omega) (Yn (.t rfl) (.t rfl))) rfl <| .as rfl <| .z) fun a w S => Zg S (.t rfl) (wp_seq_k fun _ hK2 => wp_region_lit (run S (.fa underlying35 sizeOf33 1 rfl rfl rfl <| .ld gt33 2 rfl rfl rfl <| .la gt74 1 rfl rfl rfl <| .z) fun a w S => Zj (Yf S underlying33 inf74 rfl rfl rfl (.t rfl) rfl rfl rfl fun g4 a w S => Zj (Yw S underlying33 inf74 rfl (k := 5) (j := 0) rfl (.t rfl) (.t rfl) rfl Go.Fw.Dot.mkEnc rfl rfl (by first | omega | (simp only [List.length_append, List.length_cons, List.length_nil]; omega)) rfl rfl rfl fun A1 cap1 a w S => run S (.fa underlying35 sizeOf33 1 rfl rfl rfl <| .z) fun a w S => Zj (op_st S sizeOf33 (.t rfl) (.t rfl) (k := 3) rfl rfl (by simp) fun a w S => Zb (Za (hK2 _ _ (wp_seq_k fun _ hK2 => wp_region_lit (run S (.la gt35 3 rfl rfl rfl <| .z) fun a w S => ?_)))))))))))))
   refine Zj (Zq S sizeOf35 (.t rfl) (.t rfl) (k := 1) rfl rfl rfl (by simp [Value.oneCell']) fun a w S => Zb (Za (hK2 _ _ (wp_ret (Zr (Zd (Zm S (results1 S results167 (Rv.cell (k := 1) ⟨isAgg35, sizeOf35⟩ rfl rfl rfl)) ?_)))))))
   exact ⟨_, rowOf 30 3 Dot.enc A cap C.marks :: rowOf 74 3 Dot.enc A1 cap1 (C.cloud ++ [⟨x, y, z⟩]) :: L, rfl, S.wd.sub (by repeat (first | exact List.Sublist.refl _ | exact List.nil_sublist _ | refine .cons_cons _ ?_ | refine .cons _ ?_)), A, cap, A1, cap1, rfl, rfl⟩
 rw [if_neg h2]
 have hat := setL_at (d := ⟨x, y, z⟩) hM
 by_cases hh : hasM C.marks ⟨x, y, z⟩ = true
 · obtain ⟨m, hmm, hmx, hmy⟩ : ∃ m, C.marks[posM C.marks ⟨x, y, z⟩]? = some m ∧ m.node = x ∧ m.life = y := by
     unfold hasM at hh
     split at hh
     · rename_i m hmm
       exact ⟨m, hmm, by simpa using hh⟩
     · cases hh
   have hlt : posM C.marks ⟨x, y, z⟩ < C.marks.length := (List.getElem?_eq_some_iff.1 hmm).1
   obtain ⟨ga, rfl⟩ := W.row_at (k := 0) rfl (by have := (W.room (k := 0) rfl).1; omega)
   have rw_h : hasM C.marks ⟨x, y, z⟩ = true := hh
   have hmc := Vg hM (List.mem_of_getElem? hmm)
   rw [hmx, hmy] at hmc
   have e : setL ⟨x, y, z⟩ false C.marks = C.marks.set (posM C.marks ⟨x, y, z⟩) ⟨m.node, m.life, z⟩ := by
     rw [hat, hmm]
     simp only
     rw [if_pos ⟨hmx, hmy⟩, show max m.count z = z by omega]
   rw [e]
   refine wp_seq_k fun _ hK1 => wp_region_lit (Zj (Zw S (.t rfl) rfl fun g1 a w S => Zj (Zw S (.t rfl) rfl fun g2 a w S => Zj (Zn S zeroValue35 (cs := _) rfl rfl fun g3 a w S => Zb (Za (hK1 _ _ (wp_seq_k fun _ hK1 => Yc S (by kernel_rfl) (by kernel_rfl) fun a S => qrun S (.la gt35 2 rfl rfl rfl <| .la gt74 1 rfl rfl rfl <| .xx (Zf call141 (.cons (.t rfl) .nil) (fun hp w W => c141 _ _ _ _)) rfl <| .xx (Zf call140 (.cons (.t rfl) (.cons (.t rfl) .nil)) (fun hp w W => c140 _ _ _ _ _ _ (by exact Sl.of_own W (k := 3) rfl (fun _ => rfl)))) rfl <| .as rfl <| .z) fun a S => ?_)))))))
   (refine Yt ?_; intro w W; replace S := St.mk S W; clear W)
   refine Za (hK1 _ _ (wp_seq_k fun _ hK1 => wp_block (sg S (.fa underlying74 sizeOf3 2 rfl rfl rfl <| .ld gt3 1 rfl rfl rfl <| .mv rfl <| .yy (Yq (by omega) (Xg (.t rfl) (.t rfl))) rfl <| .as rfl <| .z) fun a w S => Ze S (.t rfl) (sg S (.fa underlying74 sizeOf3 2 rfl rfl rfl <| .ld gt3 1 rfl rfl rfl <| .mv rfl <| .ad (by unfold I64; omega) rfl <| .yy (Yq (by omega) (Yn (.t rfl) (.t rfl))) rfl <| .as rfl <| .z) fun a w S => Ze S (.t rfl) (wp_skip (Zk (Za (hK1 _ _ (wp_seq_k fun _ hK1 => wp_region_lit (run S (.fa underlying35 sizeOf32 0 rfl rfl rfl <| .ld gt32 2 rfl rfl rfl <| .la gt74 1 rfl rfl rfl <| .xx (Zf call204 (.cons (.t rfl) (.cons (.t rfl) (.cons Ev.f .nil))) (fun hp w W => c204 _ _ _ _ _ _ (by exact Sl.of_own W (k := 3) rfl (fun _ => rfl)) (by assumption) (by assumption) (by assumption) (by assumption))) rfl <| .z) fun a w S => ?_))))))))))
   rw [rw_h] at S
   refine run S (.mv rfl <| .ex rfl rfl <| .ex rfl rfl <| .as rfl <| .as rfl <| .z) fun a w S => Zb (Za (hK1 _ _ (wp_seq_k fun _ hK1 => sg S (.mv rfl <| .z) fun a w S => Zg S (.t rfl) (wp_region_lit (run S (.fa underlying35 sizeOf32 0 rfl rfl rfl <| .ld gt32 2 rfl rfl rfl <| .mv rfl <| .fa underlying74 sizeOf3 2 rfl rfl rfl <| .ld gt3 1 rfl rfl rfl <| .ix underlying32 sizeOf30 (by omega) rfl rfl <| .yy (Zy (FieldT.mk underlying30 rfl sizeOf3 rfl) (.t rfl)) rfl <| .z) fun a w S => Zj (op_stFld (enc := Dot.enc) (size := 3) (i := posM C.marks ⟨x, y, z⟩) (j := 2) ⟨m.node, m.life, z⟩ S (fun _ => rfl) sizeOf3 (.t rfl) (.t rfl) rfl (k := 3) rfl hmm (by omega) rfl rfl ?_))))))
   clear S
   intro a w S
   refine Zb (Za (hK1 _ _ (wp_seq_k fun _ hK1 => wp_region_lit (run S (.la gt35 2 rfl rfl rfl <| .z) fun a w S => Zj (Zq S sizeOf35 (.t rfl) (.t rfl) (k := 0) rfl rfl rfl (by simp [Value.oneCell']) fun a w S => Zb (Za (hK1 _ _ (wp_ret (Zm S (results1 S results167 (Rv.cell (k := 0) ⟨isAgg35, sizeOf35⟩ rfl rfl rfl)) ?_)))))))))
   refine ⟨_, rowOf 30 3 Dot.enc (some ⟨ga, 0, none⟩) cap (C.marks.set (posM C.marks ⟨x, y, z⟩) ⟨m.node, m.life, z⟩) :: rowOf 74 3 Dot.enc A' cap' C.cloud :: L, rfl, S.wd.sub (by repeat (first | exact List.Sublist.refl _ | exact List.nil_sublist _ | refine .cons_cons _ ?_ | refine .cons _ ?_)), some ⟨ga, 0, none⟩, cap, A', cap', ?_, rfl⟩
   simp
 · have rw_h : hasM C.marks ⟨x, y, z⟩ = false := by simpa using hh
   have e : setL ⟨x, y, z⟩ false C.marks = C.marks.take (posM C.marks ⟨x, y, z⟩) ++ ⟨x, y, z⟩ :: C.marks.drop (posM C.marks ⟨x, y, z⟩) := by
     rw [hat]
     unfold hasM at rw_h
     split
     · rename_i m hmm
       rw [hmm] at rw_h
       rw [if_neg (by simpa using rw_h)]
     · rfl
   rw [e]
   refine wp_seq_k fun _ hK1 => wp_region_lit (Zj (Zw S (.t rfl) rfl fun g1 a w S => Zj (Zw S (.t rfl) rfl fun g2 a w S => Zj (Zn S zeroValue35 (cs := _) rfl rfl fun g3 a w S => Zb (Za (hK1 _ _ (wp_seq_k fun _ hK1 => Yc S (by kernel_rfl) (by kernel_rfl) fun a S => qrun S (.la gt35 2 rfl rfl rfl <| .la gt74 1 rfl rfl rfl <| .xx (Zf call141 (.cons (.t rfl) .nil) (fun hp w W => c141 _ _ _ _)) rfl <| .xx (Zf call140 (.cons (.t rfl) (.cons (.t rfl) .nil)) (fun hp w W => c140 _ _ _ _ _ _ (by exact Sl.of_own W (k := 3) rfl (fun _ => rfl)))) rfl <| .as rfl <| .z) fun a S => ?_)))))))
   (refine Yt ?_; intro w W; replace S := St.mk S W; clear W)
   refine Za (hK1 _ _ (wp_seq_k fun _ hK1 => wp_block (sg S (.fa underlying74 sizeOf3 2 rfl rfl rfl <| .ld gt3 1 rfl rfl rfl <| .mv rfl <| .yy (Yq (by omega) (Xg (.t rfl) (.t rfl))) rfl <| .as rfl <| .z) fun a w S => Ze S (.t rfl) (sg S (.fa underlying74 sizeOf3 2 rfl rfl rfl <| .ld gt3 1 rfl rfl rfl <| .mv rfl <| .ad (by unfold I64; omega) rfl <| .yy (Yq (by omega) (Yn (.t rfl) (.t rfl))) rfl <| .as rfl <| .z) fun a w S => Ze S (.t rfl) (wp_skip (Zk (Za (hK1 _ _ (wp_seq_k fun _ hK1 => wp_region_lit (run S (.fa underlying35 sizeOf32 0 rfl rfl rfl <| .ld gt32 2 rfl rfl rfl <| .la gt74 1 rfl rfl rfl <| .xx (Zf call204 (.cons (.t rfl) (.cons (.t rfl) (.cons Ev.f .nil))) (fun hp w W => c204 _ _ _ _ _ _ (by exact Sl.of_own W (k := 3) rfl (fun _ => rfl)) (by assumption) (by assumption) (by assumption) (by assumption))) rfl <| .z) fun a w S => ?_))))))))))
   rw [rw_h] at S
   refine run S (.mv rfl <| .ex rfl rfl <| .ex rfl rfl <| .as rfl <| .as rfl <| .z) fun a w S => Zb (Za (hK1 _ _ (wp_seq_k fun _ hK1 => sg S (.mv rfl <| .z) fun a w S => Ze S (.t rfl) (wp_region_lit (run S (.fa underlying35 sizeOf32 0 rfl rfl rfl <| .ld gt32 2 rfl rfl rfl <| .mv rfl <| .la gt74 1 rfl rfl rfl <| .z) fun a w S => Zj (Yf S underlying32 inf30 rfl rfl rfl (.t rfl) rfl rfl rfl fun g4 a w S => ?_))))))
   have hlen : (C.marks.take (posM C.marks ⟨x, y, z⟩) ++ (⟨x, y, z⟩ : Dot) :: C.marks.drop (posM C.marks ⟨x, y, z⟩)).length = C.marks.length + 1 := by simp; omega
   replace S := S.pull 4 rfl
   refine Zj (Vn S call206 (.cons (.t rfl) (.cons (.t rfl) (.cons (.t rfl) .nil))) (k206 (enc := Dot.enc) (x := ⟨x, y, z⟩) (fun _ => rfl) (fun x u hu => by simp [Dot.enc] at hu; rcases hu with rfl | rfl | rfl <;> rfl) S.wd rfl (posM C.marks ⟨x, y, z⟩) hpl hn) rfl ?_)
   clear S
   rintro _ _ ⟨A1, c1, rfl, rfl⟩ a w S
   refine run S (.fa underlying35 sizeOf32 0 rfl rfl rfl <| .z) fun a w S => Zj (op_st S sizeOf32 (.t rfl) (.t rfl) (k := 3) rfl rfl (by simp) fun a w S => Zb (Za (hK1 _ _ (wp_seq_k fun _ hK1 => wp_region_lit (run S (.la gt35 3 rfl rfl rfl <| .z) fun a w S => Zj (Zq S sizeOf35 (.t rfl) (.t rfl) (k := 1) rfl rfl rfl (by simp [Value.oneCell']) fun a w S => Zb (Za (hK1 _ _ (wp_ret (Zm S (results1 S results167 (Rv.cell (k := 1) ⟨isAgg35, sizeOf35⟩ rfl rfl rfl)) ?_))))))))))
   refine ⟨_, rowOf 30 3 Dot.enc A1 c1 (C.marks.take (posM C.marks ⟨x, y, z⟩) ++ (⟨x, y, z⟩ : Dot) :: C.marks.drop (posM C.marks ⟨x, y, z⟩)) :: rowOf 74 3 Dot.enc A' cap' C.cloud :: L, rfl, S.wd.sub (by repeat (first | exact List.Sublist.refl _ | exact List.nil_sublist _ | refine .cons_cons _ ?_ | refine .cons _ ?_)), A1, c1, A', cap', ?_, rfl⟩
   dsimp only
   rw [hlen]
end Go.Proofs.YtakpdbmdfnialaaGreat
namespace Go.Ft
open Go.RowKit
abbrev KL := List (Nat × Bool × Value)
def look : KL → Nat → Option (Bool × Value)
 | [], _ => none
 | (j, v) :: r, i => bif Nat.beq i j then some v else look r i
structure Kn (n : Nat) (K : KL) (a : Act) : Prop where
 defers : a.defers = []
 size : a.tmps.size = n
 slot : ∀ i g v, look K i = some (g, v) → a.tmps[i]? = some (bif g then v else undef)
def Ev (n : Nat) (b : Bool) (K : KL) (x : Operand) (v : Value) : Prop := ∀ a, b = true → Kn n K a → a.eval x = v
def EvL (n : Nat) (b : Bool) (K : KL) (xs : List Operand) (vs : List Value) : Prop := ∀ a, b = true → Kn n K a → xs.map a.eval = vs
section kn
variable {n : Nat} {K : KL} {a : Act} {b : Bool}
theorem Ev.t {t : Nat} {v : Value} (h : look K t = some (true, v)) : Ev n b K (.tmp t) v := fun a _ hk => by
 simp [Act.eval, hk.slot t true v h]
theorem Ev.g {t : Nat} {v : Value} (h : look K t = some (b, v)) : Ev n b K (.tmp t) v := fun a hb hk => by
 simp [Act.eval, hk.slot t b v h, hb]
theorem Ev.c {v : Value} : Ev n b K (.const v) v := fun _ _ _ => rfl
theorem Ev.f {f : Nat} : Ev n b K (.func f) (.func (.func f) #[] #[]) := fun _ _ _ => rfl
theorem EvL.nil : EvL n b K [] [] := fun _ _ _ => rfl
theorem EvL.cons {x : Operand} {xs : List Operand} {v : Value} {vs : List Value} (h : Ev n b K x v) (h' : EvL n b K xs vs) : EvL n b K (x :: xs) (v :: vs) := fun a hb hk => by
 simp only [List.map_cons, h a hb hk, h' a hb hk]
theorem Kn.putg (h : Kn n K a) {d : Nat} (hd : Nat.blt d n = true) (g : Bool) (v : Value) : Kn n ((d, g, v) :: K) (a.put (some d) (bif g then v else undef)) := by
 refine ⟨h.defers, by simp [Act.put, h.size], fun i g' u hu => ?_⟩
 have hdn : d < n := by simpa [Nat.blt_eq] using hd
 unfold look at hu
 by_cases hi : i = d
 · subst hi
   simp only [Nat.beq_refl, cond_true, Option.some.injEq, Prod.mk.injEq] at hu
   obtain ⟨rfl, rfl⟩ := hu
   simp [Act.put, h.size, hdn]
 · have : Nat.beq i d = false := by simpa [Nat.beq_eq_true_eq, ← Bool.not_eq_true] using hi
   simp only [this, cond_false] at hu
   simp only [Act.put]
   rw [Array.getElem?_setIfInBounds_ne (fun e => hi e.symm)]
   exact h.slot i g' u hu
theorem Kn.put (h : Kn n K a) {d : Nat} (hd : Nat.blt d n = true) (v : Value) : Kn n ((d, true, v) :: K) (a.put (some d) v) := h.putg hd true v
def Fits (sn : List Nat) (K : KL) : KL → Prop
 | [] => True
 | (i, g, v) :: r => (List.elem i sn = true ∨ look K i = some (g, v)) ∧ Fits (i :: sn) K r
theorem Fits.nil {sn : List Nat} {K : KL} : Fits sn K [] := trivial
theorem Fits.cons {sn : List Nat} {K r : KL} {i : Nat} {g : Bool} {v : Value} (h : Ft.look K i = some (g, v)) (h' : Fits (i :: sn) K r) : Fits sn K ((i, g, v) :: r) := ⟨.inr h, h'⟩
theorem Fits.skip {sn : List Nat} {K r : KL} {i : Nat} {g : Bool} {v : Value} (h : List.elem i sn = true) (h' : Fits (i :: sn) K r) : Fits sn K ((i, g, v) :: r) := ⟨.inl h, h'⟩
theorem Fits.look {K : KL} : ∀ {K' : KL} {sn : List Nat}, Fits sn K K' → ∀ i v, List.elem i sn = false → Ft.look K' i = some v → Ft.look K i = some v
 | [], _, _, i, v, _, h => by simp [Ft.look] at h
 | (j, g, u) :: r, sn, hf, i, v, hn, h => by
   obtain ⟨h1, h2⟩ := hf
   unfold Ft.look at h
   by_cases hi : i = j
   · subst hi
     simp only [Nat.beq_refl, cond_true, Option.some.injEq] at h
     rw [← h]
     rcases h1 with h1 | h1
     · rw [h1] at hn; cases hn
     · exact h1
   · have : Nat.beq i j = false := by simpa [Nat.beq_eq_true_eq, ← Bool.not_eq_true] using hi
     simp only [this, cond_false] at h
     refine Fits.look h2 i v ?_ h
     have hne : (i == j) = false := by simpa using hi
     simp only [List.elem, hne]
     exact hn
end kn
abbrev Dle (a b : Nat) : Prop := a ≤ b
theorem Dle.succ (a : Nat) : Dle a (a + 1) := by unfold Dle; omega
structure Bel (B : Nat) (w w' : World) : Prop extends Below B w w' where
 drawn : Dle w.drawn w'.drawn
section bel
variable {B B' : Nat} {a b c : World}
theorem Bel.refl (B : Nat) (w : World) : Bel B w w := ⟨Below.refl B w, Nat.le_refl _⟩
theorem Bel.trans (h : Bel B a b) (k : Bel B b c) : Bel B a c := ⟨h.toBelow.trans k.toBelow, Nat.le_trans h.drawn k.drawn⟩
theorem Bel.mono (h : Bel B a b) (hB : B' ≤ B) : Bel B' a b := ⟨h.toBelow.mono hB, h.drawn⟩
theorem Bel.alloc (h : Bel B a b) (hb : B ≤ b.heap.size) (o : Obj) : Bel B a (b.alloc o) := ⟨h.toBelow.alloc hb o, h.drawn⟩
theorem Bel.drew (h : Bel B a b) : Bel B a b.drew := ⟨h.toBelow.drew, Nat.le_trans h.drawn (Dle.succ _)⟩
theorem Bel.grows (h : Bel a.heap.size a b) : ∃ q os', b = Go.Sort.grow (a.drewN q) os' := by
 refine ⟨b.drawn - a.drawn, b.heap.extract a.heap.size b.heap.size, ?_⟩
 have hh : b.heap = a.heap ++ b.heap.extract a.heap.size b.heap.size := by
   have hs := h.size
   apply Array.ext
   · simp; omega
   · intro i h1 h2
     rw [Array.getElem_append]
     split
     · rename_i hlt
       have := h.block i hlt
       rw [Array.getElem?_eq_getElem h1, Array.getElem?_eq_getElem hlt] at this
       simpa using this
     · rw [Array.getElem_extract]
       congr 1
       omega
 obtain ⟨h1, h2, h3, _, _⟩ := h.toBelow
 have h4 := h.drawn
 cases a; cases b
 simp only at h1 h2 h3 h4 hh ⊢
 subst h1; subst h2; subst h3
 simp only [Go.Sort.grow, World.drewN, World.mk.injEq, and_true, true_and]
 exact ⟨hh, by omega⟩
end bel
structure Turned (S : Nat → Prop) (w w' : World) : Prop where
 os : w'.os = w.os
 tape : w'.tape = w.tape
 output : w'.output = w.output
 size : w.heap.size ≤ w'.heap.size
 block : ∀ k, k < w.heap.size → ¬ S k → w'.heap[k]? = w.heap[k]?
 drawn : Dle w.drawn w'.drawn
theorem Turned.mono {S S' : Nat → Prop} {w w' : World} (h : Turned S w w') (hS : ∀ k, S k → S' k) : Turned S' w w' :=
 ⟨h.os, h.tape, h.output, h.size, fun k hk hn => h.block k hk fun e => hn (hS k e), h.drawn⟩
def Owns (w : World) (B : Nat) (e size : Nat) (A : Option Addr) (n cap : Nat) (xs : List Value) : Prop :=
 xs.length = n * size ∧ ((n = 0 ∧ cap = 0) ∨ ∃ g cur, A = some ⟨g, 0, none⟩ ∧ 0 < cap ∧ B ≤ g ∧ w.heap[g]? = some (.cells cur e (0, 0)) ∧ n ≤ cap ∧ cap ≤ maxLen ∧ cur.size = cap * size ∧ cur.toList.take (n * size) = xs)
inductive Chunk where
 | blk (b : Nat) (o : Obj)
 | row (e size : Nat) (A : Option Addr) (n cap : Nat) (xs : List Value)
 | ice (w1 : World) (bs : List Nat)
def Chunk.holds (B : Nat) (w : World) : Chunk → Prop
 | .blk b o => B ≤ b ∧ w.heap[b]? = some o
 | .row e size A n cap xs => Owns w B e size A n cap xs
 | .ice w1 bs => ∀ b ∈ bs, B ≤ b ∧ b < w.heap.size ∧ w.heap[b]? = w1.heap[b]?
def Chunk.own : Chunk → Nat → Prop
 | .blk b _ => fun x => x = b
 | .row _ _ A _ cap _ => fun x => cap ≠ 0 ∧ A.map (·.block) = some x
 | .ice _ bs => fun x => x ∈ bs
def Chunk.apart (c d : Chunk) : Prop := ∀ b, c.own b → ¬ d.own b
theorem Chunk.apart.symm {c d : Chunk} (h : c.apart d) : d.apart c := fun b hd hc => h b hc hd
theorem Chunk.holds.lt {B : Nat} {w : World} {c : Chunk} (h : c.holds B w) {b : Nat} (hb : c.own b) : B ≤ b ∧ b < w.heap.size := by
 cases c with
 | blk b' o =>
   obtain ⟨h1, h2⟩ := h
   simp only [Chunk.own] at hb
   subst hb
   exact ⟨h1, (Array.getElem?_eq_some_iff.1 h2).1⟩
 | row e size A n cap xs =>
   obtain ⟨h0, hb⟩ := hb
   rcases h.2 with ⟨_, hc⟩ | ⟨g, cur, rfl, hp, hB, hg, _⟩
   · exact absurd hc h0
   · simp only [Option.map_some, Option.some.injEq] at hb
     subst hb
     exact ⟨hB, (Array.getElem?_eq_some_iff.1 hg).1⟩
 | ice w1 bs => exact ⟨(h b hb).1, (h b hb).2.1⟩
theorem Chunk.holds.keep {B : Nat} {w w' : World} {c : Chunk} (h : c.holds B w) (hs : w.heap.size ≤ w'.heap.size) (hk : ∀ b, c.own b → w'.heap[b]? = w.heap[b]?) : c.holds B w' := by
 cases c with
 | blk b o => exact ⟨h.1, (hk b rfl).trans h.2⟩
 | row e size A n cap xs =>
   refine ⟨h.1, ?_⟩
   rcases h.2 with hn | ⟨g, cur, rfl, hp, hb, hgg, rest⟩
   · exact .inl hn
   · exact .inr ⟨g, cur, rfl, hp, hb, (hk g ⟨Nat.pos_iff_ne_zero.1 hp, rfl⟩).trans hgg, rest⟩
 | ice w1 bs => exact fun b hb => ⟨(h b hb).1, Nat.lt_of_lt_of_le (h b hb).2.1 hs, (hk b hb).trans (h b hb).2.2⟩
theorem Chunk.holds.mono {B B' : Nat} {w : World} {c : Chunk} (h : c.holds B w) (hB : B' ≤ B) : c.holds B' w := by
 cases c with
 | blk b o => exact ⟨Nat.le_trans hB h.1, h.2⟩
 | row e size A n cap xs =>
   refine ⟨h.1, ?_⟩
   rcases h.2 with hn | ⟨g, cur, rfl, hp, hb, rest⟩
   · exact .inl hn
   · exact .inr ⟨g, cur, rfl, hp, Nat.le_trans hB hb, rest⟩
 | ice w1 bs => exact fun b hb => ⟨Nat.le_trans hB (h b hb).1, (h b hb).2⟩
structure Wd (w0 : World) (L : List Chunk) (w : World) : Prop where
 below : Bel w0.heap.size w0 w
 all : ∀ c ∈ L, c.holds w0.heap.size w
 apart : L.Pairwise Chunk.apart
section wd
variable {w0 : World} {L : List Chunk} {w w' : World}
theorem Wd.start (w : World) : Wd w [] w := ⟨Bel.refl _ _, (fun _ h => by cases h), List.Pairwise.nil⟩
theorem Wd.get (h : Wd w0 L w) {k : Nat} {c : Chunk} (hk : L[k]? = some c) : c.holds w0.heap.size w := h.all c (List.mem_of_getElem? hk)
theorem Wd.sub (h : Wd w0 L w) {L' : List Chunk} (hs : L'.Sublist L) : Wd w0 L' w :=
 ⟨h.below, fun c hc => h.all c (hs.subset hc), h.apart.sublist hs⟩
theorem Wd.step (h : Wd w0 L w) (hb : Bel w.heap.size w w') : Wd w0 L w' :=
 ⟨h.below.trans (hb.mono h.below.size), fun c hc => (h.all c hc).keep hb.size fun b hbk => hb.block b ((h.all c hc).lt hbk).2, h.apart⟩
theorem Wd.more (h : Wd w0 L w) (hb : Bel w.heap.size w w') {c : Chunk} (hc : c.holds w.heap.size w') : Wd w0 (c :: L) w' := by
 have h' := h.step hb
 refine ⟨h'.below, fun d hd => ?_, List.Pairwise.cons (fun d hd b hcb hdb => ?_) h'.apart⟩
 · rcases List.mem_cons.1 hd with rfl | hd
   · exact hc.mono h.below.size
   · exact h'.all d hd
 · have h1 := (hc.lt hcb).1
   have h2 := ((h.all d hd).lt hdb).2
   omega
theorem Wd.drew (h : Wd w0 L w) : Wd w0 L w.drew := h.step (Bel.refl _ _).drew
theorem Wd.alloc (h : Wd w0 L w) (o : Obj) : Wd w0 (.blk w.heap.size o :: L) (w.alloc o) :=
 h.more ((Bel.refl _ _).alloc (Nat.le_refl _) o) ⟨Nat.le_refl _, heap_alloc_new w o⟩
end wd
structure St (n : Nat) (w0 : World) (K : KL) (L : List Chunk) (a : Act) (w : World) : Prop where
 kn : Kn n K a
 wd : Wd w0 L w
section code
variable {P : Program} {Q : Exit → Act → World → Prop} {n : Nat} {w0 : World} {K : KL} {L : List Chunk} {a : Act} {w : World}
theorem enter {f : FuncId} {fn : Func} {c : Code} {args : List Value} {w : World} {R : Ending → World → Prop} (hf : P.funcs[f]? = some fn) (hb : fn.body = some c)
   {n : Nat} {K : KL} (hn : fn.ntmps = n) (hsz : Nat.ble args.length n = true) (hK : ∀ i g v, look K i = some (g, v) → g = true ∧ args[i]? = some v)
   (h : ∀ a, St n w K [] a w → c.wp P (bodyPost P fn R) a w) : Calls P f args.toArray w R := by
 refine calls_of_wp hf hb (h _ ⟨⟨rfl, ?_, fun i g v hv => ?_⟩, Wd.start w⟩)
 · have := Nat.le_of_ble_eq_true hsz
   simp [hn]; omega
 · obtain ⟨rfl, h1⟩ := hK i g v hv
   have hi : i < args.length := (List.getElem?_eq_some_iff.1 h1).1
   simp [Array.getElem?_append, hi, (List.getElem?_eq_some_iff.1 h1).2]
section enters
def argsK : Nat → List Value → KL
 | _, [] => []
 | i, v :: vs => (i, true, v) :: argsK (i + 1) vs
theorem argsK_ok : ∀ (vs : List Value) (i j : Nat) (g : Bool) (v : Value), look (argsK i vs) j = some (g, v) → g = true ∧ i ≤ j ∧ vs[j - i]? = some v
 | [], i, j, g, v, h => by simp [argsK, look] at h
 | u :: us, i, j, g, v, h => by
   unfold argsK look at h
   by_cases hj : j = i
   · subst hj
     simp only [Nat.beq_refl, cond_true, Option.some.injEq, Prod.mk.injEq] at h
     obtain ⟨rfl, rfl⟩ := h
     exact ⟨rfl, Nat.le_refl _, by simp⟩
   · have : Nat.beq j i = false := by simpa [Nat.beq_eq_true_eq, ← Bool.not_eq_true] using hj
     simp only [this, cond_false] at h
     obtain ⟨h1, h2, h3⟩ := argsK_ok us (i + 1) j g v h
     refine ⟨h1, by omega, ?_⟩
     rw [show j - i = (j - (i + 1)) + 1 by omega]
     simpa using h3
theorem enterL {f : FuncId} {fn : Func} {c : Code} {args : List Value} {w : World} {R : Ending → World → Prop} (hf : P.funcs[f]? = some fn) (hb : fn.body = some c)
   {n : Nat} (hn : fn.ntmps = n) (hsz : Nat.ble args.length n = true) (h : ∀ a, St n w (argsK 0 args) [] a w → c.wp P (bodyPost P fn R) a w) : Calls P f args.toArray w R :=
 enter hf hb hn hsz (fun i g v hv => have h := argsK_ok args 0 i g v hv; ⟨h.1, by simpa using h.2.2⟩) h
variable {f : FuncId} {fn : Func} {c : Code} {R : Ending → World → Prop} {v0 v1 v2 v3 v4 v5 v6 v7 v8 : Value}
theorem enter1 (hf : P.funcs[f]? = some fn) (hb : fn.body = some c) {n : Nat} (hn : fn.ntmps = n) (hsz : Nat.ble 1 n = true)
   (h : ∀ a, St n w [(0, true, v0)] [] a w → c.wp P (bodyPost P fn R) a w) : Calls P f #[v0] w R := enterL (args := [v0]) hf hb hn hsz h
theorem enter2 (hf : P.funcs[f]? = some fn) (hb : fn.body = some c) {n : Nat} (hn : fn.ntmps = n) (hsz : Nat.ble 2 n = true)
   (h : ∀ a, St n w [(0, true, v0), (1, true, v1)] [] a w → c.wp P (bodyPost P fn R) a w) : Calls P f #[v0, v1] w R := enterL (args := [v0, v1]) hf hb hn hsz h
end enters
theorem Xi {c : Operand} {x y : Code} {b : Bool} (S : St n w0 K L a w) (hc : Ev n true K c (.bool b)) (ht : b = true → x.wp P Q a w) (hf : b = false → y.wp P Q a w) : (Code.cond c x y).wp P Q a w :=
 wp_cond_split (hc a rfl S.kn) ht hf
theorem Xz {c : Operand} {x y : Code} {p : Prop} {_ : Decidable p} (S : St n w0 K L a w) (hc : Ev n true K c (.bool (decide p))) (ht : p → x.wp P Q a w) (hf : ¬p → y.wp P Q a w) : (Code.cond c x y).wp P Q a w :=
 wp_cond_split (hc a rfl S.kn) (fun h => ht (of_decide_eq_true h)) (fun h => hf (of_decide_eq_false h))
theorem Zg {c : Operand} {x y : Code} (S : St n w0 K L a w) (hc : Ev n true K c (.bool true)) (ht : x.wp P Q a w) : (Code.cond c x y).wp P Q a w := wp_cond_true (hc a rfl S.kn) ht
theorem Ze {c : Operand} {x y : Code} (S : St n w0 K L a w) (hc : Ev n true K c (.bool false)) (hf : y.wp P Q a w) : (Code.cond c x y).wp P Q a w := wp_cond_false (hc a rfl S.kn) hf
def Ys (P : Program) (o : Oper) (n : Nat) (K : KL) (w0 : World) (L : List Chunk) (b : Bool) (v : Value) : Prop :=
 ∀ a w, b = true → Kn n K a → Wd w0 L w → Oper.quietUpon P (Wd w0 L) w v ((execOp a.eval o).run P w)
def Yr (P : Program) (o : Oper) (n : Nat) (K : KL) (w0 : World) (L : List Chunk) (b : Bool) (v : Value) : Prop :=
 ∀ a w, b = true → Kn n K a → Wd w0 L w → (execOp a.eval o).run P w = .ok (.value v) w
theorem Yr.ys {o : Oper} {b : Bool} {v : Value} (h : Yr P o n K w0 L b v) : Ys P o n K w0 L b v := fun a w hb hk hw => by
 rw [h a w hb hk hw]; exact ⟨rfl, rfl⟩
theorem Ys.wp {o : Oper} {v : Value} (hy : Ys P o n K w0 L true v) (S : St n w0 K L a w) {K' : Act → World → Prop} (h : ∀ w', Wd w0 L w' → K' (a.put o.dst v) w') : o.wp P a w K' Q := by
 have h3 := hy a w rfl S.kn S.wd
 unfold Oper.wp
 generalize (execOp a.eval o).run P w = r at *
 cases r with
 | ok x w' =>
   cases x <;> simp only [Oper.quietUpon] at h3 <;> simp only [Oper.upon]
   case value u => obtain ⟨rfl, rfl⟩ := h3; exact h _ S.wd
   case skip => obtain ⟨rfl, rfl⟩ := h3; exact h _ S.wd
   case enter f args =>
     obtain ⟨rfl, hc⟩ := h3
     exact hc.mono fun e w'' ⟨he, hw''⟩ => by subst he; exact h _ hw''
 | halt x w' => simp only [Oper.quietUpon] at h3
section list
variable {ops : Array Oper} {rest : List Oper} {op : Op} {ty : TypeId} {pos : String} {aft : Array Edge} {v : Value} {d t j : Nat} {p : Bool}
theorem Zb (h : Q .normal a w) : wpList P ops Q [] a w := h
theorem Zj {d : Option Tmp} (h : Oper.wp P ⟨d, op, ty, pos, aft, none⟩ a w (wpList P ops Q rest) Q) : wpList P ops Q (⟨d, op, ty, pos, aft, none⟩ :: rest) a w :=
 wpList_plain rfl fun _ hK => Oper.wp_mono hK h
theorem Yk (S : St n w0 K L a w) (hy : Ys P ⟨some d, op, ty, pos, aft, none⟩ n K w0 L true v) (hd : Nat.blt d n = true)
   (next : ∀ a w, St n w0 ((d, true, v) :: K) L a w → wpList P ops Q rest a w) : wpList P ops Q (⟨some d, op, ty, pos, aft, none⟩ :: rest) a w :=
 Zj (hy.wp S fun _ hw => next _ _ ⟨S.kn.put hd v, hw⟩)
variable {Z : Act → Prop} {C : World → Prop}
end list
section held
variable {ops : Array Oper} {Lr : List Chunk} {fuel i : Nat} {listed : Array Bool} {op : Op} {ty : TypeId} {pos : String} {aft : Array Edge} {gd : Option (Nat × Bool)} {v : Value} {d t j : Nat} {p : Bool} {md : Region.Mode}
theorem h_begin0 {id : Nat} (S : St n w0 K L a w) (hm : P.follows .mixedOrders = true)
   (h : ∀ a w, St n w0 K L a w → wpAnyH P .any ops Q (Wd w0 L) ops.size (Array.replicate ops.size false) a w) : (Code.region id ops true).wp P Q a w :=
 wp_region_held hm (h _ _ ⟨S.kn, S.wd.drew⟩)
theorem h_take {o : Oper} {v : Value} (S : St n w0 K L a w) (hsub : Lr.Sublist L) (hi : ops[i]? = some o) (hs : Region.noSelect ops = true) (hf : Region.free md ops listed i = true) (hr : (Region.ready md ops listed).contains i = true)
   (hQ : ∀ c a w, Q (.panic c) (a.put o.dst v) w → Q (.panic c) a w) (hy : YieldsIf P ops (Wd w0 Lr) o v a)
   (h : wpAnyH P md ops Q (Wd w0 Lr) fuel (listed.setIfInBounds i true) (a.put o.dst v) w) : wpAnyH P md ops Q (Wd w0 Lr) (fuel + 1) listed a w :=
 wpAnyH_take hi hs hf hr hQ hy (S.wd.sub hsub) h
theorem h_y (S : St n w0 K L a w) (hsub : Lr.Sublist L) (hi : ops[i]? = some ⟨some d, op, ty, pos, aft, none⟩) (hs : Region.noSelect ops = true) (hf : Region.free md ops listed i = true) (hr : (Region.ready md ops listed).contains i = true)
   (hQ : ∀ v c a w, Q (.panic c) (a.put (some d) v) w → Q (.panic c) a w) (hy : Yr P ⟨some d, op, ty, pos, aft, none⟩ n K w0 Lr true v) (hd : Nat.blt d n = true)
   (next : ∀ a w, St n w0 ((d, true, v) :: K) L a w → wpAnyH P md ops Q (Wd w0 Lr) fuel (listed.setIfInBounds i true) a w) : wpAnyH P md ops Q (Wd w0 Lr) (fuel + 1) listed a w :=
 h_take S hsub hi hs hf hr (hQ v) (.inl ⟨rfl, fun w hw => hy a w rfl S.kn hw⟩) (next _ _ ⟨S.kn.put hd v, S.wd⟩)
theorem h_m (hi : ops[i]? = some ⟨some d, op, ty, pos, aft, none⟩) (hr : Region.ready md ops listed = [i])
   (h : Oper.wp P ⟨some d, op, ty, pos, aft, none⟩ a w (fun a' w' => Wd w0 Lr w' ∧ wpAnyH P md ops Q (Wd w0 Lr) fuel (listed.setIfInBounds i true) a' w') Q) : wpAnyH P md ops Q (Wd w0 Lr) (fuel + 1) listed a w :=
 wpAnyH_all hr (by simp) fun k hk => by
   simp only [List.mem_singleton] at hk
   subst hk
   unfold wpOp
   simp only [hi, Region.wanted, if_true]
   exact .inl h
theorem h_q (S : St n w0 K L a w) (hsub : Lr.Sublist L) (hi : ops[i]? = some ⟨some d, op, ty, pos, aft, none⟩) (hr : Region.ready md ops listed = [i]) (hy : Ys P ⟨some d, op, ty, pos, aft, none⟩ n K w0 L true v) (hd : Nat.blt d n = true)
   (next : ∀ a w, St n w0 ((d, true, v) :: K) L a w → wpAnyH P md ops Q (Wd w0 Lr) fuel (listed.setIfInBounds i true) a w) : wpAnyH P md ops Q (Wd w0 Lr) (fuel + 1) listed a w :=
 h_m hi hr (hy.wp S fun w' hw => ⟨hw.sub hsub, next _ _ ⟨S.kn.put hd v, hw⟩⟩)
theorem h_on (S : St n w0 K L a w) (Lr' : List Chunk) (h1 : Lr.Sublist Lr') (h2 : Lr'.Sublist L) (h : wpAnyH P md ops Q (Wd w0 Lr') fuel listed a w) : Wd w0 Lr w ∧ wpAnyH P md ops Q (Wd w0 Lr) fuel listed a w := by
 refine ⟨S.wd.sub (h1.trans h2), ?_⟩
 clear S h2
 induction fuel generalizing listed a w with
 | zero => exact h
 | succ fuel ih => exact ⟨h.1, fun i hi => wpOp_mono (fun a' w' h' => ⟨h'.1.sub h1, ih h'.2⟩) (h.2 i hi)⟩
theorem Xf (hr : Region.ready md ops listed = []) (h : Q .normal a w) : wpAnyH P md ops Q (Wd w0 Lr) fuel listed a w := wpAnyH_done hr h fuel
end held
end code
end Go.Ft
namespace Go.Ft
open Go.RowKit
def I64 (x : Int) : Prop := -9223372036854775808 ≤ x ∧ x ≤ 9223372036854775807
theorem Vj {x : Int} (h : I64 x) : IntKind.i64.wrap x = x := by
 obtain ⟨h1, h2⟩ := h
 rw [IntKind.wrap_i64]; omega
section ops
variable {P : Program} {n : Nat} {w0 : World} {K : KL} {L : List Chunk} {b : Bool} {dst : Option Tmp} {ty : TypeId} {pos : String} {aft : Array Edge} {gd : Option (Nat × Bool)}
theorem Zi {x : Operand} {v : Value} (hx : Ev n b K x v) : Yr P ⟨dst, .move x, ty, pos, aft, gd⟩ n K w0 L b v := fun a w hb hk _ => by
 simp [execOp, hx a hb hk]
theorem Yi {x : Operand} {v : Value} (hx : Ev n b K x v) : Yr P ⟨dst, .assign x, ty, pos, aft, gd⟩ n K w0 L b v := fun a w hb hk _ => by
 simp [execOp, hx a hb hk]
def One (P : Program) (t : TypeId) : Prop := (∀ w, (isAgg t).run P w = .ok false w) ∧ ∀ w, (sizeOf t).run P w = .ok 1 w
def Many (P : Program) (t : TypeId) (k : Nat) : Prop := (∀ w, (isAgg t).run P w = .ok true w) ∧ ∀ w, (sizeOf t).run P w = .ok k w
def Size (P : Program) (t : TypeId) (k : Nat) : Prop := ∀ w, (sizeOf t).run P w = .ok k w
def nth : List Value → Nat → Option Value
 | [], _ => none
 | v :: _, 0 => some v
 | _ :: r, i + 1 => nth r i
theorem nth_eq : ∀ (cs : List Value) (i : Nat), nth cs i = cs[i]?
 | [], i => by simp [nth]
 | v :: r, 0 => by simp [nth]
 | v :: r, i + 1 => by simp [nth, nth_eq r i]
def upto : List Value → Nat → Option (List Value)
 | _, 0 => some []
 | [], _ + 1 => none
 | v :: r, k + 1 => match upto r k with
   | some l => some (v :: l)
   | none => none
def cellsAt : List Value → Nat → Nat → Option (List Value)
 | cs, 0, k => upto cs k
 | [], _ + 1, _ => none
 | _ :: r, i + 1, k => cellsAt r i k
theorem upto_eq : ∀ {cs : List Value} {k : Nat} {vs : List Value}, upto cs k = some vs → vs.length = k ∧ vs = cs.take k
 | cs, 0, vs, h => by cases cs <;> simp [upto] at h <;> simp [h]
 | [], k + 1, vs, h => by simp [upto] at h
 | v :: r, k + 1, vs, h => by
   unfold upto at h
   split at h
   · rename_i l hl
     obtain ⟨h1, h2⟩ := upto_eq hl
     simp only [Option.some.injEq] at h
     subst h
     exact ⟨by simp [h1], by simp [← h2]⟩
   · cases h
theorem Wh : ∀ {cs : List Value} {i k : Nat} {vs : List Value}, cellsAt cs i k = some vs → vs.length = k ∧ vs = (cs.drop i).take k
 | cs, 0, k, vs, h => by cases cs <;> exact upto_eq h
 | [], i + 1, k, vs, h => by simp [cellsAt] at h
 | v :: r, i + 1, k, vs, h => by simpa using Wh (cs := r) (i := i) h
theorem Vk {t : TypeId} (h1 : One P t) {w : World} {ad : Addr} {v : Value} (hc : w.cell? ad = some v) : (loadVar t ad).run P w = .ok v w := by
 simp [loadVar, Sem.run_bind, h1.1, run_load, hc]
theorem Wp {t : TypeId} {k : Nat} (h1 : Many P t k) {w : World} {ad : Addr} {vs : List Value} (hl : vs.length = k) (hc : ∀ j u, vs[j]? = some u → w.cell? (ad.add j) = some u) :
   (loadVar t ad).run P w = .ok (.agg vs.toArray) w := by
 have h := run_loadCells_list (P := P) w ad vs hc
 rw [hl] at h
 simp [loadVar, Sem.run_bind, h1.1, h1.2, h]
theorem Zt {t : TypeId} {x : Operand} {g i k : Nat} {cs : List Value} {e : TypeId} {fr : Nat × Nat} {v : Value} (h1 : One P t) (hx : Ev n b K x (.pointer (some ⟨g, i, none⟩)))
   (hk : L[k]? = some (.blk g (.cells cs.toArray e fr))) (hc : nth cs i = some v) : Yr P ⟨dst, .load t x, ty, pos, aft, gd⟩ n K w0 L b v := fun a w hb hkn hw => by
 have hg := (hw.get hk).2
 simp [execOp, hx a hb hkn, Instr.loadAt, Instr.sureAddr, Vk h1 (ad := ⟨g, i, none⟩) ((cell_of_row w g i _ e fr hg).trans (by rw [nth_eq] at hc; simpa using hc))]
theorem Yv {t : TypeId} {x : Operand} {ad : Addr} {v : Value} (h1 : One P t) (hx : Ev n b K x (.pointer (some ad))) (hc : b = true → w0.cell? ad = some v) : Yr P ⟨dst, .load t x, ty, pos, aft, gd⟩ n K w0 L b v := fun a w hb hkn hw => by
 have hc' := hc hb
 have h := (hw.below.cell (World.block_lt_of_cell? w0 ad hc')).trans hc'
 simp [execOp, hx a hb hkn, Instr.loadAt, Instr.sureAddr, Vk h1 h]
theorem Owns.cell {w : World} {B e size n cap g : Nat} {xs : List Value} (h : Owns w B e size (some ⟨g, 0, none⟩) n cap xs) {j : Nat} {u : Value} (hj : xs[j]? = some u) : w.cell? ⟨g, j, none⟩ = some u := by
 rcases h.2 with ⟨h0, _⟩ | ⟨g', cur, hA, _, _, hg, _, _, _, ht⟩
 · have h1 := h.1
   rw [h0] at h1
   have : xs = [] := List.eq_nil_of_length_eq_zero (by simpa using h1)
   subst this; simp at hj
 · simp only [Option.some.injEq, Addr.mk.injEq] at hA
   obtain ⟨rfl, _, _⟩ := hA
   rw [cell_of_row w _ j cur e (0, 0) hg]
   rw [← ht, List.getElem?_take] at hj
   split at hj
   · simpa using hj
   · cases hj
def FieldT (P : Program) (s : TypeId) (f o : Nat) : Prop := ∀ w ad, (Instr.fieldAt s (.pointer (some ad)) f).run P w = .ok (.pointer (some (ad.add o))) w
theorem FieldT.mk {s f : Nat} {fs : Array Field} {nm : String} {tt o : Nat} {em : Bool} {tg pp : String} {bo : Nat} {m : Nat} (hu : P.underlying s = some (.struct fs)) (hf : fs[f]? = some ⟨nm, tt, o, em, tg, pp, bo⟩) (hz : ∀ w, (sizeOf tt).run P w = .ok m w) (hm : Nat.blt 0 m = true) : FieldT P s f o := fun w ad => by
 have hm' : m ≠ 0 := by have := Nat.le_of_ble_eq_true hm; omega
 simp [Instr.fieldAt, run_underlying hu, hf, Instr.sureAddr, fieldPlace, hz, hm']
theorem Zy {s f o : Nat} {x : Operand} {g i : Nat} (h1 : FieldT P s f o) (hx : Ev n b K x (.pointer (some ⟨g, i, none⟩))) : Yr P ⟨dst, .fieldAddr s x f, ty, pos, aft, gd⟩ n K w0 L b (.pointer (some ⟨g, i + o, none⟩)) := fun a w hb hkn _ => by
 have h := h1 w ⟨g, i, none⟩
 rw [Addr.add_mid] at h
 simp [execOp, hx a hb hkn, h]
theorem Zc {s f o : Nat} {x : Operand} {g i i' : Nat} (h1 : FieldT P s f o) (hx : Ev n b K x (.pointer (some ⟨g, i, none⟩))) (hi : i + o = i') : Yr P ⟨dst, .fieldAddr s x f, ty, pos, aft, gd⟩ n K w0 L b (.pointer (some ⟨g, i', none⟩)) := hi ▸ Zy h1 hx
def SliceT (P : Program) (t e : TypeId) : Prop := P.underlying t = some (.slice e)
theorem Ym {t e sz : Nat} {x y : Operand} {g o len cap j : Nat} {ik : IntKind} (h1 : SliceT P t e) (h2 : Size P e sz) (hx : Ev n b K x (.slice (some ⟨g, o, none⟩) len cap)) (hy : Ev n b K y (.int ik (j : Int))) (h : b = true → j < len) :
   Yr P ⟨dst, .indexAddr t x y, ty, pos, aft, gd⟩ n K w0 L b (.pointer (some ⟨g, o + j * sz, none⟩)) := fun a w hb hkn _ => by
 have h' := h hb
 simp [execOp, hx a hb hkn, hy a hb hkn, Instr.indexAt, run_underlying h1, asIntOf, h2 w, Addr.add_mid]
 intro h4; omega
theorem ys_add {t t' : TypeId} {x y : Operand} {k : IntKind} {p q : Int} (hx : Ev n b K x (.int k p)) (hy : Ev n b K y (.int k q)) : Yr P ⟨dst, .binOp .add t x y t', ty, pos, aft, gd⟩ n K w0 L b (.int k (k.wrap (p + q))) := fun a w hb hkn _ => by
 simp only [execOp, hx a hb hkn, hy a hb hkn]
 simp [eqGuard, binOp, Op.intArith]
theorem ys_sub {t t' : TypeId} {x y : Operand} {k : IntKind} {p q : Int} (hx : Ev n b K x (.int k p)) (hy : Ev n b K y (.int k q)) : Yr P ⟨dst, .binOp .sub t x y t', ty, pos, aft, gd⟩ n K w0 L b (.int k (k.wrap (p - q))) := fun a w hb hkn _ => by
 simp only [execOp, hx a hb hkn, hy a hb hkn]
 simp [eqGuard, binOp, Op.intArith]
theorem Yr.of_imp {o : Oper} {v u : Value} (h : b = true → v = u) (hy : Yr P o n K w0 L b v) : Yr P o n K w0 L b u := fun a w hb hk hw => by
 rw [← h hb]; exact hy a w hb hk hw
theorem Xu {t t' : TypeId} {x y : Operand} {p q : Int} (hx : Ev n b K x (.int .i64 p)) (hy : Ev n b K y (.int .i64 q)) (h : b = true → I64 (p + q)) : Yr P ⟨dst, .binOp .add t x y t', ty, pos, aft, gd⟩ n K w0 L b (.int .i64 (p + q)) :=
 Yr.of_imp (fun hb => by rw [Vj (h hb)]) (ys_add hx hy)
theorem Xm {t t' : TypeId} {x y : Operand} {p q : Int} (hx : Ev n b K x (.int .i64 p)) (hy : Ev n b K y (.int .i64 q)) (h : b = true → I64 (p - q)) : Yr P ⟨dst, .binOp .sub t x y t', ty, pos, aft, gd⟩ n K w0 L b (.int .i64 (p - q)) :=
 Yr.of_imp (fun hb => by rw [Vj (h hb)]) (ys_sub hx hy)
section cmp
variable {t t' : TypeId} {x y : Operand} {k : IntKind} {p q : Int} (hx : Ev n b K x (.int k p)) (hy : Ev n b K y (.int k q))
include hx hy
theorem Yy : Yr P ⟨dst, .binOp .lss t x y t', ty, pos, aft, gd⟩ n K w0 L b (.bool (decide (p < q))) := fun a w hb hkn _ => by
 simp only [execOp, hx a hb hkn, hy a hb hkn]
 simp [eqGuard, binOp, Op.intCmp]
theorem Yn : Yr P ⟨dst, .binOp .gtr t x y t', ty, pos, aft, gd⟩ n K w0 L b (.bool (decide (q < p))) := fun a w hb hkn _ => by
 simp only [execOp, hx a hb hkn, hy a hb hkn]
 simp [eqGuard, binOp, Op.intCmp]
theorem Yh : Yr P ⟨dst, .binOp .neq t x y t', ty, pos, aft, gd⟩ n K w0 L b (.bool (decide (p ≠ q))) := fun a w hb hkn _ => by
 simp only [execOp, hx a hb hkn, hy a hb hkn]
 simp [eqGuard, binOp, Op.intCmp]
 rw [Bool.eq_iff_iff]; simp
end cmp
def EqT (P : Program) (t : TypeId) (vs us : List Value) (r : Bool) : Prop :=
 ∀ w, (eqGuard .eql t (.tmp 0) (.tmp 0) (.agg vs.toArray) (.agg us.toArray)).run P w = .ok () w ∧ (Op.equalIn 10000 t (.agg vs.toArray) (.agg us.toArray)).run P w = .ok r w
theorem Wt {t t' e : TypeId} {x : Operand} {A : Option Addr} {m c : Nat} (h1 : SliceT P t e) (hx : Ev n b K x (.slice A m c)) : Yr P ⟨dst, .call ⟨.builtin .len, #[x], #[t]⟩, t', pos, aft, gd⟩ n K w0 L b (.int .i64 (m : Int)) := fun a w hb hkn _ => by
 simp [execOp, resolve, invoke, builtin, Builtin.len_, hx a hb hkn, run_underlying h1, goInt]
def lay (cs : List Value) : Nat → List Value → List Value
 | _, [] => cs
 | i, v :: vs => lay (cs.set i v) (i + 1) vs
def fillL (places : Nat → Option (Nat × Nat)) (zs : List Value) : List (Nat × Value) → Option (List Value)
 | [] => some zs
 | (i, v) :: rest => match places i with
   | none => none
   | some (off, size) => bif Nat.beq v.cells.toList.length size && Nat.ble (off + size) zs.length then fillL places (lay zs off v.cells.toList) rest else none
theorem foldl_lay : ∀ (vs : List Value) (off j : Nat) (zs : List Value), (vs.zipIdx j).foldl (fun cs (x : Value × Nat) => cs.setIfInBounds (off + x.2) x.1) zs.toArray = (lay zs (off + j) vs).toArray
 | [], off, j, zs => rfl
 | v :: vs, off, j, zs => by
   simp only [List.zipIdx_cons, List.foldl_cons, lay]
   rw [List.setIfInBounds_toArray, foldl_lay vs off (j + 1)]
   rfl
theorem fill_of : ∀ {places : Nat → Option (Nat × Nat)} {parts : List (Nat × Value)} {zs us : List Value}, fillL places zs parts = some us → Instr.fill places zs.toArray parts = some us.toArray
 | places, [], zs, us, h => by simp [fillL] at h; simp [Instr.fill, h]
 | places, (i, v) :: rest, zs, us, h => by
   unfold fillL at h
   unfold Instr.fill
   split at h
   · cases h
   · rename_i off size hp
     simp only [hp]
     cases hc : (Nat.beq v.cells.toList.length size && Nat.ble (off + size) zs.length) with
     | false => rw [hc] at h; simp at h
     | true =>
       rw [hc] at h
       simp only [cond_true] at h
       simp only [Bool.and_eq_true, Nat.ble_eq] at hc
       obtain ⟨h1, h2⟩ := hc
       have h1' : v.cells.size = size := by simpa using h1
       have h3 : (decide (v.cells.size ≠ size) || decide (off + v.cells.size > zs.toArray.size)) = false := by
         simp [h1']; omega
       have h4 : v.cells.zipIdx.foldl (fun cs (x : Value × Nat) => cs.setIfInBounds (off + x.2) x.1) zs.toArray = (lay zs off v.cells.toList).toArray := by
         have := foldl_lay v.cells.toList off 0 zs
         rw [← Array.foldl_toList, Array.toList_zipIdx]
         simpa using this
       rw [if_neg (by rw [h3]; simp)]
       have h5 := fill_of (places := places) (parts := rest) h
       rw [← h4] at h5
       exact h5
def BuildT (P : Program) (t : TypeId) (zs : List Value) (places : List (Nat × Nat)) : Prop :=
 (∃ z, (∀ w, (zeroValue t).run P w = .ok z w) ∧ z.cells = zs.toArray) ∧ ∃ fs, P.underlying t = some (.struct fs) ∧ ∀ w, (fs.mapM (fun f => do pure (f.offset, ← sizeOf f.type)) : Sem (Array (Nat × Nat))).run P w = .ok places.toArray w
theorem BuildT.run {t : TypeId} {zs : List Value} {places : List (Nat × Nat)} (h : BuildT P t zs places) {parts : List (Nat × Value)} {us : List Value} (hf : fillL (places[·]?) zs parts = some us) (w : World) : (Instr.build t parts.toArray).run P w = .ok (.agg us.toArray) w := by
 obtain ⟨⟨z, hz, hc⟩, fs, hu, hm⟩ := h
 have h1 : Instr.fill (fun x => places[x]?) zs.toArray parts = some us.toArray := fill_of hf
 simp only [Instr.build, Sem.run_bind, hz, Result.andThen_ok, run_underlying hu, hm, hc]
 simp [h1]
theorem Zf {f : FuncId} {xs : List Operand} {ts : Array TypeId} {vs : List Value} {v : Value} (hf : ∀ args w, (callFunc f args).run P w = .ok (.enter f args) w) (hx : EvL n b K xs vs)
   (hc : b = true → ∀ w, Wd w0 L w → Calls P f vs.toArray w fun e w' => e = .returned v ∧ Bel w.heap.size w w') : Ys P ⟨dst, .call ⟨.value (.func f), xs.toArray, ts⟩, ty, pos, aft, gd⟩ n K w0 L b v := fun a w hb hkn hw => by
 have e : (xs.toArray.map a.eval) = vs.toArray := by rw [List.map_toArray, hx a hb hkn]
 have hrun : (execOp a.eval ⟨dst, .call ⟨.value (.func f), xs.toArray, ts⟩, ty, pos, aft, gd⟩).run P w = .ok (.enter f vs.toArray) w := by
   simp only [execOp, resolve, e]
   simp [Act.eval, Deferred.ofValue, invoke, hf]
 rw [hrun]
 exact ⟨rfl, (hc hb w hw).mono fun e w' ⟨he, hbl⟩ => ⟨he, hw.step hbl⟩⟩
end ops
section movers
variable {P : Program} {n : Nat} {w0 : World} {K : KL} {L : List Chunk} {ty : TypeId} {pos : String} {aft : Array Edge} {gd : Option (Nat × Bool)} {a : Act} {w : World} {Z : Act → World → Prop} {Q : Exit → Act → World → Prop} {d : Nat}
theorem Wv {o : Oper} {v : Value} {w' : World} (hr : (execOp a.eval o).run P w = .ok (.value v) w') (h : Z (a.put o.dst v) w') : o.wp P a w Z Q := by
 unfold Oper.wp; rw [hr]; exact h
theorem Zw {t : TypeId} {x : Operand} {vs : List Value} (S : St n w0 K L a w) (hx : Ev n true K x (.agg vs.toArray)) (hd : Nat.blt d n = true)
   (next : ∀ g a w, St n w0 ((d, true, .pointer (some ⟨g, 0, none⟩)) :: K) (.blk g (.cells vs.toArray t) :: L) a w → Z a w) : Oper.wp P ⟨some d, .box t x, ty, pos, aft, gd⟩ a w Z Q := by
 refine Wv (v := .pointer (some ⟨w.heap.size, 0, none⟩)) (w' := w.alloc (.cells vs.toArray t)) ?_ (next _ _ _ ⟨S.kn.put hd _, S.wd.alloc _⟩)
 simp [execOp, hx a rfl S.kn, Instr.box, newVar, newRow, Value.cells]
end movers
section ends
variable {P : Program} {n : Nat} {w0 : World} {K : KL} {L : List Chunk} {a : Act} {w : World} {fn : Func} {R : Ending → World → Prop} {t : Nat} {v : Value}
theorem Zm (S : St n w0 K L a w) (hr : (results fn a.tmps).run P w = .ok v w) (h : R (.returned v) w) : bodyPost P fn R .ret a w := ⟨S.kn.defers, v, hr, h⟩
def res1 (tmps : Array Value) (r : ResultVar) : Sem Value := match r with
 | .tmp t => pure (tmps.getD t undef)
 | .cell a t => do loadVar t (← asAddr (tmps.getD a undef))
theorem results_eq (fn : Func) (tmps : Array Value) : results fn tmps = (do let vs ← fn.results.mapM (res1 tmps); pure (if h : vs.size = 1 then vs[0] else .tuple vs)) := rfl
def Rv (P : Program) (n : Nat) (w0 : World) (K : KL) (L : List Chunk) (r : ResultVar) (v : Value) : Prop :=
 ∀ a w, Kn n K a → Wd w0 L w → (res1 a.tmps r).run P w = .ok v w
theorem Rv.tmp (h : look K t = some (true, v)) : Rv P n w0 K L (.tmp t) v := fun a w hk _ => by
 simp [res1, hk.slot t true v h]
theorem Rv.cell {ty m : Nat} {g k : Nat} {cs : List Value} {e : TypeId} {fr : Nat × Nat} (h1 : Many P ty m) (h : look K t = some (true, .pointer (some ⟨g, 0, none⟩))) (hk : L[k]? = some (.blk g (.cells cs.toArray e fr))) (hm : cs.length = m) :
   Rv P n w0 K L (.cell t ty) (.agg cs.toArray) := fun a w hkn hw => by
 have hg := (hw.get hk).2
 have h2 := Wp (P := P) (ad := ⟨g, 0, none⟩) h1 hm (w := w) (fun j u hj => by
   rw [Addr.add_mid, cell_of_row w g (0 + j) _ e fr hg]; simpa using hj)
 simp [res1, hkn.slot t true _ h, asAddr, h2]
theorem results1 {fn : Func} {r : ResultVar} (S : St n w0 K L a w) (h : fn.results = #[r]) (hv : Rv P n w0 K L r v) : (results fn a.tmps).run P w = .ok v w := by
 have h1 := hv a w S.kn S.wd
 simp [results_eq, h, h1]
end ends
end Go.Ft
namespace Go.Ft
open Go.RowKit
theorem Za {K : Act → World → Prop} {Q : Exit → Act → World → Prop} {a : Act} {w : World} (h : K a w) : Exit.then K Q .normal a w := h
section exits
variable {K : Act → World → Prop} {Q : Exit → Act → World → Prop} {a : Act} {w : World} {i j : Nat}
theorem Zd (h : Q .ret a w) : Exit.then K Q .ret a w := h
theorem Zh (h : Q (.exit i) a w) : Exit.then K Q (.exit i) a w := h
theorem Zr (h : Q .ret a w) : Exit.inBlock i Q .ret a w := h
theorem Zk (h : Q .normal a w) : Exit.inBlock i Q .normal a w := h
theorem Ya (h : Q .normal a w) : Exit.inBlock i Q (.exit i) a w := by simp [Exit.inBlock, h]
end exits
def Sl {α : Type} (enc : α → List Value) (size : Nat) (w : World) (B : Nat) (v : Value) (l : List α) : Prop :=
 ∃ A cap, v = .slice A l.length cap ∧ l.length ≤ cap ∧ cap ≤ 9223372036854775807 ∧
   (0 < l.length → ∃ g o, A = some ⟨g, o, none⟩ ∧ g < B ∧ ∀ k x, l[k]? = some x → ∀ j u, (enc x)[j]? = some u → w.cell? ⟨g, o + k * size + j, none⟩ = some u)
section sl
variable {α : Type} {enc : α → List Value} {size : Nat} {w w' w0 : World} {B B' : Nat} {v : Value} {l : List α} {L : List Chunk}
theorem Sl.keep (h : Sl enc size w B v l) (hk : Below B w w') : Sl enc size w' B v l := by
 obtain ⟨A, cap, rfl, h1, h2, h3⟩ := h
 refine ⟨A, cap, rfl, h1, h2, fun hl => ?_⟩
 obtain ⟨g, o, hA, hg, hc⟩ := h3 hl
 exact ⟨g, o, hA, hg, fun k x hx j u hu => (hk.cell (p := ⟨g, o + k * size + j, none⟩) hg).trans (hc k x hx j u hu)⟩
theorem Sl.mono (h : Sl enc size w B v l) (hB : B ≤ B') : Sl enc size w B' v l := by
 obtain ⟨A, cap, rfl, h1, h2, h3⟩ := h
 refine ⟨A, cap, rfl, h1, h2, fun hl => ?_⟩
 obtain ⟨g, o, hA, hg, hc⟩ := h3 hl
 exact ⟨g, o, hA, by omega, hc⟩
end sl
end Go.Ft
namespace Go.Ft
open Go.RowKit
def InfoT (P : Program) (e : TypeId) (z : Value) (size bytes : Nat) : Prop := (P.info? e).map (fun i => (i.zero, i.size, i.bytes)) = some (some z, size, bytes)
theorem InfoT.parts {P : Program} {e : TypeId} {z : Value} {size bytes : Nat} (h : InfoT P e z size bytes) : ∃ i, P.info? e = some i ∧ i.zero = some z ∧ i.size = size ∧ i.bytes = bytes := by
 unfold InfoT at h
 cases hi : P.info? e with
 | none => rw [hi] at h; simp at h
 | some i => rw [hi] at h; simp at h; exact ⟨i, rfl, h⟩
structure Src (P : Program) (w : World) (size : Nat) (x : Value) (m : Nat) (news : List Value) : Prop where
 len : ∀ W, (Builtin.lenOf x).run P W = .ok m W
 here : (Builtin.firstCells size m x).run P w = .ok news.toArray w
 drew : (Builtin.firstCells size m x).run P w.drew = .ok news.toArray w.drew
 length : news.length = m * size
 one : ∀ u ∈ news, u.oneCell' = true
section src
variable {P : Program} {w : World} {size m : Nat} {news : List Value}
theorem Src.at_ {g o c : Nat} (hl : news.length = m * size) (h1 : ∀ u ∈ news, u.oneCell' = true) (h : ∀ j u, news[j]? = some u → w.cell? ⟨g, o + j, none⟩ = some u) : Src P w size (.slice (some ⟨g, o, none⟩) m c) m news :=
 ⟨fun W => by simp [Builtin.lenOf],
  run_firstCells_some (P := P) w size m ⟨g, o, none⟩ m c news hl (fun j u hj => by rw [Addr.add_mid]; exact h j u hj),
  run_firstCells_some (P := P) w.drew size m ⟨g, o, none⟩ m c news hl (fun j u hj => by rw [Addr.add_mid]; exact h j u hj), hl, h1⟩
theorem Src.none_ {A : Option Addr} {c : Nat} : Src P w size (.slice A 0 c) 0 [] := by
 cases A with
 | none => exact ⟨fun W => by simp [Builtin.lenOf], by simp [Builtin.firstCells], by simp [Builtin.firstCells], by simp, by simp⟩
 | some a => exact ⟨fun W => by simp [Builtin.lenOf], by simp [Builtin.firstCells, loadCells, loadCellsFrom], by simp [Builtin.firstCells, loadCells, loadCellsFrom], by simp, by simp⟩
theorem Src.blk {L : List Chunk} {w0 : World} (hw : Wd w0 L w) {k g c : Nat} {e : TypeId} {fr : Nat × Nat} (hk : L[k]? = some (.blk g (.cells news.toArray e fr))) (hl : news.length = m * size) (h1 : ∀ u ∈ news, u.oneCell' = true) : Src P w size (.slice (some ⟨g, 0, none⟩) m c) m news :=
 Src.at_ hl h1 (fun j u hj => by rw [cell_of_row w g (0 + j) _ e fr (hw.get hk).2]; simpa using hj)
theorem Src.row {L : List Chunk} {w0 : World} (hw : Wd w0 L w) {k e cap c : Nat} {A : Option Addr} (hk : L[k]? = some (.row e size A m cap news)) (h1 : ∀ u ∈ news, u.oneCell' = true) : Src P w size (.slice A m c) m news := by
 have h := hw.get hk
 rcases h.2 with ⟨rfl, _⟩ | ⟨g, cur, rfl, _⟩
 · have : news = [] := List.eq_nil_of_length_eq_zero (by simpa using h.1)
   subst this
   exact Src.none_
 · exact Src.at_ h.1 h1 (fun j u hj => by rw [Nat.zero_add]; exact Owns.cell h hj)
theorem Src.sl {α : Type} {enc : α → List Value} {B : Nat} {A : Option Addr} {l : List α} {cap c : Nat} (h : Sl enc size w B (.slice A l.length cap) l) (hsz : 0 < size) (he : ∀ x, (enc x).length = size) (h1 : ∀ x, ∀ u ∈ enc x, u.oneCell' = true) :
   Src P w size (.slice A l.length c) l.length (l.flatMap enc) := by
 have hlen : ∀ l : List α, (l.flatMap enc).length = l.length * size := by
   intro l
   induction l with
   | nil => simp
   | cons x r ih => simp [he, ih, Nat.add_mul, Nat.add_comm]
 have hget : ∀ (l : List α) (j : Nat) (u : Value), (l.flatMap enc)[j]? = some u → ∃ x, l[j / size]? = some x ∧ (enc x)[j % size]? = some u := by
   intro l
   induction l with
   | nil => intro j u hj; simp at hj
   | cons x r ih =>
     intro j u hj
     rw [List.flatMap_cons, List.getElem?_append] at hj
     split at hj
     · rename_i hlt
       rw [he] at hlt
       exact ⟨x, by simp [Nat.div_eq_of_lt hlt], by rw [Nat.mod_eq_of_lt hlt]; exact hj⟩
     · rename_i hge
       rw [he] at hge hj
       obtain ⟨y, h2, h3⟩ := ih _ _ hj
       have hge' : size ≤ j := by omega
       refine ⟨y, ?_, ?_⟩
       · rw [show j / size = (j - size) / size + 1 from Nat.div_eq_sub_div hsz hge']
         simpa using h2
       · rw [Nat.mod_eq_sub_mod hge']; exact h3
 obtain ⟨A', cap', hv, h2, h3, h4⟩ := h
 simp only [Value.slice.injEq] at hv
 obtain ⟨rfl, _, rfl⟩ := hv
 rcases Nat.eq_zero_or_pos l.length with h0 | hp
 · have : l = [] := List.eq_nil_of_length_eq_zero h0
   subst this
   exact Src.none_
 · obtain ⟨g, o, rfl, hg, hc⟩ := h4 hp
   refine Src.at_ (hlen l) (fun u hu => ?_) (fun j u hj => ?_)
   · obtain ⟨x, _, hx⟩ := List.mem_flatMap.1 hu
     exact h1 x u hx
   · obtain ⟨x, h5, h6⟩ := hget l j u hj
     have := hc _ x h5 _ u h6
     rw [show o + j = o + j / size * size + j % size by rw [Nat.add_assoc, Nat.mul_comm, Nat.div_add_mod]]
     exact this
end src
section app
variable {P : Program} {w : World}
end app
end Go.Ft
namespace Go.Ft
open Go.RowKit
abbrev rowOf {α : Type} (e size : Nat) (enc : α → List Value) (A : Option Addr) (cap : Nat) (l : List α) : Chunk := .row e size A l.length cap (l.flatMap enc)
theorem Sl.of_own {α : Type} {enc : α → List Value} {size e cap k : Nat} {w w0 : World} {L : List Chunk} {A : Option Addr} {l : List α} (W : Wd w0 L w) (hk : L[k]? = some (rowOf e size enc A cap l)) (he : ∀ x, (enc x).length = size) : Sl enc size w w.heap.size (.slice A l.length cap) l := by
 have h := W.get hk
 rcases h.2 with ⟨h0, rfl⟩ | ⟨g, cur, rfl, hp, hB, hg, hn, hm, hc, ht⟩
 · exact ⟨A, 0, rfl, by omega, by omega, fun hl => by omega⟩
 · refine ⟨_, cap, rfl, hn, hm, fun _ => ⟨g, 0, rfl, (Array.getElem?_eq_some_iff.1 hg).1, fun i x hx j u hu => ?_⟩⟩
   rw [Nat.zero_add]
   refine Owns.cell h ?_
   have key : ∀ (l : List α) (i : Nat), l[i]? = some x → (l.flatMap enc)[i * size + j]? = some u := by
     intro l
     induction l with
     | nil => intro i hi; simp at hi
     | cons y r ih =>
       intro i hi
       rw [List.flatMap_cons]
       match i, hi with
       | 0, hi =>
         simp only [List.getElem?_cons_zero, Option.some.injEq] at hi
         subst hi
         have hlt : j < (enc y).length := (List.getElem?_eq_some_iff.1 hu).1
         rw [Nat.zero_mul, Nat.zero_add, List.getElem?_append_left hlt]; exact hu
       | i + 1, hi =>
         rw [List.getElem?_append_right (by rw [he, Nat.add_mul]; omega), he, show (i + 1) * size + j - size = i * size + j by rw [Nat.add_mul]; omega]
         exact ih i (by simpa using hi)
   exact key l i hx
section ldw
variable {P : Program} {n : Nat} {w0 : World} {K : KL} {L : List Chunk} {b : Bool} {dst : Option Tmp} {ty : TypeId} {pos : String} {aft : Array Edge} {gd : Option (Nat × Bool)}
end ldw
section movers
variable {P : Program} {n : Nat} {w0 : World} {K : KL} {L : List Chunk} {ty : TypeId} {pos : String} {aft : Array Edge} {gd : Option (Nat × Bool)} {a : Act} {w : World} {Z : Act → World → Prop} {Q : Exit → Act → World → Prop} {d : Nat}
theorem op_bslice {t e sz len : Nat} {z : Value} {ps : List (Nat × Operand)} {vs us : List Value} (zs : List Value) (S : St n w0 K L a w) (ht : P.underlying t = some (.slice e)) (hsz : ∀ w, (sizeOf e).run P w = .ok sz w) (hz : ∀ w, (zeroValue e).run P w = .ok z w)
   (hzs : (Array.range (len * sz)).map (fun i => (if len * sz = 0 then #[] else z.cells)[i % (if len * sz = 0 then (#[] : Array Value) else z.cells).size]!) = zs.toArray) (hmax : Nat.ble (len * sz) 16777216 = true)
   (hx : EvL n true K (ps.map (·.2)) vs) (hr : fillL (fun i => some (i * sz, sz)) zs ((ps.map (·.1)).zip vs) = some us) (hd : Nat.blt d n = true)
   (next : ∀ g a w, St n w0 ((d, true, .slice (some ⟨g, 0, none⟩) len len) :: K) (.blk g (.cells us.toArray e) :: L) a w → Z a w) :
   Oper.wp P ⟨some d, .buildSlice t len ps.toArray, ty, pos, aft, gd⟩ a w Z Q := by
 refine Wv (v := .slice (some ⟨w.heap.size, 0, none⟩) len len) (w' := w.alloc (.cells us.toArray e)) ?_ (next _ _ _ ⟨S.kn.put hd _, S.wd.alloc _⟩)
 have h := hx a rfl S.kn
 have e : (ps.toArray.map fun (i, x) => (i, a.eval x)) = ((ps.map (·.1)).zip vs).toArray := by
   rw [← h]
   simp only [List.map_toArray, List.map_map, List.zip_map', Function.comp_def]
 have hf := fill_of hr
 have hm : ¬ (2 ^ 24 < len * sz) := by have := Nat.le_of_ble_eq_true hmax; omega
 simp only [execOp, e, Instr.buildSlice, Sem.run_bind, run_underlying ht, Result.andThen_ok, hsz]
 by_cases h0 : len * sz = 0
 · simp only [h0, if_true, Array.range_zero', List.map_toArray, List.map_nil] at hzs
   have hz0 : zs = [] := by simpa using hzs.symm
   subst hz0
   simp [hm, h0, hf, newRow, Array.range_zero']
 · simp only [h0, if_false] at hzs
   simp [hm, h0, hz, hzs, hf, newRow]
end movers
section ops
variable {P : Program} {n : Nat} {w0 : World} {K : KL} {L : List Chunk} {b : Bool} {dst : Option Tmp} {ty : TypeId} {pos : String} {aft : Array Edge} {gd : Option (Nat × Bool)}
end ops
section eq
variable {P : Program}
def FEq (P : Program) (k : Nat) (xs ys : List Value) (fs : List Field) (r : Bool) : Prop := ∀ d w, (Op.eqFields (d + k) xs.toArray ys.toArray fs).run P w = .ok r w
section fields
variable {xs ys : List Value} {nm : String} {tt o : Nat} {em : Bool} {tg pp : String} {bo : Nat} {fs : List Field} {r : Bool} {k : Nat}
theorem FEq.nil : FEq P k xs ys [] true := fun d w => by simp [Op.eqFields]
theorem FEq.int {ik ik' : IntKind} {p q : Int} (hn : (nm != "_") = true) (ht : P.underlying tt = some (.int ik')) (ha : ∀ w, (isAgg tt).run P w = .ok false w) (hx : nth xs o = some (.int ik p)) (hy : nth ys o = some (.int ik q)) (h : FEq P (k + 1) xs ys fs r) :
   FEq P (k + 1) xs ys (⟨nm, tt, o, em, tg, pp, bo⟩ :: fs) (decide (p = q) && r) := fun d w => by
 have hn' : nm ≠ "_" := by simpa using hn
 rw [nth_eq] at hx hy
 have hpq : (p == q) = decide (p = q) := rfl
 have hh := run_equalIn_int (P := P) w (d + k) tt ik ik' p q ht
 rw [Nat.add_assoc] at hh
 simp only [Op.eqFields, ne_eq, hn', not_false_eq_true, if_true, Sem.run_bind, part, ha, Result.andThen_ok]
 simp [hx, hy, hh, hpq]
 by_cases e : p = q <;> simp [e, h d w]
theorem FEq.bool {p q : Bool} (hn : (nm != "_") = true) (ht : P.underlying tt = some .bool) (ha : ∀ w, (isAgg tt).run P w = .ok false w) (hx : nth xs o = some (.bool p)) (hy : nth ys o = some (.bool q)) (h : FEq P (k + 1) xs ys fs r) :
   FEq P (k + 1) xs ys (⟨nm, tt, o, em, tg, pp, bo⟩ :: fs) (decide (p = q) && r) := fun d w => by
 have hn' : nm ≠ "_" := by simpa using hn
 rw [nth_eq] at hx hy
 have hpq : (p == q) = decide (p = q) := by cases p <;> cases q <;> rfl
 have hh := run_equalIn_bool' (P := P) w (d + k) tt p q ht
 rw [Nat.add_assoc] at hh
 simp only [Op.eqFields, ne_eq, hn', not_false_eq_true, if_true, Sem.run_bind, part, ha, Result.andThen_ok]
 simp [hx, hy, hh, hpq]
 by_cases e : p = q <;> simp [e, h d w]
theorem FEq.agg {fs' : List Field} {m : Nat} {us vs : List Value} {r' : Bool} (hn : (nm != "_") = true) (ht : P.underlying tt = some (.struct fs'.toArray)) (hp : P.stoodInHeld tt = false) (ha : ∀ w, (isAgg tt).run P w = .ok true w) (hz : ∀ w, (sizeOf tt).run P w = .ok m w) (hx : cellsAt xs o m = some us) (hy : cellsAt ys o m = some vs)
   (h' : FEq P k us vs fs' r') (h : FEq P (k + 1) xs ys fs r) : FEq P (k + 1) xs ys (⟨nm, tt, o, em, tg, pp, bo⟩ :: fs) (r' && r) := fun d w => by
 have hn' : nm ≠ "_" := by simpa using hn
 have e1 : xs.toArray.extract o (o + m) = us.toArray := by
   rw [(Wh hx).2]; simp [List.extract_eq_take_drop, List.extract_toArray]
 have e2 : ys.toArray.extract o (o + m) = vs.toArray := by
   rw [(Wh hy).2]; simp [List.extract_eq_take_drop, List.extract_toArray]
 have hh := run_equalIn_struct (P := P) w (d + k) tt us.toArray vs.toArray (by simp [Program.fieldsOf, ht]) hp
 rw [Nat.add_assoc] at hh
 have hf := h' d w
 simp only [Op.eqFields, ne_eq, hn', not_false_eq_true, if_true, Sem.run_bind, part, ha, hz, Result.andThen_ok, Sem.run_pure, e1, e2, hh, Program.fieldsOf, ht, hf]
 cases r' <;> simp [h d w]
end fields
theorem EqT.mk {t k d : Nat} {fs : List Field} {xs ys : List Value} {r r' : Bool} (hu : P.underlying t = some (.struct fs.toArray)) (hs : P.stoodInHeld t = false) (hg : P.eqGuardType P.depth t = false) (hk : d + k = 9999) (h : FEq P k xs ys fs r) (hr : r = r') : EqT P t xs ys r' := fun w => by
 subst hr
 refine ⟨by simp [eqGuard, hg], ?_⟩
 rw [run_equalIn_struct w 9999 t _ _ (by simp [Program.fieldsOf, hu]) hs]
 simp only [Program.fieldsOf, hu]
 rw [← hk]
 exact h d w
end eq
end Go.Ft
namespace Go.Ft
open Go.RowKit
section ops
variable {P : Program} {n : Nat} {w0 : World} {K : KL} {L : List Chunk} {b : Bool} {dst : Option Tmp} {ty : TypeId} {pos : String} {aft : Array Edge} {gd : Option (Nat × Bool)}
theorem Yu {o : Oper} {p : Prop} [Decidable p] (h : p) (hy : Yr P o n K w0 L b (.bool (decide p))) : Yr P o n K w0 L b (.bool true) := Yr.of_imp (fun _ => by rw [decide_eq_true h]) hy
theorem Yq {o : Oper} {p : Prop} [Decidable p] (h : ¬ p) (hy : Yr P o n K w0 L b (.bool (decide p))) : Yr P o n K w0 L b (.bool false) := Yr.of_imp (fun _ => by rw [decide_eq_false h]) hy
end ops
section known
variable {P : Program} {Q : Exit → Act → World → Prop} {n : Nat} {w0 : World} {K : KL} {L Lr : List Chunk} {a : Act} {w : World} {ops : Array Oper} {rest : List Oper} {op : Op} {ty : TypeId} {pos : String} {aft : Array Edge} {v : Value} {d t j i fuel : Nat} {p q : Bool} {listed : Array Bool} {md : Region.Mode} {Z : Act → Prop}
end known
end Go.Ft
namespace Go.Ft
open Go.RowKit
structure Dot where
 node : Int
 life : Int
 count : Int
deriving DecidableEq
abbrev Dot.enc (d : Dot) : List Value := [.int .i64 d.node, .int .i64 d.life, .int .i64 d.count]
structure Ctx where
 marks : List Dot
 cloud : List Dot
deriving DecidableEq
def markOf : List Dot → Int → Int → Int
 | [], _, _ => 0
 | m :: r, x, y => if m.node = x ∧ m.life = y then m.count else markOf r x y
def Ctx.covers (C : Ctx) (d : Dot) : Bool := decide (1 ≤ d.count) && (decide (d.count ≤ markOf C.marks d.node d.life) || decide (d ∈ C.cloud))
def keep (x y : Int) (l : List Dot) : List Dot := l.filter fun d => !decide (d.node = x ∧ d.life = y)
def mayD (d : Dot) : Bool := decide (0 ≤ d.node ∧ d.node < 8 ∧ 1 ≤ d.life ∧ d.life ≤ 1099511627776 ∧ 1 ≤ d.count ∧ d.count ≤ 1099511627776)
def belowD (a b : Dot) : Bool := if a.node ≠ b.node then decide (a.node < b.node) else if a.life ≠ b.life then decide (a.life < b.life) else decide (a.count < b.count)
end Go.Ft
namespace Go.Ft
open Go.RowKit
def orderD (a b : Dot) : Int := if a.node ≠ b.node then a.node - b.node else if a.life ≠ b.life then a.life - b.life else a.count - b.count
abbrev Dot.nl (d : Dot) : Dot := ⟨d.node, d.life, 0⟩
def gapM (p : Option Dot) (m : Dot) : Bool := match p with
 | none => true
 | some x => decide (orderD x.nl m.nl < 0)
def gapC (p : Option Dot) (m : Dot) : Bool := match p with
 | none => true
 | some x => decide (orderD x m < 0)
def okM (p : Option Dot) : List Dot → Bool
 | [] => true
 | m :: r => mayD m && gapM p m && okM (some m) r
def okC (ms : List Dot) (p : Option Dot) : List Dot → Bool
 | [] => true
 | d :: r => mayD d && gapC p d && decide (markOf ms d.node d.life + 1 < d.count) && okC ms (some d) r
def canL (C : Ctx) : Bool := decide (C.marks.length ≤ 64 ∧ C.cloud.length ≤ 64) && okM none C.marks && okC C.marks none C.cloud
end Go.Ft
namespace Go.Proofs.YtakpdbmdfnialaaGreat.Tk
open Go.Ft Go.Proofs Go.RowKit
theorem c165 (w0 : World) (x y z x' y' z' : Int) (h : (0 ≤ x ∧ x ≤ 1099511627776) ∧ (0 ≤ y ∧ y ≤ 1099511627776) ∧ 0 ≤ z ∧ z ≤ 1099511627776) (h' : (0 ≤ x' ∧ x' ≤ 1099511627776) ∧ (0 ≤ y' ∧ y' ≤ 1099511627776) ∧ 0 ≤ z' ∧ z' ≤ 1099511627776) :
   Calls Tryz.prog 165 #[.agg #[.int .i64 x, .int .i64 y, .int .i64 z], .agg #[.int .i64 x', .int .i64 y', .int .i64 z']] w0 fun e w' => e = .returned (.int .i64 (orderD ⟨x, y, z⟩ ⟨x', y', z'⟩)) ∧ Bel w0.heap.size w0 w' := by
 refine enter2 Tryz.func165 rfl Tryz.ntmps165 rfl fun a S => ?_
 refine wp_seq_k fun _ hK1 => ?_
 refine wp_region_lit ?_
 (refine Zj (Zw S (Ev.t rfl) rfl ?_); clear S a; intro g1 a w S)
 (refine Zj (Zw S (Ev.t rfl) rfl ?_); clear S a w; intro g2 a w S)
 (refine Yk S (Yr.ys (Yi Ev.c)) rfl ?_; clear S a w; intro a w S)
 refine Zb ?_
 (refine (Za (hK1 _ _ ?_)); clear hK1)
 refine wp_seq_k fun _ hK1 => ?_
 refine wp_block ?_
 refine wp_seq_k fun _ hK2 => ?_
 refine wp_region_lit ?_
 (refine Yk S (Yr.ys (Zc (FieldT.mk Tryz.underlying74 rfl Tryz.sizeOf3 rfl) (Ev.t rfl) (i' := 0) rfl)) rfl ?_; clear S a w; intro a w S)
 (refine Yk S (Yr.ys (Zt ⟨Tryz.isAgg3, Tryz.sizeOf3⟩ (Ev.t rfl) (k := 1) rfl rfl)) rfl ?_; clear S a w; intro a w S)
 (refine Yk S (Yr.ys (Zc (FieldT.mk Tryz.underlying74 rfl Tryz.sizeOf3 rfl) (Ev.t rfl) (i' := 0) rfl)) rfl ?_; clear S a w; intro a w S)
 (refine Yk S (Yr.ys (Zt ⟨Tryz.isAgg3, Tryz.sizeOf3⟩ (Ev.t rfl) (k := 0) rfl rfl)) rfl ?_; clear S a w; intro a w S)
 (refine Yk S (Yr.ys (Yh (Ev.t rfl) (Ev.t rfl))) rfl ?_; clear S a w; intro a w S)
 (refine Yk S (Yr.ys (Yi (Ev.t rfl))) rfl ?_; clear S a w; intro a w S)
 refine Zb ?_
 (refine (Za (hK2 _ _ ?_)); clear hK2)
 refine Xz S (Ev.t rfl) (fun h1 => ?_) (fun h1 => ?_)
 refine wp_seq_k fun _ hK2 => ?_
 refine wp_region_lit ?_
 (refine Yk S (Yr.ys (Zc (FieldT.mk Tryz.underlying74 rfl Tryz.sizeOf3 rfl) (Ev.t rfl) (i' := 0) rfl)) rfl ?_; clear S a w; intro a w S)
 (refine Yk S (Yr.ys (Zt ⟨Tryz.isAgg3, Tryz.sizeOf3⟩ (Ev.t rfl) (k := 1) rfl rfl)) rfl ?_; clear S a w; intro a w S)
 (refine Yk S (Yr.ys (Zc (FieldT.mk Tryz.underlying74 rfl Tryz.sizeOf3 rfl) (Ev.t rfl) (i' := 0) rfl)) rfl ?_; clear S a w; intro a w S)
 (refine Yk S (Yr.ys (Zt ⟨Tryz.isAgg3, Tryz.sizeOf3⟩ (Ev.t rfl) (k := 0) rfl rfl)) rfl ?_; clear S a w; intro a w S)
 (refine Yk S (Yr.ys (Xm (Ev.t rfl) (Ev.t rfl) (fun _ => by unfold I64; omega))) rfl ?_; clear S a w; intro a w S)
 (refine Yk S (Yr.ys (Yi (Ev.t rfl))) rfl ?_; clear S a w; intro a w S)
 refine Zb ?_
 (refine (Za (hK2 _ _ ?_)); clear hK2)
 refine wp_ret ?_
 refine (Zr (Zd ?_))
 refine Zm S (results1 S Tryz.results165 (Rv.tmp rfl)) ?_
 rotate_left
 refine wp_seq_k fun _ hK2 => ?_
 refine wp_region_lit ?_
 (refine Yk S (Yr.ys (Zc (FieldT.mk Tryz.underlying74 rfl Tryz.sizeOf3 rfl) (Ev.t rfl) (i' := 1) rfl)) rfl ?_; clear S a w; intro a w S)
 (refine Yk S (Yr.ys (Zt ⟨Tryz.isAgg3, Tryz.sizeOf3⟩ (Ev.t rfl) (k := 1) rfl rfl)) rfl ?_; clear S a w; intro a w S)
 (refine Yk S (Yr.ys (Zc (FieldT.mk Tryz.underlying74 rfl Tryz.sizeOf3 rfl) (Ev.t rfl) (i' := 1) rfl)) rfl ?_; clear S a w; intro a w S)
 (refine Yk S (Yr.ys (Zt ⟨Tryz.isAgg3, Tryz.sizeOf3⟩ (Ev.t rfl) (k := 0) rfl rfl)) rfl ?_; clear S a w; intro a w S)
 (refine Yk S (Yr.ys (Yh (Ev.t rfl) (Ev.t rfl))) rfl ?_; clear S a w; intro a w S)
 (refine Yk S (Yr.ys (Yi (Ev.t rfl))) rfl ?_; clear S a w; intro a w S)
 refine Zb ?_
 (refine (Za (hK2 _ _ ?_)); clear hK2)
 refine Xz S (Ev.t rfl) (fun h2 => ?_) (fun h2 => ?_)
 refine wp_seq_k fun _ hK2 => ?_
 refine wp_region_lit ?_
 (refine Yk S (Yr.ys (Zc (FieldT.mk Tryz.underlying74 rfl Tryz.sizeOf3 rfl) (Ev.t rfl) (i' := 1) rfl)) rfl ?_; clear S a w; intro a w S)
 (refine Yk S (Yr.ys (Zt ⟨Tryz.isAgg3, Tryz.sizeOf3⟩ (Ev.t rfl) (k := 1) rfl rfl)) rfl ?_; clear S a w; intro a w S)
 (refine Yk S (Yr.ys (Zc (FieldT.mk Tryz.underlying74 rfl Tryz.sizeOf3 rfl) (Ev.t rfl) (i' := 1) rfl)) rfl ?_; clear S a w; intro a w S)
 (refine Yk S (Yr.ys (Zt ⟨Tryz.isAgg3, Tryz.sizeOf3⟩ (Ev.t rfl) (k := 0) rfl rfl)) rfl ?_; clear S a w; intro a w S)
 (refine Yk S (Yr.ys (Xm (Ev.t rfl) (Ev.t rfl) (fun _ => by unfold I64; omega))) rfl ?_; clear S a w; intro a w S)
 (refine Yk S (Yr.ys (Yi (Ev.t rfl))) rfl ?_; clear S a w; intro a w S)
 refine Zb ?_
 (refine (Za (hK2 _ _ ?_)); clear hK2)
 refine wp_ret ?_
 refine (Zr (Zd ?_))
 refine Zm S (results1 S Tryz.results165 (Rv.tmp rfl)) ?_
 rotate_left
 refine wp_skip ?_
 (refine (Zk (Za (hK1 _ _ ?_))); clear hK1)
 refine wp_seq_k fun _ hK1 => ?_
 refine wp_region_lit ?_
 (refine Yk S (Yr.ys (Zc (FieldT.mk Tryz.underlying74 rfl Tryz.sizeOf3 rfl) (Ev.t rfl) (i' := 2) rfl)) rfl ?_; clear S a w; intro a w S)
 (refine Yk S (Yr.ys (Zt ⟨Tryz.isAgg3, Tryz.sizeOf3⟩ (Ev.t rfl) (k := 1) rfl rfl)) rfl ?_; clear S a w; intro a w S)
 (refine Yk S (Yr.ys (Zc (FieldT.mk Tryz.underlying74 rfl Tryz.sizeOf3 rfl) (Ev.t rfl) (i' := 2) rfl)) rfl ?_; clear S a w; intro a w S)
 (refine Yk S (Yr.ys (Zt ⟨Tryz.isAgg3, Tryz.sizeOf3⟩ (Ev.t rfl) (k := 0) rfl rfl)) rfl ?_; clear S a w; intro a w S)
 (refine Yk S (Yr.ys (Xm (Ev.t rfl) (Ev.t rfl) (fun _ => by unfold I64; omega))) rfl ?_; clear S a w; intro a w S)
 (refine Yk S (Yr.ys (Yi (Ev.t rfl))) rfl ?_; clear S a w; intro a w S)
 refine Zb ?_
 (refine (Za (hK1 _ _ ?_)); clear hK1)
 refine wp_ret ?_
 refine Zm S (results1 S Tryz.results165 (Rv.tmp rfl)) ?_
 rotate_left
 all_goals refine ⟨?_, S.wd.below⟩
 all_goals simp_all [orderD]
end Go.Proofs.YtakpdbmdfnialaaGreat.Tk
namespace Go.Fw
open Go.RowKit Go.Sort Go.Proofs Go.Shelf
section
variable {w0 w w' : World} {L : List Chunk}
variable {α : Type} [Inhabited α] {enc : α → List Value} {size : Nat}
theorem flatK_list (he : ∀ x, (enc x).length = size) (hs : 0 < size) (l : List α) : (flatK enc size l.toArray).toList = l.flatMap enc := by
 have hl := Wg he l
 apply List.ext_getElem?
 intro i
 by_cases hi : i < l.length * size
 · have hd : i / size < l.length := (Nat.div_lt_iff_lt_mul hs).2 hi
   have hx : l[i / size]? = some l[i / size] := by simp
   rw [flat_get he hs l i _ hx]
   have hm : i % size < (enc l[i / size]).length := by rw [he]; exact Nat.mod_lt _ hs
   rw [List.getElem?_eq_getElem hm]
   simp only [flatK, Array.getElem?_toList, Array.getElem?_map]
   rw [Array.getElem?_range, if_pos (by simpa using hi)]
   simp [hd, hm]
 · rw [List.getElem?_eq_none (by simp; omega), List.getElem?_eq_none (by omega)]
theorem holdsK_of (W : Wd w0 L w) (he : ∀ x, (enc x).length = size) (hs : 0 < size) {k e cap g : Nat} {l : List α} (hk : L[k]? = some (rowOf e size enc (some ⟨g, 0, none⟩) cap l)) (hc : cap ≠ 0) : HoldsK enc size w g 0 l.toArray ∧ g < w.heap.size := by
 have h := W.get hk
 refine ⟨fun j hj => ?_, (h.lt (b := g) ⟨hc, rfl⟩).2⟩
 rcases h.2 with ⟨_, h0⟩ | ⟨g', cur, hA, hp, hB, hg, hn, hm, hcs, ht⟩
 · exact absurd h0 hc
 · simp only [Option.some.injEq, Addr.mk.injEq, and_true] at hA
   subst hA
   rw [size_flatK] at hj
   have hj' : j < l.length * size := by simpa using hj
   refine ⟨?_, frozen_of_row w g _ _ e hg⟩
   rw [cell_of_row w g (0 + j) cur e (0, 0) hg, Nat.zero_add]
   have e1 : (flatK enc size l.toArray)[j]? = cur[j]? := by
     rw [← Array.getElem?_toList, ← Array.getElem?_toList, flatK_list he hs, ← ht, List.getElem?_take, if_pos hj']
   rw [← e1]
   have : j < (flatK enc size l.toArray).size := by rw [size_flatK]; exact hj
   rw [Array.getElem?_eq_getElem this, getElem!_pos _ j this]; rfl
theorem Wd.sorted (W : Wd w0 L w) (he : ∀ x, (enc x).length = size) (hs : 0 < size) {k e cap g : Nat} {l l' : List α} (hk : L[k]? = some (rowOf e size enc (some ⟨g, 0, none⟩) cap l)) (hc : cap ≠ 0) (hl : l'.length = l.length) (m : Nat) (os : Array Obj) :
   Wd w0 (L.set k (rowOf e size enc (some ⟨g, 0, none⟩) cap l')) (sortWorldK enc size w g 0 m l'.toArray os) := by
 have h := W.get hk
 have hlt := (h.lt (b := g) ⟨hc, rfl⟩).2
 rcases h.2 with ⟨_, h0⟩ | ⟨g', cur, hA, hp, hB, hg, hn, hm, hcs, ht⟩
 · exact absurd h0 hc
 · simp only [Option.some.injEq, Addr.mk.injEq, and_true] at hA
   subst hA
   have hheap : ∀ j, j < w.heap.size → (sortWorldK enc size w g 0 m l'.toArray os).heap[j]? = if g = j then some (.cells (putCells id 0 (flatK enc size l'.toArray) cur) e (0, 0)) else w.heap[j]? := fun j hj => by
     unfold sortWorldK putRowK putRow mapBlock grow Go.Sort.ahead
     simp only
     rw [Array.getElem?_append_left (by simpa using hj), Array.getElem?_modify]
     split
     · rename_i e1
       subst e1
       rw [hg]
       rfl
     · rfl
   have hcl : (l'.flatMap enc).length = l'.length * size := Wg he l'
   refine W.change hk ⟨rfl, rfl, rfl, by simp [sortWorldK, putRowK, putRow, mapBlock, grow, Go.Sort.ahead], fun j hj hne => ?_, by simp [sortWorldK, putRowK, putRow, mapBlock, grow, Go.Sort.ahead]⟩ ⟨by rw [Wg he], .inr ⟨g, _, rfl, hp, hB, by rw [hheap g hlt, if_pos rfl], by rw [hl]; exact hn, hm, by simp [putCells, hcs], ?_⟩⟩ fun b hb => .inl hb
   · rw [hheap j hj, if_neg (fun e1 => hne ⟨hc, by simp [e1]⟩)]
   · have hF := flatK_list he hs l'
     have hle : l'.length * size ≤ cur.size := by rw [hcs, hl]; exact Nat.mul_le_mul_right _ hn
     apply List.ext_getElem?
     intro i
     rw [List.getElem?_take]
     split
     · rename_i hi
       rw [Array.getElem?_toList, putCells, Array.getElem?_mapIdx]
       have hF2 : (flatK enc size l'.toArray)[i]? = (l'.flatMap enc)[i]? := by rw [← hF, Array.getElem?_toList]
       rw [Array.getElem?_eq_getElem (by omega)]
       have hsz : i < (flatK enc size l'.toArray).size := by simp; omega
       simp only [Option.map_some, id_eq, Nat.zero_le, Nat.zero_add, true_and, Nat.sub_zero]
       rw [if_pos hsz, ← hF2, Array.getElem?_eq_getElem hsz, getElem!_pos _ i hsz]
     · rename_i hi
       rw [List.getElem?_eq_none (by omega)]
end
end Go.Fw
namespace Go.Fw
open Go.RowKit Go.Sort Go.Proofs Go.Shelf
theorem sort_any {P : Program} {ρ : Ren} (LL : SlLaysF0.n6 P ρ) {α : Type} [Inhabited α] (k : Nat) (hk0 : 0 < k) (aE : ∀ w, (isAgg (ρ.t 24)).run P w = .ok true w) (zE : ∀ w, (Go.sizeOf (ρ.t 24)).run P w = .ok k w) (enc : α → List Value) (hk : ∀ x, (enc x).length = k) (h1 : ∀ x, ∀ v ∈ enc x, v.oneCell' = true)
   (cf : α → α → Int) (hO : SWO (ltOf cf)) (g : Nat) (eg : ∀ args w, (callFunc g args).run P w = .ok (.enter g args) w) (hcmp : ∀ (x y : α) W, Calls P g #[.agg (enc x).toArray, .agg (enc y).toArray] W fun e w' => e = .returned (.int .i64 (cf x y)) ∧ Go.Ft.Bel W.heap.size W w')
   {w0 w : World} {L : List Chunk} {A : Option Addr} {cap e : Nat} {l : List α} (W : Wd w0 (rowOf e k enc A cap l :: L) w) (hn : l.length ≤ 4194304) :
   RetsO P (ρ.f 6) #[.slice A l.length cap, .func (.func g) #[] #[]] w0 w fun v L' => ∃ l', v = .tuple #[] ∧ l'.Perm l ∧ l'.Pairwise (fun a b => ¬ cf b a < 0) ∧ L' = rowOf e k enc A cap l' :: L := by
 obtain ⟨hlc, hcm⟩ := W.room (k := 0) rfl
 by_cases hc : cap = 0
 · have : l = [] := List.eq_nil_of_length_eq_zero (by omega)
   subst this
   refine Calls.mono (AnyF.slices_SortFunc_none LL A cap _ w) fun e' w' ⟨he, hw⟩ => ?_
   subst hw
   exact ⟨_, _, he, W, [], rfl, List.Perm.refl _, List.Pairwise.nil, rfl⟩
 · obtain ⟨ga, rfl⟩ := W.row_at (k := 0) rfl hc
   obtain ⟨hH, hlt⟩ := holdsK_of W hk hk0 (k := 0) rfl hc
   have hcon := AnyQ.slices_SortFunc LL k aE zE enc hk h1 cf hO g #[] ga 0 cap l.toArray w eg (fun m os dk hs x y => (hcmp x y _).mono fun e' w' ⟨he, hb⟩ => ⟨he, hb.grows⟩) hH hlt (by simp; omega)
   refine Calls.mono hcon fun e' w' ⟨he, d', n, os, ⟨hsz, _, hp⟩, hs, hw⟩ => ?_
   subst hw
   have hlen : d'.toList.length = l.length := by simpa using hsz
   have hW := W.sorted (k := 0) hk hk0 rfl hc (l' := d'.toList) hlen n os
   refine ⟨_, _, he, by simpa using hW, d'.toList, rfl, ?_, ?_, rfl⟩
   · have e1 : d'.extract 0 l.toArray.size = d' := by rw [← hsz]; exact Array.extract_size
     rw [e1, Array.extract_size] at hp
     simpa using hp
   · refine List.pairwise_iff_getElem.2 fun i j hi hj hij => ?_
     have := hs i j (Nat.zero_le _) hij (by simpa using (by omega : j < l.length))
     rw [getElem!_pos d' j (by simpa using hj), getElem!_pos d' i (by simpa using hi)] at this
     simpa [ltOf] using this
end Go.Fw
namespace Go.Proofs
open Go.Shelf
def Tryz.sortDots_ren : Go.Shelf.Ren := ⟨fun | 6 => 164 | 15 => 161 | 14 => 203 | 28 => 198 | 29 => 199 | 20 => 220 | 21 => 221 | 22 => 222 | 23 => 223 | 24 => 224 | 25 => 225 | 26 => 226 | 27 => 227 | 46 => 237 | 47 => 216 | 48 => 217 | 49 => 238 | 50 => 239 | 57 => 243 | n => n, fun | 22 => 33 | 24 => 74 | 25 => 197 | 3 => 3 | 39 => 61 | 0 => 0 | 53 => 225 | 55 => 75 | 4 => 4 | 46 => 219 | 45 => 218 | 50 => 106 | 5 => 5 | 9 => 9 | 66 => 237 | 70 => 241 | 76 => 251 | 77 => 252 | n => n, fun | n => n⟩
theorem Tryz.sortDots : Go.Proofs.SlLaysF0.n6 Tryz.prog Tryz.sortDots_ren := {
 mixed := by kernel_rfl
 f6 := ⟨Tryz.f164.name, by decide, Tryz.func164.trans (congrArg some (by kernel_rfl))⟩
 f14 := ⟨Tryz.f203.name, by decide, Tryz.func203.trans (congrArg some (by kernel_rfl))⟩
 f15 := Tryz.func161.trans (congrArg some (by kernel_rfl))
 f20 := ⟨Tryz.f220.name, by decide, Tryz.func220.trans (congrArg some (by kernel_rfl))⟩
 f21 := ⟨Tryz.f221.name, by decide, Tryz.func221.trans (congrArg some (by kernel_rfl))⟩
 f22 := ⟨Tryz.f222.name, by decide, Tryz.func222.trans (congrArg some (by kernel_rfl))⟩
 f23 := ⟨Tryz.f223.name, by decide, Tryz.func223.trans (congrArg some (by kernel_rfl))⟩
 f24 := ⟨Tryz.f224.name, by decide, Tryz.func224.trans (congrArg some (by kernel_rfl))⟩
 f25 := ⟨Tryz.f225.name, by decide, Tryz.func225.trans (congrArg some (by kernel_rfl))⟩
 f26 := ⟨Tryz.f226.name, by decide, Tryz.func226.trans (congrArg some (by kernel_rfl))⟩
 f27 := ⟨Tryz.f227.name, by decide, Tryz.func227.trans (congrArg some (by kernel_rfl))⟩
 f28 := Tryz.func198.trans (congrArg some (by kernel_rfl))
 f29 := Tryz.func199.trans (congrArg some (by kernel_rfl))
 f46 := ⟨Tryz.f237.name, by decide, Tryz.func237.trans (congrArg some (by kernel_rfl))⟩
 f47 := Tryz.func216.trans (congrArg some (by kernel_rfl))
 f48 := Tryz.func217.trans (congrArg some (by kernel_rfl))
 f49 := ⟨Tryz.f238.name, by decide, Tryz.func238.trans (congrArg some (by kernel_rfl))⟩
 f50 := ⟨Tryz.f239.name, by decide, Tryz.func239.trans (congrArg some (by kernel_rfl))⟩
 f57 := ⟨Tryz.f243.name, by decide, Tryz.func243.trans (congrArg some (by kernel_rfl))⟩
 t0 := Tryz.underlying0
 a0 := Tryz.isAgg0
 z0 := Tryz.sizeOf0
 v0 := Tryz.zeroValue0
 t3 := Tryz.underlying3
 a3 := Tryz.isAgg3
 z3 := Tryz.sizeOf3
 v3 := Tryz.zeroValue3
 t4 := Tryz.underlying4
 a4 := Tryz.isAgg4
 z4 := Tryz.sizeOf4
 v4 := Tryz.zeroValue4
 t5 := Tryz.underlying5
 a5 := Tryz.isAgg5
 z5 := Tryz.sizeOf5
 v5 := Tryz.zeroValue5
 t9 := Tryz.underlying9
 a9 := Tryz.isAgg9
 z9 := Tryz.sizeOf9
 v9 := Tryz.zeroValue9
 t22 := Tryz.underlying33
 a22 := Tryz.isAgg33
 z22 := Tryz.sizeOf33
 v22 := Tryz.zeroValue33
 t25 := Tryz.underlying197
 a25 := Tryz.isAgg197
 z25 := Tryz.sizeOf197
 v25 := Tryz.zeroValue197
 t39 := Tryz.underlying61
 a39 := Tryz.isAgg61
 z39 := Tryz.sizeOf61
 v39 := Tryz.zeroValue61
 t45 := Tryz.underlying218
 a45 := Tryz.isAgg218
 z45 := Tryz.sizeOf218
 v45 := Tryz.zeroValue218
 t46 := Tryz.underlying219
 a46 := Tryz.isAgg219
 z46 := Tryz.sizeOf219
 v46 := Tryz.zeroValue219
 t50 := Tryz.underlying106
 a50 := Tryz.isAgg106
 z50 := Tryz.sizeOf106
 v50 := Tryz.zeroValue106
 t53 := Tryz.underlying225
 a53 := Tryz.isAgg225
 z53 := Tryz.sizeOf225
 v53 := Tryz.zeroValue225
 t55 := Tryz.underlying75
 a55 := Tryz.isAgg75
 z55 := Tryz.sizeOf75
 v55 := Tryz.zeroValue75
 t66 := Tryz.underlying237
 a66 := Tryz.isAgg237
 z66 := Tryz.sizeOf237
 v66 := Tryz.zeroValue237
 t70 := Tryz.underlying241
 a70 := Tryz.isAgg241
 z70 := Tryz.sizeOf241
 v70 := Tryz.zeroValue241
 t76 := Tryz.underlying251
 a76 := Tryz.isAgg251
 z76 := Tryz.sizeOf251
 v76 := Tryz.zeroValue251
 t77 := Tryz.underlying252
 a77 := Tryz.isAgg252
 z77 := Tryz.sizeOf252
 v77 := Tryz.zeroValue252 }
end Go.Proofs
namespace Go.Proofs.YtakpdbmdfnialaaGreat
open Go.Fw Go.Proofs Go.RowKit Go.Sort Go.Proofs.Tryz
abbrev MDot := {d : Dot // mayD d = true}
instance : Inhabited MDot := ⟨⟨⟨0, 1, 1⟩, rfl⟩⟩
abbrev MDot.enc (d : MDot) : List Value := Dot.enc d.1
theorem swoD : SWO (ltOf fun x y : MDot => orderD x.1 y.1) where
 irrefl x := by
   simp only [ltOf, decide_eq_false_iff_not, orderC_iff]
   unfold ltC
   omega
 trans x y z h1 h2 := by
   simp only [ltOf, decide_eq_true_eq, orderC_iff] at *
   exact ltC_trans h1 h2
 ntrans x y z h1 h2 := by
   simp only [ltOf, decide_eq_false_iff_not, orderC_iff] at *
   unfold ltC at *
   omega
theorem enc_map (ls : List MDot) : ls.flatMap MDot.enc = (ls.map (·.1)).flatMap Dot.enc := by
 induction ls with
 | nil => rfl
 | cons x r ih => simp only [List.flatMap_cons, List.map_cons, ih]
theorem k164 {w0 w : World} {L : List Chunk} {A : Option Addr} {cap : Nat} {l : List Dot} (W : Wd w0 (rowOf 74 3 Dot.enc A cap l :: L) w) (hm : ∀ x ∈ l, mayD x = true) (hn : l.length ≤ 4194304) :
   RetsO Tryz.prog 164 #[.slice A l.length cap, .func (.func 165) #[] #[]] w0 w fun v L' => ∃ l', v = .tuple #[] ∧ l'.Perm l ∧ l'.Pairwise leC ∧ L' = rowOf 74 3 Dot.enc A cap l' :: L := by
 obtain ⟨ls, rfl⟩ : ∃ ls : List MDot, ls.map (·.1) = l := ⟨l.pmap Subtype.mk hm, by simp [List.map_pmap]⟩
 have e1 : ∀ ls : List MDot, rowOf 74 3 Dot.enc A cap (ls.map (·.1)) = rowOf 74 3 MDot.enc A cap ls := fun ls => by
   unfold rowOf
   rw [enc_map, List.length_map]
 rw [e1] at W
 rw [List.length_map] at hn ⊢
 have h := sort_any Tryz.sortDots 3 (by omega) isAgg74 sizeOf74 MDot.enc (fun _ => rfl) (fun x u hu => by simp [MDot.enc, Dot.enc] at hu; rcases hu with rfl | rfl | rfl <;> rfl) (fun x y => orderD x.1 y.1) swoD 165 call165
   (fun x y W => Tk.c165 W _ _ _ _ _ _ (may_bd x.2) (may_bd y.2)) W hn
 refine Calls.mono h fun e w' ⟨v, L', he, W', l', hv, hp, hs, hL⟩ => ⟨v, L', he, W', l'.map (·.1), hv, hp.map _, ?_, ?_⟩
 · rw [List.pairwise_map]
   exact hs.imp fun h => by rw [← not_ltC, ← orderC_iff]; exact h
 · rw [hL, e1]
end Go.Proofs.YtakpdbmdfnialaaGreat
