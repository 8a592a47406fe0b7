/- Contracts and laws that the statement Adr leans on, part 5. -/
import Derived.Test.YtakpdbmdfnialaaGreatAdrK4
set_option linter.unusedVariables false
set_option linter.unusedSimpArgs false
set_option maxRecDepth 100000
set_option maxHeartbeats 4000000
namespace Go.Proofs.YtakpdbmdfnialaaGreat
open Go.Fw Go.Proofs Go.RowKit Go.Proofs.Tryz
theorem c68 (w0 : World) (v1 v2 v3 : Value) (X : Cart) (p q : Int) (h : Sl Ent.enc 6 w0 w0.heap.size v1 X.ents) (hr : RdCtx w0 w0.heap.size v2 v3 X.ctx) (hl1 : X.ents.length ≤ 1048576) (hl2 : X.ctx.marks.length ≤ 1048576) (hl3 : X.ctx.cloud.length ≤ 1048576) :
   Rets Tryz.prog 68 #[.agg #[v1, v2, v3], .agg #[.int .i64 p, .int .i64 q]] w0 fun v L => ∃ A1 r1 A2 r2 A3 r3, v = .agg #[.slice A1 (pruneK X p q).ents.length r1, .slice A2 (pruneK X p q).ctx.marks.length r2, .slice A3 (pruneK X p q).ctx.cloud.length r3] ∧
     L = [rowOf 100 6 Ent.enc A1 r1 (pruneK X p q).ents, rowOf 30 3 Dot.enc A2 r2 (pruneK X p q).ctx.marks, rowOf 74 3 Dot.enc A3 r3 (pruneK X p q).ctx.cloud] := by
 have hs := h
 have hrr := hr
 obtain ⟨A, cap, rfl, hl, hcap, hA⟩ := h
 obtain ⟨⟨A2, cap2, rfl, _⟩, ⟨A3, cap3, rfl, _⟩⟩ := hr
 unfold Go.Fw.Rets
 refine enter2 func68 rfl ntmps68 rfl fun a S => wp_seq_k fun _ hK1 => wp_region_lit (Zi (Zy S (.t rfl) rfl fun g1 a w S => Zi (Zy S (.t rfl) rfl fun g2 a w S => Zi (Zk S zeroValue37 (cs := _) rfl rfl fun g3 a w S => Zb (Za (hK1 _ _ (wp_seq_k fun _ hK1 => wp_region_lit (run S (.fa underlying37 sizeOf35 1 rfl rfl rfl <| .la gt35 2 rfl rfl rfl <| .la gt66 1 rfl rfl rfl <| .z) fun a w S => ?_))))))))
 (refine Zi (Zr S call142 (.cons (.t rfl) (.cons (.t rfl) .nil)) (c142 _ _ _ _ _ _ (by exact .old S.wd (by assumption)) (by assumption) (by assumption)) rfl ?_); clear S a w; rintro _ _ ⟨A11, r11, A21, r21, rfl, rfl⟩ a w S)
 refine run S (.yy (Yn (ps := [(1, Go.Operand.tmp 11)]) (us := [_, _, _]) bld37 (.cons (.t rfl) .nil) rfl) rfl <| .z) fun a w S => Zi (Zk S zeroValue37 (cs := _) rfl rfl fun g4 a w S => Zi (Zp S sizeOf37 (.t rfl) (.t rfl) (k := 0) rfl rfl rfl (by simp [Value.oneCell']) fun a w S => Zb (Za (hK1 _ _ (wp_seq_k fun _ hK1 => sg S (.fa underlying37 sizeOf31 0 rfl rfl rfl <| .ld gt31 5 rfl rfl rfl <| .ln underlying31 rfl <| .mc rfl <| .z) fun a w S => wp_block ?_)))))
 refine Xn (S.nil_ 100 6 Ent.enc none) [16] (X := Nat × Option Addr × Nat) (fun t => [(16, true, .int .i64 (t.1 : Int))])
   (fun t => [rowOf 100 6 Ent.enc t.2.1 t.2.2 (keepE p q (X.ents.take t.1)), .blk g4 (.cells #[.slice t.2.1 (keepE p q (X.ents.take t.1)).length t.2.2, .slice A11 (keep p q X.ctx.marks).length r11, .slice A21 (keep p q X.ctx.cloud).length r21] 37), rowOf 74 3 Dot.enc A21 r21 (keep p q X.ctx.cloud), rowOf 30 3 Dot.enc A11 r11 (keep p q X.ctx.marks), .blk g3 (.cells #[.slice none 0 0, .slice none 0 0, .slice none 0 0] 37), .blk g2 (.cells #[.int .i64 p, .int .i64 q] 66), .blk g1 (.cells #[.slice A X.ents.length cap, .slice A2 X.ctx.marks.length cap2, .slice A3 X.ctx.cloud.length cap3] 37)])
   (fun t => t.1 ≤ X.ents.length) (fun t => X.ents.length - t.1) (0, none, 0) (Nat.zero_le _) ?_
 clear S
 rintro ⟨k, D, cD⟩ a w hk S
 dsimp only at hk S
 have hol : (keepE p q (X.ents.take k)).length ≤ X.ents.length := filter_take _ X.ents k
 by_cases hlt : k < X.ents.length
 · obtain ⟨g, o, x, rfl, hx, hd, hc⟩ := Yh hA hlt
   refine sg S (.lt (by omega) rfl rfl <| .z) fun a w S => wp_seq_k fun _ hK2 => Zg S (.t rfl) (wp_skip (Za (hK2 _ _ (wp_seq_k fun _ hK2 => wp_block (wp_seq_k fun _ hK3 => wp_region_lit (run S (.ix underlying31 sizeOf100 (by omega) rfl rfl <| .yy (Zu ⟨isAgg100, sizeOf100⟩ (.t rfl) (vs := [_, _, _, _, _, _]) rfl (fun _ => hc)) rfl <| .z) fun a w S => Zi (Zk S zeroValue100 (cs := _) rfl rfl fun g5 a w S => Zi (Zp S sizeOf100 (.t rfl) (.t rfl) (k := 0) rfl rfl rfl (by simp [Value.oneCell']) fun a w S => Zb (Za (hK3 _ _ (wp_seq_k fun _ hK3 => wp_region_lit (run S (.fa underlying100 sizeOf74 1 rfl rfl rfl <| .fa underlying74 sizeOf3 1 rfl rfl rfl <| .ld gt3 0 rfl rfl rfl <| .fa underlying66 sizeOf3 0 rfl rfl rfl <| .ld gt3 6 rfl rfl rfl <| .yy (Yg (.t rfl) (.t rfl)) rfl <| .mv rfl <| .z) fun a w S => Yt S rfl rfl (Yr.ys (Zc (FieldT.mk underlying100 rfl sizeOf74 rfl) (.t rfl) (i' := 1) rfl)) rfl fun a w S => Yt S rfl rfl (Yr.ys (Zc (FieldT.mk underlying74 rfl sizeOf3 rfl) (Ev.g rfl) (i' := 2) rfl)) rfl fun a w S => Yt S rfl rfl (Yr.ys (Zt ⟨isAgg3, sizeOf3⟩ (Ev.g rfl) (k := 0) rfl rfl)) rfl fun a w S => ?_))))))))))))
   refine Yt S rfl rfl (Yr.ys (Zc (FieldT.mk underlying66 rfl sizeOf3 rfl) (.t rfl) (i' := 1) rfl)) rfl fun a w S => Yt S rfl rfl (Yr.ys (Zt ⟨isAgg3, sizeOf3⟩ (Ev.g rfl) (k := 6) rfl rfl)) rfl fun a w S => Yt S rfl rfl (Yr.ys (Yg (Ev.g rfl) (Ev.g rfl))) rfl fun a w S => run S (.yy (Vb (.t rfl) Ev.c (Ev.g rfl)) rfl <| .z) fun a w S => Zb (Za (hK3 _ _ ?_))
   refine Xq S (.t rfl) (fun h1 => ?_) (fun h1 => ?_)
   refine wp_region_lit (run S (.fa underlying37 sizeOf31 0 rfl rfl rfl <| .ld gt31 2 rfl rfl rfl <| .la gt100 0 rfl rfl rfl <| .z) fun a w S => Zi (Yd S underlying31 inf100 rfl rfl rfl (.t rfl) rfl rfl rfl fun g6 a w S => Zi (Yv S underlying31 inf100 rfl (k := 2) (j := 0) rfl (.t rfl) (.t rfl) rfl rfl rfl rfl (by first | omega | (simp only [List.length_append, List.length_cons, List.length_nil]; omega)) rfl rfl rfl fun A1 cap1 a w S => run S (.fa underlying37 sizeOf31 0 rfl rfl rfl <| .z) fun a w S => Zi (Vv S sizeOf31 (.t rfl) (.t rfl) (k := 3) rfl rfl (by simp) fun a w S => Zb (Zm (Za (hK2 _ _ (wp_region_lit (run S (.ad (by unfold I64; omega) rfl <| .mv rfl <| .z) fun a w S => Zb (Za ?_))))))))))
   rotate_left
   refine wp_skip (Zm (Za (hK2 _ _ (wp_region_lit (run S (.ad (by unfold I64; omega) rfl <| .mv rfl <| .z) fun a w S => Zb (Za ?_))))))
   rotate_left
   · have hst : keepE p q (X.ents.take (k + 1)) = keepE p q (X.ents.take k) ++ [x] := filter_yes hx (by simp at h1 ⊢; omega)
     exact ⟨(k + 1, A1, cap1), by dsimp only; omega, by dsimp only; omega, by dsimp only; rw [hst]; exact S.pk⟩
   · have hst : keepE p q (X.ents.take (k + 1)) = keepE p q (X.ents.take k) := filter_no hx (by simp at h1 ⊢; omega)
     exact ⟨(k + 1, D, cD), by dsimp only; omega, by dsimp only; omega, by dsimp only; rw [hst]; exact S.pk⟩
 obtain rfl : k = X.ents.length := by omega
 rw [List.take_length] at S
 refine sg S (.ge (by omega) rfl rfl <| .z) fun a w S => wp_seq_k fun _ hK2 => Ze S (.t rfl) (wp_exit (Zh (Zh (Ya (Za (hK1 _ _ (wp_seq_k fun _ hK1 => wp_region_lit (run S (.la gt37 1 rfl rfl rfl <| .z) fun a w S => Zi (Zp S sizeOf37 (.t rfl) (.t rfl) (k := 4) rfl rfl rfl (by simp [Value.oneCell']) fun a w S => Zb (Za (hK1 _ _ (wp_ret (Zn S (results1 S results68 (Rv.cell (k := 4) ⟨isAgg37, sizeOf37⟩ rfl rfl rfl)) ?_)))))))))))))
 exact ⟨_, _, rfl, S.wd.pk, _, _, _, _, _, _, rfl, rfl⟩
theorem c16 (w0 : World) (v1 v2 v3 : Value) (X : Cart) (h : Sl Ent.enc 6 w0 w0.heap.size v1 X.ents) (hr : RdCtx w0 w0.heap.size v2 v3 X.ctx) (hl1 : X.ents.length ≤ 1048576) (hl2 : X.ctx.marks.length ≤ 1048576) (hl3 : X.ctx.cloud.length ≤ 1048576) :
   Rets Tryz.prog 16 #[.agg #[v1, v2, v3]] w0 fun v L => ∃ A1 r1 A2 r2 A3 r3, v = .agg #[.slice A1 X.ents.length r1, .slice A2 X.ctx.marks.length r2, .slice A3 X.ctx.cloud.length r3] ∧
     L = [rowOf 100 6 Ent.enc A1 r1 X.ents, rowOf 30 3 Dot.enc A2 r2 X.ctx.marks, rowOf 74 3 Dot.enc A3 r3 X.ctx.cloud] := by
 have hs := h
 have hrr := hr
 obtain ⟨A, cap, rfl, hl, hcap, hA⟩ := h
 obtain ⟨⟨A2, cap2, rfl, _⟩, ⟨A3, cap3, rfl, _⟩⟩ := hr
 unfold Go.Fw.Rets
 refine enter1 func16 rfl ntmps16 rfl fun a S => wp_seq_k fun _ hK1 => wp_region_lit (Zi (Zy S (.t rfl) rfl fun g1 a w S => Zi (Zk S zeroValue37 (cs := _) rfl rfl fun g2 a w S => Zb (Za (hK1 _ _ (wp_seq_k fun _ hK1 => h_beginE S (by kernel_rfl) 0 fun a w S => hy 0 S rfl (Zc (FieldT.mk underlying37 rfl sizeOf31 rfl) (.t rfl) (i' := 0) rfl) rfl fun a w S => hy 1 S rfl (Zt ⟨isAgg31, sizeOf31⟩ (.t rfl) (k := 0) rfl rfl) rfl fun a w S => hy 3 S rfl (Zc (FieldT.mk underlying37 rfl sizeOf35 rfl) (.t rfl) (i' := 1) rfl) rfl fun a w S => ?_))))))
 refine hy 4 S rfl (Yc ⟨isAgg35, sizeOf35⟩ (.t rfl) (k := 0) rfl rfl) rfl fun a w S => ?_
 (refine h_m (i := 2) rfl (by kernel_rfl) (Zr S call64 (.cons (.t rfl) .nil) (c64 _ _ _ (by exact .old S.wd (by assumption)) (by omega)) rfl ?_); clear S a w; rintro _ _ ⟨A1, c1, rfl, rfl⟩ a w S; refine Zw S ?_)
 (refine h_m (i := 5) rfl (by kernel_rfl) (Zr S call65 (.cons (.t rfl) .nil) (c65 _ _ _ _ (by exact .old S.wd (by assumption)) (by assumption) (by assumption)) rfl ?_); clear S a w; rintro _ _ ⟨A11, r11, A21, r21, rfl, rfl⟩ a w S; refine Zw S ?_)
 refine hy 6 S rfl (Yn (ps := [(0, Go.Operand.tmp 5), (1, Go.Operand.tmp 8)]) (us := [_, _, _]) bld37 (.cons (.t rfl) (.cons (.t rfl) .nil)) rfl) rfl fun a w S => ?_
 (refine Xe (i := 7) rfl (by kernel_rfl) (Zp S sizeOf37 (.t rfl) (.t rfl) (k := 3) rfl rfl rfl (by simp [Value.oneCell']) ?_); clear S a w; intro a w S; refine Zw S ?_)
 refine Yq (by kernel_rfl) (Za (hK1 _ _ (wp_ret (Zn S (results1 S results16 (Rv.cell (k := 3) ⟨isAgg37, sizeOf37⟩ rfl rfl rfl)) ?_))))
 exact ⟨_, _, rfl, S.wd.pk, _, _, _, _, _, _, rfl, rfl⟩
theorem c95 (w0 : World) (v1 v2 v3 v4 v5 v6 : Value) (X Y : Cart) (h : Sl Ent.enc 6 w0 w0.heap.size v1 X.ents) (hr : RdCtx w0 w0.heap.size v2 v3 X.ctx) (h' : Sl Ent.enc 6 w0 w0.heap.size v4 Y.ents) (hr' : RdCtx w0 w0.heap.size v5 v6 Y.ctx) :
   Calls Tryz.prog 95 #[.agg #[v1, v2, v3], .agg #[v4, v5, v6]] w0 fun e w' => e = .returned (.bool (decide (X = Y))) ∧ Bel w0.heap.size w0 w' := by
 have hs := h
 have hrr := hr
 have hs' := h'
 have hrr' := hr'
 obtain ⟨A, cap, rfl, hl, hcap, hA⟩ := h
 obtain ⟨⟨A2, cap2, rfl, _⟩, ⟨A3, cap3, rfl, _⟩⟩ := hr
 obtain ⟨B, capB, rfl, hlB, hcapB, hB⟩ := h'
 obtain ⟨⟨B2, capB2, rfl, _⟩, ⟨B3, capB3, rfl, _⟩⟩ := hr'
 obtain ⟨q1, q2⟩ := hrr
 obtain ⟨q3, q4⟩ := hrr'
 by_cases h1 : X.ents = Y.ents
 · have rw_1 := decide_eq_true h1
   by_cases h2 : X.ctx.marks = Y.ctx.marks
   · have rw_2 := decide_eq_true h2
     refine enter2 func95 rfl ntmps95 rfl fun a S => wp_seq_k fun _ hK1 => wp_region_lit (Zi (Zy S (.t rfl) rfl fun g1 a w S => Zi (Zy S (.t rfl) rfl fun g2 a w S => run S (.ac rfl <| .z) fun a w S => Zb (Za (hK1 _ _ (wp_seq_k fun _ hK1 => wp_region_lit (run S (.fa underlying37 sizeOf31 0 rfl rfl rfl <| .ld gt31 1 rfl rfl rfl <| .fa underlying37 sizeOf31 0 rfl rfl rfl <| .ld gt31 0 rfl rfl rfl <| .xx (Zf call71 (.cons (.t rfl) (.cons (.t rfl) .nil)) (fun hp w W => c71 _ _ _ _ _ (by exact .old W (by assumption)) (by exact .old W (by assumption)))) rfl <| .z) fun a w S => ?_)))))))
     rw [rw_1] at S
     refine run S (.mv rfl <| .gy rfl rfl (Zc (FieldT.mk underlying37 rfl sizeOf35 rfl) (.t rfl) (i' := 1) rfl) <| .gy rfl rfl (Zc (FieldT.mk underlying35 rfl sizeOf32 rfl) (.t rfl) (i' := 1) rfl) <| .gy rfl rfl (Zt ⟨isAgg32, sizeOf32⟩ (.t rfl) (k := 1) rfl rfl) <| .gy rfl rfl (Zc (FieldT.mk underlying37 rfl sizeOf35 rfl) (.t rfl) (i' := 1) rfl) <| .gy rfl rfl (Zc (FieldT.mk underlying35 rfl sizeOf32 rfl) (.t rfl) (i' := 1) rfl) <| .gy rfl rfl (Zt ⟨isAgg32, sizeOf32⟩ (.t rfl) (k := 0) rfl rfl) <| .gx rfl rfl (Zf call23 (.cons (.t rfl) (.cons (.t rfl) .nil)) (fun hp w W => c23 _ _ _ _ _ (by exact .old W (by assumption)) (by exact .old W (by assumption)))) <| .z) fun a w S => ?_
     rw [rw_2] at S
     refine run S (.yy (Zz (.t rfl) (.t rfl)) rfl <| .mv rfl <| .gy rfl rfl (Zc (FieldT.mk underlying37 rfl sizeOf35 rfl) (.t rfl) (i' := 1) rfl) <| .gy rfl rfl (Zc (FieldT.mk underlying35 rfl sizeOf33 rfl) (.t rfl) (i' := 2) rfl) <| .gy rfl rfl (Zt ⟨isAgg33, sizeOf33⟩ (.t rfl) (k := 1) rfl rfl) <| .gy rfl rfl (Zc (FieldT.mk underlying37 rfl sizeOf35 rfl) (.t rfl) (i' := 1) rfl) <| .gy rfl rfl (Zc (FieldT.mk underlying35 rfl sizeOf33 rfl) (.t rfl) (i' := 2) rfl) <| .gy rfl rfl (Zt ⟨isAgg33, sizeOf33⟩ (.t rfl) (k := 0) rfl rfl) <| .gx rfl rfl (Zf call46 (.cons (.t rfl) (.cons (.t rfl) .nil)) (fun hp w W => c46 _ _ _ _ _ (by exact .old W (by assumption)) (by exact .old W (by assumption)))) <| .yy (Zz (.t rfl) (.t rfl)) rfl <| .as rfl <| .z) fun a w S => Zb (Za (hK1 _ _ (wp_ret (Zn S (results1 S results95 (Rv.tmp rfl)) ?_))))
     refine ⟨?_, S.wd.below⟩
     have e : decide (X.ctx.cloud = Y.ctx.cloud) = decide (X = Y) := by
       obtain ⟨l, ⟨m, c⟩⟩ := X
       obtain ⟨l', ⟨m', c'⟩⟩ := Y
       dsimp only at h1 h2
       subst h1 h2
       simp
     rw [e]
   · have rw_2 := decide_eq_false h2
     refine enter2 func95 rfl ntmps95 rfl fun a S => wp_seq_k fun _ hK1 => wp_region_lit (Zi (Zy S (.t rfl) rfl fun g1 a w S => Zi (Zy S (.t rfl) rfl fun g2 a w S => run S (.ac rfl <| .z) fun a w S => Zb (Za (hK1 _ _ (wp_seq_k fun _ hK1 => wp_region_lit (run S (.fa underlying37 sizeOf31 0 rfl rfl rfl <| .ld gt31 1 rfl rfl rfl <| .fa underlying37 sizeOf31 0 rfl rfl rfl <| .ld gt31 0 rfl rfl rfl <| .xx (Zf call71 (.cons (.t rfl) (.cons (.t rfl) .nil)) (fun hp w W => c71 _ _ _ _ _ (by exact .old W (by assumption)) (by exact .old W (by assumption)))) rfl <| .z) fun a w S => ?_)))))))
     rw [rw_1] at S
     refine run S (.mv rfl <| .gy rfl rfl (Zc (FieldT.mk underlying37 rfl sizeOf35 rfl) (.t rfl) (i' := 1) rfl) <| .gy rfl rfl (Zc (FieldT.mk underlying35 rfl sizeOf32 rfl) (.t rfl) (i' := 1) rfl) <| .gy rfl rfl (Zt ⟨isAgg32, sizeOf32⟩ (.t rfl) (k := 1) rfl rfl) <| .gy rfl rfl (Zc (FieldT.mk underlying37 rfl sizeOf35 rfl) (.t rfl) (i' := 1) rfl) <| .gy rfl rfl (Zc (FieldT.mk underlying35 rfl sizeOf32 rfl) (.t rfl) (i' := 1) rfl) <| .gy rfl rfl (Zt ⟨isAgg32, sizeOf32⟩ (.t rfl) (k := 0) rfl rfl) <| .gx rfl rfl (Zf call23 (.cons (.t rfl) (.cons (.t rfl) .nil)) (fun hp w W => c23 _ _ _ _ _ (by exact .old W (by assumption)) (by exact .old W (by assumption)))) <| .z) fun a w S => ?_
     rw [rw_2] at S
     refine run S (.yy (Zz (.t rfl) (.t rfl)) rfl <| .mv rfl <| .sk rfl rfl rfl <| .sk rfl rfl rfl <| .sk rfl rfl rfl <| .sk rfl rfl rfl <| .sk rfl rfl rfl <| .sk rfl rfl rfl <| .sk rfl rfl rfl <| .yy (Zv (.t rfl) Ev.c) rfl <| .as rfl <| .z) fun a w S => Zb (Za (hK1 _ _ (wp_ret (Zn S (results1 S results95 (Rv.tmp rfl)) ?_))))
     exact ⟨by rw [decide_eq_false (fun h => h2 (by rw [h]))], S.wd.below⟩
 · have rw_1 := decide_eq_false h1
   refine enter2 func95 rfl ntmps95 rfl fun a S => wp_seq_k fun _ hK1 => wp_region_lit (Zi (Zy S (.t rfl) rfl fun g1 a w S => Zi (Zy S (.t rfl) rfl fun g2 a w S => run S (.ac rfl <| .z) fun a w S => Zb (Za (hK1 _ _ (wp_seq_k fun _ hK1 => wp_region_lit (run S (.fa underlying37 sizeOf31 0 rfl rfl rfl <| .ld gt31 1 rfl rfl rfl <| .fa underlying37 sizeOf31 0 rfl rfl rfl <| .ld gt31 0 rfl rfl rfl <| .xx (Zf call71 (.cons (.t rfl) (.cons (.t rfl) .nil)) (fun hp w W => c71 _ _ _ _ _ (by exact .old W (by assumption)) (by exact .old W (by assumption)))) rfl <| .z) fun a w S => ?_)))))))
   rw [rw_1] at S
   refine run S (.mv rfl <| .sk rfl rfl rfl <| .sk rfl rfl rfl <| .sk rfl rfl rfl <| .sk rfl rfl rfl <| .sk rfl rfl rfl <| .sk rfl rfl rfl <| .sk rfl rfl rfl <| .yy (Zv (.t rfl) Ev.c) rfl <| .mv rfl <| .sk rfl rfl rfl <| .sk rfl rfl rfl <| .sk rfl rfl rfl <| .sk rfl rfl rfl <| .sk rfl rfl rfl <| .sk rfl rfl rfl <| .sk rfl rfl rfl <| .yy (Zv (.t rfl) Ev.c) rfl <| .as rfl <| .z) fun a w S => Zb (Za (hK1 _ _ (wp_ret (Zn S (results1 S results95 (Rv.tmp rfl)) ?_))))
   exact ⟨by rw [decide_eq_false (fun h => h1 (by rw [h]))], S.wd.below⟩
end Go.Proofs.YtakpdbmdfnialaaGreat
namespace Go.Proofs.YtakpdbmdfnialaaGreat
open Go.Fw Go.Proofs Go.RowKit Go.Proofs.Tryz
theorem c103 (w0 : World) (u : Upd) (v1 v2 v3 : Value) (h : Sl Ent.enc 6 w0 w0.heap.size v1 u.seen.ents) (hr : RdCtx w0 w0.heap.size v2 v3 u.seen.ctx) (hl1 : u.seen.ents.length ≤ 1048576) (hl2 : u.seen.ctx.marks.length ≤ 1048576) (hl3 : u.seen.ctx.cloud.length ≤ 1048576) :
   Rets Tryz.prog 103 #[.agg (Upd.enc u v1 v2 v3).toArray] w0 fun v L => ∃ A1 r1 A2 r2 A3 r3, v = .agg (Upd.enc u (.slice A1 u.seen.ents.length r1) (.slice A2 u.seen.ctx.marks.length r2) (.slice A3 u.seen.ctx.cloud.length r3)).toArray ∧
     L = [rowOf 100 6 Ent.enc A1 r1 u.seen.ents, rowOf 30 3 Dot.enc A2 r2 u.seen.ctx.marks, rowOf 74 3 Dot.enc A3 r3 u.seen.ctx.cloud] := by
 have hs := h
 have hrr := hr
 obtain ⟨A, cap, rfl, hl, hcap, hA⟩ := h
 obtain ⟨⟨A2, cap2, rfl, _⟩, ⟨A3, cap3, rfl, _⟩⟩ := hr
 unfold Go.Fw.Rets
 refine enter1 func103 rfl ntmps103 rfl fun a S => wp_seq_k fun _ hK1 => wp_region_lit (Zi (Zy S (.t rfl) rfl fun g1 a w S => Zi (Zk S zeroValue77 (cs := _) rfl rfl fun g2 a w S => Zb (Za (hK1 _ _ (wp_seq_k fun _ hK1 => wp_region_lit (run S (.fa underlying77 sizeOf37 7 rfl rfl rfl <| .la gt37 1 rfl rfl rfl <| .z) fun a w S => ?_)))))))
 (refine Zi (Zr S call16 (.cons (.t rfl) .nil) (c16 _ _ _ _ _ (by exact .old S.wd (by assumption)) (by exact .old S.wd (by assumption)) (by assumption) (by assumption) (by assumption)) rfl ?_); clear S a w; rintro _ _ ⟨A11, r11, A21, r21, A31, r31, rfl, rfl⟩ a w S)
 refine run S (.fa underlying77 sizeOf37 7 rfl rfl rfl <| .z) fun a w S => Zi (Yw S sizeOf37 (.t rfl) (.t rfl) (k := 4) rfl rfl (by simp [Value.oneCell']) (by simp) fun a w S => Zb (Za (hK1 _ _ (wp_seq_k fun _ hK1 => wp_region_lit (run S (.la gt77 4 rfl rfl rfl <| .z) fun a w S => Zi (Zp S sizeOf77 (.t rfl) (.t rfl) (k := 3) rfl rfl rfl (by simp [Value.oneCell']) fun a w S => Zb (Za (hK1 _ _ (wp_ret (Zn S (results1 S results103 (Rv.cell (k := 3) ⟨isAgg77, sizeOf77⟩ rfl rfl rfl)) ?_))))))))))
 exact ⟨_, _, rfl, S.wd.pk, _, _, _, _, _, _, rfl, rfl⟩
end Go.Proofs.YtakpdbmdfnialaaGreat
namespace Go.Fw
theorem cart_lens {c : Cart} (h : CartOk c) : c.ents.length ≤ 64 ∧ c.ctx.marks.length ≤ 64 ∧ c.ctx.cloud.length ≤ 64 := ⟨h.len, (can_len h.ctx).1, (can_len h.ctx).2⟩
end Go.Fw
namespace Go.Proofs.YtakpdbmdfnialaaGreat
open Go.Fw Go.Proofs Go.RowKit Go.Proofs.Tryz
end Go.Proofs.YtakpdbmdfnialaaGreat
namespace Go.Fw
open Go.RowKit
def downU (U : List Upd) (c : Cart) (u : Upd) : Prop := c.ctx.covers u.dot = true ∧ (¬ 0 < u.qty ∨ ∃ v ∈ U, c.ctx.covers v.dot = true ∧ v.item = u.item ∧ v.seen.ctx.covers u.dot = true)
structure InH (U : List Upd) (c : Cart) : Prop where
 ok : CartOk c
 ent : ∀ e ∈ c.ents, ∃ u ∈ U, e = u.ent
 cov : ∀ d, c.ctx.covers d = true → ∃ u ∈ U, u.dot = d
 clos : ∀ u ∈ U, c.ctx.covers u.dot = true → ∀ d, u.seen.ctx.covers d = true → c.ctx.covers d = true
 down : ∀ u ∈ U, killsK c u.ent ↔ downU U c u
theorem covers_zero (d : Dot) : Cart.zero.ctx.covers d = false := by
 rw [Bool.eq_false_iff]
 intro h
 rw [Xh] at h
 obtain ⟨h1, h2 | h2⟩ := h
 · simp [markOf] at h2; omega
 · simp at h2
theorem inH_zero (U : List Upd) : InH U Cart.zero := by
 refine ⟨cart_zero, fun e h => by simp at h, fun d h => ?_, fun u _ h => ?_, fun u _ => ?_⟩
 · rw [covers_zero] at h; cases h
 · rw [covers_zero] at h; cases h
 · exact ⟨fun h => (by have := h.1; rw [covers_zero] at this; cases this), fun h => (by have := h.1; rw [covers_zero] at this; cases this)⟩
theorem inH_uni {U : List Upd} {a b : Cart} (ha : InH U a) (hb : InH U b) (h : fitK a b) : InH U (uniK a b) := by
 have hc : ∀ d, (uniK a b).ctx.covers d = true ↔ a.ctx.covers d = true ∨ b.ctx.covers d = true := uni_covers (Xz ha.ok.ctx) (Xz hb.ok.ctx)
 refine ⟨uni_ok ha.ok hb.ok h, fun e he => ?_, fun d hd => ?_, fun u hu hcv d hd => ?_, fun u hu => ?_⟩
 · rcases ((stays_iff ha.ok hb.ok e).1 he).1 with h | h
   · exact ha.ent e h
   · exact hb.ent e h
 · rcases (hc d).1 hd with h | h
   · exact ha.cov d h
   · exact hb.cov d h
 · rcases (hc _).1 hcv with h | h
   · exact (hc d).2 (.inl (ha.clos u hu h d hd))
   · exact (hc d).2 (.inr (hb.clos u hu h d hd))
 · rw [uni_kills ha.ok hb.ok, ha.down u hu, hb.down u hu]
   unfold downU
   rw [hc]
   constructor
   · rintro (⟨h1, h2⟩ | ⟨h1, h2⟩)
     · refine ⟨.inl h1, h2.imp id ?_⟩
       rintro ⟨v, k1, k2, k3⟩
       exact ⟨v, k1, (hc _).2 (.inl k2), k3⟩
     · refine ⟨.inr h1, h2.imp id ?_⟩
       rintro ⟨v, k1, k2, k3⟩
       exact ⟨v, k1, (hc _).2 (.inr k2), k3⟩
   · rintro ⟨h1, h2 | ⟨v, k1, k2, k3, k4⟩⟩
     · rcases h1 with h1 | h1
       · exact .inl ⟨h1, .inl h2⟩
       · exact .inr ⟨h1, .inl h2⟩
     · rcases (hc _).1 k2 with k2 | k2
       · exact .inl ⟨ha.clos v k1 k2 _ k4, .inr ⟨v, k1, k2, k3, k4⟩⟩
       · exact .inr ⟨hb.clos v k1 k2 _ k4, .inr ⟨v, k1, k2, k3, k4⟩⟩
theorem inH_join {U : List Upd} {a b : Cart} (ha : InH U a) (hb : InH U b) (h : (joinK a b).2 = 0) : InH U (joinK a b).1 := by
 rw [joinK_val ha.ok hb.ok h]
 exact inH_uni ha hb ((joinK_ok ha.ok hb.ok).1 h).1
def oneU (U : List Upd) : Prop := (U.map (·.dot)).Nodup
theorem inH_more {U : List Upd} {c : Cart} {u : Upd} (h : InH U c) (hn : u.dot ∉ U.map (·.dot)) : InH (U ++ [u]) c := by
 have hno : c.ctx.covers u.dot = false := by
   rw [Bool.eq_false_iff]
   intro hc
   obtain ⟨v, hv, e⟩ := h.cov _ hc
   exact hn (List.mem_map.2 ⟨v, hv, e⟩)
 refine ⟨h.ok, fun e he => ?_, fun d hd => ?_, fun v hv hc d hd => ?_, fun v hv => ?_⟩
 · obtain ⟨v, hv, rfl⟩ := h.ent e he
   exact ⟨v, by simp [hv], rfl⟩
 · obtain ⟨v, hv, rfl⟩ := h.cov d hd
   exact ⟨v, by simp [hv], rfl⟩
 · rcases List.mem_append.1 hv with hv | hv
   · exact h.clos v hv hc d hd
   · simp at hv; subst hv; rw [hno] at hc; cases hc
 · rcases List.mem_append.1 hv with hv | hv
   · rw [h.down v hv]
     unfold downU
     constructor
     · rintro ⟨h1, h2⟩
       refine ⟨h1, h2.imp id ?_⟩
       rintro ⟨x, k1, k2⟩
       exact ⟨x, by simp [k1], k2⟩
     · rintro ⟨h1, h2⟩
       refine ⟨h1, h2.imp id ?_⟩
       rintro ⟨x, k1, k2, k3⟩
       rcases List.mem_append.1 k1 with k1 | k1
       · exact ⟨x, k1, k2, k3⟩
       · simp at k1; subst k1; rw [hno] at k2; cases k2
   · simp at hv
     subst hv
     unfold killsK downU
     simp [hno]
theorem inH_apply {U : List Upd} {u : Upd} (hU : ∀ v ∈ U, InH U v.seen) (hs : InH U u.seen) (hn : u.dot ∉ U.map (·.dot)) (ha : (applyU u).2 = 0) : InH (U ++ [u]) (applyU u).1 := by
 obtain ⟨hu, hadd, he, hok⟩ := applyU_ok ha
 obtain ⟨_, hc⟩ := add_covers hu.seen.ctx hu.dot hadd
 rw [he] at hok ⊢
 dsimp only at hok ⊢
 have hnv : ∀ v ∈ U, v.seen.ctx.covers u.dot = false := fun v hv => by
   rw [Bool.eq_false_iff]
   intro h
   obtain ⟨x, hx, e⟩ := (hU v hv).cov _ h
   exact hn (List.mem_map.2 ⟨x, hx, e⟩)
 refine ⟨hok, fun e he => ?_, fun d hd => ?_, fun v hv hcv d hd => ?_, fun v hv => ?_⟩
 · dsimp only at he
   rw [apply_mem] at he
   rcases he with ⟨_, rfl⟩ | ⟨he, _⟩
   · exact ⟨u, by simp, rfl⟩
   · obtain ⟨v, hv, rfl⟩ := hs.ent e he
     exact ⟨v, by simp [hv], rfl⟩
 · rcases (hc d).1 hd with hd | rfl
   · obtain ⟨v, hv, rfl⟩ := hs.cov d hd
     exact ⟨v, by simp [hv], rfl⟩
   · exact ⟨u, by simp, rfl⟩
 · rcases List.mem_append.1 hv with hv | hv
   · rcases (hc v.dot).1 hcv with h | h
     · exact (hc d).2 (.inl (hs.clos v hv h d hd))
     · exact absurd (List.mem_map.2 ⟨v, hv, h⟩) hn
   · simp at hv
     subst hv
     exact (hc d).2 (.inl hd)
 · have hmem : ∀ x : Upd, x ∈ U ++ [u] ↔ x ∈ U ∨ x = u := fun x => by simp
   rw [hmem] at hv
   unfold killsK downU
   dsimp only
   rw [apply_mem]
   rcases hv with hv | rfl
   · have hvu : v.dot ≠ u.dot := fun e => hn (List.mem_map.2 ⟨v, hv, e⟩)
     have hve : v.ent ≠ u.ent := fun e => hvu (congrArg Ent.dot e)
     have hd := hs.down v hv
     unfold killsK downU at hd
     have hcv : (addL u.seen.ctx u.dot).1.covers v.dot = true ↔ u.seen.ctx.covers v.dot = true := by
       rw [hc]; exact ⟨fun h => h.resolve_right hvu, .inl⟩
     show (addL u.seen.ctx u.dot).1.covers v.dot = true ∧ ¬ ((0 < u.qty ∧ v.ent = u.ent) ∨ (v.ent ∈ u.seen.ents ∧ v.item ≠ u.item)) ↔ _
     rw [hcv]
     constructor
     · rintro ⟨h1, h2⟩
       refine ⟨h1, ?_⟩
       by_cases hit : v.item = u.item
       · exact .inr ⟨u, by simp, (hc _).2 (.inr rfl), hit.symm, h1⟩
       · have h3 : v.ent ∉ u.seen.ents := fun h => h2 (.inr ⟨h, hit⟩)
         obtain ⟨_, h4⟩ := hd.1 ⟨h1, h3⟩
         refine h4.imp id ?_
         rintro ⟨x, k1, k2, k3⟩
         exact ⟨x, by simp [k1], (hc _).2 (.inl k2), k3⟩
     · rintro ⟨h1, h2⟩
       refine ⟨h1, ?_⟩
       rintro (⟨_, h3⟩ | ⟨h3, h4⟩)
       · exact hve h3
       · have h5 : ¬ (u.seen.ctx.covers v.dot = true ∧ v.ent ∉ u.seen.ents) := fun h => h.2 h3
         rw [hd] at h5
         refine h5 ⟨h1, h2.imp id ?_⟩
         rintro ⟨x, k1, k2, k3, k4⟩
         rcases (hmem x).1 k1 with k1 | rfl
         · rcases (hc _).1 k2 with k2 | k2
           · exact ⟨x, k1, k2, k3, k4⟩
           · exact absurd (List.mem_map.2 ⟨x, k1, k2⟩) hn
         · exact absurd k3.symm h4
   · have hcv : (addL v.seen.ctx v.dot).1.covers v.dot = true := (hc _).2 (.inr rfl)
     have hni : v.ent ∉ v.seen.ents := fun h => by
       have := ok_cov hu.seen h
       rw [hu.new] at this; cases this
     constructor
     · rintro ⟨h1, h2⟩
       refine ⟨hcv, .inl fun h => h2 (.inl ⟨h, rfl⟩)⟩
     · rintro ⟨h1, h2⟩
       refine ⟨hcv, ?_⟩
       rintro (⟨h3, _⟩ | ⟨h3, _⟩)
       · rcases h2 with h2 | ⟨x, k1, k2, k3, k4⟩
         · exact h2 h3
         · rcases (hmem x).1 k1 with k1 | rfl
           · rw [hnv x k1] at k4; cases k4
           · rw [hu.new] at k4; cases k4
       · exact hni h3
structure Play where
 st : List Cart
 up : List Upd
 ct : List Int
def Play.start : Play := ⟨[], [], List.replicate 8 0⟩
theorem getD_set {l : List Int} {n m : Nat} {x : Int} (h : n < l.length) : (l.set n x).getD m 0 = if n = m then x else l.getD m 0 := by
 rw [List.getD_eq_getElem?_getD, List.getD_eq_getElem?_getD, List.getElem?_set]
 by_cases e : n = m
 · subst e; rw [if_pos rfl, if_pos h, if_pos rfl]; rfl
 · rw [if_neg e, if_neg e]
end Go.Fw
namespace Go.Proofs.YtakpdbmdfnialaaGreat
open Go.Fw Go.Proofs Go.RowKit Go.ChangeShapes Go.WideShapes Go.ChangeAt Go.Deep Go.Joins Go.Proofs.Tryz
section
variable {H : Type} {enc : TypeId × Value → H} {P : Program} {w : World}
theorem read_int {t : TypeId} {k : IntKind} {v : Value} {n : Nat} {x : DataW H × List MemPlace} (ht : P.underlying t = some (.int k)) (h : DataW.trod enc P w 0 (fun _ => true) true n t [v] = some x) : ∃ n, v = .int k n ∧ (Lit.int k n).wf = true := by
 obtain ⟨n, e, _, hw⟩ := DataW.trod_int ht h
 simp only [List.cons.injEq, and_true] at e
 exact ⟨n, e, hw⟩
theorem read_str {t : TypeId} {v : Value} {n : Nat} {x : DataW H × List MemPlace} (ht : P.underlying t = some .string) (h : DataW.trod enc P w 0 (fun _ => true) true n t [v] = some x) : ∃ s : List UInt8, v = .string (bs s) ∧ s.length + 1 ≤ Rows.uptoBulk x.1 := by
 obtain ⟨s, e, hx, _⟩ := DataW.trod_string ht h
 simp only [List.cons.injEq, and_true] at e
 refine ⟨s.data.toList, by rw [e, ← bs_of], ?_⟩
 rw [hx]
 simp [Rows.uptoBulk]
theorem top_cell {t : TypeId} {v : Value} {d : DataW H} {p : List MemPlace} (hv : v.cells.toList = [v]) (h : DataW.Trod enc P w 0 (fun _ => true) true t v d p) : ∃ n, DataW.trod enc P w 0 (fun _ => true) true n t [v] = some (d, p) := by
 obtain ⟨m, hm⟩ := h
 rw [hv] at hm
 exact ⟨m, hm⟩
theorem top_int {t : TypeId} {k : IntKind} {v : Value} {base : Nat} {d : DataW H} {p : List MemPlace} (ht : P.underlying t = some (.int k)) (hv : Value.okWide P w .any base t v) (h : DataW.Trod enc P w 0 (fun _ => true) true t v d p) : ∃ n, v = .int k n ∧ (Lit.int k n).wf = true := by
 obtain ⟨n, rfl⟩ := okWide_int ht hv
 obtain ⟨m, hm⟩ := top_cell rfl h
 exact read_int ht hm
end
end Go.Proofs.YtakpdbmdfnialaaGreat
namespace Go.Fw
def encU (x : UInt64) : List Value := [.int .u64 (x.toNat : Int)]
theorem encU_len (x : UInt64) : (encU x).length = 1 := rfl
def ctL (l : List Int) : List Value := l.map (Value.int .i64)
theorem ctL_len (l : List Int) : (ctL l).length = l.length := List.length_map ..
end Go.Fw
namespace Go.Proofs.YtakpdbmdfnialaaGreat
open Go.Fw Go.Proofs Go.RowKit Go.Proofs.Tryz
end Go.Proofs.YtakpdbmdfnialaaGreat
namespace Go.Proofs.YtakpdbmdfnialaaGreat
open Go.Fw Go.Proofs Go.RowKit Go.ChangeShapes Go.WideShapes Go.ChangeAt Go.Deep Go.Joins Go.Proofs.Tryz
section
variable {H : Type} {enc : TypeId × Value → H} {P : Program} {w : World}
def Rdr (enc : TypeId × Value → H) (P : Program) (w : World) (t : TypeId) (R : List Value → Nat → Prop) : Prop :=
 ∀ fuel cs x, DataW.trod enc P w 0 (fun _ => true) true fuel t cs = some x → R cs (Rows.uptoBulk x.1)
theorem Rdr.int {t : TypeId} {k : IntKind} (ht : P.underlying t = some (.int k)) : Rdr enc P w t fun cs _ => ∃ n, cs = [.int k n] ∧ (Lit.int k n).wf = true := fun fuel cs x h => by
 obtain ⟨n, e, hw⟩ := DataW.trod_int ht h
 exact ⟨n, e, hw.2⟩
theorem Rdr.str {t : TypeId} (ht : P.underlying t = some .string) : Rdr enc P w t fun cs b => ∃ s : List UInt8, cs = [.string (bs s)] ∧ s.length + 1 ≤ b := fun fuel cs x h => by
 obtain ⟨s, hc, hx⟩ := DataW.trod_string ht h
 obtain ⟨s', e, hb⟩ := read_str (v := .string s) ht (by rw [hc] at h; exact h)
 exact ⟨s', by rw [hc, e], hb⟩
theorem Rdr.mono {t : TypeId} {R R' : List Value → Nat → Prop} (h : Rdr enc P w t R) (hR : ∀ cs b, R cs b → R' cs b) : Rdr enc P w t R' := fun fuel cs x hx => hR _ _ (h fuel cs x hx)
def AllR : List (List Value → Nat → Prop) → List Value → Nat → Prop
 | [], cs, _ => cs = []
 | R :: Rs, cs, b => ∃ c cs', cs = c ++ cs' ∧ (∃ b', b' ≤ b ∧ R c b') ∧ AllR Rs cs' b
inductive RdrL (enc : TypeId × Value → H) (P : Program) (w : World) : List Field → List (List Value → Nat → Prop) → Prop
 | nil : RdrL enc P w [] []
 | cons {f : Field} {fs : List Field} {R : List Value → Nat → Prop} {Rs : List (List Value → Nat → Prop)} : Rdr enc P w f.type R → RdrL enc P w fs Rs → RdrL enc P w (f :: fs) (R :: Rs)
def offs (P : Program) : List Field → Nat → Nat → Bool
 | [], o, n => Nat.beq o n
 | f :: r, o, n => Nat.beq f.offset o && offs P r (o + P.cellsOf f.type) n
theorem all_fields {n b : Nat} {fuel : Nat} {cs : List Value} (hl : cs.length = n) : ∀ {l : List Field} {Rs : List (List Value → Nat → Prop)} {o : Nat}, RdrL enc P w l Rs → offs P l o n = true →
   (∀ f ∈ l, ∃ x, DataW.trod enc P w 0 (fun _ => true) true fuel f.type ((cs.drop f.offset).take (P.cellsOf f.type)) = some x ∧ Rows.uptoBulk x.1 ≤ b) → AllR Rs (cs.drop o) b
 | _, _, o, .nil, ho, _ => by
   have : o = n := by simpa [offs] using ho
   unfold AllR
   rw [List.drop_of_length_le (by omega)]
 | _, _, o, .cons (f := f) hr hrs, ho, hx => by
   simp only [offs, Bool.and_eq_true] at ho
   have h0 : f.offset = o := by simpa using ho.1
   obtain ⟨x, hx1, hx2⟩ := hx f (by simp)
   rw [h0] at hx1
   unfold AllR
   refine ⟨(cs.drop o).take (P.cellsOf f.type), cs.drop (o + P.cellsOf f.type), ?_, ⟨_, hx2, hr _ _ _ hx1⟩, all_fields hl hrs ho.2 fun g hg => hx g (by simp [hg])⟩
   rw [← List.drop_drop, List.take_append_drop]
theorem bulk_agg {l : List (DataW H)} {d : DataW H} (h : d ∈ l) : Rows.uptoBulk d ≤ Rows.uptoBulk (.agg l) := by
 refine Nat.le_trans (bulk_part h) ?_
 simp only [Rows.uptoBulk]
 omega
theorem Rdr.struct {t : TypeId} {fs : Array Field} {Rs : List (List Value → Nat → Prop)} (ht : P.underlying t = some (.struct fs)) (ho : offs P fs.toList 0 (P.cellsOf t) = true) (hr : RdrL enc P w fs.toList Rs) : Rdr enc P w t (AllR Rs) := fun fuel cs x h => by
 obtain ⟨xs, n, _, rfl, hl, hlen, hf⟩ := DataW.trod_struct ht h
 have := all_fields (b := Rows.uptoBulk (.agg (xs.map (·.1)))) (fuel := n) hl hr ho fun f hm => by
   obtain ⟨i, hi, e⟩ := List.getElem_of_mem hm
   have hi' : i < fs.size := by simpa using hi
   have h1 := hf i f (by rw [Array.getElem?_eq_getElem hi', ← e]; simp)
   obtain ⟨y, hy⟩ : ∃ y, xs[i]? = some y := ⟨_, List.getElem?_eq_getElem (by omega)⟩
   exact ⟨y, h1.trans hy, bulk_agg (List.mem_map.2 ⟨y, List.mem_of_getElem? hy, rfl⟩)⟩
 rwa [List.drop_zero] at this
theorem Rdr.slice {α : Type} {enc1 : α → List Value} {T : α → Nat → Prop} {t e : TypeId} {k : Nat} (ht : P.underlying t = some (.slice e)) (hC : P.cellsOf e = k) (hk : Nat.blt 0 k = true) (he : ∀ x, (enc1 x).length = k) (hr : Rdr enc P w e fun cs b => ∃ x, cs = enc1 x ∧ T x b) :
   Rdr enc P w t fun cs b => ∃ v l, cs = [v] ∧ Sl enc1 k w w.heap.size v l ∧ l.length + 1 ≤ b ∧ ∀ x ∈ l, ∃ b', b' ≤ b ∧ T x b' := fun fuel cs x h => by
 have hk' : 0 < k := by simpa [Nat.blt_eq] using hk
 rcases open_slice ht h with ⟨rfl, rfl⟩ | ⟨a, len, cap, m, n, D, Pl, rfl, hb, hl, hm, hmm, rfl, hi⟩
 · exact ⟨_, [], rfl, Sl.nil_, bulk_one _, fun x hx => by simp at hx⟩
 · have hlm : len ≤ m := by rw [hmm]; split <;> omega
   have key : ∀ i, i < len → ∃ x : α, (∀ j u, (enc1 x)[j]? = some u → w.cell? (a.add (i * k + j)) = some u) ∧ ∃ b', b' ≤ Rows.uptoBulk (D i) ∧ T x b' := fun i hil => by
     obtain ⟨cs', hc, ht'⟩ := hi i (by omega)
     obtain ⟨x, rfl, hT⟩ := hr _ _ _ ht'
     rw [hC] at hc
     obtain ⟨_, hcl, hat⟩ := World.cells?_some hc
     refine ⟨x, fun j u hj => ?_, _, Nat.le_refl _, hT⟩
     have hjl : j < k := by rw [← he x]; exact (List.getElem?_eq_some_iff.1 hj).1
     have h1 := hat j hjl
     rw [Go.Deep.add_add, hj] at h1
     exact h1
   obtain ⟨l, rfl, hl2⟩ := list_of key
   refine ⟨_, l, rfl, ⟨some a, cap, rfl, hl, by simpa [maxLen] using hm, fun hp => ?_⟩, ?_, fun x hx => ?_⟩
   · obtain ⟨b, off, spot⟩ := a
     have h0 : 0 < (enc1 (l[0]'(by omega))).length := by rw [he]; exact hk'
     have hc := (hl2 0 (l[0]'(by omega)) (by simp [hp])).1 0 ((enc1 (l[0]'(by omega)))[0]'h0) (List.getElem?_eq_getElem h0)
     have hspot : spot = none := by simpa [Addr.add] using World.cell?_spot hc
     subst hspot
     refine ⟨b, off, rfl, by simpa [Addr.add] using World.block_lt_of_cell? w _ hc, fun k x hx j u hu => ?_⟩
     have := (hl2 k x hx).1 j u hu
     rw [Addr.add_mid, ← Nat.add_assoc] at this
     exact this
   · have := bulk_slice ((List.range l.length).map D) ((List.range (m - l.length)).map fun j => D (l.length + j))
     simpa using this
   · obtain ⟨i, hil, e⟩ := List.getElem_of_mem hx
     obtain ⟨_, b', h1, h2⟩ := hl2 i x (by rw [List.getElem?_eq_getElem hil, e])
     refine ⟨b', Nat.le_trans h1 ?_, h2⟩
     have h3 : D i ∈ (List.range l.length).map D := List.mem_map.2 ⟨i, List.mem_range.2 hil, rfl⟩
     have := bulk_part h3
     simp only [Rows.uptoBulk]
     omega
theorem Rdr.top {t : TypeId} {v : Value} {d : DataW H} {p : List MemPlace} {R : List Value → Nat → Prop} (hr : Rdr enc P w t R) (h : DataW.Trod enc P w 0 (fun _ => true) true t v d p) : R v.cells.toList (Rows.uptoBulk d) := by
 obtain ⟨n, hn⟩ := h
 exact hr _ _ _ hn
end
end Go.Proofs.YtakpdbmdfnialaaGreat
namespace Go.Proofs.YtakpdbmdfnialaaGreat
open Go.Fw Go.Proofs Go.RowKit Go.ChangeShapes Go.WideShapes Go.ChangeAt Go.Deep Go.Joins Go.Proofs.Tryz
section
variable {H : Type} {enc : TypeId × Value → H} {w : World}
theorem Rdr.dot {t : TypeId} {i1 i2 i3 : TypeId} {k : IntKind} {f1 f2 f3 : Field} (ht : Tryz.prog.underlying t = some (.struct #[f1, f2, f3])) (ho : offs Tryz.prog [f1, f2, f3] 0 (Tryz.prog.cellsOf t) = true) (h1 : Tryz.prog.underlying f1.type = some (.int .i64)) (h2 : Tryz.prog.underlying f2.type = some (.int .i64)) (h3 : Tryz.prog.underlying f3.type = some (.int .i64)) :
   Rdr enc Tryz.prog w t fun cs _ => ∃ d : Dot, cs = Dot.enc d ∧ True := by
 refine (Rdr.struct ht ho (.cons (Rdr.int h1) (.cons (Rdr.int h2) (.cons (Rdr.int h3) .nil)))).mono ?_
 rintro cs b ⟨_, _, rfl, ⟨_, _, x, rfl, _⟩, _, _, rfl, ⟨_, _, y, rfl, _⟩, _, _, rfl, ⟨_, _, z, rfl, _⟩, rfl⟩
 exact ⟨⟨x, y, z⟩, rfl, trivial⟩
theorem u64_wf {n : Int} (h : (Lit.int .u64 n).wf = true) : ∃ p : UInt64, n = (p.toNat : Int) := by
 simp only [Lit.wf, IntKind.min, IntKind.max, IntKind.signed, IntKind.bits, Bool.and_eq_true, decide_eq_true_eq, Bool.false_eq_true, if_false] at h
 have h2 : n.toNat < 18446744073709551616 := by omega
 refine ⟨UInt64.ofNat n.toNat, ?_⟩
 rw [UInt64.toNat_ofNat', Nat.mod_eq_of_lt h2]
 omega
end
end Go.Proofs.YtakpdbmdfnialaaGreat
namespace Go.Proofs.YtakpdbmdfnialaaGreat
open Go.Fw Go.Proofs Go.RowKit Go.ChangeShapes Go.WideShapes Go.ChangeAt Go.Deep Go.Joins Go.Proofs.Tryz
section
variable {H : Type} {enc : TypeId × Value → H} {w : World}
theorem rdUint : Rdr enc Tryz.prog w 61 fun cs _ => ∃ x : UInt64, cs = encU x ∧ True := (Rdr.int underlying61).mono fun cs b ⟨n, e, h⟩ => by
 obtain ⟨p, rfl⟩ := u64_wf h
 exact ⟨p, e, trivial⟩
theorem read_uints {v : Value} {d : DataW H} {p : List MemPlace} (hv : ∃ A len cap, v = .slice A len cap) (h : DataW.Trod enc Tryz.prog w 0 (fun _ => true) true 58 v d p) :
   ∃ l, Sl encU 1 w w.heap.size v l ∧ l.length + 1 ≤ Rows.uptoBulk d := by
 obtain ⟨v', l, hc, hs, hl, hf⟩ := Rdr.top (Rdr.slice (k := 1) underlying58 (by kernel_rfl) rfl encU_len rdUint) h
 obtain ⟨A, n, c, rfl⟩ := hv
 simp only [Value.cells, List.cons.injEq, and_true] at hc
 subst hc
 exact ⟨l, hs, hl⟩
end
end Go.Proofs.YtakpdbmdfnialaaGreat
namespace Go.Fw
open Go.RowKit
def seenB (U : List Upd) (u : Upd) : Bool := U.any fun v => decide (v.item = u.item) && v.seen.ctx.covers u.dot
end Go.Fw
namespace Go.Fw
open Go.RowKit
def firstE : List Upd → Int
 | [] => 0
 | u :: r => if mayE u = 0 then firstE r else mayE u
def keptU (U V : List Upd) : List Ent := (V.filter fun u => decide (0 < u.qty) && !seenB U u).map Upd.ent
def marksU (U : List Upd) : List Dot := U.flatMap fun u => u.seen.ctx.marks
def dotsU (U : List Upd) : List Dot := U.flatMap fun u => u.seen.ctx.cloud ++ [u.dot]
def sortI (l : List Ent) : List Ent := l.foldl (fun a e => insE e a) []
def okU (U : List Upd) : Prop := oneU U ∧ ∀ u ∈ U, ∀ v ∈ U, u.key = v.key
instance (U : List Upd) : Decidable (okU U) := inferInstanceAs (Decidable ((U.map (·.dot)).Nodup ∧ ∀ u ∈ U, ∀ v ∈ U, u.key = v.key))
def knownU (U : List Upd) : Ctx × Int := normalL (marksU U) (dotsU U)
def meantC (U : List Upd) : Cart := ⟨sortI (keptU U U), (knownU U).1⟩
def meantK (U : List Upd) : Cart × Int :=
 if okU U then
   if firstE U = 0 then
     if (knownU U).2 = 0 then
       if canE (meantC U) = 0 then (meantC U, 0) else (Cart.zero, canE (meantC U))
     else (Cart.zero, (knownU U).2)
   else (Cart.zero, firstE U)
 else (Cart.zero, 260)
theorem firstE_ok : ∀ {U : List Upd}, firstE U = 0 ↔ ∀ u ∈ U, mayE u = 0
 | [] => by simp [firstE]
 | u :: r => by
   unfold firstE
   by_cases h : mayE u = 0
   · rw [if_pos h, firstE_ok]
     simp [h]
   · rw [if_neg h]
     simp [h]
theorem sortI_all : ∀ (l a : List Ent) (x : Ent), x ∈ l.foldl (fun a e => insE e a) a ↔ x ∈ a ∨ x ∈ l
 | [], a, x => by simp
 | e :: r, a, x => by
   rw [List.foldl_cons, sortI_all r, insE_mem, List.mem_cons]
   constructor
   · rintro ((h | h) | h)
     · exact .inr (.inl h)
     · exact .inl h
     · exact .inr (.inr h)
   · rintro (h | h | h)
     · exact .inl (.inr h)
     · exact .inl (.inl h)
     · exact .inr h
theorem sortI_mem {l : List Ent} {x : Ent} : x ∈ sortI l ↔ x ∈ l := by
 rw [sortI, sortI_all]; simp
theorem sortI_pw : ∀ (l a : List Ent), a.Pairwise ltE → (l.map (·.dot)).Nodup → (∀ x ∈ a, ∀ e ∈ l, x.dot ≠ e.dot) → (l.foldl (fun a e => insE e a) a).Pairwise ltE
 | [], a, h, _, _ => h
 | e :: r, a, h, hn, hd => by
   rw [List.map_cons, List.nodup_cons] at hn
   refine sortI_pw r _ (insE_sorted h fun x hx => hd x hx e (by simp)) hn.2 fun x hx f hf => ?_
   rcases insE_mem.1 hx with rfl | hx
   · exact fun e' => hn.1 (e' ▸ List.mem_map.2 ⟨f, hf, rfl⟩)
   · exact hd x hx f (by simp [hf])
theorem sortI_sorted {l : List Ent} (h : (l.map (·.dot)).Nodup) : (sortI l).Pairwise ltE := sortI_pw l [] List.Pairwise.nil h (fun x hx => by cases hx)
theorem sortI_len (l : List Ent) : (sortI l).length = l.length := by
 have : ∀ (l a : List Ent), (l.foldl (fun a e => insE e a) a).length = a.length + l.length := by
   intro l
   induction l with
   | nil => intro a; simp
   | cons e r ih => intro a; rw [List.foldl_cons, ih, insE_len, List.length_cons]; omega
 rw [sortI, this]; simp
theorem kept_mem {U V : List Upd} {x : Ent} : x ∈ keptU U V ↔ ∃ u ∈ V, 0 < u.qty ∧ seenB U u = false ∧ u.ent = x := by
 unfold keptU
 rw [List.mem_map]
 constructor
 · rintro ⟨u, hu, rfl⟩
   rw [List.mem_filter, Bool.and_eq_true, decide_eq_true_eq, Bool.not_eq_true'] at hu
   exact ⟨u, hu.1, hu.2.1, hu.2.2, rfl⟩
 · rintro ⟨u, hu, h1, h2, rfl⟩
   exact ⟨u, by rw [List.mem_filter, Bool.and_eq_true, decide_eq_true_eq, Bool.not_eq_true']; exact ⟨hu, h1, h2⟩, rfl⟩
theorem kept_dots {U V : List Upd} (h : oneU V) : ((keptU U V).map (·.dot)).Nodup := by
 unfold keptU
 rw [List.map_map]
 exact List.Nodup.sublist (List.Sublist.map _ List.filter_sublist) h
theorem marks_may {U : List Upd} (h : ∀ u ∈ U, mayE u = 0) : ∀ x ∈ marksU U, mayD x = true := fun x hx => by
 obtain ⟨u, hu, hx⟩ := List.mem_flatMap.1 hx
 exact (Xz (Vs (h u hu)).seen.ctx).mayM x hx
theorem dots_may {U : List Upd} (h : ∀ u ∈ U, mayE u = 0) : ∀ x ∈ dotsU U, mayD x = true := fun x hx => by
 obtain ⟨u, hu, hx⟩ := List.mem_flatMap.1 hx
 rcases List.mem_append.1 hx with hx | hx
 · exact (Xz (Vs (h u hu)).seen.ctx).mayC x hx
 · rw [List.mem_singleton.1 hx]; exact (Vs (h u hu)).dot
theorem norm_is {l d : List Dot} (hl : ∀ x ∈ l, mayD x = true) (hd : ∀ x ∈ d, mayD x = true) {C : Ctx} (hC : canL C = true) (h : ∀ x, C.covers x = true ↔ den l d x) : normalL l d = (C, 0) := by
 have n1 : Nf (settledL ((insF d).length + 1) (setF l) (insF d)) := Vw _ _ _ (by omega) (Wg l) (insF_sorted d) (Vq hl) (insF_may hd)
 have e : settledL ((insF d).length + 1) (setF l) (insF d) = C := nf_uniq n1 (Xz hC) fun x => by
   rw [Wi n1, den_normal hl hd, h]
 have := can_len hC
 rw [Wu hl hd, e, if_neg (by omega)]
theorem meant_hist {U : List Upd} (hU : oneU U) (hk : ∀ u ∈ U, ∀ v ∈ U, u.key = v.key) (hm : ∀ u ∈ U, mayE u = 0) {c : Cart} (hc : InH U c) : meantK (U.filter fun u => c.ctx.covers u.dot) = (c, 0) := by
 have hV : ∀ u, u ∈ (U.filter fun u => c.ctx.covers u.dot) ↔ u ∈ U ∧ c.ctx.covers u.dot = true := fun u => List.mem_filter
 have hVo : oneU (U.filter fun u => c.ctx.covers u.dot) := List.Nodup.sublist (List.Sublist.map _ List.filter_sublist) hU
 generalize (U.filter fun u => c.ctx.covers u.dot) = V at *
 have hVm : ∀ u ∈ V, mayE u = 0 := fun u hu => hm u ((hV u).1 hu).1
 have hVk : okU V := ⟨hVo, fun u hu v hv => hk u ((hV u).1 hu).1 v ((hV v).1 hv).1⟩
 have e1 : knownU V = (c.ctx, 0) := by
   refine norm_is (marks_may hVm) (dots_may hVm) hc.ok.ctx fun x => ?_
   constructor
   · intro h
     obtain ⟨u, hu, rfl⟩ := hc.cov x h
     have huv : u ∈ V := (hV u).2 ⟨hu, h⟩
     have hd := (Vs (hm u hu)).dot
     simp only [mayD, decide_eq_true_eq] at hd
     exact ⟨by omega, .inr (List.mem_flatMap.2 ⟨u, huv, by simp⟩)⟩
   · rintro ⟨h1, ⟨m, hmm, h2⟩ | h2⟩
     · obtain ⟨u, hu, hx⟩ := List.mem_flatMap.1 hmm
       have hs := Xz (Vs (hVm u hu)).seen.ctx
       exact hc.clos u ((hV u).1 hu).1 ((hV u).1 hu).2 x ((Wi hs x).2 ⟨h1, .inl ⟨m, hx, h2⟩⟩)
     · obtain ⟨u, hu, hx⟩ := List.mem_flatMap.1 h2
       rcases List.mem_append.1 hx with hx | hx
       · have hs := Xz (Vs (hVm u hu)).seen.ctx
         exact hc.clos u ((hV u).1 hu).1 ((hV u).1 hu).2 x ((Wi hs x).2 ⟨h1, .inr hx⟩)
       · rw [List.mem_singleton.1 hx]; exact ((hV u).1 hu).2
 have e2 : sortI (keptU V V) = c.ents := by
   refine sorted_uniq (sortI_sorted (kept_dots hVo)) hc.ok.order fun x => ?_
   rw [sortI_mem, kept_mem]
   constructor
   · rintro ⟨u, hu, h1, h2, rfl⟩
     obtain ⟨hu1, hu2⟩ := (hV u).1 hu
     refine Decidable.byContradiction fun hn => ?_
     have hkl : killsK c u.ent := ⟨hu2, hn⟩
     obtain ⟨_, h3 | ⟨v, k1, k2, k3, k4⟩⟩ := (hc.down u hu1).1 hkl
     · exact h3 h1
     · rw [Bool.eq_false_iff] at h2
       refine h2 ?_
       unfold seenB
       rw [List.any_eq_true]
       exact ⟨v, (hV v).2 ⟨k1, k2⟩, by rw [k4, k3]; simp⟩
   · intro hx
     obtain ⟨u, hu, rfl⟩ := hc.ent x hx
     have hcv : c.ctx.covers u.dot = true := ok_cov hc.ok hx
     have hnd : ¬ downU U c u := fun h => ((hc.down u hu).2 h).2 hx
     refine ⟨u, (hV u).2 ⟨hu, hcv⟩, Decidable.byContradiction fun h => hnd ⟨hcv, .inl h⟩, ?_, rfl⟩
     rw [Bool.eq_false_iff]
     intro h
     unfold seenB at h
     rw [List.any_eq_true] at h
     obtain ⟨v, hv, h⟩ := h
     rw [Bool.and_eq_true, decide_eq_true_eq] at h
     exact hnd ⟨hcv, .inr ⟨v, ((hV v).1 hv).1, ((hV v).1 hv).2, h.1, h.2⟩⟩
 have e3 : meantC V = c := by unfold meantC; rw [e1, e2]
 unfold meantK
 rw [if_pos hVk, if_pos (firstE_ok.2 hVm), e1, e3, if_pos rfl, if_pos ((Wv c).2 hc.ok)]
end Go.Fw
namespace Go.Fw
open Go.RowKit
def metD (m : List (Dot × Unit)) (l : List Dot) : List (Dot × Unit) := l.foldl (fun m d => aput m d ()) m
theorem metD_take {m : List (Dot × Unit)} {l : List Dot} {i : Nat} {d : Dot} (h : l[i]? = some d) : metD m (l.take (i + 1)) = aput (metD m (l.take i)) d () := by
 unfold metD
 rw [List.take_add_one, h, Option.toList_some, List.foldl_append]
 rfl
theorem aput_len (m : List (Dot × Unit)) (d : Dot) : (aput m d ()).length = if d ∈ m.map (·.1) then m.length else m.length + 1 := by
 have h := congrArg List.length (aput_keys m d ())
 rw [List.length_map] at h
 rw [h]
 split
 · rw [List.length_map]
 · rw [List.length_append, List.length_map]; rfl
theorem metD_len : ∀ (l : List Dot) (m : List (Dot × Unit)), (metD m l).length ≤ m.length + l.length ∧ ((metD m l).length = m.length + l.length ↔ l.Nodup ∧ ∀ d ∈ l, d ∉ m.map (·.1))
 | [], m => by simp [metD]
 | x :: r, m => by
   show (metD (aput m x ()) r).length ≤ _ ∧ ((metD (aput m x ()) r).length = _ ↔ _)
   obtain ⟨h1, h2⟩ := metD_len r (aput m x ())
   rw [aput_len] at h1 h2
   rw [List.length_cons]
   by_cases h : x ∈ m.map (·.1)
   · rw [if_pos h] at h1 h2
     refine ⟨by omega, ⟨fun e => by omega, fun ⟨_, e⟩ => absurd h (e x (by simp))⟩⟩
   · rw [if_neg h] at h1 h2
     refine ⟨by omega, ?_⟩
     rw [show m.length + (r.length + 1) = m.length + 1 + r.length by omega, h2, aput_keys, if_neg h, List.nodup_cons]
     constructor
     · rintro ⟨k1, k2⟩
       refine ⟨⟨fun hx => ?_, k1⟩, fun d hd => ?_⟩
       · exact k2 x hx (by simp)
       · rcases List.mem_cons.1 hd with rfl | hd
         · exact h
         · intro e; exact k2 d hd (by rw [List.mem_append]; exact .inl e)
     · rintro ⟨⟨k1, k2⟩, k3⟩
       refine ⟨k2, fun d hd e => ?_⟩
       rw [List.mem_append, List.mem_singleton] at e
       rcases e with e | rfl
       · exact k3 d (by simp [hd]) e
       · exact k1 hd
theorem met_fewer (U : List Upd) : decide (((metD [] (U.map (·.dot))).length : Int) < (U.length : Int)) = !decide ((U.map (·.dot)).Nodup) := by
 obtain ⟨h1, h2⟩ := metD_len (U.map (·.dot)) []
 rw [List.length_nil, List.length_map, Nat.zero_add] at h1 h2
 have h3 : (metD [] (U.map (·.dot))).length = U.length ↔ oneU U := by rw [h2]; exact ⟨fun h => h.1, fun h => ⟨h, fun d _ e => by simp at e⟩⟩
 by_cases h : oneU U
 · rw [decide_eq_true (show (U.map (·.dot)).Nodup from h), decide_eq_false (by have := h3.2 h; omega)]; rfl
 · have : (metD [] (U.map (·.dot))).length ≠ U.length := fun e => h (h3.1 e)
   rw [decide_eq_false (show ¬ (U.map (·.dot)).Nodup from h), decide_eq_true (by omega)]; rfl
end Go.Fw
namespace Go.Fw
open Go.RowKit
theorem marks_take {U : List Upd} {i : Nat} {u : Upd} (h : U[i]? = some u) : marksU (U.take (i + 1)) = marksU (U.take i) ++ u.seen.ctx.marks := by
 unfold marksU
 rw [List.take_add_one, h, Option.toList_some, List.flatMap_append, List.flatMap_cons, List.flatMap_nil, List.append_nil]
theorem dots_take {U : List Upd} {i : Nat} {u : Upd} (h : U[i]? = some u) : dotsU (U.take (i + 1)) = (dotsU (U.take i) ++ u.seen.ctx.cloud) ++ [u.dot] := by
 unfold dotsU
 rw [List.take_add_one, h, Option.toList_some, List.flatMap_append, List.flatMap_cons, List.flatMap_nil, List.append_nil, List.append_assoc]
theorem kept_take {U V : List Upd} {i : Nat} {u : Upd} (h : V[i]? = some u) : keptU U (V.take (i + 1)) = keptU U (V.take i) ++ if (decide (0 < u.qty) && !seenB U u) = true then [u.ent] else [] := by
 unfold keptU
 rw [List.take_add_one, h, Option.toList_some, List.filter_append, List.map_append]
 congr 1
 have e : List.filter (fun u => decide (0 < u.qty) && !seenB U u) [u] = if (decide (0 < u.qty) && !seenB U u) = true then [u] else [] := by
   rw [List.filter_cons, List.filter_nil]
 rw [e]
 split <;> rfl
theorem kept_len (U V : List Upd) : (keptU U V).length ≤ V.length := by
 unfold keptU
 rw [List.length_map]
 exact List.length_filter_le _ _
theorem firstE_at {U : List Upd} {i : Nat} {u : Upd} (h : U[i]? = some u) : firstE (U.drop i) = if mayE u = 0 then firstE (U.drop (i + 1)) else mayE u := by
 obtain ⟨h1, h2⟩ := List.getElem?_eq_some_iff.1 h
 rw [List.drop_eq_getElem_cons h1, h2, firstE]
def RoomU (U : List Upd) : Prop := (∀ u ∈ U, mayE u = 0) → (marksU U).length ≤ 1900000 ∧ (dotsU U).length ≤ 1900000
theorem marks_le (U : List Upd) (i : Nat) : (marksU (U.take i)).length ≤ (marksU U).length := by
 have h : marksU U = marksU (U.take i) ++ marksU (U.drop i) := by unfold marksU; rw [← List.flatMap_append, List.take_append_drop]
 rw [h, List.length_append]; omega
theorem dots_le (U : List Upd) (i : Nat) : (dotsU (U.take i)).length ≤ (dotsU U).length := by
 have h : dotsU U = dotsU (U.take i) ++ dotsU (U.drop i) := by unfold dotsU; rw [← List.flatMap_append, List.take_append_drop]
 rw [h, List.length_append]; omega
theorem flat_le {α β : Type} (f : α → List β) (k : Nat) : ∀ (l : List α), (∀ x ∈ l, (f x).length ≤ k) → (l.flatMap f).length ≤ l.length * k
 | [], _ => by simp
 | x :: r, h => by
   rw [List.flatMap_cons, List.length_append, List.length_cons, Nat.add_mul]
   have h1 := h x (by simp)
   have h2 := flat_le f k r fun y hy => h y (by simp [hy])
   omega
theorem room_few {U : List Upd} (h : U.length ≤ 20000) : RoomU U := fun hm => by
 have h1 := flat_le (fun u : Upd => u.seen.ctx.marks) 64 U fun u hu => (can_len (Vs (hm u hu)).seen.ctx).1
 have h2 := flat_le (fun u : Upd => u.seen.ctx.cloud ++ [u.dot]) 65 U fun u hu => by
   have := (can_len (Vs (hm u hu)).seen.ctx).2
   rw [List.length_append, List.length_singleton]; omega
 unfold marksU dotsU
 omega
theorem meant_keys {U : List Upd} (h : ¬ ∀ u ∈ U, ∀ v ∈ U, u.key = v.key) : meantK U = (Cart.zero, 260) := if_neg fun e => h e.2
theorem meant_dots {U : List Upd} (h : ¬ oneU U) : meantK U = (Cart.zero, 260) := if_neg fun e => h e.1
theorem meant_first {U : List Upd} (h : okU U) (h2 : firstE U ≠ 0) : meantK U = (Cart.zero, firstE U) := by
 unfold meantK
 rw [if_pos h, if_neg h2]
theorem meant_known {U : List Upd} (h : okU U) (h2 : firstE U = 0) (h3 : (knownU U).2 ≠ 0) : meantK U = (Cart.zero, (knownU U).2) := by
 unfold meantK
 rw [if_pos h, if_pos h2, if_neg h3]
theorem meant_can {U : List Upd} (h : okU U) (h2 : firstE U = 0) (h3 : (knownU U).2 = 0) (h4 : canE (meantC U) ≠ 0) : meantK U = (Cart.zero, canE (meantC U)) := by
 unfold meantK
 rw [if_pos h, if_pos h2, if_pos h3, if_neg h4]
theorem meant_ok {U : List Upd} (h : okU U) (h2 : firstE U = 0) (h3 : (knownU U).2 = 0) (h4 : canE (meantC U) = 0) : meantK U = (meantC U, 0) := by
 unfold meantK
 rw [if_pos h, if_pos h2, if_pos h3, if_pos h4]
theorem kept_may {U V : List Upd} (h : ∀ u ∈ V, mayE u = 0) : ∀ x ∈ keptU U V, mayD x.dot = true := fun x hx => by
 obtain ⟨u, hu, _, _, rfl⟩ := kept_mem.1 hx
 exact (Vs (h u hu)).dot
end Go.Fw
namespace Go.Fw
open Go.RowKit
structure Gon where
 key : List UInt8
 dt : Dot
deriving DecidableEq
abbrev Gon.enc (x : Gon) : List Value := [.string (bs x.key), .int .i64 x.dt.node, .int .i64 x.dt.life, .int .i64 x.dt.count]
theorem Gon.enc_len (x : Gon) : (Gon.enc x).length = 4 := rfl
theorem Gon.enc_one (x : Gon) : ∀ u ∈ Gon.enc x, u.oneCell' = true := fun u hu => by simp [Gon.enc] at hu; rcases hu with rfl | rfl | rfl | rfl <;> rfl
theorem Gon.mkEnc {s : List UInt8} {x y z : Int} : [Value.string (bs s), .int .i64 x, .int .i64 y, .int .i64 z] = Gon.enc ⟨s, ⟨x, y, z⟩⟩ := rfl
def ltG (a b : Gon) : Prop := Op.bytesLess a.key b.key = true ∨ (a.key = b.key ∧ ltM a.dt b.dt)
def sameG (a b : Gon) : Prop := a.key = b.key ∧ a.dt.node = b.dt.node ∧ a.dt.life = b.dt.life
instance (a b : Gon) : Decidable (ltG a b) := by unfold ltG ltM; infer_instance
instance (a b : Gon) : Decidable (sameG a b) := by unfold sameG; infer_instance
end Go.Fw
namespace Go.Fw
def cmpI (x y : Int) : Int := if x < y then -1 else if y < x then 1 else 0
def orI (x y : Int) : Int := if x ≠ 0 then x else y
end Go.Fw
namespace Go.Proofs.YtakpdbmdfnialaaGreat
open Go.Fw Go.Proofs Go.RowKit Go.Proofs.Tryz
end Go.Proofs.YtakpdbmdfnialaaGreat
namespace Go.Fw
def ordA (a b : Ent) : Int := orI (cmpB a.item b.item) (orI (cmpI a.dot.node b.dot.node) (orI (cmpI a.dot.life b.dot.life) (cmpI a.dot.count b.dot.count)))
theorem ordA_iff (a b : Ent) : ordA a b < 0 ↔ ltE a b := by
 unfold ordA ltE ltC orI cmpB cmpI
 by_cases h1 : Op.bytesLess a.item b.item = true
 · simp [h1]
 · by_cases h2 : a.item = b.item
   · have h3 : Op.bytesLess b.item b.item = false := Wn _
     simp only [h2, h3, if_true, Bool.false_eq_true, if_false, false_or, true_and, ne_eq, not_true]
     repeat' split
     all_goals omega
   · simp [h1, h2]
end Go.Fw
namespace Go.Proofs.YtakpdbmdfnialaaGreat
open Go.Fw Go.Proofs Go.RowKit Go.Proofs.Tryz
end Go.Proofs.YtakpdbmdfnialaaGreat
namespace Go.Ft
open Go.RowKit
structure Play where
 st : List Cart
 up : List Upd
 ct : List Int
def Play.start : Play := ⟨[], [], List.replicate 8 0⟩
end Go.Ft
namespace Go.Ft
open Go.RowKit
structure Gon where
 key : List UInt8
 dt : Dot
deriving DecidableEq
abbrev Gon.enc (x : Gon) : List Value := [.string (bs x.key), .int .i64 x.dt.node, .int .i64 x.dt.life, .int .i64 x.dt.count]
def ltG (a b : Gon) : Prop := Op.bytesLess a.key b.key = true ∨ (a.key = b.key ∧ ltM a.dt b.dt)
def sameG (a b : Gon) : Prop := a.key = b.key ∧ a.dt.node = b.dt.node ∧ a.dt.life = b.dt.life
instance (a b : Gon) : Decidable (ltG a b) := by unfold ltG ltM; infer_instance
instance (a b : Gon) : Decidable (sameG a b) := by unfold sameG; infer_instance
end Go.Ft
namespace Go.Ft
def cmpI (x y : Int) : Int := if x < y then -1 else if y < x then 1 else 0
def orI (x y : Int) : Int := if x ≠ 0 then x else y
end Go.Ft
namespace Go.Proofs.YtakpdbmdfnialaaGreat.Tk
open Go.Ft Go.Proofs Go.RowKit
theorem c177 (w0 : World) (x : Int) : Calls Tryz.prog 177 #[.int .i64 x] w0 fun e w' => e = .returned (.bool false) ∧ Bel w0.heap.size w0 w' := by
 refine enter1 Tryz.func177 rfl Tryz.ntmps177 rfl fun a S => ?_
 refine wp_seq_k fun _ hK1 => ?_
 refine wp_region_lit ?_
 (refine Yk S (Yr.ys (Yb Ev.c)) rfl ?_; clear S a; intro a w S)
 refine Zb ?_
 (refine (Za (hK1 _ _ ?_)); clear hK1)
 refine wp_seq_k fun _ hK1 => ?_
 refine wp_region_lit ?_
 (refine Yk S (Yr.ys (Zj (Ev.t rfl))) rfl ?_; clear S a w; intro a w S)
 (refine Yk S (Yr.ys (Zj (Ev.t rfl))) rfl ?_; clear S a w; intro a w S)
 (refine Yk S (Yr.ys (Yp (by omega) (Yg (Ev.t rfl) (Ev.t rfl)))) rfl ?_; clear S a w; intro a w S)
 (refine Yk S (Yr.ys (Yb (Ev.t rfl))) rfl ?_; clear S a w; intro a w S)
 refine Zb ?_
 (refine (Za (hK1 _ _ ?_)); clear hK1)
 refine wp_ret ?_
 refine Zn S (results1 S Tryz.results177 (Rv.tmp rfl)) ?_
 exact ⟨by simp, S.wd.below⟩
theorem c132 (w0 : World) (x y : Int) :
   Calls Tryz.prog 132 #[.int .i64 x, .int .i64 y] w0 fun e w' => e = .returned (.int .i64 (cmpI x y)) ∧ Bel w0.heap.size w0 w' := by
 refine enter2 Tryz.func132 rfl Tryz.ntmps132 rfl fun a S => ?_
 refine wp_seq_k fun _ hK1 => ?_
 refine wp_region_lit ?_
 (refine Yk S (Yr.ys (Yb Ev.c)) rfl ?_; clear S a; intro a w S)
 refine Zb ?_
 (refine (Za (hK1 _ _ ?_)); clear hK1)
 refine wp_seq_k fun _ hK1 => ?_
 refine wp_region_lit ?_
 (refine Yk S (Yr.ys (Zj (Ev.t rfl))) rfl ?_; clear S a w; intro a w S)
 (refine Yk S (Zf Tryz.call177 (EvL.cons (Ev.t rfl) EvL.nil) (fun hp w W => c177 _ _)) rfl ?_; clear S a w; intro a w S)
 (refine Yk S (Yr.ys (Yb (Ev.t rfl))) rfl ?_; clear S a w; intro a w S)
 refine Zb ?_
 (refine (Za (hK1 _ _ ?_)); clear hK1)
 refine wp_seq_k fun _ hK1 => ?_
 refine wp_region_lit ?_
 (refine Yk S (Yr.ys (Zj (Ev.t rfl))) rfl ?_; clear S a w; intro a w S)
 (refine Yk S (Zf Tryz.call177 (EvL.cons (Ev.t rfl) EvL.nil) (fun hp w W => c177 _ _)) rfl ?_; clear S a w; intro a w S)
 (refine Yk S (Yr.ys (Yb (Ev.t rfl))) rfl ?_; clear S a w; intro a w S)
 refine Zb ?_
 (refine (Za (hK1 _ _ ?_)); clear hK1)
 refine wp_seq_k fun _ hK1 => ?_
 refine wp_seq_k fun _ hK2 => ?_
 refine wp_region_lit ?_
 (refine Yk S (Yr.ys (Zj (Ev.t rfl))) rfl ?_; clear S a w; intro a w S)
 refine Zb ?_
 (refine (Za (hK2 _ _ ?_)); clear hK2)
 refine Ze S (Ev.t rfl) ?_
 refine wp_skip ?_
 (refine (Za (hK1 _ _ ?_)); clear hK1)
 refine wp_seq_k fun _ hK1 => ?_
 refine wp_seq_k fun _ hK2 => ?_
 refine wp_region_lit ?_
 (refine Yk S (Yr.ys (Zj (Ev.t rfl))) rfl ?_; clear S a w; intro a w S)
 refine Zb ?_
 (refine (Za (hK2 _ _ ?_)); clear hK2)
 refine Ze S (Ev.t rfl) ?_
 refine wp_skip ?_
 (refine (Za (hK1 _ _ ?_)); clear hK1)
 refine wp_seq_k fun _ hK1 => ?_
 refine wp_seq_k fun _ hK2 => ?_
 refine wp_region_lit ?_
 (refine Yk S (Yr.ys (Zj (Ev.t rfl))) rfl ?_; clear S a w; intro a w S)
 (refine Yk S (Yr.ys (Zj (Ev.t rfl))) rfl ?_; clear S a w; intro a w S)
 (refine Yk S (Yr.ys (Yz (Ev.t rfl) (Ev.t rfl))) rfl ?_; clear S a w; intro a w S)
 refine Zb ?_
 (refine (Za (hK2 _ _ ?_)); clear hK2)
 refine Wc S (Ev.t rfl) (fun h1 => ?_) (fun h1 => ?_)
 refine wp_seq_k fun _ hK2 => ?_
 refine wp_region_lit ?_
 (refine Yk S (Yr.ys (Yb Ev.c)) rfl ?_; clear S a w; intro a w S)
 refine Zb ?_
 (refine (Za (hK2 _ _ ?_)); clear hK2)
 refine wp_ret ?_
 refine (Zd ?_)
 refine Zn S (results1 S Tryz.results132 (Rv.tmp rfl)) ?_
 rotate_left
 refine wp_skip ?_
 (refine (Za (hK1 _ _ ?_)); clear hK1)
 refine wp_seq_k fun _ hK1 => ?_
 refine wp_seq_k fun _ hK2 => ?_
 refine wp_region_lit ?_
 (refine Yk S (Yr.ys (Zj (Ev.t rfl))) rfl ?_; clear S a w; intro a w S)
 (refine Yk S (Yr.ys (Zj (Ev.t rfl))) rfl ?_; clear S a w; intro a w S)
 (refine Yk S (Yr.ys (Yf (Ev.t rfl) (Ev.t rfl))) rfl ?_; clear S a w; intro a w S)
 refine Zb ?_
 (refine (Za (hK2 _ _ ?_)); clear hK2)
 refine Wc S (Ev.t rfl) (fun h2 => ?_) (fun h2 => ?_)
 refine wp_seq_k fun _ hK2 => ?_
 refine wp_region_lit ?_
 (refine Yk S (Yr.ys (Yb Ev.c)) rfl ?_; clear S a w; intro a w S)
 refine Zb ?_
 (refine (Za (hK2 _ _ ?_)); clear hK2)
 refine wp_ret ?_
 refine (Zd ?_)
 refine Zn S (results1 S Tryz.results132 (Rv.tmp rfl)) ?_
 rotate_left
 refine wp_skip ?_
 (refine (Za (hK1 _ _ ?_)); clear hK1)
 refine wp_seq_k fun _ hK1 => ?_
 refine wp_region_lit ?_
 (refine Yk S (Yr.ys (Yb Ev.c)) rfl ?_; clear S a w; intro a w S)
 refine Zb ?_
 (refine (Za (hK1 _ _ ?_)); clear hK1)
 refine wp_ret ?_
 refine Zn S (results1 S Tryz.results132 (Rv.tmp rfl)) ?_
 rotate_left
 · exact ⟨by rw [cmpI, if_pos h1], S.wd.below⟩
 · exact ⟨by rw [cmpI, if_neg h1, if_pos h2], S.wd.below⟩
 · exact ⟨by rw [cmpI, if_neg h1, if_neg h2], S.wd.below⟩
end Go.Proofs.YtakpdbmdfnialaaGreat.Tk
namespace Go.Ft
theorem less_neither {a b : List UInt8} (h : Op.bytesLess a b = false) (h' : Op.bytesLess b a = false) : a = b := by
 refine Decidable.byContradiction fun hne => ?_
 rcases Vh hne with h1 | h1
 · rw [h] at h1; cases h1
 · rw [h'] at h1; cases h1
end Go.Ft
namespace Go.Proofs.YtakpdbmdfnialaaGreat.Tk
open Go.Ft Go.Proofs Go.RowKit
theorem c176 (w0 : World) (l : List UInt8) : Calls Tryz.prog 176 #[.string (bs l)] w0 fun e w' => e = .returned (.bool false) ∧ Bel w0.heap.size w0 w' := by
 refine enter1 Tryz.func176 rfl Tryz.ntmps176 rfl fun a S => ?_
 refine wp_seq_k fun _ hK1 => ?_
 refine wp_region_lit ?_
 (refine Yk S (Yr.ys (Yb Ev.c)) rfl ?_; clear S a; intro a w S)
 refine Zb ?_
 (refine (Za (hK1 _ _ ?_)); clear hK1)
 refine wp_seq_k fun _ hK1 => ?_
 refine wp_region_lit ?_
 (refine Yk S (Yr.ys (Zj (Ev.t rfl))) rfl ?_; clear S a w; intro a w S)
 (refine Yk S (Yr.ys (Zj (Ev.t rfl))) rfl ?_; clear S a w; intro a w S)
 (refine Yk S (Yr.ys (Wk (Ev.t rfl) (Ev.t rfl))) rfl ?_; clear S a w; intro a w S)
 (refine Yk S (Yr.ys (Yb (Ev.t rfl))) rfl ?_; clear S a w; intro a w S)
 refine Zb ?_
 (refine (Za (hK1 _ _ ?_)); clear hK1)
 refine wp_ret ?_
 refine Zn S (results1 S Tryz.results176 (Rv.tmp rfl)) ?_
 exact ⟨by simp, S.wd.below⟩
theorem c131 (w0 : World) (l m : List UInt8) : Calls Tryz.prog 131 #[.string (bs l), .string (bs m)] w0 fun e w' => e = .returned (.int .i64 (cmpB l m)) ∧ Bel w0.heap.size w0 w' := by
 refine enter2 Tryz.func131 rfl Tryz.ntmps131 rfl fun a S => ?_
 refine wp_seq_k fun _ hK1 => ?_
 refine wp_region_lit ?_
 (refine Yk S (Yr.ys (Yb Ev.c)) rfl ?_; clear S a; intro a w S)
 refine Zb ?_
 (refine (Za (hK1 _ _ ?_)); clear hK1)
 refine wp_seq_k fun _ hK1 => ?_
 refine wp_region_lit ?_
 (refine Yk S (Yr.ys (Zj (Ev.t rfl))) rfl ?_; clear S a w; intro a w S)
 (refine Yk S (Zf Tryz.call176 (EvL.cons (Ev.t rfl) EvL.nil) (fun hp w W => c176 _ _)) rfl ?_; clear S a w; intro a w S)
 (refine Yk S (Yr.ys (Yb (Ev.t rfl))) rfl ?_; clear S a w; intro a w S)
 refine Zb ?_
 (refine (Za (hK1 _ _ ?_)); clear hK1)
 refine wp_seq_k fun _ hK1 => ?_
 refine wp_region_lit ?_
 (refine Yk S (Yr.ys (Zj (Ev.t rfl))) rfl ?_; clear S a w; intro a w S)
 (refine Yk S (Zf Tryz.call176 (EvL.cons (Ev.t rfl) EvL.nil) (fun hp w W => c176 _ _)) rfl ?_; clear S a w; intro a w S)
 (refine Yk S (Yr.ys (Yb (Ev.t rfl))) rfl ?_; clear S a w; intro a w S)
 refine Zb ?_
 (refine (Za (hK1 _ _ ?_)); clear hK1)
 refine wp_seq_k fun _ hK1 => ?_
 refine wp_seq_k fun _ hK2 => ?_
 refine wp_region_lit ?_
 (refine Yk S (Yr.ys (Zj (Ev.t rfl))) rfl ?_; clear S a w; intro a w S)
 refine Zb ?_
 (refine (Za (hK2 _ _ ?_)); clear hK2)
 refine Ze S (Ev.t rfl) ?_
 refine wp_skip ?_
 (refine (Za (hK1 _ _ ?_)); clear hK1)
 refine wp_seq_k fun _ hK1 => ?_
 refine wp_seq_k fun _ hK2 => ?_
 refine wp_region_lit ?_
 (refine Yk S (Yr.ys (Zj (Ev.t rfl))) rfl ?_; clear S a w; intro a w S)
 refine Zb ?_
 (refine (Za (hK2 _ _ ?_)); clear hK2)
 refine Ze S (Ev.t rfl) ?_
 refine wp_skip ?_
 (refine (Za (hK1 _ _ ?_)); clear hK1)
 refine wp_seq_k fun _ hK1 => ?_
 refine wp_seq_k fun _ hK2 => ?_
 refine wp_region_lit ?_
 (refine Yk S (Yr.ys (Zj (Ev.t rfl))) rfl ?_; clear S a w; intro a w S)
 (refine Yk S (Yr.ys (Zj (Ev.t rfl))) rfl ?_; clear S a w; intro a w S)
 (refine Yk S (Yr.ys (ys_lssStr (Ev.t rfl) (Ev.t rfl))) rfl ?_; clear S a w; intro a w S)
 refine Zb ?_
 (refine (Za (hK2 _ _ ?_)); clear hK2)
 refine Xq S (Ev.t rfl) (fun h1 => ?_) (fun h1 => ?_)
 refine wp_seq_k fun _ hK2 => ?_
 refine wp_region_lit ?_
 (refine Yk S (Yr.ys (Yb Ev.c)) rfl ?_; clear S a w; intro a w S)
 refine Zb ?_
 (refine (Za (hK2 _ _ ?_)); clear hK2)
 refine wp_ret ?_
 refine (Zd ?_)
 refine Zn S (results1 S Tryz.results131 (Rv.tmp rfl)) ?_
 rotate_left
 refine wp_skip ?_
 (refine (Za (hK1 _ _ ?_)); clear hK1)
 refine wp_seq_k fun _ hK1 => ?_
 refine wp_seq_k fun _ hK2 => ?_
 refine wp_region_lit ?_
 (refine Yk S (Yr.ys (Zj (Ev.t rfl))) rfl ?_; clear S a w; intro a w S)
 (refine Yk S (Yr.ys (Zj (Ev.t rfl))) rfl ?_; clear S a w; intro a w S)
 (refine Yk S (Yr.ys (ys_gtrStr (Ev.t rfl) (Ev.t rfl))) rfl ?_; clear S a w; intro a w S)
 refine Zb ?_
 (refine (Za (hK2 _ _ ?_)); clear hK2)
 refine Xq S (Ev.t rfl) (fun h2 => ?_) (fun h2 => ?_)
 refine wp_seq_k fun _ hK2 => ?_
 refine wp_region_lit ?_
 (refine Yk S (Yr.ys (Yb Ev.c)) rfl ?_; clear S a w; intro a w S)
 refine Zb ?_
 (refine (Za (hK2 _ _ ?_)); clear hK2)
 refine wp_ret ?_
 refine (Zd ?_)
 refine Zn S (results1 S Tryz.results131 (Rv.tmp rfl)) ?_
 rotate_left
 refine wp_skip ?_
 (refine (Za (hK1 _ _ ?_)); clear hK1)
 refine wp_seq_k fun _ hK1 => ?_
 refine wp_region_lit ?_
 (refine Yk S (Yr.ys (Yb Ev.c)) rfl ?_; clear S a w; intro a w S)
 refine Zb ?_
 (refine (Za (hK1 _ _ ?_)); clear hK1)
 refine wp_ret ?_
 refine Zn S (results1 S Tryz.results131 (Rv.tmp rfl)) ?_
 rotate_left
 · exact ⟨by rw [cmpB, if_pos h1], S.wd.below⟩
 · exact ⟨by rw [cmpB, if_neg (by rw [h1]; simp), if_neg (less_ne h2).symm], S.wd.below⟩
 · exact ⟨by rw [cmpB, if_neg (by rw [h1]; simp), if_pos (less_neither h1 h2)], S.wd.below⟩
end Go.Proofs.YtakpdbmdfnialaaGreat.Tk
namespace Go.Ft
def ordA (a b : Ent) : Int := orI (cmpB a.item b.item) (orI (cmpI a.dot.node b.dot.node) (orI (cmpI a.dot.life b.dot.life) (cmpI a.dot.count b.dot.count)))
end Go.Ft
namespace Go.Proofs.YtakpdbmdfnialaaGreat.Tk
open Go.Ft Go.Proofs Go.RowKit
theorem e130 (w0 : World) (g : Nat) (x y z u : Int) (h0 : w0.cell? ⟨g, 0, none⟩ = some (.int .i64 x)) (h1 : w0.cell? ⟨g, 1, none⟩ = some (.int .i64 y)) (h2 : w0.cell? ⟨g, 2, none⟩ = some (.int .i64 z)) (hu : w0.cell? ⟨g, 3, none⟩ = some (.int .i64 u)) :
   Calls Tryz.prog 130 #[.slice (some ⟨g, 0, none⟩) 4 4] w0 fun e w' => e = .returned (.int .i64 (orI x (orI y (orI z u)))) ∧ Bel w0.heap.size w0 w' := by
 have rw_1 : (0 : Int) + 1 = ((1 : Nat) : Int) := rfl
 have rw_2 : ((1 : Nat) : Int) + 1 = ((2 : Nat) : Int) := rfl
 have rw_3 : ((2 : Nat) : Int) + 1 = ((3 : Nat) : Int) := rfl
 have rw_4 : ((3 : Nat) : Int) + 1 = ((4 : Nat) : Int) := rfl
 refine enter1 Tryz.func130 rfl Tryz.ntmps130 rfl fun a S => ?_
 refine wp_seq_k fun _ hK1 => ?_
 refine wp_region_lit ?_
 (refine Yk S (Yr.ys (Yb Ev.c)) rfl ?_; clear S a; intro a w S)
 refine Zb ?_
 (refine (Za (hK1 _ _ ?_)); clear hK1)
 refine wp_seq_k fun _ hK1 => ?_
 refine wp_region_lit ?_
 (refine Yk S (Yr.ys (Yb Ev.c)) rfl ?_; clear S a w; intro a w S)
 refine Zb ?_
 (refine (Za (hK1 _ _ ?_)); clear hK1)
 refine wp_seq_k fun _ hK1 => ?_
 refine wp_seq_k fun _ hK2 => ?_
 refine wp_region_lit ?_
 (refine Yk S (Yr.ys (Zj (Ev.t rfl))) rfl ?_; clear S a w; intro a w S)
 (refine Yk S (Yr.ys (Wr Tryz.underlying202 (Ev.t rfl))) rfl ?_; clear S a w; intro a w S)
 (refine Yk S (Yr.ys (Zj Ev.c)) rfl ?_; clear S a w; intro a w S)
 refine Zb ?_
 (refine (Za (hK2 _ _ ?_)); clear hK2)
 refine wp_block ?_
 refine Va 5 (Xc ?_)
 refine wp_seq_k fun _ hK2 => ?_
 refine wp_region_lit ?_
 (refine Yk S (Yr.ys (Yu (by omega) (Yz (Ev.t rfl) (Ev.t rfl)))) rfl ?_; clear S a w; intro a w S)
 refine Zb ?_
 (refine (Za (hK2 _ _ ?_)); clear hK2)
 refine wp_seq_k fun _ hK2 => ?_
 refine Zg S (Ev.t rfl) ?_
 refine wp_skip ?_
 (refine (Za (hK2 _ _ ?_)); clear hK2)
 refine wp_seq_k fun _ hK2 => ?_
 refine wp_block ?_
 refine wp_seq_k fun _ hK3 => ?_
 refine wp_region_lit ?_
 (refine Yk S (Yr.ys (Ym (j := 0) Tryz.underlying202 Tryz.sizeOf3 (Ev.t rfl) (Ev.t rfl) (fun _ => by omega))) rfl ?_; clear S a w; intro a w S)
 (refine Yk S (Yr.ys (Xp ⟨Tryz.isAgg3, Tryz.sizeOf3⟩ (Ev.t rfl) (fun _ => h0))) rfl ?_; clear S a w; intro a w S)
 (refine Yk S (Yr.ys (Yb (Ev.t rfl))) rfl ?_; clear S a w; intro a w S)
 refine Zb ?_
 (refine (Za (hK3 _ _ ?_)); clear hK3)
 refine wp_seq_k fun _ hK3 => ?_
 refine wp_region_lit ?_
 (refine Yk S (Yr.ys (Zj (Ev.t rfl))) rfl ?_; clear S a w; intro a w S)
 (refine Yk S (Yr.ys (Zj (Ev.t rfl))) rfl ?_; clear S a w; intro a w S)
 (refine Yk S (Yr.ys (Yg (Ev.t rfl) (Ev.t rfl))) rfl ?_; clear S a w; intro a w S)
 refine Zb ?_
 (refine (Za (hK3 _ _ ?_)); clear hK3)
 refine Wc S (Ev.t rfl) (fun h3 => ?_) (fun h3 => ?_)
 refine wp_seq_k fun _ hK3 => ?_
 refine wp_region_lit ?_
 (refine Yk S (Yr.ys (Zj (Ev.t rfl))) rfl ?_; clear S a w; intro a w S)
 (refine Yk S (Yr.ys (Yb (Ev.t rfl))) rfl ?_; clear S a w; intro a w S)
 refine Zb ?_
 (refine (Za (hK3 _ _ ?_)); clear hK3)
 refine wp_ret ?_
 refine (Zq (Zd (Zd (Zq (Zd ?_)))))
 refine Zn S (results1 S Tryz.results130 (Rv.tmp rfl)) ?_
 rotate_left
 refine wp_skip ?_
 (refine (Zm (Za (hK2 _ _ ?_))); clear hK2)
 refine wp_region_lit ?_
 (refine Yk S (Yr.ys (Xk (Ev.t rfl) Ev.c (fun _ => by unfold I64; omega))) rfl ?_; clear S a w; intro a w S)
 rw [rw_1] at S
 (refine Yk S (Yr.ys (Zj (Ev.t rfl))) rfl ?_; clear S a w; intro a w S)
 refine Zb ?_
 refine (Za ?_)
 rotate_left
 · exact ⟨by rw [orI, if_pos h3], S.wd.below⟩
 refine Xc ?_
 refine wp_seq_k fun _ hK2 => ?_
 refine wp_region_lit ?_
 (refine Yk S (Yr.ys (Yu (by omega) (Yz (Ev.t rfl) (Ev.t rfl)))) rfl ?_; clear S a w; intro a w S)
 refine Zb ?_
 (refine (Za (hK2 _ _ ?_)); clear hK2)
 refine wp_seq_k fun _ hK2 => ?_
 refine Zg S (Ev.t rfl) ?_
 refine wp_skip ?_
 (refine (Za (hK2 _ _ ?_)); clear hK2)
 refine wp_seq_k fun _ hK2 => ?_
 refine wp_block ?_
 refine wp_seq_k fun _ hK3 => ?_
 refine wp_region_lit ?_
 (refine Yk S (Yr.ys (Ym (j := 1) Tryz.underlying202 Tryz.sizeOf3 (Ev.t rfl) (Ev.t rfl) (fun _ => by omega))) rfl ?_; clear S a w; intro a w S)
 (refine Yk S (Yr.ys (Xp ⟨Tryz.isAgg3, Tryz.sizeOf3⟩ (Ev.t rfl) (fun _ => h1))) rfl ?_; clear S a w; intro a w S)
 (refine Yk S (Yr.ys (Yb (Ev.t rfl))) rfl ?_; clear S a w; intro a w S)
 refine Zb ?_
 (refine (Za (hK3 _ _ ?_)); clear hK3)
 refine wp_seq_k fun _ hK3 => ?_
 refine wp_region_lit ?_
 (refine Yk S (Yr.ys (Zj (Ev.t rfl))) rfl ?_; clear S a w; intro a w S)
 (refine Yk S (Yr.ys (Zj (Ev.t rfl))) rfl ?_; clear S a w; intro a w S)
 (refine Yk S (Yr.ys (Yg (Ev.t rfl) (Ev.t rfl))) rfl ?_; clear S a w; intro a w S)
 refine Zb ?_
 (refine (Za (hK3 _ _ ?_)); clear hK3)
 refine Wc S (Ev.t rfl) (fun h4 => ?_) (fun h4 => ?_)
 refine wp_seq_k fun _ hK3 => ?_
 refine wp_region_lit ?_
 (refine Yk S (Yr.ys (Zj (Ev.t rfl))) rfl ?_; clear S a w; intro a w S)
 (refine Yk S (Yr.ys (Yb (Ev.t rfl))) rfl ?_; clear S a w; intro a w S)
 refine Zb ?_
 (refine (Za (hK3 _ _ ?_)); clear hK3)
 refine wp_ret ?_
 refine (Zq (Zd (Zd (Zq (Zd ?_)))))
 refine Zn S (results1 S Tryz.results130 (Rv.tmp rfl)) ?_
 rotate_left
 refine wp_skip ?_
 (refine (Zm (Za (hK2 _ _ ?_))); clear hK2)
 refine wp_region_lit ?_
 (refine Yk S (Yr.ys (Xk (Ev.t rfl) Ev.c (fun _ => by unfold I64; omega))) rfl ?_; clear S a w; intro a w S)
 rw [rw_2] at S
 (refine Yk S (Yr.ys (Zj (Ev.t rfl))) rfl ?_; clear S a w; intro a w S)
 refine Zb ?_
 refine (Za ?_)
 rotate_left
 · exact ⟨by rw [orI, if_neg h3, orI, if_pos h4], S.wd.below⟩
 refine Xc ?_
 refine wp_seq_k fun _ hK2 => ?_
 refine wp_region_lit ?_
 (refine Yk S (Yr.ys (Yu (by omega) (Yz (Ev.t rfl) (Ev.t rfl)))) rfl ?_; clear S a w; intro a w S)
 refine Zb ?_
 (refine (Za (hK2 _ _ ?_)); clear hK2)
 refine wp_seq_k fun _ hK2 => ?_
 refine Zg S (Ev.t rfl) ?_
 refine wp_skip ?_
 (refine (Za (hK2 _ _ ?_)); clear hK2)
 refine wp_seq_k fun _ hK2 => ?_
 refine wp_block ?_
 refine wp_seq_k fun _ hK3 => ?_
 refine wp_region_lit ?_
 (refine Yk S (Yr.ys (Ym (j := 2) Tryz.underlying202 Tryz.sizeOf3 (Ev.t rfl) (Ev.t rfl) (fun _ => by omega))) rfl ?_; clear S a w; intro a w S)
 (refine Yk S (Yr.ys (Xp ⟨Tryz.isAgg3, Tryz.sizeOf3⟩ (Ev.t rfl) (fun _ => h2))) rfl ?_; clear S a w; intro a w S)
 (refine Yk S (Yr.ys (Yb (Ev.t rfl))) rfl ?_; clear S a w; intro a w S)
 refine Zb ?_
 (refine (Za (hK3 _ _ ?_)); clear hK3)
 refine wp_seq_k fun _ hK3 => ?_
 refine wp_region_lit ?_
 (refine Yk S (Yr.ys (Zj (Ev.t rfl))) rfl ?_; clear S a w; intro a w S)
 (refine Yk S (Yr.ys (Zj (Ev.t rfl))) rfl ?_; clear S a w; intro a w S)
 (refine Yk S (Yr.ys (Yg (Ev.t rfl) (Ev.t rfl))) rfl ?_; clear S a w; intro a w S)
 refine Zb ?_
 (refine (Za (hK3 _ _ ?_)); clear hK3)
 refine Wc S (Ev.t rfl) (fun h5 => ?_) (fun h5 => ?_)
 refine wp_seq_k fun _ hK3 => ?_
 refine wp_region_lit ?_
 (refine Yk S (Yr.ys (Zj (Ev.t rfl))) rfl ?_; clear S a w; intro a w S)
 (refine Yk S (Yr.ys (Yb (Ev.t rfl))) rfl ?_; clear S a w; intro a w S)
 refine Zb ?_
 (refine (Za (hK3 _ _ ?_)); clear hK3)
 refine wp_ret ?_
 refine (Zq (Zd (Zd (Zq (Zd ?_)))))
 refine Zn S (results1 S Tryz.results130 (Rv.tmp rfl)) ?_
 rotate_left
 refine wp_skip ?_
 (refine (Zm (Za (hK2 _ _ ?_))); clear hK2)
 refine wp_region_lit ?_
 (refine Yk S (Yr.ys (Xk (Ev.t rfl) Ev.c (fun _ => by unfold I64; omega))) rfl ?_; clear S a w; intro a w S)
 rw [rw_3] at S
 (refine Yk S (Yr.ys (Zj (Ev.t rfl))) rfl ?_; clear S a w; intro a w S)
 refine Zb ?_
 refine (Za ?_)
 rotate_left
 · exact ⟨by rw [orI, if_neg h3, orI, if_neg h4, orI, if_pos h5], S.wd.below⟩
 refine Xc ?_
 refine wp_seq_k fun _ hK2 => ?_
 refine wp_region_lit ?_
 (refine Yk S (Yr.ys (Yu (by omega) (Yz (Ev.t rfl) (Ev.t rfl)))) rfl ?_; clear S a w; intro a w S)
 refine Zb ?_
 (refine (Za (hK2 _ _ ?_)); clear hK2)
 refine wp_seq_k fun _ hK2 => ?_
 refine Zg S (Ev.t rfl) ?_
 refine wp_skip ?_
 (refine (Za (hK2 _ _ ?_)); clear hK2)
 refine wp_seq_k fun _ hK2 => ?_
 refine wp_block ?_
 refine wp_seq_k fun _ hK3 => ?_
 refine wp_region_lit ?_
 (refine Yk S (Yr.ys (Ym (j := 3) Tryz.underlying202 Tryz.sizeOf3 (Ev.t rfl) (Ev.t rfl) (fun _ => by omega))) rfl ?_; clear S a w; intro a w S)
 (refine Yk S (Yr.ys (Xp ⟨Tryz.isAgg3, Tryz.sizeOf3⟩ (Ev.t rfl) (fun _ => hu))) rfl ?_; clear S a w; intro a w S)
 (refine Yk S (Yr.ys (Yb (Ev.t rfl))) rfl ?_; clear S a w; intro a w S)
 refine Zb ?_
 (refine (Za (hK3 _ _ ?_)); clear hK3)
 refine wp_seq_k fun _ hK3 => ?_
 refine wp_region_lit ?_
 (refine Yk S (Yr.ys (Zj (Ev.t rfl))) rfl ?_; clear S a w; intro a w S)
 (refine Yk S (Yr.ys (Zj (Ev.t rfl))) rfl ?_; clear S a w; intro a w S)
 (refine Yk S (Yr.ys (Yg (Ev.t rfl) (Ev.t rfl))) rfl ?_; clear S a w; intro a w S)
 refine Zb ?_
 (refine (Za (hK3 _ _ ?_)); clear hK3)
 refine Wc S (Ev.t rfl) (fun h6 => ?_) (fun h6 => ?_)
 refine wp_seq_k fun _ hK3 => ?_
 refine wp_region_lit ?_
 (refine Yk S (Yr.ys (Zj (Ev.t rfl))) rfl ?_; clear S a w; intro a w S)
 (refine Yk S (Yr.ys (Yb (Ev.t rfl))) rfl ?_; clear S a w; intro a w S)
 refine Zb ?_
 (refine (Za (hK3 _ _ ?_)); clear hK3)
 refine wp_ret ?_
 refine (Zq (Zd (Zd (Zq (Zd ?_)))))
 refine Zn S (results1 S Tryz.results130 (Rv.tmp rfl)) ?_
 rotate_left
 refine wp_skip ?_
 (refine (Zm (Za (hK2 _ _ ?_))); clear hK2)
 refine wp_region_lit ?_
 (refine Yk S (Yr.ys (Xk (Ev.t rfl) Ev.c (fun _ => by unfold I64; omega))) rfl ?_; clear S a w; intro a w S)
 rw [rw_4] at S
 (refine Yk S (Yr.ys (Zj (Ev.t rfl))) rfl ?_; clear S a w; intro a w S)
 refine Zb ?_
 refine (Za ?_)
 rotate_left
 · exact ⟨by rw [orI, if_neg h3, orI, if_neg h4, orI, if_neg h5], S.wd.below⟩
 refine Xc ?_
 refine wp_seq_k fun _ hK2 => ?_
 refine wp_region_lit ?_
 (refine Yk S (Yr.ys (Yp (by omega) (Yz (Ev.t rfl) (Ev.t rfl)))) rfl ?_; clear S a w; intro a w S)
 refine Zb ?_
 (refine (Za (hK2 _ _ ?_)); clear hK2)
 refine wp_seq_k fun _ hK2 => ?_
 refine Ze S (Ev.t rfl) ?_
 refine wp_exit ?_
 (refine (Zh (Zh (Ya (Za (hK1 _ _ ?_))))); clear hK1)
 refine wp_seq_k fun _ hK1 => ?_
 refine wp_region_lit ?_
 (refine Yk S (Yr.ys (Zj (Ev.t rfl))) rfl ?_; clear S a w; intro a w S)
 (refine Yk S (Yr.ys (Yb (Ev.t rfl))) rfl ?_; clear S a w; intro a w S)
 refine Zb ?_
 (refine (Za (hK1 _ _ ?_)); clear hK1)
 refine wp_ret ?_
 refine Zn S (results1 S Tryz.results130 (Rv.tmp rfl)) ?_
 exact ⟨by rw [orI, if_neg h3, orI, if_neg h4, orI, if_neg h5, Decidable.not_not.1 h6], S.wd.below⟩
theorem c111 (w0 : World) (a b : Ent) : Calls Tryz.prog 111 #[.agg (Ent.enc a).toArray, .agg (Ent.enc b).toArray] w0 fun e w' => e = .returned (.int .i64 (ordA a b)) ∧ Bel w0.heap.size w0 w' := by
 refine enter2 Tryz.func111 rfl Tryz.ntmps111 rfl fun a S => ?_
 refine wp_seq_k fun _ hK1 => ?_
 refine wp_region_lit ?_
 (refine Zi (Zy S (Ev.t rfl) rfl ?_); clear S a; intro g1 a w S)
 (refine Zi (Zy S (Ev.t rfl) rfl ?_); clear S a w; intro g2 a w S)
 (refine Yk S (Yr.ys (Yb Ev.c)) rfl ?_; clear S a w; intro a w S)
 refine Zb ?_
 (refine (Za (hK1 _ _ ?_)); clear hK1)
 refine wp_seq_k fun _ hK1 => ?_
 (refine Ve S (by kernel_rfl) ?_; clear S a w; intro a w S)
 (refine h_y (i := 0) S (by repeat (first | exact List.Sublist.refl _ | exact List.nil_sublist _ | refine .cons_cons _ ?_ | refine .cons _ ?_)) rfl (by kernel_rfl) (by kernel_rfl) (by kernel_rfl) (fun _ _ _ _ h => h) (Zc (FieldT.mk Tryz.underlying100 rfl Tryz.sizeOf9 rfl) (Ev.t rfl) (i' := 0) rfl) rfl ?_; clear S a w; intro a w S)
 (refine h_y (i := 1) S (by repeat (first | exact List.Sublist.refl _ | exact List.nil_sublist _ | refine .cons_cons _ ?_ | refine .cons _ ?_)) rfl (by kernel_rfl) (by kernel_rfl) (by kernel_rfl) (fun _ _ _ _ h => h) (Zt ⟨Tryz.isAgg9, Tryz.sizeOf9⟩ (Ev.t rfl) (k := 1) rfl rfl) rfl ?_; clear S a w; intro a w S)
 (refine h_y (i := 2) S (by repeat (first | exact List.Sublist.refl _ | exact List.nil_sublist _ | refine .cons_cons _ ?_ | refine .cons _ ?_)) rfl (by kernel_rfl) (by kernel_rfl) (by kernel_rfl) (fun _ _ _ _ h => h) (Zc (FieldT.mk Tryz.underlying100 rfl Tryz.sizeOf9 rfl) (Ev.t rfl) (i' := 0) rfl) rfl ?_; clear S a w; intro a w S)
 (refine h_y (i := 3) S (by repeat (first | exact List.Sublist.refl _ | exact List.nil_sublist _ | refine .cons_cons _ ?_ | refine .cons _ ?_)) rfl (by kernel_rfl) (by kernel_rfl) (by kernel_rfl) (fun _ _ _ _ h => h) (Zt ⟨Tryz.isAgg9, Tryz.sizeOf9⟩ (Ev.t rfl) (k := 0) rfl rfl) rfl ?_; clear S a w; intro a w S)
 (refine h_y (i := 5) S (by repeat (first | exact List.Sublist.refl _ | exact List.nil_sublist _ | refine .cons_cons _ ?_ | refine .cons _ ?_)) rfl (by kernel_rfl) (by kernel_rfl) (by kernel_rfl) (fun _ _ _ _ h => h) (Zc (FieldT.mk Tryz.underlying100 rfl Tryz.sizeOf74 rfl) (Ev.t rfl) (i' := 1) rfl) rfl ?_; clear S a w; intro a w S)
 (refine h_y (i := 6) S (by repeat (first | exact List.Sublist.refl _ | exact List.nil_sublist _ | refine .cons_cons _ ?_ | refine .cons _ ?_)) rfl (by kernel_rfl) (by kernel_rfl) (by kernel_rfl) (fun _ _ _ _ h => h) (Zc (FieldT.mk Tryz.underlying74 rfl Tryz.sizeOf3 rfl) (Ev.t rfl) (i' := 1) rfl) rfl ?_; clear S a w; intro a w S)
 (refine h_y (i := 7) S (by repeat (first | exact List.Sublist.refl _ | exact List.nil_sublist _ | refine .cons_cons _ ?_ | refine .cons _ ?_)) rfl (by kernel_rfl) (by kernel_rfl) (by kernel_rfl) (fun _ _ _ _ h => h) (Zt ⟨Tryz.isAgg3, Tryz.sizeOf3⟩ (Ev.t rfl) (k := 1) rfl rfl) rfl ?_; clear S a w; intro a w S)
 (refine h_y (i := 8) S (by repeat (first | exact List.Sublist.refl _ | exact List.nil_sublist _ | refine .cons_cons _ ?_ | refine .cons _ ?_)) rfl (by kernel_rfl) (by kernel_rfl) (by kernel_rfl) (fun _ _ _ _ h => h) (Zc (FieldT.mk Tryz.underlying100 rfl Tryz.sizeOf74 rfl) (Ev.t rfl) (i' := 1) rfl) rfl ?_; clear S a w; intro a w S)
 (refine h_y (i := 9) S (by repeat (first | exact List.Sublist.refl _ | exact List.nil_sublist _ | refine .cons_cons _ ?_ | refine .cons _ ?_)) rfl (by kernel_rfl) (by kernel_rfl) (by kernel_rfl) (fun _ _ _ _ h => h) (Zc (FieldT.mk Tryz.underlying74 rfl Tryz.sizeOf3 rfl) (Ev.t rfl) (i' := 1) rfl) rfl ?_; clear S a w; intro a w S)
 (refine h_y (i := 10) S (by repeat (first | exact List.Sublist.refl _ | exact List.nil_sublist _ | refine .cons_cons _ ?_ | refine .cons _ ?_)) rfl (by kernel_rfl) (by kernel_rfl) (by kernel_rfl) (fun _ _ _ _ h => h) (Zt ⟨Tryz.isAgg3, Tryz.sizeOf3⟩ (Ev.t rfl) (k := 0) rfl rfl) rfl ?_; clear S a w; intro a w S)
 (refine h_y (i := 12) S (by repeat (first | exact List.Sublist.refl _ | exact List.nil_sublist _ | refine .cons_cons _ ?_ | refine .cons _ ?_)) rfl (by kernel_rfl) (by kernel_rfl) (by kernel_rfl) (fun _ _ _ _ h => h) (Zc (FieldT.mk Tryz.underlying100 rfl Tryz.sizeOf74 rfl) (Ev.t rfl) (i' := 1) rfl) rfl ?_; clear S a w; intro a w S)
 (refine h_y (i := 13) S (by repeat (first | exact List.Sublist.refl _ | exact List.nil_sublist _ | refine .cons_cons _ ?_ | refine .cons _ ?_)) rfl (by kernel_rfl) (by kernel_rfl) (by kernel_rfl) (fun _ _ _ _ h => h) (Zc (FieldT.mk Tryz.underlying74 rfl Tryz.sizeOf3 rfl) (Ev.t rfl) (i' := 2) rfl) rfl ?_; clear S a w; intro a w S)
 (refine h_y (i := 14) S (by repeat (first | exact List.Sublist.refl _ | exact List.nil_sublist _ | refine .cons_cons _ ?_ | refine .cons _ ?_)) rfl (by kernel_rfl) (by kernel_rfl) (by kernel_rfl) (fun _ _ _ _ h => h) (Zt ⟨Tryz.isAgg3, Tryz.sizeOf3⟩ (Ev.t rfl) (k := 1) rfl rfl) rfl ?_; clear S a w; intro a w S)
 (refine h_y (i := 15) S (by repeat (first | exact List.Sublist.refl _ | exact List.nil_sublist _ | refine .cons_cons _ ?_ | refine .cons _ ?_)) rfl (by kernel_rfl) (by kernel_rfl) (by kernel_rfl) (fun _ _ _ _ h => h) (Zc (FieldT.mk Tryz.underlying100 rfl Tryz.sizeOf74 rfl) (Ev.t rfl) (i' := 1) rfl) rfl ?_; clear S a w; intro a w S)
 (refine h_y (i := 16) S (by repeat (first | exact List.Sublist.refl _ | exact List.nil_sublist _ | refine .cons_cons _ ?_ | refine .cons _ ?_)) rfl (by kernel_rfl) (by kernel_rfl) (by kernel_rfl) (fun _ _ _ _ h => h) (Zc (FieldT.mk Tryz.underlying74 rfl Tryz.sizeOf3 rfl) (Ev.t rfl) (i' := 2) rfl) rfl ?_; clear S a w; intro a w S)
 (refine h_y (i := 17) S (by repeat (first | exact List.Sublist.refl _ | exact List.nil_sublist _ | refine .cons_cons _ ?_ | refine .cons _ ?_)) rfl (by kernel_rfl) (by kernel_rfl) (by kernel_rfl) (fun _ _ _ _ h => h) (Zt ⟨Tryz.isAgg3, Tryz.sizeOf3⟩ (Ev.t rfl) (k := 0) rfl rfl) rfl ?_; clear S a w; intro a w S)
 (refine h_y (i := 19) S (by repeat (first | exact List.Sublist.refl _ | exact List.nil_sublist _ | refine .cons_cons _ ?_ | refine .cons _ ?_)) rfl (by kernel_rfl) (by kernel_rfl) (by kernel_rfl) (fun _ _ _ _ h => h) (Zc (FieldT.mk Tryz.underlying100 rfl Tryz.sizeOf74 rfl) (Ev.t rfl) (i' := 1) rfl) rfl ?_; clear S a w; intro a w S)
 (refine h_y (i := 20) S (by repeat (first | exact List.Sublist.refl _ | exact List.nil_sublist _ | refine .cons_cons _ ?_ | refine .cons _ ?_)) rfl (by kernel_rfl) (by kernel_rfl) (by kernel_rfl) (fun _ _ _ _ h => h) (Zc (FieldT.mk Tryz.underlying74 rfl Tryz.sizeOf3 rfl) (Ev.t rfl) (i' := 3) rfl) rfl ?_; clear S a w; intro a w S)
 (refine h_y (i := 21) S (by repeat (first | exact List.Sublist.refl _ | exact List.nil_sublist _ | refine .cons_cons _ ?_ | refine .cons _ ?_)) rfl (by kernel_rfl) (by kernel_rfl) (by kernel_rfl) (fun _ _ _ _ h => h) (Zt ⟨Tryz.isAgg3, Tryz.sizeOf3⟩ (Ev.t rfl) (k := 1) rfl rfl) rfl ?_; clear S a w; intro a w S)
 (refine h_y (i := 22) S (by repeat (first | exact List.Sublist.refl _ | exact List.nil_sublist _ | refine .cons_cons _ ?_ | refine .cons _ ?_)) rfl (by kernel_rfl) (by kernel_rfl) (by kernel_rfl) (fun _ _ _ _ h => h) (Zc (FieldT.mk Tryz.underlying100 rfl Tryz.sizeOf74 rfl) (Ev.t rfl) (i' := 1) rfl) rfl ?_; clear S a w; intro a w S)
 (refine h_y (i := 23) S (by repeat (first | exact List.Sublist.refl _ | exact List.nil_sublist _ | refine .cons_cons _ ?_ | refine .cons _ ?_)) rfl (by kernel_rfl) (by kernel_rfl) (by kernel_rfl) (fun _ _ _ _ h => h) (Zc (FieldT.mk Tryz.underlying74 rfl Tryz.sizeOf3 rfl) (Ev.t rfl) (i' := 3) rfl) rfl ?_; clear S a w; intro a w S)
 (refine h_y (i := 24) S (by repeat (first | exact List.Sublist.refl _ | exact List.nil_sublist _ | refine .cons_cons _ ?_ | refine .cons _ ?_)) rfl (by kernel_rfl) (by kernel_rfl) (by kernel_rfl) (fun _ _ _ _ h => h) (Zt ⟨Tryz.isAgg3, Tryz.sizeOf3⟩ (Ev.t rfl) (k := 0) rfl rfl) rfl ?_; clear S a w; intro a w S)
 (refine h_q (i := 4) S (by repeat (first | exact List.Sublist.refl _ | exact List.nil_sublist _ | refine .cons_cons _ ?_ | refine .cons _ ?_)) rfl (by kernel_rfl) (Zf Tryz.call131 (EvL.cons (Ev.t rfl) (EvL.cons (Ev.t rfl) EvL.nil)) (fun hp w W => c131 _ _ _)) rfl ?_; clear S a w; intro a w S)
 (refine h_q (i := 11) S (by repeat (first | exact List.Sublist.refl _ | exact List.nil_sublist _ | refine .cons_cons _ ?_ | refine .cons _ ?_)) rfl (by kernel_rfl) (Zf Tryz.call132 (EvL.cons (Ev.t rfl) (EvL.cons (Ev.t rfl) EvL.nil)) (fun hp w W => c132 _ _ _)) rfl ?_; clear S a w; intro a w S)
 (refine h_q (i := 18) S (by repeat (first | exact List.Sublist.refl _ | exact List.nil_sublist _ | refine .cons_cons _ ?_ | refine .cons _ ?_)) rfl (by kernel_rfl) (Zf Tryz.call132 (EvL.cons (Ev.t rfl) (EvL.cons (Ev.t rfl) EvL.nil)) (fun hp w W => c132 _ _ _)) rfl ?_; clear S a w; intro a w S)
 (refine h_q (i := 25) S (by repeat (first | exact List.Sublist.refl _ | exact List.nil_sublist _ | refine .cons_cons _ ?_ | refine .cons _ ?_)) rfl (by kernel_rfl) (Zf Tryz.call132 (EvL.cons (Ev.t rfl) (EvL.cons (Ev.t rfl) EvL.nil)) (fun hp w W => c132 _ _ _)) rfl ?_; clear S a w; intro a w S)
 (refine h_m (i := 26) rfl (by kernel_rfl) (Xv (ps := [(0, Go.Operand.tmp 9), (1, Go.Operand.tmp 16), (2, Go.Operand.tmp 23), (3, Go.Operand.tmp 30)]) (us := [_, _, _, _]) S Tryz.underlying202 Tryz.sizeOf3 Tryz.zeroValue3 rfl rfl (EvL.cons (Ev.t rfl) (EvL.cons (Ev.t rfl) (EvL.cons (Ev.t rfl) (EvL.cons (Ev.t rfl) EvL.nil)))) rfl rfl ?_); clear S a w; intro g3 a w S; refine h_on S _ (by repeat (first | exact List.Sublist.refl _ | exact List.nil_sublist _ | refine .cons_cons _ ?_ | refine .cons _ ?_)) (List.Sublist.refl _) ?_)
 (refine h_q (i := 27) S (by repeat (first | exact List.Sublist.refl _ | exact List.nil_sublist _ | refine .cons_cons _ ?_ | refine .cons _ ?_)) rfl (by kernel_rfl) (Zf Tryz.call130 (EvL.cons (Ev.t rfl) EvL.nil) (fun hp w W => e130 _ _ _ _ _ _ (by exact Wd.cell W (k := 0) rfl rfl) (by exact Wd.cell W (k := 0) rfl rfl) (by exact Wd.cell W (k := 0) rfl rfl) (by exact Wd.cell W (k := 0) rfl rfl))) rfl ?_; clear S a w; intro a w S)
 (refine h_y (i := 28) S (by repeat (first | exact List.Sublist.refl _ | exact List.nil_sublist _ | refine .cons_cons _ ?_ | refine .cons _ ?_)) rfl (by kernel_rfl) (by kernel_rfl) (by kernel_rfl) (fun _ _ _ _ h => h) (Yb (Ev.t rfl)) rfl ?_; clear S a w; intro a w S)
 refine Yq (by kernel_rfl) ?_
 (refine (Za (hK1 _ _ ?_)); clear hK1)
 refine wp_ret ?_
 refine Zn S (results1 S Tryz.results111 (Rv.tmp rfl)) ?_
 exact ⟨rfl, S.wd.below⟩
end Go.Proofs.YtakpdbmdfnialaaGreat.Tk
namespace Go.Fw
open Go.RowKit Go.Sort Go.Proofs Go.Shelf
theorem swoA : SWO (ltOf fun x y : MEnt => ordA x.1 y.1) := by
 have e : (ltOf fun x y : MEnt => ordA x.1 y.1) = ltOf fun x y : MEnt => ordE x.1 y.1 := by
   funext x y
   unfold ltOf
   exact decide_eq_decide.2 (by rw [ordA_iff, ordE_iff])
 rw [e]
 exact swoE
end Go.Fw
namespace Go.Proofs.YtakpdbmdfnialaaGreat
open Go.Fw Go.Proofs Go.RowKit Go.Sort Go.Proofs.Tryz
theorem ordTA (W : World) (x y : MEnt) : Calls Tryz.prog 111 #[.agg (MEnt.enc x).toArray, .agg (MEnt.enc y).toArray] W fun e w' => e = .returned (.int .i64 (ordA x.1 y.1)) ∧ Go.Ft.Bel W.heap.size W w' := by
 obtain ⟨⟨s, ⟨a, b, c⟩, q, p⟩, hx⟩ := x
 obtain ⟨⟨s', ⟨a', b', c'⟩, q', p'⟩, hy⟩ := y
 exact Tk.c111 W ⟨s, ⟨a, b, c⟩, q, p⟩ ⟨s', ⟨a', b', c'⟩, q', p'⟩
theorem o110 {w0 w : World} {L : List Chunk} {A : Option Addr} {cap : Nat} {l r : List Ent} (W : Wd w0 (rowOf 100 6 Ent.enc A cap l :: L) w) (hm : ∀ x ∈ l, mayD x.dot = true) (hn : l.length ≤ 4194304)
   (hd : (l.map (·.dot)).Nodup) (hr : r.Pairwise ltE) (hlr : ∀ x, x ∈ r ↔ x ∈ l) :
   RetsO Tryz.prog 110 #[.slice A l.length cap, .func (.func 111) #[] #[]] w0 w fun v L' => v = .tuple #[] ∧ l.length = r.length ∧ L' = rowOf 100 6 Ent.enc A cap r :: L := by
 obtain ⟨ls, rfl⟩ : ∃ ls : List MEnt, ls.map (·.1) = l := ⟨l.pmap Subtype.mk hm, by simp [List.map_pmap]⟩
 have e1 : ∀ ls : List MEnt, rowOf 100 6 Ent.enc A cap (ls.map (·.1)) = rowOf 100 6 MEnt.enc A cap ls := fun ls => by
   unfold rowOf
   rw [encE_map, List.length_map]
 rw [e1] at W
 rw [List.length_map] at hn ⊢
 have h := sort_any Tryz.sortEnts 6 (by omega) isAgg100 sizeOf100 MEnt.enc (fun _ => rfl) (fun x => Ent.enc_one x.1) (fun x y => ordA x.1 y.1) swoA 111 call111
   (fun x y W => ordTA W x y) W hn
 refine Calls.mono h fun e w' ⟨v, L', he, W', l', hv, hp, hs, hL⟩ => ?_
 have hl : l'.map (·.1) = r := sortE (hp.map _) (by rw [List.pairwise_map]; exact hs.imp fun h => by rw [ordE_iff, ← ordA_iff]; exact h) hd hr hlr
 have hlen := hp.length_eq
 refine ⟨v, L', he, W', hv, ?_, ?_⟩
 · rw [← hl, List.length_map, hlen]
 · rw [hL, ← e1, hl]
end Go.Proofs.YtakpdbmdfnialaaGreat
namespace Go.Fw
def idxW {α : Type} (p : α → Bool) : Nat → List α → Int
 | _, [] => -1
 | k, y :: r => if p y then (k : Int) else idxW p (k + 1) r
theorem idxW_any {α : Type} (p : α → Bool) : ∀ (l : List α) (k : Nat), decide (0 ≤ idxW p k l) = l.any p
 | [], k => rfl
 | y :: r, k => by
   unfold idxW
   by_cases h : p y = true
   · rw [if_pos h, List.any_cons, h, Bool.true_or]
     exact decide_eq_true (by omega)
   · rw [if_neg h, idxW_any p r (k + 1), List.any_cons, Bool.eq_false_iff.2 h, Bool.false_or]
end Go.Fw
namespace Go.Proofs.YtakpdbmdfnialaaGreat
open Go.Fw Go.Proofs Go.RowKit Go.Proofs.Tryz
def ReadsV {α : Type} (enc : α → List Value) (w0 : World) (f : FuncId) (cs : List Value) (l : List α) (p : α → Bool) : Prop := ∀ w', Wd w0 [] w' → ∀ x ∈ l, Calls Tryz.prog f ([Value.agg (enc x).toArray] ++ cs).toArray w' fun e w'' => e = .returned (.bool (p x)) ∧ Bel w'.heap.size w' w''
end Go.Proofs.YtakpdbmdfnialaaGreat
namespace Go.Fw
open Go.RowKit
theorem CartRd.old {w0 w : World} {L : List Chunk} {X : Cart} {s : Sls3} (W : Wd w0 L w) (h : CartRd w0 X s) : CartRd w X s := ⟨.old W h.1, .old W h.2, .old W h.3⟩
def CartsRd (w : World) (l : List SCart) : Prop := ∀ x ∈ l, CartRd w x.1 x.2
theorem CartsRd.old {w0 w : World} {L : List Chunk} {l : List SCart} (W : Wd w0 L w) (h : CartsRd w0 l) : CartsRd w l := fun x hx => (h x hx).old W
theorem CartRd.wd {w0 w : World} {X : Cart} {s : Sls3} (h : CartRd w0 X s) (W : Wd w0 [] w) : CartRd w X s := h.old W
theorem Vy {w0 w w1 : World} {L : List Chunk} {bs : List Nat} {e1 e2 e3 : TypeId} {A1 A2 A3 : Option Addr} {c1 c2 c3 : Nat} {X : Cart}
   (W : Wd w0 (rowOf e1 6 Ent.enc A1 c1 X.ents :: rowOf e2 3 Dot.enc A2 c2 X.ctx.marks :: rowOf e3 3 Dot.enc A3 c3 X.ctx.cloud :: .ice w1 bs :: L) w) :
   ∃ bs', Wd w0 (.ice w bs' :: L) w ∧ CartIn w bs' X ⟨A1, X.ents.length, c1, A2, X.ctx.marks.length, c2, A3, X.ctx.cloud.length, c3⟩ ∧ ∀ Y t, CartIn w1 bs Y t → CartIn w bs' Y t := by
 have W1 := Wd.freeze (cs := [rowOf e1 6 Ent.enc A1 c1 X.ents, rowOf e2 3 Dot.enc A2 c2 X.ctx.marks, rowOf e3 3 Dot.enc A3 c3 X.ctx.cloud, .ice w1 bs]) W
 generalize hcs0 : [rowOf e1 6 Ent.enc A1 c1 X.ents, rowOf e2 3 Dot.enc A2 c2 X.ctx.marks, rowOf e3 3 Dot.enc A3 c3 X.ctx.cloud, .ice w1 bs] = cs0 at W1
 have hblk : ∀ (k : Nat) (c : Chunk), cs0[k]? = some c → ∀ b ∈ c.blocks, b ∈ cs0.flatMap Chunk.blocks := fun k c hk b hb => List.mem_flatMap.2 ⟨c, List.mem_of_getElem? hk, hb⟩
 refine ⟨_, W1, ⟨SlIn.row W (k := 0) rfl (fun _ => rfl) (hblk 0 _ (by rw [← hcs0]; rfl)), SlIn.row W (k := 1) rfl (fun _ => rfl) (hblk 1 _ (by rw [← hcs0]; rfl)), SlIn.row W (k := 2) rfl (fun _ => rfl) (hblk 2 _ (by rw [← hcs0]; rfl))⟩, fun Y t h => h.anew W (k := 3) rfl (hblk 3 (.ice w1 bs) (by rw [← hcs0]; rfl))⟩
end Go.Fw
namespace Go.Proofs.YtakpdbmdfnialaaGreat
open Go.Fw Go.Proofs Go.RowKit Go.Proofs.Tryz
end Go.Proofs.YtakpdbmdfnialaaGreat
namespace Go.Fw
theorem Line.mkEnc {s : List UInt8} {q : Int} {p : UInt64} : [Value.string (bs s), .int .i64 q, .int .u64 (p.toNat : Int)] = Line.enc ⟨s, q, p⟩ := rfl
theorem dot_cells {w : World} {g o : Nat} {d : Dot} (h1 : w.cell? ⟨g, o, none⟩ = some (.int .i64 d.node)) (h2 : w.cell? ⟨g, o + 1, none⟩ = some (.int .i64 d.life)) (h3 : w.cell? ⟨g, o + 2, none⟩ = some (.int .i64 d.count)) : ∀ j u, (Dot.enc d)[j]? = some u → w.cell? ⟨g, o + j, none⟩ = some u := by
 intro j u hj
 rcases j with _ | _ | _ | j
 · exact h1.trans hj
 · exact h2.trans hj
 · exact h3.trans hj
 · cases hj
end Go.Fw
namespace Go.Proofs.YtakpdbmdfnialaaGreat
open Go.Fw Go.Proofs Go.RowKit Go.Proofs.Tryz
end Go.Proofs.YtakpdbmdfnialaaGreat
namespace Go.Fw
open Go.RowKit
structure SLog where
 kind : Int
 at_ : Int
 ask : Int
 u : SUpd
 an : Int
 al : Int
 key : List UInt8
 s : SCart
 c : SCart
abbrev SLog.enc (x : SLog) : List Value := [.int .i64 x.kind, .int .i64 x.at_, .int .i64 x.ask, .string (bs x.u.1.key), .int .i64 x.u.1.dot.node, .int .i64 x.u.1.dot.life, .int .i64 x.u.1.dot.count, .string (bs x.u.1.item), .int .i64 x.u.1.qty, .int .u64 (x.u.1.price.toNat : Int), .slice x.u.2.a1 x.u.2.n1 x.u.2.c1, .slice x.u.2.a2 x.u.2.n2 x.u.2.c2, .slice x.u.2.a3 x.u.2.n3 x.u.2.c3, .int .i64 x.an, .int .i64 x.al, .string (bs x.key), .slice x.s.2.a1 x.s.2.n1 x.s.2.c1, .slice x.s.2.a2 x.s.2.n2 x.s.2.c2, .slice x.s.2.a3 x.s.2.n3 x.s.2.c3, .slice x.c.2.a1 x.c.2.n1 x.c.2.c1, .slice x.c.2.a2 x.c.2.n2 x.c.2.c2, .slice x.c.2.a3 x.c.2.n3 x.c.2.c3]
theorem SLog.enc_len (x : SLog) : (SLog.enc x).length = 22 := rfl
theorem SLog.enc_one (x : SLog) : ∀ u ∈ SLog.enc x, u.oneCell' = true := fun u hu => by
 simp only [SLog.enc, List.mem_cons, List.not_mem_nil, or_false] at hu
 rcases hu with rfl | rfl | rfl | rfl | rfl | rfl | rfl | rfl | rfl | rfl | rfl | rfl | rfl | rfl | rfl | rfl | rfl | rfl | rfl | rfl | rfl | rfl <;> rfl
def UpdsRd (w : World) (l : List SUpd) : Prop := ∀ x ∈ l, CartRd w x.1.seen x.2
theorem UpdsRd.old {w0 w : World} {L : List Chunk} {l : List SUpd} (W : Wd w0 L w) (h : UpdsRd w0 l) : UpdsRd w l := fun x hx => (h x hx).old W
structure LogRd (w : World) (x : SLog) : Prop where
 u : CartRd w x.u.1.seen x.u.2
 s : CartRd w x.s.1 x.s.2
 c : CartRd w x.c.1 x.c.2
theorem LogRd.old {w0 w : World} {L : List Chunk} {x : SLog} (W : Wd w0 L w) (h : LogRd w0 x) : LogRd w x := ⟨h.u.old W, h.s.old W, h.c.old W⟩
def LogsRd (w : World) (l : List SLog) : Prop := ∀ x ∈ l, LogRd w x
theorem LogsRd.old {w0 w : World} {L : List Chunk} {l : List SLog} (W : Wd w0 L w) (h : LogsRd w0 l) : LogsRd w l := fun x hx => (h x hx).old W
end Go.Fw
namespace Go.Proofs.YtakpdbmdfnialaaGreat
open Go.Fw Go.Proofs Go.RowKit Go.Proofs.Tryz
theorem x107 (w0 : World) (v : Value) (l : List SUpd) (f : FuncId) (cs : List Value) (p : SUpd → Bool) (hf : ∀ args w, (callFunc f args).run Tryz.prog w = .ok (.enter f args) w) (hr : ReadsV SUpd.enc w0 f cs l p) (h : Sl SUpd.enc 10 w0 w0.heap.size v l) :
   Calls Tryz.prog 107 #[v, .func (.func f) #[] cs.toArray] w0 fun e w' => e = .returned (.int .i64 (idxW p 0 l)) ∧ Bel w0.heap.size w0 w' := by
 obtain ⟨A, cap, rfl, hl, hcap, hA⟩ := h
 refine enter2 func107 rfl ntmps107 rfl fun a S => sg S (.ac rfl <| .z) fun a w S => wp_seq_k fun _ hK1 => sg S (.mv rfl <| .ln underlying72 rfl <| .mc rfl <| .z) fun a w S => wp_block ?_
 refine Xn S [9] (X := Nat) (fun k => [(9, true, .int .i64 (k : Int))]) (fun _ => []) (fun k => k ≤ l.length ∧ idxW p k (l.drop k) = idxW p 0 l) (fun k => l.length - k) 0 ⟨Nat.zero_le _, rfl⟩ ?_
 clear S
 intro k a w ⟨hk, hno⟩ S
 by_cases hlt : k < l.length
 · obtain ⟨gq, oq, x, rfl, hx, hd, hcc⟩ := Yh hA hlt
   rw [hd] at hno
   have hrx := fun w' W' => hr w' W' x (List.mem_of_getElem? hx)
   refine sg S (.lt (by omega) rfl rfl <| .z) fun a w S => wp_seq_k fun _ hK2 => Zg S (.t rfl) (wp_skip (Za (hK2 _ _ (wp_seq_k fun _ hK2 => wp_block (wp_seq_k fun _ hK3 => wp_region_lit (run S (.mv rfl <| .ix underlying72 sizeOf77 (by omega) rfl rfl <| .yy (Zu ⟨isAgg77, sizeOf77⟩ (.t rfl) (vs := [_, _, _, _, _, _, _, _, _, _]) rfl (fun _ => hcc)) rfl <| .z) fun a w S => Zi (Zk S zeroValue77 (cs := _) rfl rfl fun g1 a w S => run S (.as rfl <| .z) fun a w S => Zi (Zp S sizeOf77 (.t rfl) (.t rfl) (k := 0) rfl rfl rfl (by simp [Value.oneCell']) fun a w S => Zb (Za (hK3 _ _ (wp_seq_k fun _ hK3 => wp_region_lit (run S (.mv rfl <| .la gt77 0 rfl rfl rfl <| .z) fun a w S => Yk S (ys_callVC (cs := cs) (vs := [.agg (SUpd.enc x).toArray]) (v := .bool (p x)) (.t rfl) hf (.cons (.t rfl) .nil) (fun _ w' W' => hrx w' (W'.sub (List.nil_sublist _)))) rfl ?_))))))))))))
   clear S a w
   intro a w S
   cases hp : p x with
   | true =>
     rw [hp] at S
     refine Zb (Za (hK3 _ _ (Zg S (.t rfl) (sg S (.mv rfl <| .as rfl <| .z) fun a w S => wp_ret (Zq (Zd (Zd (Zq (Zd (Zn S (results1 S results107 (Rv.tmp rfl)) ?_))))))))))
     refine ⟨?_, S.wd.below⟩
     rw [← hno, idxW, if_pos hp]
   | false =>
     rw [hp] at S
     refine Zb (Za (hK3 _ _ (Ze S (.t rfl) (wp_skip (Zm (Za (hK2 _ _ (wp_region_lit (run S (.ad (by unfold I64; omega) rfl <| .mv rfl <| .z) fun a w S => Zb (Za ?_))))))))))
     rw [idxW, if_neg (by rw [hp]; decide)] at hno
     exact ⟨k + 1, ⟨by omega, hno⟩, by omega, S.pk⟩
 · obtain rfl : k = l.length := by omega
   rw [List.drop_length] at hno
   refine sg S (.ge (by omega) rfl rfl <| .z) fun a w S => wp_seq_k fun _ hK2 => Ze S (.t rfl) (wp_exit (Zh (Zh (Ya (Za (hK1 _ _ (sg S (.ac rfl <| .z) fun a w S => wp_ret (Zn S (results1 S results107 (Rv.tmp rfl)) ?_))))))))
   exact ⟨by rw [← hno]; rfl, S.wd.below⟩
theorem x170 (w0 : World) (v : Value) (l : List SLog) (f : FuncId) (cs : List Value) (p : SLog → Bool) (hf : ∀ args w, (callFunc f args).run Tryz.prog w = .ok (.enter f args) w) (hr : ReadsV SLog.enc w0 f cs l p) (h : Sl SLog.enc 22 w0 w0.heap.size v l) :
   Calls Tryz.prog 170 #[v, .func (.func f) #[] cs.toArray] w0 fun e w' => e = .returned (.int .i64 (idxW p 0 l)) ∧ Bel w0.heap.size w0 w' := by
 obtain ⟨A, cap, rfl, hl, hcap, hA⟩ := h
 refine enter2 func170 rfl ntmps170 rfl fun a S => sg S (.ac rfl <| .z) fun a w S => wp_seq_k fun _ hK1 => sg S (.mv rfl <| .ln underlying84 rfl <| .mc rfl <| .z) fun a w S => wp_block ?_
 refine Xn S [9] (X := Nat) (fun k => [(9, true, .int .i64 (k : Int))]) (fun _ => []) (fun k => k ≤ l.length ∧ idxW p k (l.drop k) = idxW p 0 l) (fun k => l.length - k) 0 ⟨Nat.zero_le _, rfl⟩ ?_
 clear S
 intro k a w ⟨hk, hno⟩ S
 by_cases hlt : k < l.length
 · obtain ⟨gq, oq, x, rfl, hx, hd, hcc⟩ := Yh hA hlt
   rw [hd] at hno
   have hrx := fun w' W' => hr w' W' x (List.mem_of_getElem? hx)
   refine sg S (.lt (by omega) rfl rfl <| .z) fun a w S => wp_seq_k fun _ hK2 => Zg S (.t rfl) (wp_skip (Za (hK2 _ _ (wp_seq_k fun _ hK2 => wp_block (wp_seq_k fun _ hK3 => wp_region_lit (run S (.mv rfl <| .ix underlying84 sizeOf96 (by omega) rfl rfl <| .yy (Zu ⟨isAgg96, sizeOf96⟩ (.t rfl) (vs := [_, _, _, _, _, _, _, _, _, _, _, _, _, _, _, _, _, _, _, _, _, _]) rfl (fun _ => hcc)) rfl <| .z) fun a w S => Zi (Zk S zeroValue96 (cs := _) rfl rfl fun g1 a w S => run S (.as rfl <| .z) fun a w S => Zi (Zp S sizeOf96 (.t rfl) (.t rfl) (k := 0) rfl rfl rfl (by simp [Value.oneCell']) fun a w S => Zb (Za (hK3 _ _ (wp_seq_k fun _ hK3 => wp_region_lit (run S (.mv rfl <| .la gt96 0 rfl rfl rfl <| .z) fun a w S => Yk S (ys_callVC (cs := cs) (vs := [.agg (SLog.enc x).toArray]) (v := .bool (p x)) (.t rfl) hf (.cons (.t rfl) .nil) (fun _ w' W' => hrx w' (W'.sub (List.nil_sublist _)))) rfl ?_))))))))))))
   clear S a w
   intro a w S
   cases hp : p x with
   | true =>
     rw [hp] at S
     refine Zb (Za (hK3 _ _ (Zg S (.t rfl) (sg S (.mv rfl <| .as rfl <| .z) fun a w S => wp_ret (Zq (Zd (Zd (Zq (Zd (Zn S (results1 S results170 (Rv.tmp rfl)) ?_))))))))))
     refine ⟨?_, S.wd.below⟩
     rw [← hno, idxW, if_pos hp]
   | false =>
     rw [hp] at S
     refine Zb (Za (hK3 _ _ (Ze S (.t rfl) (wp_skip (Zm (Za (hK2 _ _ (wp_region_lit (run S (.ad (by unfold I64; omega) rfl <| .mv rfl <| .z) fun a w S => Zb (Za ?_))))))))))
     rw [idxW, if_neg (by rw [hp]; decide)] at hno
     exact ⟨k + 1, ⟨by omega, hno⟩, by omega, S.pk⟩
 · obtain rfl : k = l.length := by omega
   rw [List.drop_length] at hno
   refine sg S (.ge (by omega) rfl rfl <| .z) fun a w S => wp_seq_k fun _ hK2 => Ze S (.t rfl) (wp_exit (Zh (Zh (Ya (Za (hK1 _ _ (sg S (.ac rfl <| .z) fun a w S => wp_ret (Zn S (results1 S results170 (Rv.tmp rfl)) ?_))))))))
   exact ⟨by rw [← hno]; rfl, S.wd.below⟩
theorem x155 (w0 : World) (v : Value) (l : List SCart) (f : FuncId) (cs : List Value) (p : SCart → Bool) (hf : ∀ args w, (callFunc f args).run Tryz.prog w = .ok (.enter f args) w) (hr : ReadsV SCart.enc w0 f cs l p) (h : Sl SCart.enc 3 w0 w0.heap.size v l) :
   Calls Tryz.prog 155 #[v, .func (.func f) #[] cs.toArray] w0 fun e w' => e = .returned (.int .i64 (idxW p 0 l)) ∧ Bel w0.heap.size w0 w' := by
 obtain ⟨A, cap, rfl, hl, hcap, hA⟩ := h
 refine enter2 func155 rfl ntmps155 rfl fun a S => sg S (.ac rfl <| .z) fun a w S => wp_seq_k fun _ hK1 => sg S (.mv rfl <| .ln underlying64 rfl <| .mc rfl <| .z) fun a w S => wp_block ?_
 refine Xn S [9] (X := Nat) (fun k => [(9, true, .int .i64 (k : Int))]) (fun _ => []) (fun k => k ≤ l.length ∧ idxW p k (l.drop k) = idxW p 0 l) (fun k => l.length - k) 0 ⟨Nat.zero_le _, rfl⟩ ?_
 clear S
 intro k a w ⟨hk, hno⟩ S
 by_cases hlt : k < l.length
 · obtain ⟨gq, oq, x, rfl, hx, hd, hcc⟩ := Yh hA hlt
   rw [hd] at hno
   have hrx := fun w' W' => hr w' W' x (List.mem_of_getElem? hx)
   refine sg S (.lt (by omega) rfl rfl <| .z) fun a w S => wp_seq_k fun _ hK2 => Zg S (.t rfl) (wp_skip (Za (hK2 _ _ (wp_seq_k fun _ hK2 => wp_block (wp_seq_k fun _ hK3 => wp_region_lit (run S (.mv rfl <| .ix underlying64 sizeOf37 (by omega) rfl rfl <| .yy (Zu ⟨isAgg37, sizeOf37⟩ (.t rfl) (vs := [_, _, _]) rfl (fun _ => hcc)) rfl <| .z) fun a w S => Zi (Zk S zeroValue37 (cs := _) rfl rfl fun g1 a w S => run S (.as rfl <| .z) fun a w S => Zi (Zp S sizeOf37 (.t rfl) (.t rfl) (k := 0) rfl rfl rfl (by simp [Value.oneCell']) fun a w S => Zb (Za (hK3 _ _ (wp_seq_k fun _ hK3 => wp_region_lit (run S (.mv rfl <| .la gt37 0 rfl rfl rfl <| .z) fun a w S => Yk S (ys_callVC (cs := cs) (vs := [.agg (SCart.enc x).toArray]) (v := .bool (p x)) (.t rfl) hf (.cons (.t rfl) .nil) (fun _ w' W' => hrx w' (W'.sub (List.nil_sublist _)))) rfl ?_))))))))))))
   clear S a w
   intro a w S
   cases hp : p x with
   | true =>
     rw [hp] at S
     refine Zb (Za (hK3 _ _ (Zg S (.t rfl) (sg S (.mv rfl <| .as rfl <| .z) fun a w S => wp_ret (Zq (Zd (Zd (Zq (Zd (Zn S (results1 S results155 (Rv.tmp rfl)) ?_))))))))))
     refine ⟨?_, S.wd.below⟩
     rw [← hno, idxW, if_pos hp]
   | false =>
     rw [hp] at S
     refine Zb (Za (hK3 _ _ (Ze S (.t rfl) (wp_skip (Zm (Za (hK2 _ _ (wp_region_lit (run S (.ad (by unfold I64; omega) rfl <| .mv rfl <| .z) fun a w S => Zb (Za ?_))))))))))
     rw [idxW, if_neg (by rw [hp]; decide)] at hno
     exact ⟨k + 1, ⟨by omega, hno⟩, by omega, S.pk⟩
 · obtain rfl : k = l.length := by omega
   rw [List.drop_length] at hno
   refine sg S (.ge (by omega) rfl rfl <| .z) fun a w S => wp_seq_k fun _ hK2 => Ze S (.t rfl) (wp_exit (Zh (Zh (Ya (Za (hK1 _ _ (sg S (.ac rfl <| .z) fun a w S => wp_ret (Zn S (results1 S results155 (Rv.tmp rfl)) ?_))))))))
   exact ⟨by rw [← hno]; rfl, S.wd.below⟩
theorem c108 (w0 : World) (x : Upd) (v1 v2 v3 : Value) (u : SUpd) (g : Nat) (h : Sl Ent.enc 6 w0 w0.heap.size v1 x.seen.ents) (hr : RdCtx w0 w0.heap.size v2 v3 x.seen.ctx) (h1 : w0.cell? ⟨g, 1, none⟩ = some (.int .i64 u.1.dot.node)) (h2 : w0.cell? ⟨g, 2, none⟩ = some (.int .i64 u.1.dot.life)) (h3 : w0.cell? ⟨g, 3, none⟩ = some (.int .i64 u.1.dot.count)) (h4 : w0.cell? ⟨g, 4, none⟩ = some (.string (bs u.1.item))) :
   Calls Tryz.prog 108 #[.agg (Upd.enc x v1 v2 v3).toArray, .pointer (some ⟨g, 0, none⟩)] w0 fun e w' => e = .returned (.bool (decide (x.item = u.1.item) && x.seen.ctx.covers u.1.dot)) ∧ Bel w0.heap.size w0 w' := by
 have hdc := dot_cells (d := u.1.dot) h1 h2 h3
 by_cases he : x.item = u.1.item
 · have rw_e := decide_eq_true he
   refine enter2 func108 rfl ntmps108 rfl fun a S => wp_seq_k fun _ hK1 => wp_region_lit (Zi (Zy S (.t rfl) rfl fun g1 a w S => run S (.ac rfl <| .z) fun a w S => Zb (Za (hK1 _ _ (wp_seq_k fun _ hK1 => wp_region_lit (run S (.fa underlying77 sizeOf9 4 rfl rfl rfl <| .ld gt9 0 rfl rfl rfl <| .fa underlying77 sizeOf9 4 rfl rfl rfl <| .yy (Xp ⟨isAgg9, sizeOf9⟩ (.t rfl) (fun _ => h4)) rfl <| .yy (Wa (.t rfl) (.t rfl)) rfl <| .z) fun a w S => ?_))))))
   rw [rw_e] at S
   refine run S (.mv rfl <| .gy rfl rfl (Zc (FieldT.mk underlying77 rfl sizeOf37 rfl) (.t rfl) (i' := 7) rfl) <| .gy rfl rfl (Zc (FieldT.mk underlying37 rfl sizeOf35 rfl) (.t rfl) (i' := 8) rfl) <| .gy rfl rfl (Yc ⟨isAgg35, sizeOf35⟩ (.t rfl) (k := 0) rfl rfl) <| .gy rfl rfl (Zc (FieldT.mk underlying77 rfl sizeOf74 rfl) (.t rfl) (i' := 1) rfl) <| .gy rfl rfl (Zu ⟨isAgg74, sizeOf74⟩ (.t rfl) (vs := [_, _, _]) rfl (fun _ => hdc)) <| .gx rfl rfl (Zf call109 (.cons (.t rfl) (.cons (.t rfl) .nil)) (fun hp w W => c109 _ _ _ _ _ _ _ (by exact .old W (by assumption)))) <| .yy (Zz (.t rfl) (.t rfl)) rfl <| .as rfl <| .z) fun a w S => Zb (Za (hK1 _ _ (wp_ret (Zn S (results1 S results108 (Rv.tmp rfl)) ?_))))
   exact ⟨by rw [rw_e]; rfl, S.wd.below⟩
 · have rw_e := decide_eq_false he
   refine enter2 func108 rfl ntmps108 rfl fun a S => wp_seq_k fun _ hK1 => wp_region_lit (Zi (Zy S (.t rfl) rfl fun g1 a w S => run S (.ac rfl <| .z) fun a w S => Zb (Za (hK1 _ _ (wp_seq_k fun _ hK1 => wp_region_lit (run S (.fa underlying77 sizeOf9 4 rfl rfl rfl <| .ld gt9 0 rfl rfl rfl <| .fa underlying77 sizeOf9 4 rfl rfl rfl <| .yy (Xp ⟨isAgg9, sizeOf9⟩ (.t rfl) (fun _ => h4)) rfl <| .yy (Wa (.t rfl) (.t rfl)) rfl <| .z) fun a w S => ?_))))))
   rw [rw_e] at S
   refine run S (.mv rfl <| .sk rfl rfl rfl <| .sk rfl rfl rfl <| .sk rfl rfl rfl <| .sk rfl rfl rfl <| .sk rfl rfl rfl <| .sk rfl rfl rfl <| .yy (Zv (.t rfl) Ev.c) rfl <| .as rfl <| .z) fun a w S => Zb (Za (hK1 _ _ (wp_ret (Zn S (results1 S results108 (Rv.tmp rfl)) ?_))))
   exact ⟨by rw [rw_e]; rfl, S.wd.below⟩
end Go.Proofs.YtakpdbmdfnialaaGreat
namespace Go.Fw
open Go.RowKit
theorem Sl.len_is {α : Type} {enc : α → List Value} {size B : Nat} {w : World} {A : Option Addr} {l : List α} {n cap : Nat} (h : Sl enc size w B (.slice A n cap) l) : n = l.length := by
 obtain ⟨_, _, e, _⟩ := h
 simp only [Value.slice.injEq] at e
 exact e.2.1
theorem seen_is (l : List SUpd) (x : Upd) : decide (0 ≤ idxW (fun y : SUpd => decide (y.1.item = x.item) && y.1.seen.ctx.covers x.dot) 0 l) = seenB (l.map (·.1)) x := by
 rw [idxW_any]
 unfold seenB
 rw [List.any_map]
 rfl
end Go.Fw
namespace Go.Proofs.YtakpdbmdfnialaaGreat
open Go.Fw Go.Proofs Go.RowKit Go.Proofs.Tryz
abbrev kv143 : Dot → Value := fun d => .agg #[.int .i64 d.node, .int .i64 d.life, .int .i64 d.count]
abbrev vv143 : Unit → Value := fun _ => .agg #[]
theorem run_eqDot (a b : Dot) (w : World) : (Op.equal 74 (kv143 a) (kv143 b)).run Tryz.prog w = .ok (decide (a = b)) w := by
 have h := eq74 (x0 := a.node) (y0 := b.node) (x1 := a.life) (y1 := b.life) (x2 := a.count) (y2 := b.count)
 have e : decide (a.node = b.node ∧ a.life = b.life ∧ a.count = b.count) = decide (a = b) := decide_eq_decide.2 (by cases a; cases b; simp)
 rw [e] at h
 exact (h w).2
theorem ask_dotD (k : Dot) (β : Type) (vv : β → Value) (w : World) : ∀ (l : List (Dot × β)) (i : Nat), (Instr.findAsking 74 (kv143 k) (mL kv143 vv i l) i).run Tryz.prog w = .ok ((afind k i l).map fun p => (p.1, vv p.2)) w
 | [], i => by simp [mL, Instr.findAsking, afind]
 | (x, v) :: r, i => by
   simp only [mL, Instr.findAsking, Sem.run_bind, run_eqDot, Result.andThen_ok, afind]
   by_cases e : k = x
   · subst e
     simp
   · rw [if_neg e, decide_eq_false e]
     simpa using ask_dotD k β vv w r (i + 1)
theorem keyDot : KeyL kv143 Tryz.prog 74 := by
 refine ⟨fun k β vv l w => ?_, fun b k w => ?_, fun k => ?_, fun k k' e => ?_⟩
 · have h := ask_dotD k β vv w l 0
   cases l with
   | nil => simp [Instr.findKey, run_underlying underlying74, mL, Instr.findNow, afind]
   | cons p r => simp [Instr.findKey, run_underlying underlying74, mL, Instr.findNow, Instr.sameNow] at h ⊢; exact h
 · have hI : ∀ (n : Nat) (i : Int), (Instr.checkKey b (n + 1) 3 (.int .i64 i)).run Tryz.prog w = .ok () w := fun n i => by
     simp only [Instr.checkKey, Sem.run_bind, run_underlying underlying3, Result.andThen_ok]
     rfl
   have hc : (Instr.checkKey b (9998 + 1 + 1) 74 (kv143 k)).run Tryz.prog w = .ok () w := by
     rw [Instr.checkKey]
     simp only [Sem.run_bind, run_underlying underlying74, Result.andThen_ok]
     simp [part, isAgg3, hI]
   exact hc
 · have : Instr.sameBits (9999 + 1) (kv143 k) (kv143 k) = true := by simp [Instr.sameBits]
   exact this
 · cases k; cases k'; simp at e; simp [e]
theorem mapT143 : MapT kv143 vv143 Tryz.prog 143 () := mapT_mk underlying143 keyDot zeroValue144
theorem bld144 : BuildT Tryz.prog 144 [] [] := ⟨⟨_, zeroValue144, rfl⟩, _, underlying144, fun w => by simp⟩
theorem c39 (w0 : World) (v : Value) (l : List SUpd) (h : Sl SUpd.enc 10 w0 w0.heap.size v l) (hr : UpdsRd w0 l) (hn : l.length ≤ 1048576) (hB : RoomU (l.map (·.1))) :
   Rets Tryz.prog 39 #[v] w0 fun u L => ∃ A1 r1 A2 r2 A3 r3, u = .tuple #[.agg #[.slice A1 (meantK (l.map (·.1))).1.ents.length r1, .slice A2 (meantK (l.map (·.1))).1.ctx.marks.length r2, .slice A3 (meantK (l.map (·.1))).1.ctx.cloud.length r3], .int .i64 (meantK (l.map (·.1))).2] ∧
     L = [rowOf 100 6 Ent.enc A1 r1 (meantK (l.map (·.1))).1.ents, rowOf 30 3 Dot.enc A2 r2 (meantK (l.map (·.1))).1.ctx.marks, rowOf 74 3 Dot.enc A3 r3 (meantK (l.map (·.1))).1.ctx.cloud] := by
 have hs := h
 obtain ⟨A, cap, rfl, hl, hcap, hA⟩ := h
 have hUl : (l.map (·.1)).length = l.length := List.length_map ..
 have hUg : ∀ (i : Nat) (x : SUpd), l[i]? = some x → (l.map (·.1))[i]? = some x.1 := fun i x hx => by rw [List.getElem?_map, hx]; rfl
 have hUm : ∀ x ∈ l, x.1 ∈ l.map (·.1) := fun x hx => List.mem_map.2 ⟨x, hx, rfl⟩
 have hmet := met_fewer (l.map (·.1))
 rw [hUl] at hmet
 have hmd : (l.map (·.1)).map (·.dot) = l.map (fun x => x.1.dot) := by rw [List.map_map]; rfl
 unfold Go.Fw.Rets
 refine enter1 func39 rfl ntmps39 rfl fun a S => wp_seq_k fun _ hK1 => wp_region_lit (Zi (Zk S zeroValue37 (cs := _) rfl rfl fun g1 a w S => run S (.ac rfl <| .z) fun a w S => Zb (Za (hK1 _ _ (wp_seq_k fun _ hK1 => wp_region_lit (Zi (op_makeMap kv143 vv143 S rfl fun g2 a w S => run S (.as rfl <| .z) fun a w S => Zb (Za (hK1 _ _ (wp_seq_k fun _ hK1 => sg S (.mv rfl <| .ln underlying72 rfl <| .mc rfl <| .z) fun a w S => wp_block ?_))))))))))
 refine Xn S [22] (X := Nat) (fun q => [(22, true, .int .i64 (q : Int))]) (fun q => [.blk g2 (mapK kv143 vv143 (metD [] ((l.map (fun x => x.1.dot)).take q))), .blk g1 (.cells #[.slice none 0 0, .slice none 0 0, .slice none 0 0] 37)])
   (fun q => q ≤ l.length ∧ ∀ x ∈ l.take q, ∀ y, l[0]? = some y → x.1.key = y.1.key) (fun q => l.length - q) 0 ⟨Nat.zero_le _, by simp⟩ ?_
 clear S
 intro q a w ⟨hq, hsame⟩ S
 by_cases hlt : q < l.length
 · obtain ⟨gq, oq, x, rfl, hx, hd, hc⟩ := Yh hA hlt
   obtain ⟨gq', oq', y, e0, hy, hd0, hc0⟩ := Yh hA (show 0 < l.length by omega)
   cases e0
   have hme : (l.map (fun x => x.1.dot))[q]? = some x.1.dot := by rw [List.getElem?_map, hx]; rfl
   have hst := metD_take (m := []) hme
   generalize metD [] ((l.map (fun x => x.1.dot)).take q) = M at *
   have hz : oq + 0 * 10 = oq := by omega
   by_cases he : x.1.key = y.1.key
   · have rw_e : decide (x.1.key ≠ y.1.key) = false := decide_eq_false (fun h => h he)
     refine sg S (.lt (by omega) rfl rfl <| .z) fun a w S => wp_seq_k fun _ hK2 => Zg S (.t rfl) (wp_skip (Za (hK2 _ _ (wp_seq_k fun _ hK2 => wp_block (wp_seq_k fun _ hK3 => wp_region_lit (run S (.ix underlying72 sizeOf77 (by omega) rfl rfl <| .yy (Zu ⟨isAgg77, sizeOf77⟩ (.t rfl) (vs := [_, _, _, _, _, _, _, _, _, _]) rfl (fun _ => hc)) rfl <| .z) fun a w S => Zi (Zk S zeroValue77 (cs := _) rfl rfl fun g3 a w S => Zi (Zp S sizeOf77 (.t rfl) (.t rfl) (k := 0) rfl rfl rfl (by simp [Value.oneCell']) fun a w S => Zb (Za (hK3 _ _ (wp_seq_k fun _ hK3 => wp_region_lit (run S (.mv rfl <| .fa underlying77 sizeOf74 1 rfl rfl rfl <| .la gt74 0 rfl rfl rfl <| .yy (Yn (ps := []) (us := []) bld144 .nil rfl) rfl <| .z) fun a w S => Zi (op_mapUpd (k := x.1.dot) (v := ()) S mapT143 (.t rfl) (.t rfl) (.t rfl) (j := 1) rfl ?_)))))))))))))
     clear S a w
     intro a w S
     refine Zb (Za (hK3 _ _ (wp_seq_k fun _ hK3 => Ye S (by kernel_rfl) (by kernel_rfl) fun a S => qrun S (.fa underlying77 sizeOf9 0 rfl rfl rfl <| .ld gt9 0 rfl rfl rfl <| .mv rfl <| .yy (Ym (j := 0) underlying72 sizeOf77 (.t rfl) Ev.c (fun _ => by omega)) rfl <| .yy (Xa (FieldT.mk underlying77 rfl sizeOf9 rfl) (.t rfl)) rfl <| .yy (Xp ⟨isAgg9, sizeOf9⟩ (.t rfl) (fun _ => hc0 _ _ rfl)) rfl <| .yy (Wk (.t rfl) (.t rfl)) rfl <| .z) fun a S => ?_)))
     rw [rw_e] at S
     (refine Xb ?_; intro w W; replace S := St.mk S W; clear W)
     refine Za (hK3 _ _ (Ze S (.t rfl) (wp_skip (Zm (Za (hK2 _ _ (wp_region_lit (run S (.ad (by unfold I64; omega) rfl <| .mv rfl <| .z) fun a w S => Zb (Za ?_)))))))))
     refine ⟨q + 1, ⟨by omega, fun z hz y' hy' => ?_⟩, by omega, by rw [hst]; exact S.pk⟩
     rw [List.take_add_one, hx, Option.toList_some] at hz
     rcases List.mem_append.1 hz with hz | hz
     · exact hsame z hz y' hy'
     · rw [List.mem_singleton.1 hz, he, Option.some.inj (hy.symm.trans hy')]
   · have rw_e : decide (x.1.key ≠ y.1.key) = true := decide_eq_true he
     have hk := meant_keys (U := l.map (·.1)) (fun h => he (h _ (hUm x (List.mem_of_getElem? hx)) _ (hUm y (List.mem_of_getElem? hy))))
     rw [hk]
     refine sg S (.lt (by omega) rfl rfl <| .z) fun a w S => wp_seq_k fun _ hK2 => Zg S (.t rfl) (wp_skip (Za (hK2 _ _ (wp_seq_k fun _ hK2 => wp_block (wp_seq_k fun _ hK3 => wp_region_lit (run S (.ix underlying72 sizeOf77 (by omega) rfl rfl <| .yy (Zu ⟨isAgg77, sizeOf77⟩ (.t rfl) (vs := [_, _, _, _, _, _, _, _, _, _]) rfl (fun _ => hc)) rfl <| .z) fun a w S => Zi (Zk S zeroValue77 (cs := _) rfl rfl fun g3 a w S => Zi (Zp S sizeOf77 (.t rfl) (.t rfl) (k := 0) rfl rfl rfl (by simp [Value.oneCell']) fun a w S => Zb (Za (hK3 _ _ (wp_seq_k fun _ hK3 => wp_region_lit (run S (.mv rfl <| .fa underlying77 sizeOf74 1 rfl rfl rfl <| .la gt74 0 rfl rfl rfl <| .yy (Yn (ps := []) (us := []) bld144 .nil rfl) rfl <| .z) fun a w S => Zi (op_mapUpd (k := x.1.dot) (v := ()) S mapT143 (.t rfl) (.t rfl) (.t rfl) (j := 1) rfl ?_)))))))))))))
     clear S a w
     intro a w S
     refine Zb (Za (hK3 _ _ (wp_seq_k fun _ hK3 => Ye S (by kernel_rfl) (by kernel_rfl) fun a S => qrun S (.fa underlying77 sizeOf9 0 rfl rfl rfl <| .ld gt9 0 rfl rfl rfl <| .mv rfl <| .yy (Ym (j := 0) underlying72 sizeOf77 (.t rfl) Ev.c (fun _ => by omega)) rfl <| .yy (Xa (FieldT.mk underlying77 rfl sizeOf9 rfl) (.t rfl)) rfl <| .yy (Xp ⟨isAgg9, sizeOf9⟩ (.t rfl) (fun _ => hc0 _ _ rfl)) rfl <| .yy (Wk (.t rfl) (.t rfl)) rfl <| .z) fun a S => ?_)))
     rw [rw_e] at S
     (refine Xb ?_; intro w W; replace S := St.mk S W; clear W)
     refine Za (hK3 _ _ (Zg S (.t rfl) (wp_seq_k fun _ hK3 => wp_region_lit (run S (.yy (Yn (ps := []) (us := [_, _, _]) bld37 .nil rfl) rfl <| .z) fun a w S => Zi (Zp S sizeOf37 (.t rfl) (.t rfl) (k := 2) rfl rfl rfl (by simp [Value.oneCell']) fun a w S => run S (.ac rfl <| .z) fun a w S => Zb (Za (hK3 _ _ (wp_ret (Zq (Zd (Zd (Zq (Zd (Zn S (results2 S results39 (Rv.cell (k := 2) ⟨isAgg37, sizeOf37⟩ rfl rfl rfl) (Rv.tmp rfl)) ?_))))))))))))))
     replace S := ((S.nil_ 74 3 Dot.enc none).nil_ 30 3 Dot.enc none).nil_ 100 6 Ent.enc none
     exact ⟨_, _, rfl, S.wd.pk, none, 0, none, 0, none, 0, rfl, rfl⟩
 obtain rfl : q = l.length := by omega
 have hkeys : ∀ u ∈ l.map (·.1), ∀ v ∈ l.map (·.1), u.key = v.key := fun u hu v hv => by
   obtain ⟨x, hx, rfl⟩ := List.mem_map.1 hu
   obtain ⟨y, hy, rfl⟩ := List.mem_map.1 hv
   rw [List.take_length] at hsame
   have h0 : 0 < l.length := List.length_pos_of_mem hx
   exact (hsame x hx _ (List.getElem?_eq_getElem h0)).trans (hsame y hy _ (List.getElem?_eq_getElem h0)).symm
 rw [List.take_of_length_le (by simp)] at S
 rw [hmd] at hmet
 by_cases hone : oneU (l.map (·.1))
 rotate_left
 · have rw_m : decide (((metD [] (l.map fun x => x.1.dot)).length : Int) < (l.length : Int)) = true := by
     rw [hmet, decide_eq_false (show ¬ (l.map fun x => x.1.dot).Nodup from fun e => hone (by unfold oneU; rw [hmd]; exact e))]; rfl
   have hk := meant_dots hone
   refine sg S (.ge (by omega) rfl rfl <| .z) fun a w S => wp_seq_k fun _ hK2 => Ze S (.t rfl) (wp_exit (Zh (Zh (Ya (Za (hK1 _ _ (wp_seq_k fun _ hK1 => wp_seq_k fun _ hK3 => wp_region_lit (run S (.mv rfl <| .yy (ys_lenMap underlying143 (.t rfl) (j := 0) rfl) rfl <| .mv rfl <| .ln underlying72 rfl <| .yy (Yz (.t rfl) (.t rfl)) rfl <| .z) fun a w S => ?_))))))))
   rw [rw_m] at S
   refine Zb (Za (hK3 _ _ (Zg S (.t rfl) (wp_seq_k fun _ hK3 => wp_region_lit (run S (.yy (Yn (ps := []) (us := [_, _, _]) bld37 .nil rfl) rfl <| .z) fun a w S => Zi (Zp S sizeOf37 (.t rfl) (.t rfl) (k := 1) rfl rfl rfl (by simp [Value.oneCell']) fun a w S => run S (.ac rfl <| .z) fun a w S => Zb (Za (hK3 _ _ (wp_ret (Zd (Zn S (results2 S results39 (Rv.cell (k := 1) ⟨isAgg37, sizeOf37⟩ rfl rfl rfl) (Rv.tmp rfl)) ?_)))))))))))
   rw [hk]
   replace S := ((S.nil_ 74 3 Dot.enc none).nil_ 30 3 Dot.enc none).nil_ 100 6 Ent.enc none
   exact ⟨_, _, rfl, S.wd.pk, none, 0, none, 0, none, 0, rfl, rfl⟩
 have rw_m : decide (((metD [] (l.map fun x => x.1.dot)).length : Int) < (l.length : Int)) = false := by
   rw [hmet, decide_eq_true (show (l.map fun x => x.1.dot).Nodup from by unfold oneU at hone; rw [hmd] at hone; exact hone)]; rfl
 have hokU : okU (l.map (·.1)) := ⟨hone, hkeys⟩
 clear hsame hq
 refine sg S (.ge (by omega) rfl rfl <| .z) fun a w S => wp_seq_k fun _ hK2 => Ze S (.t rfl) (wp_exit (Zh (Zh (Ya (Za (hK1 _ _ (wp_seq_k fun _ hK1 => wp_seq_k fun _ hK3 => wp_region_lit (run S (.mv rfl <| .yy (ys_lenMap underlying143 (.t rfl) (j := 0) rfl) rfl <| .mv rfl <| .ln underlying72 rfl <| .yy (Yz (.t rfl) (.t rfl)) rfl <| .z) fun a w S => ?_))))))))
 rw [rw_m] at S
 refine Zb (Za (hK3 _ _ (Ze S (.t rfl) (wp_skip (Za (hK1 _ _ (wp_seq_k fun _ hK1 => sg S (.mv rfl <| .ln underlying72 rfl <| .mc rfl <| .z) fun a w S => wp_block ?_)))))))
 clear rw_m
 refine Xn S [47] (X := Nat) (fun q => [(47, true, .int .i64 (q : Int))]) (fun q => [.blk g1 (.cells #[.slice none 0 0, .slice none 0 0, .slice none 0 0] 37)])
   (fun q => q ≤ l.length ∧ firstE ((l.map (·.1)).drop q) = firstE (l.map (·.1))) (fun q => l.length - q) 0 ⟨Nat.zero_le _, rfl⟩ ?_
 clear S
 intro q a w ⟨hq, hfe⟩ S
 by_cases hlt : q < l.length
 · obtain ⟨gq, oq, x, rfl, hx, hd, hc⟩ := Yh hA hlt
   have r1 := (hr x (List.mem_of_getElem? hx)).ents
   have r2 := (hr x (List.mem_of_getElem? hx)).ctx
   rw [firstE_at (hUg q x hx)] at hfe
   by_cases hm : mayE x.1 = 0
   · have rw_hm := hm
     rw [if_pos hm] at hfe
     refine sg S (.lt (by omega) rfl rfl <| .z) fun a w S => wp_seq_k fun _ hK3 => Zg S (.t rfl) (wp_skip (Za (hK3 _ _ (wp_seq_k fun _ hK3 => wp_block (wp_seq_k fun _ hK4 => wp_region_lit (run S (.ix underlying72 sizeOf77 (by omega) rfl rfl <| .yy (Zu ⟨isAgg77, sizeOf77⟩ (.t rfl) (vs := [_, _, _, _, _, _, _, _, _, _]) rfl (fun _ => hc)) rfl <| .z) fun a w S => Zi (Zk S zeroValue77 (cs := _) rfl rfl fun g3 a w S => Zi (Zp S sizeOf77 (.t rfl) (.t rfl) (k := 0) rfl rfl rfl (by simp [Value.oneCell']) fun a w S => Zb (Za (hK4 _ _ (wp_seq_k fun _ hK4 => wp_region_lit (run S (.la gt77 0 rfl rfl rfl <| .xx (Zf call106 (.cons (.t rfl) .nil) (fun hp w W => c106 _ _ _ _ _ (by exact .old W (by assumption)) (by exact .old W (by assumption)))) rfl <| .z) fun a w S => ?_))))))))))))
     rw [rw_hm] at S
     refine run S (.as rfl <| .z) fun a w S => Zb (Za (hK4 _ _ (sg S (.mv rfl <| .yy (Yp (by omega) (Yg (.t rfl) Ev.c)) rfl <| .z) fun a w S => Ze S (.t rfl) (wp_skip (Zm (Za (hK3 _ _ (wp_region_lit (run S (.ad (by unfold I64; omega) rfl <| .mv rfl <| .z) fun a w S => Zb (Za ?_))))))))))
     exact ⟨q + 1, ⟨by omega, hfe⟩, by omega, S.pk⟩
   · have rw_hm : decide (mayE x.1 ≠ 0) = true := decide_eq_true hm
     rw [if_neg hm] at hfe
     have hk := meant_first hokU (by rw [← hfe]; exact hm)
     rw [← hfe] at hk
     refine sg S (.lt (by omega) rfl rfl <| .z) fun a w S => wp_seq_k fun _ hK3 => Zg S (.t rfl) (wp_skip (Za (hK3 _ _ (wp_seq_k fun _ hK3 => wp_block (wp_seq_k fun _ hK4 => wp_region_lit (run S (.ix underlying72 sizeOf77 (by omega) rfl rfl <| .yy (Zu ⟨isAgg77, sizeOf77⟩ (.t rfl) (vs := [_, _, _, _, _, _, _, _, _, _]) rfl (fun _ => hc)) rfl <| .z) fun a w S => Zi (Zk S zeroValue77 (cs := _) rfl rfl fun g3 a w S => Zi (Zp S sizeOf77 (.t rfl) (.t rfl) (k := 0) rfl rfl rfl (by simp [Value.oneCell']) fun a w S => Zb (Za (hK4 _ _ (sg S (.la gt77 0 rfl rfl rfl <| .xx (Zf call106 (.cons (.t rfl) .nil) (fun hp w W => c106 _ _ _ _ _ (by exact .old W (by assumption)) (by exact .old W (by assumption)))) rfl <| .as rfl <| .z) fun a w S => sg S (.mv rfl <| .yy (Yu (by omega) (Yg (.t rfl) Ev.c)) rfl <| .z) fun a w S => Zg S (.t rfl) (wp_seq_k fun _ hK4 => wp_region_lit (run S (.yy (Yn (ps := []) (us := [_, _, _]) bld37 .nil rfl) rfl <| .mv rfl <| .z) fun a w S => Zi (Zp S sizeOf37 (.t rfl) (.t rfl) (k := 1) rfl rfl rfl (by simp [Value.oneCell']) fun a w S => run S (.as rfl <| .z) fun a w S => Zb (Za (hK4 _ _ (wp_ret ?_)))))))))))))))))
     refine Zq (Zd (Zd (Zq (Zd (Zn S (results2 S results39 (Rv.cell (k := 1) ⟨isAgg37, sizeOf37⟩ rfl rfl rfl) (Rv.tmp rfl)) ?_)))))
     rw [hk]
     replace S := ((S.nil_ 74 3 Dot.enc none).nil_ 30 3 Dot.enc none).nil_ 100 6 Ent.enc none
     exact ⟨_, _, rfl, S.wd.pk, none, 0, none, 0, none, 0, rfl, rfl⟩
 obtain rfl : q = l.length := by omega
 rw [List.drop_of_length_le (by simp)] at hfe
 have hfe0 : firstE (l.map (·.1)) = 0 := hfe.symm
 have hmay := firstE_ok.1 hfe0
 obtain ⟨hB1, hB2⟩ := hB hmay
 clear hfe hq
 refine sg S (.ge (by omega) rfl rfl <| .z) fun a w S => wp_seq_k fun _ hK3 => Ze S (.t rfl) (wp_exit (Zh (Zh (Ya (Za (hK1 _ _ (wp_seq_k fun _ hK1 => wp_region_lit (Zi (Zk S zeroValue37 (cs := _) rfl rfl fun g3 a w S => Zb (Za (hK1 _ _ (sg S (.ac rfl <| .z) fun a w S => sg S (.ac rfl <| .z) fun a w S => wp_seq_k fun _ hK1 => sg S (.mv rfl <| .ln underlying72 rfl <| .mc rfl <| .z) fun a w S => wp_block ?_))))))))))))
 replace S := ((S.nil_ 74 3 Dot.enc none).nil_ 30 3 Dot.enc none).nil_ 100 6 Ent.enc none
 replace S : St 128 w0 [(60, true, .int .i64 0), (59, true, .int .i64 (l.length : Int)), (58, true, .slice A l.length cap), (12, true, .slice none 0 0), (11, true, .slice none 0 0), (10, true, .pointer (some ⟨g3, 0, none⟩)), (3, true, .int .i64 0), (2, true, .pointer (some ⟨g1, 0, none⟩)), (0, true, .slice A l.length cap)]
   [rowOf 100 6 Ent.enc none 0 [], rowOf 30 3 Dot.enc none 0 [], rowOf 74 3 Dot.enc none 0 [], .blk g3 (.cells #[.slice none 0 0, .slice none 0 0, .slice none 0 0] 37), .blk g1 (.cells #[.slice none 0 0, .slice none 0 0, .slice none 0 0] 37)] _ _ := S.pk
 refine Xn S [11, 12, 60] (X := Nat × (Option Addr × Nat) × (Option Addr × Nat) × (Option Addr × Nat)) (fun q => [(11, true, .slice q.2.1.1 (marksU ((l.map (·.1)).take q.1)).length q.2.1.2), (12, true, .slice q.2.2.1.1 (dotsU ((l.map (·.1)).take q.1)).length q.2.2.1.2), (60, true, .int .i64 (q.1 : Int))])
   (fun q => [rowOf 100 6 Ent.enc q.2.2.2.1 q.2.2.2.2 (keptU (l.map (·.1)) ((l.map (·.1)).take q.1)), rowOf 30 3 Dot.enc q.2.1.1 q.2.1.2 (marksU ((l.map (·.1)).take q.1)), rowOf 74 3 Dot.enc q.2.2.1.1 q.2.2.1.2 (dotsU ((l.map (·.1)).take q.1)),
     .blk g3 (.cells #[.slice q.2.2.2.1 (keptU (l.map (·.1)) ((l.map (·.1)).take q.1)).length q.2.2.2.2, .slice none 0 0, .slice none 0 0] 37), .blk g1 (.cells #[.slice none 0 0, .slice none 0 0, .slice none 0 0] 37)])
   (fun q => q.1 ≤ l.length) (fun q => l.length - q.1) (0, (none, 0), (none, 0), (none, 0)) (Nat.zero_le _) ?_
 clear S
 rintro ⟨q, ⟨Am, cm⟩, ⟨Ad, cd⟩, ⟨Ae, ce⟩⟩ a w hq S
 dsimp only at hq S
 have hml := marks_le (l.map (·.1)) q
 have hdl := dots_le (l.map (·.1)) q
 have hel := kept_len (l.map (·.1)) ((l.map (·.1)).take q)
 rw [List.length_take, hUl] at hel
 by_cases hlt : q < l.length
 · obtain ⟨gq, oq, x, rfl, hx, hd, hc⟩ := Yh hA hlt
   have r1 := (hr x (List.mem_of_getElem? hx)).ents
   have r3 := (hr x (List.mem_of_getElem? hx)).marks
   have r4 := (hr x (List.mem_of_getElem? hx)).cloud
   have rw_n2 : x.2.n2 = x.1.seen.ctx.marks.length := Sl.len_is r3
   have rw_n3 : x.2.n3 = x.1.seen.ctx.cloud.length := Sl.len_is r4
   rw [rw_n2] at r3
   rw [rw_n3] at r4
   have hxo := Vs (hmay _ (hUm x (List.mem_of_getElem? hx)))
   have hxl := can_len hxo.seen.ctx
   have hst1 := marks_take (hUg q x hx)
   have hst2 := dots_take (hUg q x hx)
   have hst3 := kept_take (U := l.map (·.1)) (hUg q x hx)
   have rw_sb := seen_is l x.1
   generalize marksU ((l.map (·.1)).take q) = M at *
   generalize dotsU ((l.map (·.1)).take q) = D at *
   generalize keptU (l.map (·.1)) ((l.map (·.1)).take q) = E at *
   have halt_d := trivial
   refine sg S (.lt (by omega) rfl rfl <| .z) fun a w S => wp_seq_k fun _ hK4 => Zg S (.t rfl) (wp_skip (Za (hK4 _ _ (wp_seq_k fun _ hK4 => wp_block (wp_seq_k fun _ hK5 => wp_region_lit (run S (.ix underlying72 sizeOf77 (by omega) rfl rfl <| .yy (Zu ⟨isAgg77, sizeOf77⟩ (.t rfl) (vs := [_, _, _, _, _, _, _, _, _, _]) rfl (fun _ => hc)) rfl <| .z) fun a w S => ?_))))))
   rw [rw_n2] at S
   rw [rw_n3] at S
   refine Zi (Zk S zeroValue77 (cs := _) rfl rfl fun g4 a w S => Zi (Zp S sizeOf77 (.t rfl) (.t rfl) (k := 0) rfl rfl rfl (by simp [Value.oneCell']) fun a w S => Zb (Za (hK5 _ _ (wp_seq_k fun _ hK5 => wp_region_lit (run S (.mv rfl <| .fa underlying77 sizeOf37 7 rfl rfl rfl <| .fa underlying37 sizeOf35 8 rfl rfl rfl <| .fa underlying35 sizeOf32 8 rfl rfl rfl <| .ld gt32 0 rfl rfl rfl <| .z) fun a w S => Zi (Yy _ S underlying32 underlying32 (.inr ⟨_, rfl⟩) inf30 rfl (k := 2) rfl (.t rfl) (.t rfl) (Src.sl (Sl.old S.wd r3) (by decide) Go.Fw.Dot.enc_len Go.Fw.Dot.enc_one) (by first | omega | (simp only [List.length_append, List.length_cons, List.length_nil]; omega) | (simp; omega)) rfl rfl rfl fun A1 cap1 a w S => run S (.as rfl <| .z) fun a w S => Zb (Za (hK5 _ _ (wp_seq_k fun _ hK5 => ?_))))))))))
   clear halt_d
   refine Code.wp_mono (Q := fun e a w => match e with
     | .normal => ∃ Bd bd, St 128 w0 [(12, true, .slice Bd ((D ++ x.1.seen.ctx.cloud) ++ [x.1.dot]).length bd), (11, true, .slice A1 (M ++ x.1.seen.ctx.marks).length cap1), (14, true, .pointer (some ⟨g4, 0, none⟩)), (60, true, .int .i64 (q : Int)), (59, true, .int .i64 (l.length : Int)), (58, true, .slice (some ⟨gq, oq, none⟩) l.length cap), (10, true, .pointer (some ⟨g3, 0, none⟩)), (3, true, .int .i64 0), (2, true, .pointer (some ⟨g1, 0, none⟩)), (0, true, .slice (some ⟨gq, oq, none⟩) l.length cap)]
         [rowOf 74 3 Dot.enc Bd bd ((D ++ x.1.seen.ctx.cloud) ++ [x.1.dot]), .blk g4 (.cells (Upd.enc x.1 (.slice x.2.a1 x.2.n1 x.2.c1) (.slice x.2.a2 x.1.seen.ctx.marks.length x.2.c2) (.slice x.2.a3 x.1.seen.ctx.cloud.length x.2.c3)).toArray 77), rowOf 100 6 Ent.enc Ae ce E, rowOf 30 3 Dot.enc A1 cap1 (M ++ x.1.seen.ctx.marks),
           .blk g3 (.cells #[.slice Ae E.length ce, .slice none 0 0, .slice none 0 0] 37), .blk g1 (.cells #[.slice none 0 0, .slice none 0 0, .slice none 0 0] 37)] a w
     | _ => False) (fun e a w qq => ?_) ?_
   rotate_left
   · have hold_r := trivial
     have lr_nil := trivial
     refine Vz S (by kernel_rfl) [] fun a w S => hy 0 S rfl (Zj (.t rfl)) rfl fun a w S => hy 1 S rfl (Zc (FieldT.mk underlying77 rfl sizeOf37 rfl) (.t rfl) (i' := 7) rfl) rfl fun a w S => hy 2 S rfl (Zc (FieldT.mk underlying37 rfl sizeOf35 rfl) (.t rfl) (i' := 8) rfl) rfl fun a w S => hy 3 S rfl (Zc (FieldT.mk underlying35 rfl sizeOf33 rfl) (.t rfl) (i' := 9) rfl) rfl fun a w S => ?_
     refine hy 6 S rfl (Zc (FieldT.mk underlying77 rfl sizeOf74 rfl) (.t rfl) (i' := 1) rfl) rfl fun a w S => ?_
     refine Xd (i := 4) (j := 7) (by kernel_rfl) rfl rfl ?_ ?_
     (refine Vn S (Yr.ys (Zt ⟨isAgg33, sizeOf33⟩ (.t rfl) (k := 0) rfl rfl)) rfl ?_; clear S a w; intro a w S; refine Zw S ?_)
     refine Xd (i := 5) (j := 7) (by kernel_rfl) rfl rfl ?_ ?_
     (refine Yy _ S underlying33 underlying33 (.inr ⟨_, rfl⟩) inf74 rfl (k := 3) rfl (.t rfl) (.t rfl) (Src.sl (Sl.old S.wd r4) (by decide) Go.Fw.Dot.enc_len Go.Fw.Dot.enc_one) (by first | omega | (simp only [List.length_append, List.length_cons, List.length_nil]; omega) | (simp; omega)) rfl rfl rfl ?_; clear S a w; intro A2 cap2 a w S; refine Zw S ?_)
     refine h_q (i := 7) S (by repeat (first | exact List.Sublist.refl _ | exact List.nil_sublist _ | refine .cons_cons _ ?_ | refine .cons _ ?_)) rfl (by kernel_rfl) (Yr.ys (Yc ⟨isAgg74, sizeOf74⟩ (.t rfl) (k := 0) rfl rfl)) rfl fun a w S => ?_
     (refine h_m (i := 8) rfl (by kernel_rfl) (Yd S underlying33 inf74 rfl rfl rfl (.t rfl) rfl rfl rfl ?_); clear S a w; intro g5 a w S; refine Zw S ?_)
     (refine h_m (i := 9) rfl (by kernel_rfl) (Yv S underlying33 inf74 rfl (k := 4) (j := 0) rfl (.t rfl) (.t rfl) rfl Go.Fw.Dot.mkEnc rfl rfl (by first | omega | (simp only [List.length_append, List.length_cons, List.length_nil]; omega)) rfl rfl rfl ?_); clear S a w; intro A3 cap3 a w S; refine Zw S ?_)
     refine hy 10 S rfl (Yb (.t rfl)) rfl fun a w S => Yq (by kernel_rfl) ?_
     rotate_left
     (refine Vn S (Yr.ys (Yc ⟨isAgg74, sizeOf74⟩ (.t rfl) (k := 0) rfl rfl)) rfl ?_; clear S a w; intro a w S; refine Zw S ?_)
     refine Xd (i := 5) (j := 8) (by kernel_rfl) rfl rfl ?_ ?_
     (refine Yy _ S underlying33 underlying33 (.inr ⟨_, rfl⟩) inf74 rfl (k := 3) rfl (.t rfl) (.t rfl) (Src.sl (Sl.old S.wd r4) (by decide) Go.Fw.Dot.enc_len Go.Fw.Dot.enc_one) (by first | omega | (simp only [List.length_append, List.length_cons, List.length_nil]; omega) | (simp; omega)) rfl rfl rfl ?_; clear S a w; intro A2 cap2 a w S; refine Zw S ?_)
     (refine h_m (i := 8) rfl (by kernel_rfl) (Yd S underlying33 inf74 rfl rfl rfl (.t rfl) rfl rfl rfl ?_); clear S a w; intro g5 a w S; refine Zw S ?_)
     (refine h_m (i := 9) rfl (by kernel_rfl) (Yv S underlying33 inf74 rfl (k := 4) (j := 0) rfl (.t rfl) (.t rfl) rfl Go.Fw.Dot.mkEnc rfl rfl (by first | omega | (simp only [List.length_append, List.length_cons, List.length_nil]; omega)) rfl rfl rfl ?_); clear S a w; intro A3 cap3 a w S; refine Zw S ?_)
     refine hy 10 S rfl (Yb (.t rfl)) rfl fun a w S => Yq (by kernel_rfl) ?_
     rotate_left
     (refine Yd S underlying33 inf74 rfl rfl rfl (.t rfl) rfl rfl rfl ?_; clear S a w; intro g5 a w S; refine Zw S ?_)
     (refine h_m (i := 5) rfl (by kernel_rfl) (Yy _ S underlying33 underlying33 (.inr ⟨_, rfl⟩) inf74 rfl (k := 4) rfl (.t rfl) (.t rfl) (Src.sl (Sl.old S.wd r4) (by decide) Go.Fw.Dot.enc_len Go.Fw.Dot.enc_one) (by first | omega | (simp only [List.length_append, List.length_cons, List.length_nil]; omega) | (simp; omega)) rfl rfl rfl ?_); clear S a w; intro A2 cap2 a w S; refine Zw S ?_)
     (refine h_m (i := 9) rfl (by kernel_rfl) (Yv S underlying33 inf74 rfl (k := 4) (j := 0) rfl (.t rfl) (.t rfl) rfl Go.Fw.Dot.mkEnc rfl rfl (by first | omega | (simp only [List.length_append, List.length_cons, List.length_nil]; omega)) rfl rfl rfl ?_); clear S a w; intro A3 cap3 a w S; refine Zw S ?_)
     refine hy 10 S rfl (Yb (.t rfl)) rfl fun a w S => Yq (by kernel_rfl) ?_
     rotate_left
     (refine Vn S (Yr.ys (Yc ⟨isAgg74, sizeOf74⟩ (.t rfl) (k := 0) rfl rfl)) rfl ?_; clear S a w; intro a w S; refine Zw S ?_)
     refine Xd (i := 4) (j := 8) (by kernel_rfl) rfl rfl ?_ ?_
     (refine Vn S (Yr.ys (Zt ⟨isAgg33, sizeOf33⟩ (.t rfl) (k := 0) rfl rfl)) rfl ?_; clear S a w; intro a w S; refine Zw S ?_)
     refine Xd (i := 5) (j := 8) (by kernel_rfl) rfl rfl ?_ ?_
     (refine Yy _ S underlying33 underlying33 (.inr ⟨_, rfl⟩) inf74 rfl (k := 3) rfl (.t rfl) (.t rfl) (Src.sl (Sl.old S.wd r4) (by decide) Go.Fw.Dot.enc_len Go.Fw.Dot.enc_one) (by first | omega | (simp only [List.length_append, List.length_cons, List.length_nil]; omega) | (simp; omega)) rfl rfl rfl ?_; clear S a w; intro A2 cap2 a w S; refine Zw S ?_)
     (refine h_m (i := 8) rfl (by kernel_rfl) (Yd S underlying33 inf74 rfl rfl rfl (.t rfl) rfl rfl rfl ?_); clear S a w; intro g5 a w S; refine Zw S ?_)
     (refine h_m (i := 9) rfl (by kernel_rfl) (Yv S underlying33 inf74 rfl (k := 4) (j := 0) rfl (.t rfl) (.t rfl) rfl Go.Fw.Dot.mkEnc rfl rfl (by first | omega | (simp only [List.length_append, List.length_cons, List.length_nil]; omega)) rfl rfl rfl ?_); clear S a w; intro A3 cap3 a w S; refine Zw S ?_)
     refine hy 10 S rfl (Yb (.t rfl)) rfl fun a w S => Yq (by kernel_rfl) ?_
     rotate_left
     (refine Yd S underlying33 inf74 rfl rfl rfl (.t rfl) rfl rfl rfl ?_; clear S a w; intro g5 a w S; refine Zw S ?_)
     (refine h_m (i := 5) rfl (by kernel_rfl) (Yy _ S underlying33 underlying33 (.inr ⟨_, rfl⟩) inf74 rfl (k := 4) rfl (.t rfl) (.t rfl) (Src.sl (Sl.old S.wd r4) (by decide) Go.Fw.Dot.enc_len Go.Fw.Dot.enc_one) (by first | omega | (simp only [List.length_append, List.length_cons, List.length_nil]; omega) | (simp; omega)) rfl rfl rfl ?_); clear S a w; intro A2 cap2 a w S; refine Zw S ?_)
     (refine h_m (i := 9) rfl (by kernel_rfl) (Yv S underlying33 inf74 rfl (k := 4) (j := 0) rfl (.t rfl) (.t rfl) rfl Go.Fw.Dot.mkEnc rfl rfl (by first | omega | (simp only [List.length_append, List.length_cons, List.length_nil]; omega)) rfl rfl rfl ?_); clear S a w; intro A3 cap3 a w S; refine Zw S ?_)
     refine hy 10 S rfl (Yb (.t rfl)) rfl fun a w S => Yq (by kernel_rfl) ?_
     rotate_left
     (refine Yd S underlying33 inf74 rfl rfl rfl (.t rfl) rfl rfl rfl ?_; clear S a w; intro g5 a w S; refine Zw S ?_)
     refine h_q (i := 4) S (by repeat (first | exact List.Sublist.refl _ | exact List.nil_sublist _ | refine .cons_cons _ ?_ | refine .cons _ ?_)) rfl (by kernel_rfl) (Yr.ys (Zt ⟨isAgg33, sizeOf33⟩ (.t rfl) (k := 1) rfl rfl)) rfl fun a w S => ?_
     (refine h_m (i := 5) rfl (by kernel_rfl) (Yy _ S underlying33 underlying33 (.inr ⟨_, rfl⟩) inf74 rfl (k := 4) rfl (.t rfl) (.t rfl) (Src.sl (Sl.old S.wd r4) (by decide) Go.Fw.Dot.enc_len Go.Fw.Dot.enc_one) (by first | omega | (simp only [List.length_append, List.length_cons, List.length_nil]; omega) | (simp; omega)) rfl rfl rfl ?_); clear S a w; intro A2 cap2 a w S; refine Zw S ?_)
     (refine h_m (i := 9) rfl (by kernel_rfl) (Yv S underlying33 inf74 rfl (k := 4) (j := 0) rfl (.t rfl) (.t rfl) rfl Go.Fw.Dot.mkEnc rfl rfl (by first | omega | (simp only [List.length_append, List.length_cons, List.length_nil]; omega)) rfl rfl rfl ?_); clear S a w; intro A3 cap3 a w S; refine Zw S ?_)
     refine hy 10 S rfl (Yb (.t rfl)) rfl fun a w S => Yq (by kernel_rfl) ?_
     rotate_left
     all_goals exact ⟨_, _, S.pk⟩
   clear S
   rcases e with _ | _ | _ | _ | _ | _ | _
   any_goals exact qq.elim
   obtain ⟨Bd, bd, S⟩ := qq
   refine Za ?_
   first | refine hK9 _ _ ?_ | refine hK8 _ _ ?_ | refine hK7 _ _ ?_ | refine hK6 _ _ ?_ | refine hK5 _ _ ?_ | refine hK4 _ _ ?_ | refine hK3 _ _ ?_ | refine hK2 _ _ ?_ | refine hK1 _ _ ?_
   refine wp_seq_k fun _ hK6 => wp_region_lit (run S (.mv rfl <| .yy (ys_mkFunc (.cons (.t rfl) .nil)) rfl <| .z) fun a w S => ?_)
   refine Yk S (Zf call107 (.cons (.t rfl) (.cons (.t rfl) .nil)) (fun _ w' W' => x107 w' _ l 108 [.pointer (some ⟨g4, 0, none⟩)] (fun y => decide (y.1.item = x.1.item) && y.1.seen.ctx.covers x.1.dot) call108
     (fun w'' W'' y hy => c108 w'' y.1 _ _ _ x g4 (((hr y hy).old W').old W'').ents (((hr y hy).old W').old W'').ctx (Wd.cellOld W'' (Wd.cell W' (k := 1) rfl rfl)) (Wd.cellOld W'' (Wd.cell W' (k := 1) rfl rfl)) (Wd.cellOld W'' (Wd.cell W' (k := 1) rfl rfl)) (Wd.cellOld W'' (Wd.cell W' (k := 1) rfl rfl))) (Sl.old W' hs))) rfl ?_
   clear S a w
   intro a w S
   by_cases hqt : 0 < x.1.qty
   · have rw_q := decide_eq_true hqt
     cases hsb : seenB (l.map (·.1)) x.1 with
     | true =>
       rw [hsb] at rw_sb
       rw [hsb, Bool.not_true, Bool.and_false, if_neg (by decide), List.append_nil] at hst3
       refine run S (.yy (Xr (.t rfl) Ev.c) rfl <| .z) fun a w S => ?_
       rw [rw_sb] at S
       refine run S (.as rfl <| .z) fun a w S => Zb (Za (hK6 _ _ (sg S (.fa underlying77 sizeOf3 5 rfl rfl rfl <| .ld gt3 1 rfl rfl rfl <| .yy (Yu (by omega) (Yf (.t rfl) Ev.c)) rfl <| .mv rfl <| .gy rfl rfl (Zj (.t rfl)) <| .gy rfl rfl (Xi (.t rfl)) <| .yy (Zz (.t rfl) (.t rfl)) rfl <| .z) fun a w S => Ze S (.t rfl) (wp_skip (Zm (Za (hK4 _ _ (wp_region_lit (run S (.ad (by unfold I64; omega) rfl <| .mv rfl <| .z) fun a w S => Zb (Za ?_))))))))))
       exact ⟨(q + 1, (A1, cap1), (Bd, bd), (Ae, ce)), by dsimp only; omega, by dsimp only; omega, by dsimp only; rw [hst1, hst2, hst3]; exact S.pk⟩
     | false =>
       rw [hsb] at rw_sb
       rw [hsb, rw_q, Bool.not_false, Bool.and_true, if_pos rfl] at hst3
       have rw_ent : #[Value.string (bs x.1.item), .int .i64 x.1.dot.node, .int .i64 x.1.dot.life, .int .i64 x.1.dot.count, .int .i64 x.1.qty, .int .u64 (x.1.price.toNat : Int)] = (Ent.enc x.1.ent).toArray := rfl
       refine run S (.yy (Xr (.t rfl) Ev.c) rfl <| .z) fun a w S => ?_
       rw [rw_sb] at S
       refine run S (.as rfl <| .z) fun a w S => Zb (Za (hK6 _ _ (sg S (.fa underlying77 sizeOf3 5 rfl rfl rfl <| .ld gt3 1 rfl rfl rfl <| .yy (Yu (by omega) (Yf (.t rfl) Ev.c)) rfl <| .mv rfl <| .gy rfl rfl (Zj (.t rfl)) <| .gy rfl rfl (Xi (.t rfl)) <| .yy (Zz (.t rfl) (.t rfl)) rfl <| .z) fun a w S => Zg S (.t rfl) (wp_region_lit (run S (.fa underlying37 sizeOf31 0 rfl rfl rfl <| .ld gt31 4 rfl rfl rfl <| .fa underlying77 sizeOf9 4 rfl rfl rfl <| .ld gt9 1 rfl rfl rfl <| .fa underlying77 sizeOf74 1 rfl rfl rfl <| .la gt74 1 rfl rfl rfl <| .fa underlying77 sizeOf3 5 rfl rfl rfl <| .ld gt3 1 rfl rfl rfl <| .fa underlying77 sizeOf75 6 rfl rfl rfl <| .ld gt75 1 rfl rfl rfl <| .yy (Yn (ps := [(0, Go.Operand.tmp 94), (1, Go.Operand.tmp 96), (2, Go.Operand.tmp 98), (3, Go.Operand.tmp 100)]) (us := [_, _, _, _, _, _]) bld100 (.cons (.t rfl) (.cons (.t rfl) (.cons (.t rfl) (.cons (.t rfl) .nil)))) rfl) rfl <| .z) fun a w S => ?_)))))
       rw [rw_ent] at S
       refine Zi (Yd S underlying31 inf100 rfl rfl rfl (.t rfl) rfl rfl rfl fun g5 a w S => ?_)
       rw [rw_ent] at S
       refine Zi (Yv S underlying31 inf100 rfl (k := 3) (j := 0) rfl (.t rfl) (.t rfl) rfl rfl rfl rfl (by first | omega | (simp only [List.length_append, List.length_cons, List.length_nil]; omega)) rfl rfl rfl fun A2 cap2 a w S => ?_)
       rw [rw_ent] at S
       refine run S (.fa underlying37 sizeOf31 0 rfl rfl rfl <| .z) fun a w S => ?_
       rw [rw_ent] at S
       refine Zi (Vv S sizeOf31 (.t rfl) (.t rfl) (k := 5) rfl rfl (by simp) fun a w S => ?_)
       rw [rw_ent] at S
       refine Zb ?_
       rw [rw_ent] at S
       refine Zm (Za (hK4 _ _ ?_))
       rw [rw_ent] at S
       refine wp_region_lit ?_
       rw [rw_ent] at S
       refine run S (.ad (by unfold I64; omega) rfl <| .z) fun a w S => ?_
       rw [rw_ent] at S
       refine run S (.mv rfl <| .z) fun a w S => ?_
       rw [rw_ent] at S
       refine Zb ?_
       rw [rw_ent] at S
       refine Za ?_
       rw [rw_ent] at S
       exact ⟨(q + 1, (A1, cap1), (Bd, bd), (A2, cap2)), by dsimp only; omega, by dsimp only; omega, by dsimp only; rw [hst1, hst2, hst3]; exact S.pk⟩
   · have rw_q := decide_eq_false hqt
     rw [rw_q, Bool.false_and, if_neg (by decide), List.append_nil] at hst3
     refine run S (.yy (Xr (.t rfl) Ev.c) rfl <| .z) fun a w S => ?_
     rw [rw_sb] at S
     refine run S (.as rfl <| .z) fun a w S => Zb (Za (hK6 _ _ (sg S (.fa underlying77 sizeOf3 5 rfl rfl rfl <| .ld gt3 1 rfl rfl rfl <| .yy (Yp (by omega) (Yf (.t rfl) Ev.c)) rfl <| .mv rfl <| .sk rfl rfl rfl <| .sk rfl rfl rfl <| .yy (Zv (.t rfl) Ev.c) rfl <| .z) fun a w S => Ze S (.t rfl) (wp_skip (Zm (Za (hK4 _ _ (wp_region_lit (run S (.ad (by unfold I64; omega) rfl <| .mv rfl <| .z) fun a w S => Zb (Za ?_))))))))))
     exact ⟨(q + 1, (A1, cap1), (Bd, bd), (Ae, ce)), by dsimp only; omega, by dsimp only; omega, by dsimp only; rw [hst1, hst2, hst3]; exact S.pk⟩
 obtain rfl : q = l.length := by omega
 rw [List.take_of_length_le (by rw [hUl]; exact Nat.le_refl _)] at S
 have hes := kept_may (U := l.map (·.1)) hmay
 have hed := kept_dots (U := l.map (·.1)) hone
 have hel := kept_len (l.map (·.1)) (l.map (·.1))
 rw [hUl] at hel
 have hC : meantC (l.map (·.1)) = ⟨sortI (keptU (l.map (·.1)) (l.map (·.1))), (normalL (marksU (l.map (·.1))) (dotsU (l.map (·.1)))).1⟩ := rfl
 have hKn : knownU (l.map (·.1)) = normalL (marksU (l.map (·.1))) (dotsU (l.map (·.1))) := rfl
 have ho1 := meant_known hokU hfe0
 have ho2 := meant_can hokU hfe0
 have ho3 := meant_ok hokU hfe0
 rw [hKn] at ho1 ho2 ho3
 rw [hC] at ho2 ho3
 generalize meantK (l.map (·.1)) = R at *
 generalize marksU (l.map (·.1)) = M at *
 generalize dotsU (l.map (·.1)) = D at *
 generalize keptU (l.map (·.1)) (l.map (·.1)) = E at *
 have hsr := sortI_sorted hed
 have hsm : ∀ x, x ∈ sortI E ↔ x ∈ E := fun x => sortI_mem
 have hsl := sortI_len E
 have hEn : E.length ≤ 4194304 := by omega
 have hMn : M.length ≤ 2097152 := by omega
 have hDn : D.length ≤ 2097152 := by omega
 generalize sortI E = F at *
 by_cases hN : (normalL M D).2 = 0
 rotate_left
 · have rw_N : decide ((normalL M D).2 ≠ 0) = true := decide_eq_true hN
   have hk := ho1 hN
   refine sg S (.ge (by omega) rfl rfl <| .z) fun a w S => wp_seq_k fun _ hK4 => Ze S (.t rfl) (wp_exit (Zh (Zh (Ya (Za (hK1 _ _ (wp_seq_k fun _ hK1 => wp_region_lit (run S (.fa underlying37 sizeOf31 0 rfl rfl rfl <| .ld gt31 3 rfl rfl rfl <| .z) fun a w S => ?_))))))))
   (refine Zi (Ua S call110 (.cons (.t rfl) (.cons Ev.f .nil)) (o110 S.wd (by first | assumption | omega | (dsimp only; omega) | exact Sl.nil_ | exact .old S.wd (by assumption) | exact Sl.of_own S.wd (k := 0) rfl (fun _ => rfl) | exact Sl.of_own S.wd (k := 1) rfl (fun _ => rfl) | exact Sl.of_own S.wd (k := 2) rfl (fun _ => rfl) | exact Sl.of_own S.wd (k := 3) rfl (fun _ => rfl) | exact Sl.of_own S.wd (k := 4) rfl (fun _ => rfl) | (intro _ W'; first | exact .old W' (by assumption) | exact Sl.of_own W' (k := 0) rfl (fun _ => rfl) | exact Sl.of_own W' (k := 1) rfl (fun _ => rfl) | exact Sl.of_own W' (k := 2) rfl (fun _ => rfl) | exact Sl.of_own W' (k := 3) rfl (fun _ => rfl) | exact Sl.of_own W' (k := 4) rfl (fun _ => rfl)) | (simp; done) | (simp at *; omega)) (by first | assumption | omega | (dsimp only; omega) | exact Sl.nil_ | exact .old S.wd (by assumption) | exact Sl.of_own S.wd (k := 0) rfl (fun _ => rfl) | exact Sl.of_own S.wd (k := 1) rfl (fun _ => rfl) | exact Sl.of_own S.wd (k := 2) rfl (fun _ => rfl) | exact Sl.of_own S.wd (k := 3) rfl (fun _ => rfl) | exact Sl.of_own S.wd (k := 4) rfl (fun _ => rfl) | (simp; done) | (simp at *; omega)) (by first | assumption | omega | (dsimp only; omega) | exact Sl.nil_ | exact .old S.wd (by assumption) | exact Sl.of_own S.wd (k := 0) rfl (fun _ => rfl) | exact Sl.of_own S.wd (k := 1) rfl (fun _ => rfl) | exact Sl.of_own S.wd (k := 2) rfl (fun _ => rfl) | exact Sl.of_own S.wd (k := 3) rfl (fun _ => rfl) | exact Sl.of_own S.wd (k := 4) rfl (fun _ => rfl) | (simp; done) | (simp at *; omega)) (by first | assumption | omega | (dsimp only; omega) | exact Sl.nil_ | exact .old S.wd (by assumption) | exact Sl.of_own S.wd (k := 0) rfl (fun _ => rfl) | exact Sl.of_own S.wd (k := 1) rfl (fun _ => rfl) | exact Sl.of_own S.wd (k := 2) rfl (fun _ => rfl) | exact Sl.of_own S.wd (k := 3) rfl (fun _ => rfl) | exact Sl.of_own S.wd (k := 4) rfl (fun _ => rfl) | (simp; done) | (simp at *; omega)) (by first | assumption | omega | (dsimp only; omega) | exact Sl.nil_ | exact .old S.wd (by assumption) | exact Sl.of_own S.wd (k := 0) rfl (fun _ => rfl) | exact Sl.of_own S.wd (k := 1) rfl (fun _ => rfl) | exact Sl.of_own S.wd (k := 2) rfl (fun _ => rfl) | exact Sl.of_own S.wd (k := 3) rfl (fun _ => rfl) | exact Sl.of_own S.wd (k := 4) rfl (fun _ => rfl) | (intro _ W'; first | exact .old W' (by assumption) | exact Sl.of_own W' (k := 0) rfl (fun _ => rfl) | exact Sl.of_own W' (k := 1) rfl (fun _ => rfl) | exact Sl.of_own W' (k := 2) rfl (fun _ => rfl) | exact Sl.of_own W' (k := 3) rfl (fun _ => rfl) | exact Sl.of_own W' (k := 4) rfl (fun _ => rfl)) | (simp; done) | (simp at *; omega))) rfl ?_) <;> clear S a w)
   rintro _ _ ⟨rfl, hr1, rfl⟩ a w S
   refine Zb (Za (hK1 _ _ (wp_seq_k fun _ hK1 => wp_region_lit (run S (.mv rfl <| .mv rfl <| .z) fun a w S => ?_))))
   (refine Zi (Zr S call112 (.cons (.t rfl) (.cons (.t rfl) .nil)) (c112 _ _ _ _ _ (by exact Sl.of_own S.wd (k := 1) rfl (fun _ => rfl)) (by exact Sl.of_own S.wd (k := 2) rfl (fun _ => rfl)) (by assumption) (by assumption)) rfl ?_); clear S a w; rintro _ _ ⟨A11, c11, A21, c21, rfl, rfl⟩ a w S)
   refine run S (.mv rfl <| .ex rfl rfl <| .ex rfl rfl <| .z) fun a w S => Zi (Zk S zeroValue35 (cs := _) rfl rfl fun g4 a w S => Zi (Zp S sizeOf35 (.t rfl) (.t rfl) (k := 0) rfl rfl rfl (by simp [Value.oneCell']) fun a w S => run S (.as rfl <| .z) fun a w S => Zb (Za (hK1 _ _ (wp_seq_k fun _ hK1 => sg S (.mv rfl <| .yy (Yu (by omega) (Yg (.t rfl) Ev.c)) rfl <| .z) fun a w S => Zg S (.t rfl) (wp_seq_k fun _ hK5 => wp_region_lit (run S (.yy (Yn (ps := []) (us := [_, _, _]) bld37 .nil rfl) rfl <| .mv rfl <| .z) fun a w S => Zi (Zp S sizeOf37 (.t rfl) (.t rfl) (k := 7) rfl rfl rfl (by simp [Value.oneCell']) fun a w S => run S (.as rfl <| .z) fun a w S => Zb (Za (hK5 _ _ (wp_ret (Zd (Zn S (results2 S results39 (Rv.cell (k := 7) ⟨isAgg37, sizeOf37⟩ rfl rfl rfl) (Rv.tmp rfl)) ?_)))))))))))))
   rw [hk]
   replace S := ((S.nil_ 74 3 Dot.enc none).nil_ 30 3 Dot.enc none).nil_ 100 6 Ent.enc none
   exact ⟨_, _, rfl, S.wd.pk, none, 0, none, 0, none, 0, rfl, rfl⟩
 have rw_N := hN
 obtain ⟨C, rw_C⟩ : ∃ C, (normalL M D).1 = C := ⟨_, rfl⟩
 rw [rw_C] at ho2 ho3
 refine sg S (.ge (by omega) rfl rfl <| .z) fun a w S => wp_seq_k fun _ hK4 => Ze S (.t rfl) (wp_exit (Zh (Zh (Ya (Za (hK1 _ _ (wp_seq_k fun _ hK1 => wp_region_lit (run S (.fa underlying37 sizeOf31 0 rfl rfl rfl <| .ld gt31 3 rfl rfl rfl <| .z) fun a w S => ?_))))))))
 (refine Zi (Ua S call110 (.cons (.t rfl) (.cons Ev.f .nil)) (o110 S.wd (by first | assumption | omega | (dsimp only; omega) | exact Sl.nil_ | exact .old S.wd (by assumption) | exact Sl.of_own S.wd (k := 0) rfl (fun _ => rfl) | exact Sl.of_own S.wd (k := 1) rfl (fun _ => rfl) | exact Sl.of_own S.wd (k := 2) rfl (fun _ => rfl) | exact Sl.of_own S.wd (k := 3) rfl (fun _ => rfl) | exact Sl.of_own S.wd (k := 4) rfl (fun _ => rfl) | (intro _ W'; first | exact .old W' (by assumption) | exact Sl.of_own W' (k := 0) rfl (fun _ => rfl) | exact Sl.of_own W' (k := 1) rfl (fun _ => rfl) | exact Sl.of_own W' (k := 2) rfl (fun _ => rfl) | exact Sl.of_own W' (k := 3) rfl (fun _ => rfl) | exact Sl.of_own W' (k := 4) rfl (fun _ => rfl)) | (simp; done) | (simp at *; omega)) (by first | assumption | omega | (dsimp only; omega) | exact Sl.nil_ | exact .old S.wd (by assumption) | exact Sl.of_own S.wd (k := 0) rfl (fun _ => rfl) | exact Sl.of_own S.wd (k := 1) rfl (fun _ => rfl) | exact Sl.of_own S.wd (k := 2) rfl (fun _ => rfl) | exact Sl.of_own S.wd (k := 3) rfl (fun _ => rfl) | exact Sl.of_own S.wd (k := 4) rfl (fun _ => rfl) | (simp; done) | (simp at *; omega)) (by first | assumption | omega | (dsimp only; omega) | exact Sl.nil_ | exact .old S.wd (by assumption) | exact Sl.of_own S.wd (k := 0) rfl (fun _ => rfl) | exact Sl.of_own S.wd (k := 1) rfl (fun _ => rfl) | exact Sl.of_own S.wd (k := 2) rfl (fun _ => rfl) | exact Sl.of_own S.wd (k := 3) rfl (fun _ => rfl) | exact Sl.of_own S.wd (k := 4) rfl (fun _ => rfl) | (simp; done) | (simp at *; omega)) (by first | assumption | omega | (dsimp only; omega) | exact Sl.nil_ | exact .old S.wd (by assumption) | exact Sl.of_own S.wd (k := 0) rfl (fun _ => rfl) | exact Sl.of_own S.wd (k := 1) rfl (fun _ => rfl) | exact Sl.of_own S.wd (k := 2) rfl (fun _ => rfl) | exact Sl.of_own S.wd (k := 3) rfl (fun _ => rfl) | exact Sl.of_own S.wd (k := 4) rfl (fun _ => rfl) | (simp; done) | (simp at *; omega)) (by first | assumption | omega | (dsimp only; omega) | exact Sl.nil_ | exact .old S.wd (by assumption) | exact Sl.of_own S.wd (k := 0) rfl (fun _ => rfl) | exact Sl.of_own S.wd (k := 1) rfl (fun _ => rfl) | exact Sl.of_own S.wd (k := 2) rfl (fun _ => rfl) | exact Sl.of_own S.wd (k := 3) rfl (fun _ => rfl) | exact Sl.of_own S.wd (k := 4) rfl (fun _ => rfl) | (intro _ W'; first | exact .old W' (by assumption) | exact Sl.of_own W' (k := 0) rfl (fun _ => rfl) | exact Sl.of_own W' (k := 1) rfl (fun _ => rfl) | exact Sl.of_own W' (k := 2) rfl (fun _ => rfl) | exact Sl.of_own W' (k := 3) rfl (fun _ => rfl) | exact Sl.of_own W' (k := 4) rfl (fun _ => rfl)) | (simp; done) | (simp at *; omega))) rfl ?_) <;> clear S a w)
 rintro _ _ ⟨rfl, hr1, rfl⟩ a w S
 refine Zb (Za (hK1 _ _ (wp_seq_k fun _ hK1 => wp_region_lit (run S (.mv rfl <| .mv rfl <| .z) fun a w S => ?_))))
 (refine Zi (Zr S call112 (.cons (.t rfl) (.cons (.t rfl) .nil)) (c112 _ _ _ _ _ (by exact Sl.of_own S.wd (k := 1) rfl (fun _ => rfl)) (by exact Sl.of_own S.wd (k := 2) rfl (fun _ => rfl)) (by assumption) (by assumption)) rfl ?_); clear S a w; rintro _ _ ⟨A11, c11, A21, c21, rfl, rfl⟩ a w S)
 rw [rw_N] at S
 rw [rw_C] at S
 refine run S (.mv rfl <| .ex rfl rfl <| .ex rfl rfl <| .z) fun a w S => Zi (Zk S zeroValue35 (cs := _) rfl rfl fun g4 a w S => Zi (Zp S sizeOf35 (.t rfl) (.t rfl) (k := 0) rfl rfl rfl (by simp [Value.oneCell']) fun a w S => run S (.as rfl <| .z) fun a w S => Zb (Za (hK1 _ _ (wp_seq_k fun _ hK1 => sg S (.mv rfl <| .yy (Yp (by omega) (Yg (.t rfl) Ev.c)) rfl <| .z) fun a w S => Ze S (.t rfl) (wp_skip (Za (hK1 _ _ (wp_seq_k fun _ hK1 => wp_region_lit (run S (.la gt35 0 rfl rfl rfl <| .fa underlying37 sizeOf35 1 rfl rfl rfl <| .z) fun a w S => Zi (Yw S sizeOf35 (.t rfl) (.t rfl) (k := 6) rfl rfl (by simp [Value.oneCell']) (by simp) fun a w S => Zb (Za (hK1 _ _ (wp_seq_k fun _ hK1 => wp_seq_k fun _ hK5 => wp_region_lit (run S (.la gt37 6 rfl rfl rfl <| .z) fun a w S => ?_)))))))))))))))
 rw [← hsl] at S
 refine Yk S (Zf call66 (.cons (.t rfl) .nil) (fun _ w' W' => c66 w' _ _ _ ⟨F, C⟩ (Sl.of_own W' (k := 3) rfl (fun _ => rfl)) ⟨Sl.of_own W' (k := 1) rfl (fun _ => rfl), Sl.of_own W' (k := 2) rfl (fun _ => rfl)⟩)) rfl ?_
 clear S a w
 intro a w S
 by_cases hE : canE ⟨F, C⟩ = 0
 · have rw_E := hE
   have hk := ho3 hN hE
   refine run S (.as rfl <| .z) fun a w S => ?_
   rw [rw_E] at S
   refine Zb (Za (hK5 _ _ (sg S (.mv rfl <| .yy (Yp (by omega) (Yg (.t rfl) Ev.c)) rfl <| .z) fun a w S => Ze S (.t rfl) (wp_skip (Za (hK1 _ _ (wp_seq_k fun _ hK1 => wp_region_lit (run S (.la gt37 6 rfl rfl rfl <| .z) fun a w S => Zi (Zp S sizeOf37 (.t rfl) (.t rfl) (k := 7) rfl rfl rfl (by simp [Value.oneCell']) fun a w S => run S (.ac rfl <| .z) fun a w S => Zb (Za (hK1 _ _ (wp_ret (Zn S (results2 S results39 (Rv.cell (k := 7) ⟨isAgg37, sizeOf37⟩ rfl rfl rfl) (Rv.tmp rfl)) ?_)))))))))))))
   rw [hk]
   exact ⟨_, _, rfl, S.wd.pk, Ae, ce, A11, c11, A21, c21, rfl, rfl⟩
 · have rw_E : decide (canE ⟨F, C⟩ ≠ 0) = true := decide_eq_true hE
   have hk := ho2 hN hE
   refine run S (.as rfl <| .z) fun a w S => Zb (Za (hK5 _ _ (sg S (.mv rfl <| .yy (Yu (by omega) (Yg (.t rfl) Ev.c)) rfl <| .z) fun a w S => Zg S (.t rfl) (wp_seq_k fun _ hK5 => wp_region_lit (run S (.yy (Yn (ps := []) (us := [_, _, _]) bld37 .nil rfl) rfl <| .mv rfl <| .z) fun a w S => Zi (Zp S sizeOf37 (.t rfl) (.t rfl) (k := 7) rfl rfl rfl (by simp [Value.oneCell']) fun a w S => run S (.as rfl <| .z) fun a w S => Zb (Za (hK5 _ _ (wp_ret (Zd (Zn S (results2 S results39 (Rv.cell (k := 7) ⟨isAgg37, sizeOf37⟩ rfl rfl rfl) (Rv.tmp rfl)) ?_)))))))))))
   rw [hk]
   replace S := ((S.nil_ 74 3 Dot.enc none).nil_ 30 3 Dot.enc none).nil_ 100 6 Ent.enc none
   exact ⟨_, _, rfl, S.wd.pk, none, 0, none, 0, none, 0, rfl, rfl⟩
end Go.Proofs.YtakpdbmdfnialaaGreat
namespace Go.Fw
open Go.RowKit
abbrev Nam := List UInt8 × Dot
def issuedB (met : List Nam) (u : Upd) : Bool := !decide ((u.key, u.dot) ∈ met) && decide (mayE u = 0)
def issuedF : Nat → List Nam → List SLog → Int × Int
 | _, _, [] => (0, 0)
 | i, met, x :: r => if x.kind = 1 then (if issuedB met x.u.1 = true then issuedF (i + 1) ((x.u.1.key, x.u.1.dot) :: met) r else ((i : Int), 260)) else issuedF (i + 1) met r
def issuedK (l : List SLog) : Int × Int := issuedF 0 [] l
theorem issuedF_at {l : List SLog} {x : SLog} {i : Nat} (h : l[i]? = some x) (met : List Nam) : issuedF i met (l.drop i) = if x.kind = 1 then (if issuedB met x.u.1 = true then issuedF (i + 1) ((x.u.1.key, x.u.1.dot) :: met) (l.drop (i + 1)) else ((i : Int), 260)) else issuedF (i + 1) met (l.drop (i + 1)) := by
 obtain ⟨h1, h2⟩ := List.getElem?_eq_some_iff.1 h
 rw [List.drop_eq_getElem_cons h1, h2, issuedF]
def MetN (m : List (Nam × Unit)) (met : List Nam) : Prop := ∀ k, k ∈ m.map (·.1) ↔ k ∈ met
theorem metN_put {m : List (Nam × Unit)} {met : List Nam} (h : MetN m met) (k : Nam) : MetN (aput m k ()) (k :: met) := fun x => by
 rw [aput_keys, List.mem_cons]
 split
 · rename_i hk
   rw [h x]
   exact ⟨.inr, fun h1 => h1.elim (fun e => by rw [e]; exact (h k).1 hk) id⟩
 · rw [List.mem_append, List.mem_singleton, h x]
   exact Or.comm
theorem metN_get {m : List (Nam × Unit)} {met : List Nam} (h : MetN m met) (k : Nam) : (aget m k).isSome = decide (k ∈ met) := by
 rw [Bool.eq_iff_iff, decide_eq_true_eq, ← h k]
 constructor
 · intro h1
   refine Decidable.byContradiction fun h2 => ?_
   rw [aget_none.2 h2] at h1
   cases h1
 · intro h1
   cases e : aget m k with
   | none => exact absurd h1 (aget_none.1 e)
   | some _ => rfl
end Go.Fw
namespace Go.Proofs.YtakpdbmdfnialaaGreat
open Go.Fw Go.Proofs Go.RowKit Go.Proofs.Tryz
abbrev kv171 : Nam → Value := fun p => .agg #[.string (bs p.1), .int .i64 p.2.node, .int .i64 p.2.life, .int .i64 p.2.count]
abbrev vv171 : Unit → Value := fun _ => .agg #[]
theorem run_eqNam (a b : Nam) (w : World) : (Op.equal 173 (kv171 a) (kv171 b)).run Tryz.prog w = .ok (decide (a = b)) w := by
 have h := eq173 (x0 := bs a.1) (y0 := bs b.1) (x1 := a.2.node) (y1 := b.2.node) (x2 := a.2.life) (y2 := b.2.life) (x3 := a.2.count) (y3 := b.2.count)
 have e : decide (bs a.1 = bs b.1 ∧ a.2.node = b.2.node ∧ a.2.life = b.2.life ∧ a.2.count = b.2.count) = decide (a = b) := decide_eq_decide.2 (by
   obtain ⟨k, d⟩ := a
   obtain ⟨k', d'⟩ := b
   cases d; cases d'
   simp [bs_inj])
 rw [e] at h
 exact (h w).2
theorem ask_nam (k : Nam) (β : Type) (vv : β → Value) (w : World) : ∀ (l : List (Nam × β)) (i : Nat), (Instr.findAsking 173 (kv171 k) (mL kv171 vv i l) i).run Tryz.prog w = .ok ((afind k i l).map fun p => (p.1, vv p.2)) w
 | [], i => by simp [mL, Instr.findAsking, afind]
 | (x, v) :: r, i => by
   simp only [mL, Instr.findAsking, Sem.run_bind, run_eqNam, Result.andThen_ok, afind]
   by_cases e : k = x
   · subst e
     simp
   · rw [if_neg e, decide_eq_false e]
     simpa using ask_nam k β vv w r (i + 1)
theorem keyNam : KeyL kv171 Tryz.prog 173 := by
 refine ⟨fun k β vv l w => ?_, fun b k w => ?_, fun k => ?_, fun k k' e => ?_⟩
 · have h := ask_nam k β vv w l 0
   cases l with
   | nil => simp [Instr.findKey, run_underlying underlying173, mL, Instr.findNow, afind]
   | cons p r => simp [Instr.findKey, run_underlying underlying173, mL, Instr.findNow, Instr.sameNow] at h ⊢; exact h
 · have hI : ∀ (n : Nat) (i : Int), (Instr.checkKey b (n + 1) 3 (.int .i64 i)).run Tryz.prog w = .ok () w := fun n i => by
     simp only [Instr.checkKey, Sem.run_bind, run_underlying underlying3, Result.andThen_ok]
     rfl
   have hS : ∀ (n : Nat) (s : ByteArray), (Instr.checkKey b (n + 1) 9 (.string s)).run Tryz.prog w = .ok () w := fun n s => by
     simp only [Instr.checkKey, Sem.run_bind, run_underlying underlying9, Result.andThen_ok]
     rfl
   have hD : ∀ (n : Nat) (x y z : Int), (Instr.checkKey b (n + 1 + 1) 74 (.agg #[.int .i64 x, .int .i64 y, .int .i64 z])).run Tryz.prog w = .ok () w := fun n x y z => by
     rw [Instr.checkKey]
     simp only [Sem.run_bind, run_underlying underlying74, Result.andThen_ok]
     simp [part, isAgg3, hI]
   have hc : (Instr.checkKey b (9997 + 1 + 1 + 1) 173 (kv171 k)).run Tryz.prog w = .ok () w := by
     rw [Instr.checkKey]
     simp only [Sem.run_bind, run_underlying underlying173, Result.andThen_ok]
     simp [part, isAgg9, isAgg74, sizeOf74, hS, hD]
   exact hc
 · have hb : (bs k.1 == bs k.1) = true := by
     show (k.1.toArray == k.1.toArray) = true
     simp
   have : Instr.sameBits (9999 + 1) (kv171 k) (kv171 k) = true := by simp [Instr.sameBits, hb]
   exact this
 · obtain ⟨k, d⟩ := k
   obtain ⟨k', d'⟩ := k'
   cases d; cases d'
   simp [bs_inj] at e
   simp [e]
theorem mapT171 : MapT kv171 vv171 Tryz.prog 171 () := mapT_mk underlying171 keyNam zeroValue144
theorem bld170 : BuildT Tryz.prog 170 [Value.int .i64 0, Value.nilFunc] [(0, 1), (1, 1)] := ⟨⟨_, zeroValue170, rfl⟩, _, underlying170, fun w => by simp [sizeOf3, sizeOf168]⟩
theorem o127 {w0 w : World} {L : List Chunk} {gm gc : Nat} {m : List (Nam × Unit)} {met : List Nam} {e : TypeId} (W : Wd w0 (.blk gm (mapK kv171 vv171 m) :: .blk gc (.cells #[.map (some gm)] e) :: L) w) (v : Value) (x : SLog) (hm : MetN m met) (h : LogRd w0 x) :
   RetsO Tryz.prog 127 #[v, .agg (SLog.enc x).toArray, .pointer (some ⟨gc, 0, none⟩)] w0 w fun u L' => u = .bool (issuedB met x.u.1) ∧ L' = .blk gm (mapK kv171 vv171 (aput m (x.u.1.key, x.u.1.dot) ())) :: .blk gc (.cells #[.map (some gm)] e) :: L := by
 have r1 := h.u.ents
 have r2 := h.u.ctx
 have rw_g := metN_get hm (x.u.1.key, x.u.1.dot)
 unfold Go.Fw.RetsO
 refine enterW3 W func127 rfl ntmps127 rfl fun a S => wp_seq_k fun _ hK1 => wp_region_lit (Zi (Zy S (.t rfl) rfl fun g1 a w S => run S (.ac rfl <| .z) fun a w S => Zb (Za (hK1 _ _ (wp_seq_k fun _ hK1 => wp_region_lit (run S (.fa underlying96 sizeOf77 3 rfl rfl rfl <| .fa underlying77 sizeOf9 3 rfl rfl rfl <| .ld gt9 0 rfl rfl rfl <| .fa underlying96 sizeOf77 3 rfl rfl rfl <| .fa underlying77 sizeOf74 4 rfl rfl rfl <| .la gt74 0 rfl rfl rfl <| .yy (Yn (ps := [(0, Go.Operand.tmp 11), (1, Go.Operand.tmp 14)]) (us := [_, _, _, _]) bld173 (.cons (.t rfl) (.cons (.t rfl) .nil)) rfl) rfl <| .z) fun a w S => Zi (Zk S zeroValue173 (cs := _) rfl rfl fun g2 a w S => Zi (Zp S sizeOf173 (.t rfl) (.t rfl) (k := 0) rfl rfl rfl (by simp [Value.oneCell']) fun a w S => Zb (Za (hK1 _ _ (wp_seq_k fun _ hK1 => wp_region_lit (run S (.ld gt171 3 rfl rfl rfl <| .la gt173 0 rfl rfl rfl <| .z) fun a w S => Yk S (Yr.ys (ys_lookOk (k := (x.u.1.key, x.u.1.dot)) mapT171 (.t rfl) (.t rfl) (j := 2) rfl)) rfl ?_))))))))))))
 clear S a w
 intro a w S
 refine run S (.mv rfl <| .z) fun a w S => ?_
 rw [rw_g] at S
 refine run S (.ex rfl rfl <| .ex rfl rfl <| .z) fun a w S => Zi (Zk S zeroValue144 (cs := _) rfl rfl fun g3 a w S => Zi (Zp S sizeOf144 (.t rfl) (.t rfl) (k := 0) rfl rfl rfl (by simp [Value.oneCell']) fun a w S => run S (.as rfl <| .z) fun a w S => Zb (Za (hK1 _ _ (wp_seq_k fun _ hK1 => wp_region_lit (run S (.ld gt171 4 rfl rfl rfl <| .la gt173 1 rfl rfl rfl <| .yy (Yn (ps := []) (us := []) bld144 .nil rfl) rfl <| .z) fun a w S => Zi (op_mapUpd (k := (x.u.1.key, x.u.1.dot)) (v := ()) S mapT171 (.t rfl) (.t rfl) (.t rfl) (j := 3) rfl ?_)))))))
 clear S a w
 intro a w S
 by_cases hmt : (x.u.1.key, x.u.1.dot) ∈ met
 · have rw_t := decide_eq_true hmt
   refine Zb ?_
   rw [rw_t] at S
   refine Za (hK1 _ _ (sg S (.mv rfl <| .nt rfl <| .mv rfl <| .sk rfl rfl rfl <| .sk rfl rfl rfl <| .sk rfl rfl rfl <| .sk rfl rfl rfl <| .yy (Zv (.t rfl) Ev.c) rfl <| .as rfl <| .z) fun a w S => wp_ret (Zn S (results1 S results127 (Rv.tmp rfl)) ?_)))
   exact ⟨_, _, rfl, S.wd.pk, by unfold issuedB; rw [rw_t]; rfl, rfl⟩
 · have rw_t := decide_eq_false hmt
   by_cases hmy : mayE x.u.1 = 0
   · have rw_m := decide_eq_true hmy
     refine Zb ?_
     rw [rw_t] at S
     refine Za (hK1 _ _ (sg S (.mv rfl <| .nt rfl <| .mv rfl <| .gy rfl rfl (Zc (FieldT.mk underlying96 rfl sizeOf77 rfl) (.t rfl) (i' := 3) rfl) <| .gy rfl rfl (Yc ⟨isAgg77, sizeOf77⟩ (.t rfl) (k := 2) rfl rfl) <| .gx rfl rfl (Zf call106 (.cons (.t rfl) .nil) (fun hp w W => c106 _ _ _ _ _ (by exact .old W (by assumption)) (by exact .old W (by assumption)))) <| .gy rfl rfl (Yu (by omega) (Yj (.t rfl) Ev.c)) <| .yy (Zz (.t rfl) (.t rfl)) rfl <| .as rfl <| .z) fun a w S => wp_ret (Zn S (results1 S results127 (Rv.tmp rfl)) ?_)))
     exact ⟨_, _, rfl, S.wd.pk, by unfold issuedB; rw [rw_t, rw_m]; rfl, rfl⟩
   · have rw_m := decide_eq_false hmy
     refine Zb ?_
     rw [rw_t] at S
     refine Za (hK1 _ _ (sg S (.mv rfl <| .nt rfl <| .mv rfl <| .gy rfl rfl (Zc (FieldT.mk underlying96 rfl sizeOf77 rfl) (.t rfl) (i' := 3) rfl) <| .gy rfl rfl (Yc ⟨isAgg77, sizeOf77⟩ (.t rfl) (k := 2) rfl rfl) <| .gx rfl rfl (Zf call106 (.cons (.t rfl) .nil) (fun hp w W => c106 _ _ _ _ _ (by exact .old W (by assumption)) (by exact .old W (by assumption)))) <| .gy rfl rfl (Yp (by omega) (Yj (.t rfl) Ev.c)) <| .yy (Zz (.t rfl) (.t rfl)) rfl <| .as rfl <| .z) fun a w S => wp_ret (Zn S (results1 S results127 (Rv.tmp rfl)) ?_)))
     exact ⟨_, _, rfl, S.wd.pk, by unfold issuedB; rw [rw_t, rw_m]; rfl, rfl⟩
theorem o126 {w0 w : World} {L : List Chunk} {gm gc : Nat} {e : TypeId} (W : Wd w0 (.blk gm (mapK kv171 vv171 []) :: .blk gc (.cells #[.map (some gm)] e) :: L) w) (v : Value) (l : List SLog) (h : Sl SLog.enc 22 w0 w0.heap.size v l) (hl : LogsRd w0 l) :
   RetsO Tryz.prog 126 #[.agg #[.int .i64 1, .func (.func 127) #[] #[.pointer (some ⟨gc, 0, none⟩)]], v] w0 w fun u L' => u = .tuple #[.int .i64 (issuedK l).1, .int .i64 (issuedK l).2] ∧ ∃ m, L' = .blk gm (mapK kv171 vv171 m) :: .blk gc (.cells #[.map (some gm)] e) :: L := by
 obtain ⟨A, cap, rfl, hl0, hcap, hA⟩ := h
 unfold Go.Fw.RetsO
 refine enterW2 W func126 rfl ntmps126 rfl fun a S => wp_seq_k fun _ hK1 => wp_region_lit (Zi (Zy S (.t rfl) rfl fun g1 a w S => run S (.ac rfl <| .ac rfl <| .z) fun a w S => Zb (Za (hK1 _ _ (wp_seq_k fun _ hK1 => sg S (.mv rfl <| .ln underlying84 rfl <| .mc rfl <| .z) fun a w S => wp_block ?_)))))
 refine Xn S [10] (X := Nat × List (Nam × Unit) × List Nam) (fun q => [(10, true, .int .i64 (q.1 : Int))])
   (fun q => .blk g1 (.cells #[.int .i64 1, .func (.func 127) #[] #[.pointer (some ⟨gc, 0, none⟩)]] 170) :: .blk gm (mapK kv171 vv171 q.2.1) :: .blk gc (.cells #[.map (some gm)] e) :: L)
   (fun q => q.1 ≤ l.length ∧ MetN q.2.1 q.2.2 ∧ issuedF q.1 q.2.2 (l.drop q.1) = issuedK l) (fun q => l.length - q.1) (0, [], []) ⟨Nat.zero_le _, fun k => by simp, rfl⟩ ?_
 clear S
 rintro ⟨q, m, met⟩ a w ⟨hq, hm, hF⟩ S
 dsimp only at hq hm hF S
 by_cases hlt : q < l.length
 · obtain ⟨gq, oq, x, rfl, hx, hd, hc⟩ := Yh hA hlt
   have hxr := hl x (List.mem_of_getElem? hx)
   rw [issuedF_at hx] at hF
   by_cases hk : x.kind = 1
   · have rw_k := decide_eq_true hk
     rw [if_pos hk] at hF
     cases hB : issuedB met x.u.1 with
     | true =>
       have rw_B := hB
       rw [if_pos hB] at hF
       have halt_r := trivial
       refine sg S (.lt (by omega) rfl rfl <| .z) fun a w S => wp_seq_k fun _ hK2 => Zg S (.t rfl) (wp_skip (Za (hK2 _ _ (wp_seq_k fun _ hK2 => wp_block (wp_seq_k fun _ hK3 => wp_region_lit (run S (.mv rfl <| .ix underlying84 sizeOf96 (by omega) rfl rfl <| .yy (Zu ⟨isAgg96, sizeOf96⟩ (.t rfl) (vs := [_, _, _, _, _, _, _, _, _, _, _, _, _, _, _, _, _, _, _, _, _, _]) rfl (fun _ => hc)) rfl <| .z) fun a w S => Zi (Zk S zeroValue96 (cs := _) rfl rfl fun g2 a w S => run S (.as rfl <| .z) fun a w S => Zi (Zp S sizeOf96 (.t rfl) (.t rfl) (k := 0) rfl rfl rfl (by simp [Value.oneCell']) fun a w S => Zb (Za (hK3 _ _ (wp_seq_k fun _ hK3 => ?_)))))))))))
       clear halt_r
       refine Vz S (by kernel_rfl) [.blk g2 (.cells (SLog.enc x).toArray 96), .blk g1 (.cells #[.int .i64 1, .func (.func 127) #[] #[.pointer (some ⟨gc, 0, none⟩)]] 170)] ?_
       clear S
       intro a w S
       have hold_r := trivial
       refine hy 0 S rfl (Zc (FieldT.mk underlying96 rfl sizeOf3 rfl) (.t rfl) (i' := 0) rfl) rfl fun a w S => hy 1 S rfl (Zt ⟨isAgg3, sizeOf3⟩ (.t rfl) (k := 0) rfl rfl) rfl fun a w S => hy 2 S rfl (Zc (FieldT.mk underlying170 rfl sizeOf3 rfl) (.t rfl) (i' := 0) rfl) rfl fun a w S => hy 3 S rfl (Zt ⟨isAgg3, sizeOf3⟩ (.t rfl) (k := 1) rfl rfl) rfl fun a w S => hy 4 S rfl (Yu (by omega) (Yj (.t rfl) (.t rfl))) rfl fun a w S => ?_
       refine hy 5 S rfl (Zj (.t rfl)) rfl fun a w S => hyt 6 S rfl rfl rfl (Zc (FieldT.mk underlying170 rfl sizeOf168 rfl) (.t rfl) (i' := 1) rfl) rfl fun a w S => hyt 7 S rfl rfl rfl (Zt ⟨isAgg168, sizeOf168⟩ (.t rfl) (k := 1) rfl rfl) rfl fun a w S => hyt 8 S rfl rfl rfl (Zj (.t rfl)) rfl fun a w S => hyt 9 S rfl rfl rfl (Zj (.t rfl)) rfl fun a w S => ?_
       refine hyt 10 S rfl rfl rfl (Vk underlying84 sizeOf96 (.t rfl) (.t rfl) (fun _ => by first | omega | (simp; done) | (simp; omega))) rfl fun a w S => hyt 11 S rfl rfl rfl (Yc ⟨isAgg96, sizeOf96⟩ (.t rfl) (k := 0) rfl rfl) rfl fun a w S => ?_
       (replace S := S.pull 3 rfl; try simp only [List.set_cons_zero, List.set_cons_succ, List.eraseIdx_cons_succ, List.eraseIdx_cons_zero] at S; replace S := S.pull 3 rfl; try simp only [List.set_cons_zero, List.set_cons_succ, List.eraseIdx_cons_succ, List.eraseIdx_cons_zero] at S; refine h_mg (i := 12) S rfl (by kernel_rfl) rfl rfl (op_callVO (cs := [_]) S (.t rfl) call127 (.cons (.t rfl) (.cons (.t rfl) .nil)) (o127 S.wd _ _ (by first | assumption | omega | (dsimp only; omega) | exact Sl.nil_ | exact .old S.wd (by assumption) | exact Sl.of_own S.wd (k := 0) rfl (fun _ => rfl) | exact Sl.of_own S.wd (k := 1) rfl (fun _ => rfl) | exact Sl.of_own S.wd (k := 2) rfl (fun _ => rfl) | exact Sl.of_own S.wd (k := 3) rfl (fun _ => rfl) | (simp; done) | (simp at *; omega)) (by first | assumption | omega | (dsimp only; omega) | exact Sl.nil_ | exact .old S.wd (by assumption) | exact Sl.of_own S.wd (k := 0) rfl (fun _ => rfl) | exact Sl.of_own S.wd (k := 1) rfl (fun _ => rfl) | exact Sl.of_own S.wd (k := 2) rfl (fun _ => rfl) | exact Sl.of_own S.wd (k := 3) rfl (fun _ => rfl) | (simp; done) | (simp at *; omega))) rfl ?_) <;> clear S a w)
       rintro _ _ ⟨rfl, rfl⟩ a w S
       rw [rw_B] at S
       refine Zw S ?_
       refine hyt 13 S rfl rfl rfl (Xi (.t rfl)) rfl fun a w S => hy 14 S rfl (Zz (.t rfl) (.t rfl)) rfl fun a w S => Yq (by kernel_rfl) (Za (hK3 _ _ (Ze S (.t rfl) (wp_skip (Zm (Za (hK2 _ _ (wp_region_lit (run S (.ad (by unfold I64; omega) rfl <| .mv rfl <| .z) fun a w S => Zb (Za ?_))))))))))
       exact ⟨(q + 1, aput m (x.u.1.key, x.u.1.dot) (), (x.u.1.key, x.u.1.dot) :: met), ⟨by dsimp only; omega, metN_put hm _, hF⟩, by dsimp only; omega, S.pk⟩
     | false =>
       have rw_B := hB
       rw [if_neg (by rw [hB]; decide)] at hF
       have halt_r := trivial
       refine sg S (.lt (by omega) rfl rfl <| .z) fun a w S => wp_seq_k fun _ hK2 => Zg S (.t rfl) (wp_skip (Za (hK2 _ _ (wp_seq_k fun _ hK2 => wp_block (wp_seq_k fun _ hK3 => wp_region_lit (run S (.mv rfl <| .ix underlying84 sizeOf96 (by omega) rfl rfl <| .yy (Zu ⟨isAgg96, sizeOf96⟩ (.t rfl) (vs := [_, _, _, _, _, _, _, _, _, _, _, _, _, _, _, _, _, _, _, _, _, _]) rfl (fun _ => hc)) rfl <| .z) fun a w S => Zi (Zk S zeroValue96 (cs := _) rfl rfl fun g2 a w S => run S (.as rfl <| .z) fun a w S => Zi (Zp S sizeOf96 (.t rfl) (.t rfl) (k := 0) rfl rfl rfl (by simp [Value.oneCell']) fun a w S => Zb (Za (hK3 _ _ (wp_seq_k fun _ hK3 => ?_)))))))))))
       clear halt_r
       refine Vz S (by kernel_rfl) [.blk g2 (.cells (SLog.enc x).toArray 96), .blk g1 (.cells #[.int .i64 1, .func (.func 127) #[] #[.pointer (some ⟨gc, 0, none⟩)]] 170)] ?_
       clear S
       intro a w S
       have hold_r := trivial
       refine hy 0 S rfl (Zc (FieldT.mk underlying96 rfl sizeOf3 rfl) (.t rfl) (i' := 0) rfl) rfl fun a w S => hy 1 S rfl (Zt ⟨isAgg3, sizeOf3⟩ (.t rfl) (k := 0) rfl rfl) rfl fun a w S => hy 2 S rfl (Zc (FieldT.mk underlying170 rfl sizeOf3 rfl) (.t rfl) (i' := 0) rfl) rfl fun a w S => hy 3 S rfl (Zt ⟨isAgg3, sizeOf3⟩ (.t rfl) (k := 1) rfl rfl) rfl fun a w S => hy 4 S rfl (Yu (by omega) (Yj (.t rfl) (.t rfl))) rfl fun a w S => ?_
       refine hy 5 S rfl (Zj (.t rfl)) rfl fun a w S => hyt 6 S rfl rfl rfl (Zc (FieldT.mk underlying170 rfl sizeOf168 rfl) (.t rfl) (i' := 1) rfl) rfl fun a w S => hyt 7 S rfl rfl rfl (Zt ⟨isAgg168, sizeOf168⟩ (.t rfl) (k := 1) rfl rfl) rfl fun a w S => hyt 8 S rfl rfl rfl (Zj (.t rfl)) rfl fun a w S => hyt 9 S rfl rfl rfl (Zj (.t rfl)) rfl fun a w S => ?_
       refine hyt 10 S rfl rfl rfl (Vk underlying84 sizeOf96 (.t rfl) (.t rfl) (fun _ => by first | omega | (simp; done) | (simp; omega))) rfl fun a w S => hyt 11 S rfl rfl rfl (Yc ⟨isAgg96, sizeOf96⟩ (.t rfl) (k := 0) rfl rfl) rfl fun a w S => ?_
       (replace S := S.pull 3 rfl; try simp only [List.set_cons_zero, List.set_cons_succ, List.eraseIdx_cons_succ, List.eraseIdx_cons_zero] at S; replace S := S.pull 3 rfl; try simp only [List.set_cons_zero, List.set_cons_succ, List.eraseIdx_cons_succ, List.eraseIdx_cons_zero] at S; refine h_mg (i := 12) S rfl (by kernel_rfl) rfl rfl (op_callVO (cs := [_]) S (.t rfl) call127 (.cons (.t rfl) (.cons (.t rfl) .nil)) (o127 S.wd _ _ (by first | assumption | omega | (dsimp only; omega) | exact Sl.nil_ | exact .old S.wd (by assumption) | exact Sl.of_own S.wd (k := 0) rfl (fun _ => rfl) | exact Sl.of_own S.wd (k := 1) rfl (fun _ => rfl) | exact Sl.of_own S.wd (k := 2) rfl (fun _ => rfl) | exact Sl.of_own S.wd (k := 3) rfl (fun _ => rfl) | (simp; done) | (simp at *; omega)) (by first | assumption | omega | (dsimp only; omega) | exact Sl.nil_ | exact .old S.wd (by assumption) | exact Sl.of_own S.wd (k := 0) rfl (fun _ => rfl) | exact Sl.of_own S.wd (k := 1) rfl (fun _ => rfl) | exact Sl.of_own S.wd (k := 2) rfl (fun _ => rfl) | exact Sl.of_own S.wd (k := 3) rfl (fun _ => rfl) | (simp; done) | (simp at *; omega))) rfl ?_) <;> clear S a w)
       rintro _ _ ⟨rfl, rfl⟩ a w S
       rw [rw_B] at S
       refine Zw S ?_
       refine hyt 13 S rfl rfl rfl (Xi (.t rfl)) rfl fun a w S => hy 14 S rfl (Zz (.t rfl) (.t rfl)) rfl fun a w S => Yq (by kernel_rfl) (Za (hK3 _ _ (Zg S (.t rfl) (sg S (.mv rfl <| .as rfl <| .ac rfl <| .z) fun a w S => wp_ret (Zq (Zd (Zd (Zq (Zd (Zn S (results2 S results126 (Rv.tmp rfl) (Rv.tmp rfl)) ?_))))))))))
       rw [← hF]
       exact ⟨_, _, rfl, S.wd.pk, rfl, aput m (x.u.1.key, x.u.1.dot) (), rfl⟩
   · have rw_k := decide_eq_false hk
     rw [if_neg hk] at hF
     refine sg S (.lt (by omega) rfl rfl <| .z) fun a w S => wp_seq_k fun _ hK2 => Zg S (.t rfl) (wp_skip (Za (hK2 _ _ (wp_seq_k fun _ hK2 => wp_block (wp_seq_k fun _ hK3 => wp_region_lit (run S (.mv rfl <| .ix underlying84 sizeOf96 (by omega) rfl rfl <| .yy (Zu ⟨isAgg96, sizeOf96⟩ (.t rfl) (vs := [_, _, _, _, _, _, _, _, _, _, _, _, _, _, _, _, _, _, _, _, _, _]) rfl (fun _ => hc)) rfl <| .z) fun a w S => Zi (Zk S zeroValue96 (cs := _) rfl rfl fun g2 a w S => run S (.as rfl <| .z) fun a w S => Zi (Zp S sizeOf96 (.t rfl) (.t rfl) (k := 0) rfl rfl rfl (by simp [Value.oneCell']) fun a w S => Zb (Za (hK3 _ _ (wp_seq_k fun _ hK3 => Ye S (by kernel_rfl) (by kernel_rfl) fun a S => qrun S (.fa underlying96 sizeOf3 0 rfl rfl rfl <| .ld gt3 0 rfl rfl rfl <| .fa underlying170 sizeOf3 0 rfl rfl rfl <| .ld gt3 1 rfl rfl rfl <| .yy (Yp (by omega) (Yj (.t rfl) (.t rfl))) rfl <| .mv rfl <| .sk rfl rfl rfl <| .sk rfl rfl rfl <| .sk rfl rfl rfl <| .sk rfl rfl rfl <| .sk rfl rfl rfl <| .sk rfl rfl rfl <| .sk rfl rfl rfl <| .sk rfl rfl rfl <| .yy (Zv (.t rfl) Ev.c) rfl <| .z) fun a S => ?_)))))))))))
     (refine Xb ?_; intro w W; replace S := St.mk S W; clear W)
     refine Za (hK3 _ _ (Ze S (.t rfl) (wp_skip (Zm (Za (hK2 _ _ (wp_region_lit (run S (.ad (by unfold I64; omega) rfl <| .mv rfl <| .z) fun a w S => Zb (Za ?_)))))))))
     exact ⟨(q + 1, m, met), ⟨by dsimp only; omega, hm, hF⟩, by dsimp only; omega, S.pk⟩
 obtain rfl : q = l.length := by omega
 rw [List.drop_length] at hF
 refine sg S (.ge (by omega) rfl rfl <| .z) fun a w S => wp_seq_k fun _ hK2 => Ze S (.t rfl) (wp_exit (Zh (Zh (Ya (Za (hK1 _ _ (sg S (.ac rfl <| .ac rfl <| .z) fun a w S => wp_ret (Zn S (results2 S results126 (Rv.tmp rfl) (Rv.tmp rfl)) ?_))))))))
 rw [← hF]
 exact ⟨_, _, rfl, S.wd.pk, rfl, m, rfl⟩
theorem c52 (w0 : World) (v : Value) (l : List SLog) (h : Sl SLog.enc 22 w0 w0.heap.size v l) (hl : LogsRd w0 l) :
   Calls Tryz.prog 52 #[v] w0 fun e w' => e = .returned (.tuple #[.int .i64 (issuedK l).1, .int .i64 (issuedK l).2]) ∧ Bel w0.heap.size w0 w' := by
 refine enter1 func52 rfl ntmps52 rfl fun a S => sg S (.ac rfl <| .ac rfl <| .z) fun a w S => wp_seq_k fun _ hK1 => wp_region_lit (Zi (op_makeMap kv171 vv171 S rfl fun g1 a w S => Zi (Zk S zeroValue171 (cs := _) rfl rfl fun g2 a w S => Zi (Vv S sizeOf171 (.t rfl) (.t rfl) (k := 0) rfl rfl (by simp) fun a w S => Zb (Za (hK1 _ _ (wp_seq_k fun _ hK1 => wp_region_lit (run S (.yy (ys_mkFunc (.cons (.t rfl) .nil)) rfl <| .yy (Yn (ps := [(0, _), (1, Go.Operand.tmp 6)]) (us := [_, _]) bld170 (.cons Ev.c (.cons (.t rfl) .nil)) rfl) rfl <| .mv rfl <| .z) fun a w S => ?_))))))))
 (replace S := S.pull 0 rfl; try simp only [List.set_cons_zero, List.set_cons_succ, List.eraseIdx_cons_succ, List.eraseIdx_cons_zero] at S; replace S := S.pull 1 rfl; try simp only [List.set_cons_zero, List.set_cons_succ, List.eraseIdx_cons_succ, List.eraseIdx_cons_zero] at S; refine Zi (Ua S call126 (.cons (.t rfl) (.cons (.t rfl) .nil)) (o126 S.wd _ _ (by first | assumption | omega | (dsimp only; omega) | exact Sl.nil_ | exact .old S.wd (by assumption) | exact Sl.of_own S.wd (k := 0) rfl (fun _ => rfl) | exact Sl.of_own S.wd (k := 1) rfl (fun _ => rfl) | (simp; done) | (simp at *; omega)) (by first | assumption | omega | (dsimp only; omega) | exact Sl.nil_ | exact .old S.wd (by assumption) | exact Sl.of_own S.wd (k := 0) rfl (fun _ => rfl) | exact Sl.of_own S.wd (k := 1) rfl (fun _ => rfl) | (simp; done) | (simp at *; omega))) rfl ?_) <;> clear S a w)
 rintro _ _ ⟨rfl, hr1⟩ a w S
 refine run S (.ex rfl rfl <| .ex rfl rfl <| .as rfl <| .as rfl <| .z) fun a w S => Zb (Za (hK1 _ _ (wp_ret (Zn S (results2 S results52 (Rv.tmp rfl) (Rv.tmp rfl)) ?_))))
 exact ⟨rfl, S.wd.below⟩
theorem c156 (w0 : World) (v1 v2 v3 : Value) (X : Cart) (d : Dot) (g : Nat) (hr : RdCtx w0 w0.heap.size v2 v3 X.ctx) (h1 : w0.cell? ⟨g, 1, none⟩ = some (.int .i64 d.node)) (h2 : w0.cell? ⟨g, 2, none⟩ = some (.int .i64 d.life)) (h3 : w0.cell? ⟨g, 3, none⟩ = some (.int .i64 d.count)) :
   Calls Tryz.prog 156 #[.agg #[v1, v2, v3], .pointer (some ⟨g, 0, none⟩)] w0 fun e w' => e = .returned (.bool (X.ctx.covers d)) ∧ Bel w0.heap.size w0 w' := by
 have hdc := dot_cells (d := d) h1 h2 h3
 refine enter2 func156 rfl ntmps156 rfl fun a S => wp_seq_k fun _ hK1 => wp_region_lit (Zi (Zy S (.t rfl) rfl fun g1 a w S => run S (.ac rfl <| .z) fun a w S => Zb (Za (hK1 _ _ (sg S (.fa underlying37 sizeOf35 1 rfl rfl rfl <| .la gt35 0 rfl rfl rfl <| .fa underlying77 sizeOf74 1 rfl rfl rfl <| .yy (Zu ⟨isAgg74, sizeOf74⟩ (.t rfl) (vs := [_, _, _]) rfl (fun _ => hdc)) rfl <| .xx (Zf call109 (.cons (.t rfl) (.cons (.t rfl) .nil)) (fun hp w W => c109 _ _ _ _ _ _ _ (by exact .old W (by assumption)))) rfl <| .as rfl <| .z) fun a w S => wp_ret (Zn S (results1 S results156 (Rv.tmp rfl)) ?_))))))
 exact ⟨rfl, S.wd.below⟩
theorem c105 (w0 : World) (u : Upd) (v1 v2 v3 v : Value) (l : List SCart) (h : Sl SCart.enc 3 w0 w0.heap.size v l) (hc : CartsRd w0 l) :
   Calls Tryz.prog 105 #[.agg (Upd.enc u v1 v2 v3).toArray, v] w0 fun e w' => e = .returned (.bool (l.any fun c => c.1.ctx.covers u.dot)) ∧ Bel w0.heap.size w0 w' := by
 have hs := h
 have rw_i := idxW_any (fun c : SCart => c.1.ctx.covers u.dot) l 0
 refine enter2 func105 rfl ntmps105 rfl fun a S => wp_seq_k fun _ hK1 => wp_region_lit (Zi (Zy S (.t rfl) rfl fun g1 a w S => run S (.ac rfl <| .z) fun a w S => Zb (Za (hK1 _ _ (wp_seq_k fun _ hK1 => wp_region_lit (run S (.mv rfl <| .yy (ys_mkFunc (.cons (.t rfl) .nil)) rfl <| .z) fun a w S => ?_))))))
 refine Yk S (Zf call155 (.cons (.t rfl) (.cons (.t rfl) .nil)) (fun _ w' W' => x155 w' _ l 156 [.pointer (some ⟨g1, 0, none⟩)] (fun c => c.1.ctx.covers u.dot) call156
   (fun w'' W'' y hy => c156 w'' _ _ _ y.1 u.dot g1 (((hc y hy).old W').old W'').ctx (Wd.cellOld W'' (Wd.cell W' (k := 0) rfl rfl)) (Wd.cellOld W'' (Wd.cell W' (k := 0) rfl rfl)) (Wd.cellOld W'' (Wd.cell W' (k := 0) rfl rfl))) (Sl.old W' hs))) rfl ?_
 clear S a w
 intro a w S
 refine run S (.yy (Xr (.t rfl) Ev.c) rfl <| .z) fun a w S => ?_
 rw [rw_i] at S
 refine run S (.as rfl <| .z) fun a w S => Zb (Za (hK1 _ _ (wp_ret (Zn S (results1 S results105 (Rv.tmp rfl)) ?_))))
 exact ⟨rfl, S.wd.below⟩
end Go.Proofs.YtakpdbmdfnialaaGreat
namespace Go.Fw
open Go.RowKit
def Wants (ops : Array Oper) (K : KL) : Option (Nat × Bool) → Prop
 | none => True
 | some (j, p) => ∃ t, (ops[j]?).bind (·.dst) = some t ∧ look K t = some (true, .bool p)
section
variable {P : Program} {Q : Exit → Act → World → Prop} {n : Nat} {w0 : World} {K : KL} {L Lr : List Chunk} {a : Act} {w : World} {ops : Array Oper} {fuel : Nat} {listed : Array Bool} {md : Region.Mode}
theorem h_pick {i : Nat} {d : Option Tmp} {op : Op} {ty : TypeId} {pos : String} {aft : Array Edge} {g : Option (Nat × Bool)} (S : St n w0 K L a w) (hi : ops[i]? = some ⟨d, op, ty, pos, aft, g⟩) (hw : Wants ops K g)
   (h : Oper.wp P ⟨d, op, ty, pos, aft, g⟩ a w (fun a' w' => Wd w0 Lr w' ∧ wpAnyH P md ops Q (Wd w0 Lr) fuel (listed.setIfInBounds i true) a' w') Q) : wpOp P ops Q i (fun a' w' => Wd w0 Lr w' ∧ wpAnyH P md ops Q (Wd w0 Lr) fuel (listed.setIfInBounds i true) a' w') a w := by
 cases g with
 | none =>
   unfold wpOp
   simp only [hi, Region.wanted, if_true]
   exact .inl h
 | some g =>
   obtain ⟨j, p⟩ := g
   obtain ⟨t, hj, hl⟩ := hw
   have hyd := Xm S.kn hj hl
   unfold wpOp
   simp only [hi, Region.wanted, hyd, cond_true]
   simpa using Or.inl h
theorem h_splitw {i j : Nat} {di dj : Option Tmp} {opi opj : Op} {tyi tyj : TypeId} {posi posj : String} {ai aj : Array Edge} {gi gj : Option (Nat × Bool)} (S : St n w0 K L a w) (hr : Region.ready md ops listed = [i, j]) (hi : ops[i]? = some ⟨di, opi, tyi, posi, ai, gi⟩) (hj : ops[j]? = some ⟨dj, opj, tyj, posj, aj, gj⟩)
   (wi : Wants ops K gi) (wj : Wants ops K gj)
   (h1 : Oper.wp P ⟨di, opi, tyi, posi, ai, gi⟩ a w (fun a' w' => Wd w0 Lr w' ∧ wpAnyH P md ops Q (Wd w0 Lr) fuel (listed.setIfInBounds i true) a' w') Q)
   (h2 : Oper.wp P ⟨dj, opj, tyj, posj, aj, gj⟩ a w (fun a' w' => Wd w0 Lr w' ∧ wpAnyH P md ops Q (Wd w0 Lr) fuel (listed.setIfInBounds j true) a' w') Q) : wpAnyH P md ops Q (Wd w0 Lr) (fuel + 1) listed a w :=
 wpAnyH_all hr (by simp) fun k hk => by
   simp only [List.mem_cons, List.not_mem_nil, or_false] at hk
   rcases hk with rfl | rfl
   · exact h_pick S hi wi h1
   · exact h_pick S hj wj h2
end
end Go.Fw
namespace Go.Fw
open Go.RowKit
abbrev U1 : Upd := ⟨[107], ⟨0, 1, 1⟩, [109, 105, 108, 107], 1, 0, Cart.zero⟩
abbrev S0 : Sls3 := ⟨none, 0, 0, none, 0, 0, none, 0, 0⟩
def C1 : Cart := ⟨[U1.ent], ⟨[⟨0, 1, 1⟩], []⟩⟩
theorem meant_one : meantK [U1] = (C1, 0) := by decide +kernel
theorem room_one : RoomU [U1] := room_few (by decide)
abbrev L1 : SLog := ⟨1, 0, 0, (U1, S0), 0, 0, [107], (Cart.zero, S0), (Cart.zero, S0)⟩
theorem issued_two : issuedK [L1, L1] = (1, 260) := by decide +kernel
end Go.Fw
namespace Go.Proofs.YtakpdbmdfnialaaGreat
open Go.Fw Go.Proofs Go.RowKit Go.Proofs.Tryz
theorem c104 (w0 : World) : Calls Tryz.prog 104 #[] w0 fun e w' => e = .returned (.agg (Upd.enc U1 (.slice none 0 0) (.slice none 0 0) (.slice none 0 0)).toArray) ∧ Bel w0.heap.size w0 w' := by
 refine enter0 func104 rfl ntmps104 rfl fun a S => wp_seq_k fun _ hK1 => wp_region_lit (Zi (Zk S zeroValue77 (cs := _) rfl rfl fun g1 a w S => Zb (Za (hK1 _ _ (wp_seq_k fun _ hK1 => wp_region_lit (run S (.yy (Yn (ps := [(0, _), (1, _), (2, _)]) (us := [_, _, _]) bld74 (.cons Ev.c (.cons Ev.c (.cons Ev.c .nil))) rfl) rfl <| .yy (Yn (ps := [(0, _), (1, Go.Operand.tmp 1), (2, _), (3, _)]) (us := [_, _, _, _, _, _, _, _, _, _]) bld77 (.cons Ev.c (.cons (.t rfl) (.cons Ev.c (.cons Ev.c .nil)))) rfl) rfl <| .z) fun a w S => Zi (Zp S sizeOf77 (.t rfl) (.t rfl) (k := 0) rfl rfl rfl (by simp [Value.oneCell']) fun a w S => Zb (Za (hK1 _ _ (wp_ret (Zn S (results1 S results104 (Rv.cell (k := 0) ⟨isAgg77, sizeOf77⟩ rfl rfl rfl)) ?_)))))))))))
 exact ⟨rfl, S.wd.below⟩
theorem c38 (w0 : World) : Calls Tryz.prog 38 #[] w0 fun e w' => e = .returned (.bool true) ∧ Bel w0.heap.size w0 w' := by
 have hu : ∀ w, UpdsRd w [(U1, S0)] := fun w x hx => by
   rw [List.mem_singleton.1 hx]
   exact ⟨Sl.nil_, Sl.nil_, Sl.nil_⟩
 have hl : ∀ w, LogsRd w [L1, L1] := fun w x hx => by
   have e : x = L1 := by simpa using hx
   rw [e]
   exact ⟨⟨Sl.nil_, Sl.nil_, Sl.nil_⟩, ⟨Sl.nil_, Sl.nil_, Sl.nil_⟩, ⟨Sl.nil_, Sl.nil_, Sl.nil_⟩⟩
 have hm : meantK (List.map (fun x : SUpd => x.1) [(U1, S0)]) = (C1, 0) := meant_one
 refine enter0 func38 rfl ntmps38 rfl fun a S => sg S (.ac rfl <| .z) fun a w S => wp_seq_k fun _ hK1 => wp_region_lit (run S (.xx (Zf call104 .nil (fun hp w W => c104 _)) rfl <| .z) fun a w S => Zi (Yd S underlying72 inf77 rfl rfl rfl (.t rfl) rfl rfl rfl fun g1 a w S => Zi (Zr S call39 (.cons (.t rfl) .nil) (c39 _ _ [(U1, S0)] (Sl.of_blk (enc := SUpd.enc) (cap := 1) [(U1, S0)] S.wd (k := 0) rfl rfl SUpd.enc_len (Nat.le_refl 1) (by decide)) (hu _) (by decide) room_one) rfl ?_)))
 clear S a w
 rintro _ _ ⟨A1, r1, A2, r2, A3, r3, rfl, rfl⟩ a w S
 simp only [hm] at S
 refine run S (.mv rfl <| .ex rfl rfl <| .ex rfl rfl <| .z) fun a w S => Zi (Zk S zeroValue37 (cs := _) rfl rfl fun g2 a w S => Zi (Zp S sizeOf37 (.t rfl) (.t rfl) (k := 0) rfl rfl rfl (by simp [Value.oneCell']) fun a w S => run S (.as rfl <| .z) fun a w S => Zb (Za (hK1 _ _ (wp_seq_k fun _ hK1 => wp_region_lit (run S (.xx (Zf call104 .nil (fun hp w W => c104 _)) rfl <| .yy (Yn (ps := [(0, _), (3, Go.Operand.tmp 12), (5, _)]) (us := [_, _, _, _, _, _, _, _, _, _, _, _, _, _, _, _, _, _, _, _, _, _]) bld96 (.cons Ev.c (.cons (.t rfl) (.cons Ev.c .nil))) rfl) rfl <| .xx (Zf call104 .nil (fun hp w W => c104 _)) rfl <| .yy (Yn (ps := [(0, _), (3, Go.Operand.tmp 14), (5, _)]) (us := [_, _, _, _, _, _, _, _, _, _, _, _, _, _, _, _, _, _, _, _, _, _]) bld96 (.cons Ev.c (.cons (.t rfl) (.cons Ev.c .nil))) rfl) rfl <| .z) fun a w S => Zi (Xv (ps := [(0, Go.Operand.tmp 13), (1, Go.Operand.tmp 15)]) (us := [_, _, _, _, _, _, _, _, _, _, _, _, _, _, _, _, _, _, _, _, _, _, _, _, _, _, _, _, _, _, _, _, _, _, _, _, _, _, _, _, _, _, _, _]) S underlying84 sizeOf96 zeroValue96 rfl rfl (.cons (.t rfl) (.cons (.t rfl) .nil)) rfl rfl fun g3 a w S => run S (.as rfl <| .z) fun a w S => Zb (Za (hK1 _ _ (wp_seq_k fun _ hK1 => wp_region_lit (run S (.mv rfl <| .z) fun a w S => ?_)))))))))))
 refine Yk S (Zf call52 (.cons (.t rfl) .nil) (fun _ w' W' => c52 w' _ [L1, L1] (Sl.of_blk (enc := SLog.enc) (cap := 2) [L1, L1] W' (k := 0) rfl rfl SLog.enc_len (Nat.le_refl 2) (by decide)) (hl _))) rfl ?_
 clear S a w
 intro a w S
 simp only [issued_two] at S
 have rw_c1 : ((C1.ents.length : Nat) : Int) = 1 := rfl
 have rw_kp : ∀ s : Sls3, (List.any [(C1, s)] fun c : SCart => c.1.ctx.covers U1.dot) = true := fun s => by
   rw [List.any_cons, List.any_nil, Bool.or_false]
   exact (by decide +kernel : C1.ctx.covers U1.dot = true)
 refine run S (.mv rfl <| .ex rfl rfl <| .ex rfl rfl <| .as rfl <| .as rfl <| .z) fun a w S => Zb (Za (hK1 _ _ (wp_seq_k fun _ hK1 => Ve S (by kernel_rfl) fun a w S => hy 0 S rfl (Zj (.t rfl)) rfl fun a w S => hy 1 S rfl (Yu (by omega) (Yj (.t rfl) Ev.c)) rfl fun a w S => hy 2 S rfl (Zj (.t rfl)) rfl fun a w S => hyt 3 S rfl rfl rfl (Zc (FieldT.mk underlying37 rfl sizeOf31 rfl) (.t rfl) (i' := 0) rfl) rfl fun a w S => ?_)))
 refine hyt 4 S rfl rfl rfl (Zt ⟨isAgg31, sizeOf31⟩ (.t rfl) (k := 1) rfl rfl) rfl fun a w S => hyt 5 S rfl rfl rfl (Wr underlying31 (.t rfl)) rfl fun a w S => ?_
 rw [rw_c1] at S
 refine hyt 6 S rfl rfl rfl (Yu (by omega) (Yj (.t rfl) Ev.c)) rfl fun a w S => hy 7 S rfl (Zz (.t rfl) (.t rfl)) rfl fun a w S => hy 8 S rfl (Zj (.t rfl)) rfl fun a w S => hyt 9 S rfl rfl rfl (Zj (.t rfl)) rfl fun a w S => hyt 10 S rfl rfl rfl (Yu (by omega) (Yj (.t rfl) Ev.c)) rfl fun a w S => ?_
 refine hy 11 S rfl (Zz (.t rfl) (.t rfl)) rfl fun a w S => hy 12 S rfl (Zj (.t rfl)) rfl fun a w S => hyt 13 S rfl rfl rfl (Zj (.t rfl)) rfl fun a w S => hyt 14 S rfl rfl rfl (Yu (by omega) (Yj (.t rfl) Ev.c)) rfl fun a w S => hy 15 S rfl (Zz (.t rfl) (.t rfl)) rfl fun a w S => ?_
 refine hy 16 S rfl (Zj (.t rfl)) rfl fun a w S => hyt 18 S rfl rfl rfl (Yc ⟨isAgg37, sizeOf37⟩ (.t rfl) (k := 1) rfl rfl) rfl fun a w S => ?_
 refine h_splitw S (i := 17) (j := 19) (by kernel_rfl) rfl rfl ⟨_, rfl, rfl⟩ ⟨_, rfl, rfl⟩ ?_ ?_
 (refine Vn S (Zf call104 .nil (fun hp w W => c104 _)) rfl ?_; clear S a w; intro a w S; refine Zw S ?_)
 (refine h_mg (i := 19) S rfl (by kernel_rfl) rfl rfl (Yd S underlying64 inf37 rfl rfl rfl (.t rfl) rfl rfl rfl ?_); clear S a w; intro g4 a w S; refine h_n2 S ?_)
 rotate_left
 (refine Yd S underlying64 inf37 rfl rfl rfl (.t rfl) rfl rfl rfl ?_; clear S a w; intro g4 a w S; refine Zw S ?_)
 refine h_qg (i := 17) S (by repeat (first | exact List.Sublist.refl _ | exact List.nil_sublist _ | refine .cons_cons _ ?_ | refine .cons _ ?_)) rfl (by kernel_rfl) rfl rfl (Zf call104 .nil (fun hp w W => c104 _)) rfl fun a w S => ?_
 rotate_left
 · refine h_qg (i := 20) S (by repeat (first | exact List.Sublist.refl _ | exact List.nil_sublist _ | refine .cons_cons _ ?_ | refine .cons _ ?_)) rfl (by kernel_rfl) rfl rfl (Zf call105 (.cons (.t rfl) (.cons (.t rfl) .nil)) (fun hp w W => c105 w _ _ _ _ _ [(C1, ⟨A1, C1.ents.length, r1, A2, C1.ctx.marks.length, r2, A3, C1.ctx.cloud.length, r3⟩)]
     (Sl.of_blk (enc := SCart.enc) (cap := 1) [(C1, ⟨A1, C1.ents.length, r1, A2, C1.ctx.marks.length, r2, A3, C1.ctx.cloud.length, r3⟩)] W (k := 0) rfl rfl SCart.enc_len (Nat.le_refl 1) (by decide))
     (fun x hx => by rw [List.mem_singleton.1 hx]; exact ⟨Sl.of_own W (k := 3) rfl (fun _ => rfl), Sl.of_own W (k := 4) rfl (fun _ => rfl), Sl.of_own W (k := 5) rfl (fun _ => rfl)⟩))) rfl ?_
   clear S
   intro a w S
   refine hy 21 S rfl (Zz (.t rfl) (.t rfl)) rfl fun a w S => ?_
   rw [rw_kp] at S
   refine hy 22 S rfl (Yb (.t rfl)) rfl fun a w S => Yq (by kernel_rfl) (Za (hK1 _ _ (wp_ret (Zn S (results1 S results38 (Rv.tmp rfl)) ?_))))
   exact ⟨rfl, S.wd.below⟩
 · refine h_qg (i := 20) S (by repeat (first | exact List.Sublist.refl _ | exact List.nil_sublist _ | refine .cons_cons _ ?_ | refine .cons _ ?_)) rfl (by kernel_rfl) rfl rfl (Zf call105 (.cons (.t rfl) (.cons (.t rfl) .nil)) (fun hp w W => c105 w _ _ _ _ _ [(C1, ⟨A1, C1.ents.length, r1, A2, C1.ctx.marks.length, r2, A3, C1.ctx.cloud.length, r3⟩)]
     (Sl.of_blk (enc := SCart.enc) (cap := 1) [(C1, ⟨A1, C1.ents.length, r1, A2, C1.ctx.marks.length, r2, A3, C1.ctx.cloud.length, r3⟩)] W (k := 0) rfl rfl SCart.enc_len (Nat.le_refl 1) (by decide))
     (fun x hx => by rw [List.mem_singleton.1 hx]; exact ⟨Sl.of_own W (k := 3) rfl (fun _ => rfl), Sl.of_own W (k := 4) rfl (fun _ => rfl), Sl.of_own W (k := 5) rfl (fun _ => rfl)⟩))) rfl ?_
   clear S
   intro a w S
   refine hy 21 S rfl (Zz (.t rfl) (.t rfl)) rfl fun a w S => ?_
   rw [rw_kp] at S
   refine hy 22 S rfl (Yb (.t rfl)) rfl fun a w S => Yq (by kernel_rfl) (Za (hK1 _ _ (wp_ret (Zn S (results1 S results38 (Rv.tmp rfl)) ?_))))
   exact ⟨rfl, S.wd.below⟩
end Go.Proofs.YtakpdbmdfnialaaGreat
namespace Go.Fw
open Go.RowKit
structure Say where
 node : UInt64
 life : UInt64
 item : UInt64
 qty : UInt64
 seen : List UInt64
def itemsH (i : Nat) : List UInt8 := if i = 0 then [109, 105, 108, 107] else if i = 1 then [98, 114, 101, 97, 100] else [97]
structure Hst where
 up : List Upd
 st : List Cart
 ct : List Int
def Hst.start : Hst := ⟨[], [Cart.zero], List.replicate 9 0⟩
def seenH (st : List Cart) : List UInt64 → Cart → Option Cart
 | [], c => some c
 | k :: r, c => if (joinK c (st.getD (k.toNat % st.length) Cart.zero)).2 = 0 then seenH st r (joinK c (st.getD (k.toNat % st.length) Cart.zero)).1 else none
def slotH (s : Say) : Nat := s.node.toNat % 3 * 3 + s.life.toNat % 3
def sayU (S : Hst) (s : Say) (c : Cart) : Upd := ⟨[107], ⟨((s.node.toNat % 3 : Nat) : Int), ((s.life.toNat % 3 : Nat) : Int) + 1, S.ct.getD (slotH s) 0 + 1⟩, itemsH (s.item.toNat % 3), ((s.qty.toNat % 4 : Nat) : Int), 0, c⟩
def nextH (S : Hst) (s : Say) (u : Upd) : Hst := ⟨S.up ++ [u], S.st ++ [(applyU u).1], S.ct.set (slotH s) (S.ct.getD (slotH s) 0 + 1)⟩
def stepH (S : Hst) (s : Say) : Option Hst :=
 match seenH S.st (s.seen.take 5) Cart.zero with
 | none => none
 | some c => if (applyU (sayU S s c)).2 = 0 then some (nextH S s (sayU S s c)) else none
def histF : List Say → Hst → Option Hst
 | [], S => some S
 | s :: r, S => match stepH S s with
   | none => none
   | some T => histF r T
def histK (l : List Say) : Option Hst := histF (l.take 21) Hst.start
theorem histF_at {l : List Say} {s : Say} {i : Nat} (h : l[i]? = some s) (S : Hst) : histF (l.drop i) S = (match stepH S s with | none => none | some T => histF (l.drop (i + 1)) T) := by
 obtain ⟨h1, h2⟩ := List.getElem?_eq_some_iff.1 h
 rw [List.drop_eq_getElem_cons h1, h2, histF]
theorem seenH_at {st : List Cart} {l : List UInt64} {k : UInt64} {i : Nat} (h : l[i]? = some k) (c : Cart) : seenH st (l.drop i) c = if (joinK c (st.getD (k.toNat % st.length) Cart.zero)).2 = 0 then seenH st (l.drop (i + 1)) (joinK c (st.getD (k.toNat % st.length) Cart.zero)).1 else none := by
 obtain ⟨h1, h2⟩ := List.getElem?_eq_some_iff.1 h
 rw [List.drop_eq_getElem_cons h1, h2, seenH]
structure HstOk (S : Hst) : Prop where
 len : S.st.length = S.up.length + 1
 ct : S.ct.length = 9
 one : oneU S.up
 cnt : ∀ u ∈ S.up, ∃ n f : Nat, n < 3 ∧ f < 3 ∧ u.dot.node = n ∧ u.dot.life = (f : Int) + 1 ∧ u.dot.count ≤ S.ct.getD (n * 3 + f) 0
 pos : ∀ n : Nat, 0 ≤ S.ct.getD n 0 ∧ S.ct.getD n 0 ≤ S.up.length
 seen : ∀ u ∈ S.up, InH S.up u.seen
 st : ∀ s ∈ S.st, InH S.up s
 may : ∀ u ∈ S.up, mayE u = 0
 key : ∀ u ∈ S.up, u.key = [107]
 cov : ∀ u ∈ S.up, ∃ c ∈ S.st, c.ctx.covers u.dot = true
theorem hst_start : HstOk Hst.start := by
 refine ⟨rfl, rfl, List.nodup_nil, fun u h => by simp [Hst.start] at h, fun n => ?_, fun u h => by simp [Hst.start] at h, fun s h => ?_, fun u h => by simp [Hst.start] at h, fun u h => by simp [Hst.start] at h, fun u h => by simp [Hst.start] at h⟩
 · unfold Hst.start
   dsimp only
   rw [List.getD_eq_getElem?_getD, List.getElem?_replicate]
   split <;> simp
 · simp [Hst.start] at h
   subst h
   exact inH_zero _
theorem getD_mem {st : List Cart} (h : 0 < st.length) (n : Nat) : st.getD (n % st.length) Cart.zero ∈ st := by
 have : n % st.length < st.length := Nat.mod_lt _ h
 rw [List.getD_eq_getElem?_getD, List.getElem?_eq_getElem this]
 exact List.getElem_mem this
theorem seenH_inH {U : List Upd} {st : List Cart} (hs : ∀ s ∈ st, InH U s) (h0 : 0 < st.length) : ∀ (l : List UInt64) (c d : Cart), InH U c → seenH st l c = some d → InH U d
 | [], c, d, h, e => by rw [seenH] at e; cases e; exact h
 | k :: r, c, d, h, e => by
   rw [seenH] at e
   split at e
   · rename_i hj
     exact seenH_inH hs h0 r _ d (inH_join h (hs _ (getD_mem h0 _)) hj) e
   · cases e
theorem applyU_may {u : Upd} (h : (applyU u).2 = 0) : mayE u = 0 := by
 unfold applyU at h
 split at h
 · rename_i h1; exact h1
 · exact h
theorem applyU_cov {u : Upd} (h : (applyU u).2 = 0) : (applyU u).1.ctx.covers u.dot = true := by
 obtain ⟨hu, hadd, he, hok⟩ := applyU_ok h
 obtain ⟨_, hc⟩ := add_covers hu.seen.ctx hu.dot hadd
 rw [he]
 exact (hc _).2 (.inr rfl)
theorem hst_step {S T : Hst} {s : Say} (h : HstOk S) (e : stepH S s = some T) : HstOk T := by
 unfold stepH at e
 split at e
 · cases e
 rename_i c hc
 split at e
 · rename_i ha
   have hseen : InH S.up c := seenH_inH h.st (by rw [h.len]; omega) _ _ _ (inH_zero _) hc
   have hsl : slotH s < S.ct.length := by rw [h.ct]; unfold slotH; omega
   have hct := (h.pos (slotH s)).1
   have hct2 := (h.pos (slotH s)).2
   generalize hu : sayU S s c = u at *
   have hd : u.dot = ⟨((s.node.toNat % 3 : Nat) : Int), ((s.life.toNat % 3 : Nat) : Int) + 1, S.ct.getD (slotH s) 0 + 1⟩ := by rw [← hu]; rfl
   have hs : u.seen = c := by rw [← hu]; rfl
   have hky : u.key = [107] := by rw [← hu]; rfl
   rw [← hs] at hseen
   have hnew : u.dot ∉ S.up.map (·.dot) := fun hm => by
     obtain ⟨v, hv, e⟩ := List.mem_map.1 hm
     obtain ⟨n, f, h1, h2, h3, h4, h5⟩ := h.cnt v hv
     rw [e, hd] at h3 h4 h5
     dsimp only at h3 h4 h5
     have : slotH s = n * 3 + f := by unfold slotH; omega
     rw [this] at h5
     omega
   cases e
   unfold nextH
   refine ⟨by dsimp only; rw [List.length_append, List.length_append, h.len]; rfl, by dsimp only; rw [List.length_set]; exact h.ct, ?_, fun v hv => ?_, fun m => ?_, fun v hv => ?_, fun x hx => ?_, fun v hv => ?_, fun v hv => ?_, fun v hv => ?_⟩
   · show ((S.up ++ [u]).map (·.dot)).Nodup
     rw [List.map_append, List.nodup_append]
     refine ⟨h.one, by simp, fun a ha b hb e => ?_⟩
     simp at hb
     subst hb
     exact hnew (e ▸ ha)
   · dsimp only at hv ⊢
     rcases List.mem_append.1 hv with hv | hv
     · obtain ⟨n, f, h1, h2, h3, h4, h5⟩ := h.cnt v hv
       refine ⟨n, f, h1, h2, h3, h4, ?_⟩
       rw [getD_set hsl]
       split
       · rename_i e; rw [← e] at h5; omega
       · exact h5
     · simp at hv
       subst hv
       refine ⟨s.node.toNat % 3, s.life.toNat % 3, Nat.mod_lt _ (by omega), Nat.mod_lt _ (by omega), by rw [hd], by rw [hd], ?_⟩
       rw [show s.node.toNat % 3 * 3 + s.life.toNat % 3 = slotH s from rfl, getD_set hsl, if_pos rfl, hd]
       exact Int.le_refl _
   · dsimp only
     rw [getD_set hsl, List.length_append, List.length_singleton]
     have := h.pos m
     split <;> omega
   · dsimp only at hv ⊢
     rcases List.mem_append.1 hv with hv | hv
     · exact inH_more (h.seen v hv) hnew
     · simp at hv
       subst hv
       exact inH_more hseen hnew
   · dsimp only at hx ⊢
     rcases List.mem_append.1 hx with hx | hx
     · exact inH_more (h.st x hx) hnew
     · simp at hx
       subst hx
       exact inH_apply h.seen hseen hnew ha
   · dsimp only at hv
     rcases List.mem_append.1 hv with hv | hv
     · exact h.may v hv
     · simp at hv
       subst hv
       exact applyU_may ha
   · dsimp only at hv
     rcases List.mem_append.1 hv with hv | hv
     · exact h.key v hv
     · simp at hv
       subst hv
       exact hky
   · dsimp only at hv ⊢
     rcases List.mem_append.1 hv with hv | hv
     · obtain ⟨d, hd1, hd2⟩ := h.cov v hv
       exact ⟨d, List.mem_append_left _ hd1, hd2⟩
     · simp at hv
       subst hv
       exact ⟨_, List.mem_append_right _ (by simp), applyU_cov ha⟩
 · cases e
theorem join_cov {U : List Upd} {a b : Cart} (ha : InH U a) (hb : InH U b) (h : (joinK a b).2 = 0) (d : Dot) : (joinK a b).1.ctx.covers d = true ↔ a.ctx.covers d = true ∨ b.ctx.covers d = true := by
 rw [joinK_val ha.ok hb.ok h]
 exact uni_covers (Xz ha.ok.ctx) (Xz hb.ok.ctx) d
end Go.Fw
namespace Go.Fw
open Go.RowKit
structure SSay where
 s : Say
 a : Option Addr
 n : Nat
 c : Nat
abbrev SSay.enc (x : SSay) : List Value := [.int .u64 (x.s.node.toNat : Int), .int .u64 (x.s.life.toNat : Int), .int .u64 (x.s.item.toNat : Int), .int .u64 (x.s.qty.toNat : Int), .slice x.a x.n x.c]
theorem SSay.enc_len (x : SSay) : (SSay.enc x).length = 5 := rfl
theorem SSay.enc_one (x : SSay) : ∀ u ∈ SSay.enc x, u.oneCell' = true := fun u hu => by
 simp only [SSay.enc, List.mem_cons, List.not_mem_nil, or_false] at hu
 rcases hu with rfl | rfl | rfl | rfl | rfl <;> rfl
def SaysRd (w : World) (l : List SSay) : Prop := ∀ x ∈ l, Sl encU 1 w w.heap.size (.slice x.a x.n x.c) x.s.seen
structure OutH (w1 : World) (bs : List Nat) (us : List SUpd) (ms : List SCart) (T : Hst) : Prop where
 up : us.map (·.1) = T.up
 st : ms.map (·.1) = T.st
 iu : ∀ p ∈ us, CartIn w1 bs p.1.seen p.2
 im : ∀ p ∈ ms, CartIn w1 bs p.1 p.2
theorem out_start (w0 : World) : OutH w0 [] [] [(Cart.zero, S0)] Hst.start := ⟨rfl, rfl, (fun p hp => by cases hp), fun p hp => by
 rw [List.mem_singleton.1 hp]
 exact ⟨SlIn.nil_ (c := 0), SlIn.nil_ (c := 0), SlIn.nil_ (c := 0)⟩⟩
theorem ctL_get2 {l : List Int} {n f : Nat} (h : n * 3 + f < l.length) : (ctL l)[0 + n * 3 + f * 1]? = some (.int .i64 (l.getD (n * 3 + f) 0)) := by
 rw [show 0 + n * 3 + f * 1 = n * 3 + f by omega, ctL, List.getElem?_map, List.getElem?_eq_getElem h, List.getD_eq_getElem?_getD, List.getElem?_eq_getElem h]
 rfl
theorem ctL_set2 (l : List Int) (n f : Nat) (x : Int) : (ctL l).set (0 + n * 3 + f * 1) (.int .i64 x) = ctL (l.set (n * 3 + f) x) := by
 rw [show 0 + n * 3 + f * 1 = n * 3 + f by omega, ctL, ctL, List.map_set]
theorem items_at {it : Nat} (h : it < 3) : ([Value.string ⟨#[109, 105, 108, 107]⟩, Value.string ⟨#[98, 114, 101, 97, 100]⟩, Value.string ⟨#[97]⟩] : List Value)[0 + it * 1]? = some (.string (bs (itemsH it))) := by
 obtain rfl | rfl | rfl : it = 0 ∨ it = 1 ∨ it = 2 := by omega
 all_goals rfl
end Go.Fw
namespace Go.Proofs.YtakpdbmdfnialaaGreat
open Go.Fw Go.Proofs Go.RowKit Go.Proofs.Tryz
theorem c40 (w0 : World) (v : Value) (l : List SSay) (h : Sl SSay.enc 5 w0 w0.heap.size v l) (hc : SaysRd w0 l) :
   Rets Tryz.prog 40 #[v] w0 fun u L => (∃ Z A r us B q ms w1 bs, histK (l.map (·.s)) = some Z ∧ HstOk Z ∧ Z.up.length ≤ 21 ∧ u = .tuple #[.slice A us.length r, .slice B ms.length q, .bool true] ∧ L = [rowOf 77 10 SUpd.enc A r us, rowOf 37 3 SCart.enc B q ms, .ice w1 bs] ∧ OutH w1 bs us ms Z) ∨
     (histK (l.map (·.s)) = none ∧ u = .tuple #[.slice none 0 0, .slice none 0 0, .bool false] ∧ L = []) := by
 obtain ⟨A, cap, rfl, hl, hcap, hA⟩ := h
 unfold Go.Fw.Rets
 refine enter1 func40 rfl ntmps40 rfl fun a S => sg S (.ac rfl <| .ac rfl <| .ac rfl <| .z) fun a w S => sg S (.ac rfl <| .z) fun a w S => wp_seq_k fun _ hK1 => wp_region_lit (run S (.yy (Yn (ps := []) (us := [_, _, _]) bld37 .nil rfl) rfl <| .z) fun a w S => Zi (Yd S underlying64 inf37 rfl rfl rfl (.t rfl) rfl rfl rfl fun g1 a w S => run S (.as rfl <| .z) fun a w S => Zb (Za (hK1 _ _ (wp_seq_k fun _ hK1 => wp_region_lit (Zi (Zk S zeroValue152 (cs := _) rfl rfl fun g2 a w S => Zb (Za (hK1 _ _ (wp_seq_k fun _ hK1 => sg S (.mv rfl <| .ln underlying80 rfl <| .mc rfl <| .z) fun a w S => wp_block ?_))))))))))
 have W2 := (S.wd.picks (L' := [.blk g1 (.cells (SCart.enc (Cart.zero, S0)).toArray 37), .blk g2 (.cells (ctL Hst.start.ct).toArray 152)]) (by repeat (first | exact Picks.nil | (refine Picks.rest ?_; (repeat (first | exact List.Sublist.refl _ | refine List.Sublist.cons_cons _ ?_ | refine List.Sublist.cons _ ?_)); done) | refine Picks.take 0 rfl ?_ | refine Picks.take 1 rfl ?_ | refine Picks.take 2 rfl ?_ | refine Picks.take 3 rfl ?_ | refine Picks.take 4 rfl ?_ | refine Picks.take 5 rfl ?_ | refine Picks.take 6 rfl ?_ | refine Picks.take 7 rfl ?_ | refine Picks.take 8 rfl ?_ | refine Picks.take 9 rfl ?_ | refine Picks.take 10 rfl ?_ | refine Picks.take 11 rfl ?_))).close_row (k := 0) rfl (size := 3) 1 1 ([(Cart.zero, S0)].flatMap SCart.enc) (by decide) rfl (Nat.le_refl 1) (by decide) rfl
 replace S := St.mk S.kn W2
 replace S := S.nil_ 77 10 SUpd.enc none
 replace S : St _ _ _ (.ice w0 [] :: _) _ _ := ⟨S.kn, S.wd.bare (fun b hb => by cases hb) (fun b hb => by cases hb)⟩
 replace S : St 115 w0 [(24, true, .int .i64 0), (23, true, .int .i64 (l.length : Int)), (22, true, .slice A l.length cap), (7, true, .pointer (some ⟨g2, 0, none⟩)), (6, true, .slice (some ⟨g1, 0, none⟩) 1 1), (5, true, .slice none 0 0)]
   [.ice w0 [], rowOf 77 10 SUpd.enc none 0 [], rowOf 37 3 SCart.enc (some ⟨g1, 0, none⟩) 1 [(Cart.zero, S0)], .blk g2 (.cells (ctL Hst.start.ct).toArray 152)] _ _ := S.pk
 refine Xn S [5, 6, 24] (X := Nat × (Option Addr × Nat × List SUpd) × (Option Addr × Nat × List SCart) × (World × List Nat) × Hst) (fun q => [(5, true, .slice q.2.1.1 q.2.1.2.2.length q.2.1.2.1), (6, true, .slice q.2.2.1.1 q.2.2.1.2.2.length q.2.2.1.2.1), (24, true, .int .i64 (q.1 : Int))])
   (fun q => [.ice q.2.2.2.1.1 q.2.2.2.1.2, rowOf 77 10 SUpd.enc q.2.1.1 q.2.1.2.1 q.2.1.2.2, rowOf 37 3 SCart.enc q.2.2.1.1 q.2.2.1.2.1 q.2.2.1.2.2, .blk g2 (.cells (ctL q.2.2.2.2.ct).toArray 152)])
   (fun q => q.1 ≤ l.length ∧ OutH q.2.2.2.1.1 q.2.2.2.1.2 q.2.1.2.2 q.2.2.1.2.2 q.2.2.2.2 ∧ HstOk q.2.2.2.2 ∧ q.2.2.2.2.up.length ≤ q.1 ∧ q.1 ≤ 21 ∧ histF (((l.map (·.s)).take 21).drop q.1) q.2.2.2.2 = histK (l.map (·.s))) (fun q => l.length - q.1)
   (0, (none, 0, []), (some ⟨g1, 0, none⟩, 1, [(Cart.zero, S0)]), (w0, []), Hst.start) ⟨Nat.zero_le _, out_start w0, hst_start, Nat.le_refl _, Nat.zero_le _, rfl⟩ ?_
 clear S
 rintro ⟨i, ⟨C, cC, us⟩, ⟨B, cB, ms⟩, ⟨w1, bs⟩, T⟩ a w ⟨hi, hO, hT, hTi, hi21, hF⟩ S
 dsimp only at hi hO hT hTi hi21 hF S
 have hO0 := hO
 obtain ⟨ou, om, oi, oj⟩ := hO
 have hul : us.length ≤ i := by have := congrArg List.length ou; rw [List.length_map] at this; omega
 have hml : ms.length = us.length + 1 := by have := congrArg List.length ou; have := congrArg List.length om; have := hT.len; simp only [List.length_map] at *; omega
 by_cases hlt : i < l.length
 · obtain ⟨gq, oq, x, rfl, hx, hd, hcx⟩ := Yh hA hlt
   by_cases h20 : 20 < i
   · have hi21' : i = 21 := by omega
     rw [List.drop_of_length_le (by rw [List.length_take]; omega), histF] at hF
     refine sg S (.lt (by omega) rfl rfl <| .z) fun a w S => wp_seq_k fun _ hK2 => Zg S (.t rfl) (wp_skip (Za (hK2 _ _ (wp_seq_k fun _ hK2 => wp_block (wp_seq_k fun _ hK3 => wp_region_lit (run S (.mv rfl <| .ix underlying80 sizeOf154 (by omega) rfl rfl <| .yy (Zu ⟨isAgg154, sizeOf154⟩ (.t rfl) (vs := [_, _, _, _, _]) rfl (fun _ => hcx)) rfl <| .z) fun a w S => Zi (Zk S zeroValue154 (cs := _) rfl rfl fun g3 a w S => run S (.as rfl <| .z) fun a w S => Zi (Zp S sizeOf154 (.t rfl) (.t rfl) (k := 0) rfl rfl rfl (by simp [Value.oneCell']) fun a w S => Zb (Za (hK3 _ _ (wp_seq_k fun _ hK3 => sg S (.mv rfl <| .yy (Yu (by omega) (Yf (.t rfl) Ev.c)) rfl <| .z) fun a w S => Zg S (.t rfl) (wp_exit (Zh (in_past rfl (Zh (Zh (Ya (Za (hK1 _ _ (sg S (.mv rfl <| .mv rfl <| .as rfl <| .as rfl <| .ac rfl <| .z) fun a w S => wp_ret (Zn S (results3 S results40 (Rv.tmp rfl) (Rv.tmp rfl) (Rv.tmp rfl)) ?_)))))))))))))))))))))
     exact ⟨_, _, rfl, S.wd.pk, .inl ⟨T, C, cC, us, B, cB, ms, w1, bs, hF.symm, hT, by omega, rfl, rfl, hO0⟩⟩
   have hL : ((l.map (·.s)).take 21)[i]? = some x.s := by rw [List.getElem?_take_of_lt (by omega), List.getElem?_map, hx]; rfl
   rw [histF_at hL] at hF
   have hsx := hc x (List.mem_of_getElem? hx)
   obtain ⟨A2, cap2, e2, hl2, hcap2, hA2⟩ := hsx
   simp only [Value.slice.injEq] at e2
   obtain ⟨rfl, e2, rfl⟩ := e2
   have rw_xn : ((x.n : Nat) : Int) = (x.s.seen.length : Int) := by rw [e2]
   refine sg S (.lt (by omega) rfl rfl <| .z) fun a w S => wp_seq_k fun _ hK2 => Zg S (.t rfl) (wp_skip (Za (hK2 _ _ (wp_seq_k fun _ hK2 => wp_block (wp_seq_k fun _ hK3 => wp_region_lit (run S (.mv rfl <| .ix underlying80 sizeOf154 (by omega) rfl rfl <| .yy (Zu ⟨isAgg154, sizeOf154⟩ (.t rfl) (vs := [_, _, _, _, _]) rfl (fun _ => hcx)) rfl <| .z) fun a w S => Zi (Zk S zeroValue154 (cs := _) rfl rfl fun g3 a w S => run S (.as rfl <| .z) fun a w S => Zi (Zp S sizeOf154 (.t rfl) (.t rfl) (k := 0) rfl rfl rfl (by simp [Value.oneCell']) fun a w S => Zb (Za (hK3 _ _ (wp_seq_k fun _ hK3 => sg S (.mv rfl <| .yy (Yp (by omega) (Yf (.t rfl) Ev.c)) rfl <| .z) fun a w S => Ze S (.t rfl) (wp_skip (Za (hK3 _ _ (wp_seq_k fun _ hK3 => wp_region_lit (run S (.yy (Yn (ps := []) (us := [_, _, _]) bld37 .nil rfl) rfl <| .z) fun a w S => Zi (Zk S zeroValue37 (cs := _) rfl rfl fun g4 a w S => Zi (Zp S sizeOf37 (.t rfl) (.t rfl) (k := 0) rfl rfl rfl (by simp [Value.oneCell']) fun a w S => Zb (Za (hK3 _ _ (wp_seq_k fun _ hK3 => wp_seq_k fun _ hK4 => wp_region_lit ?_)))))))))))))))))))))
   refine run S (.fa underlying154 sizeOf58 4 rfl rfl rfl <| .ld gt58 1 rfl rfl rfl <| .ln underlying58 rfl <| .z) fun a w S => ?_
   rw [rw_xn] at S
   refine run S (.mc rfl <| .z) fun a w S => Zb (Za (hK4 _ _ (wp_block ?_)))
   refine Code.wp_mono (Q := fun e a w => match e with
     | .exit k => k = 2 ∧ ∃ c1 F1 f1 F2 f2 F3 f3, seenH T.st (x.s.seen.take 5) Cart.zero = some c1 ∧ InH T.up c1 ∧ St 115 w0 [(10, true, .pointer (some ⟨g4, 0, none⟩)), (9, true, .pointer (some ⟨g3, 0, none⟩)), (8, true, .int .i64 (i : Int)), (5, true, .slice C us.length cC), (6, true, .slice B ms.length cB), (24, true, .int .i64 (i : Int)), (23, true, .int .i64 (l.length : Int)), (22, true, .slice (some ⟨gq, oq, none⟩) l.length cap), (7, true, .pointer (some ⟨g2, 0, none⟩))] ([rowOf 100 6 Ent.enc F1 f1 c1.ents, rowOf 30 3 Dot.enc F2 f2 c1.ctx.marks, rowOf 74 3 Dot.enc F3 f3 c1.ctx.cloud, .blk g4 (.cells #[.slice F1 c1.ents.length f1, .slice F2 c1.ctx.marks.length f2, .slice F3 c1.ctx.cloud.length f3] 37), .blk g3 (.cells (SSay.enc x).toArray 154)] ++ [.ice w1 bs, rowOf 77 10 SUpd.enc C cC us, rowOf 37 3 SCart.enc B cB ms, .blk g2 (.cells (ctL T.ct).toArray 152)]) a w
     | .ret => seenH T.st (x.s.seen.take 5) Cart.zero = none ∧ ∃ L', St 115 w0 [(4, true, .bool false), (3, true, .slice none 0 0), (2, true, .slice none 0 0)] L' a w
     | _ => False) (fun e a w qq => ?_) ?_
   rotate_left
   · replace S := ((S.nil_ 74 3 Dot.enc none).nil_ 30 3 Dot.enc none).nil_ 100 6 Ent.enc none
     refine Xn S [35] (X := Nat × (Option Addr × Nat) × (Option Addr × Nat) × (Option Addr × Nat) × Cart) (fun q => [(35, true, .int .i64 (q.1 : Int))])
       (fun q => [rowOf 100 6 Ent.enc q.2.1.1 q.2.1.2 q.2.2.2.2.ents, rowOf 30 3 Dot.enc q.2.2.1.1 q.2.2.1.2 q.2.2.2.2.ctx.marks, rowOf 74 3 Dot.enc q.2.2.2.1.1 q.2.2.2.1.2 q.2.2.2.2.ctx.cloud, .blk g4 (.cells #[.slice q.2.1.1 q.2.2.2.2.ents.length q.2.1.2, .slice q.2.2.1.1 q.2.2.2.2.ctx.marks.length q.2.2.1.2, .slice q.2.2.2.1.1 q.2.2.2.2.ctx.cloud.length q.2.2.2.1.2] 37), .blk g3 (.cells (SSay.enc x).toArray 154)] ++ [.ice w1 bs, rowOf 77 10 SUpd.enc C cC us, rowOf 37 3 SCart.enc B cB ms, .blk g2 (.cells (ctL T.ct).toArray 152)])
       (fun q => q.1 ≤ x.s.seen.length ∧ q.1 ≤ 5 ∧ seenH T.st ((x.s.seen.take 5).drop q.1) q.2.2.2.2 = seenH T.st (x.s.seen.take 5) Cart.zero ∧ InH T.up q.2.2.2.2) (fun q => x.s.seen.length - q.1) (0, (none, 0), (none, 0), (none, 0), Cart.zero) ⟨Nat.zero_le _, Nat.zero_le _, rfl, inH_zero _⟩ ?_
     clear S
     rintro ⟨j, ⟨F1, f1⟩, ⟨F2, f2⟩, ⟨F3, f3⟩, c⟩ a w ⟨hj, hj5, hsn, hci⟩ S
     dsimp only [List.cons_append, List.nil_append] at hj hj5 hsn hci S
     by_cases hjl : j < x.s.seen.length
     · obtain ⟨gs, os, k, rw_a, hk, hdk, hck⟩ := Yh hA2 hjl
       by_cases h4 : 4 < j
       · rw [List.drop_of_length_le (by rw [List.length_take]; omega), seenH] at hsn
         refine wp_seq_k fun _ hK4 => ?_
         rw [rw_a] at S
         refine rg S (.lt (by omega) rfl rfl <| .z) hK4 fun a w S => wp_seq_k fun _ hK4 => Zg S (.t rfl) (wp_skip (Za (hK4 _ _ (wp_seq_k fun _ hK4 => wp_block (sg S (.mv rfl <| .ix underlying58 sizeOf61 (by omega) rfl rfl <| .yy (Xp ⟨isAgg61, sizeOf61⟩ (.t rfl) (fun _ => hck 0 _ rfl)) rfl <| .as rfl <| .as rfl <| .z) fun a w S => wp_seq_k fun _ hK5 => sg S (.mv rfl <| .yy (Yu (by omega) (Yf (.t rfl) Ev.c)) rfl <| .z) fun a w S => Zg S (.t rfl) (wp_exit (Zh (in_past rfl (Zh (Zh ?_))))))))))
         rw [← rw_a] at S
         exact ⟨rfl, c, _, _, _, _, _, _, hsn.symm, hci, S.pk⟩
       have hkt : (x.s.seen.take 5)[j]? = some k := by rw [List.getElem?_take_of_lt (by omega)]; exact hk
       rw [seenH_at hkt] at hsn
       have hstl : T.st.length = ms.length := by rw [← om, List.length_map]
       have hmp : k.toNat % ms.length < ms.length := Nat.mod_lt _ (by omega)
       have rw_r : (k.toNat : Int) % (ms.length : Int) = ((k.toNat % ms.length : Nat) : Int) := by rw [Int.natCast_emod]
       rw [hstl] at hsn
       generalize k.toNat % ms.length = m at *
       obtain ⟨sc, hsc⟩ : ∃ sc, ms[m]? = some sc := ⟨_, List.getElem?_eq_getElem hmp⟩
       have hsg : T.st.getD m Cart.zero = sc.1 := by rw [← om, List.getD_eq_getElem?_getD, List.getElem?_map, hsc]; rfl
       rw [hsg] at hsn
       have hsH := hT.st sc.1 (by rw [← om]; exact List.mem_map.2 ⟨sc, List.mem_of_getElem? hsc, rfl⟩)
       obtain ⟨i1, i2, i3⟩ := oj sc (List.mem_of_getElem? hsc)
       obtain ⟨gB, rfl⟩ := S.wd.row_at (k := 7) rfl (by have := (S.wd.room (k := 7) rfl).1; omega)
       by_cases hjo : (joinK c sc.1).2 = 0
       rotate_left
       · rw [if_neg hjo] at hsn
         have rw_jo : decide ((joinK c sc.1).2 ≠ 0) = true := decide_eq_true hjo
         refine wp_seq_k fun _ hK4 => ?_
         rw [rw_a] at S
         refine rg S (.lt (by omega) rfl rfl <| .z) hK4 fun a w S => wp_seq_k fun _ hK4 => Zg S (.t rfl) (wp_skip (Za (hK4 _ _ (wp_seq_k fun _ hK4 => wp_block (sg S (.mv rfl <| .ix underlying58 sizeOf61 (by omega) rfl rfl <| .yy (Xp ⟨isAgg61, sizeOf61⟩ (.t rfl) (fun _ => hck 0 _ rfl)) rfl <| .as rfl <| .as rfl <| .z) fun a w S => wp_seq_k fun _ hK5 => sg S (.mv rfl <| .yy (Yp (by omega) (Yf (.t rfl) Ev.c)) rfl <| .z) fun a w S => Ze S (.t rfl) (wp_skip (Za (hK5 _ _ (wp_seq_k fun _ hK5 => Ve S (by kernel_rfl) fun a w S => hy 0 S rfl (Yc ⟨isAgg37, sizeOf37⟩ (.t rfl) (k := 3) rfl rfl) rfl fun a w S => hy 1 S rfl (Zj (.t rfl)) rfl fun a w S => ?_)))))))))
         refine hy 2 S rfl (Zj (.t rfl)) rfl fun a w S => hy 3 S rfl (Zj (.t rfl)) rfl fun a w S => hy 4 S rfl (Wr underlying64 (.t rfl)) rfl fun a w S => hy 5 S rfl (ys_cvU underlying3 underlying61 (.t rfl) (fun _ => by omega)) rfl fun a w S => hy 6 S rfl (Vd (.t rfl) (.t rfl) (fun _ => by omega)) rfl fun a w S => ?_
         rw [rw_r] at S
         refine hy 7 S rfl (Ym underlying64 sizeOf37 (.t rfl) (.t rfl) (fun _ => by omega)) rfl fun a w S => hy 8 S rfl (Xw ⟨isAgg37, sizeOf37⟩ (.t rfl) (k := 7) rfl hsc (fun _ => rfl)) rfl fun a w S => ?_
         refine Xd (i := 9) (j := 13) (by kernel_rfl) rfl rfl ?_ ?_
         (refine Zr S call29 (.cons (.t rfl) (.cons (.t rfl) .nil)) (c29 _ _ _ _ _ _ _ _ _ (by exact Sl.of_own S.wd (k := 0) rfl (fun _ => rfl)) (by exact ⟨(by exact Sl.of_own S.wd (k := 1) rfl (fun _ => rfl)), (by exact Sl.of_own S.wd (k := 2) rfl (fun _ => rfl))⟩) (by exact SlIn.sl (by assumption) S.wd (k := 5) rfl) (by exact ⟨(by exact SlIn.sl (by assumption) S.wd (k := 5) rfl), (by exact SlIn.sl (by assumption) S.wd (k := 5) rfl)⟩)) rfl ?_; clear S a w; rintro _ _ ⟨A11, r11, A21, r21, A31, r31, rfl, rfl⟩ a w S; refine Zw S ?_)
         refine hy 10 S rfl (Zj (.t rfl)) rfl fun a w S => hy 11 S rfl (Xj (.t rfl) rfl) rfl fun a w S => hy 12 S rfl (Xj (.t rfl) rfl) rfl fun a w S => ?_
         (refine h_m (i := 13) rfl (by kernel_rfl) (Zk S zeroValue37 (cs := _) rfl rfl ?_); clear S a w; intro g5 a w S; refine Zw S ?_)
         (refine Xe (i := 14) rfl (by kernel_rfl) (Zp S sizeOf37 (.t rfl) (.t rfl) (k := 0) rfl rfl rfl (by simp [Value.oneCell']) ?_); clear S a w; intro a w S; refine Zw S ?_)
         refine hy 15 S rfl (Yb (.t rfl)) rfl fun a w S => Yq (by kernel_rfl) (Za (hK5 _ _ (wp_seq_k fun _ hK5 => sg S (.mv rfl <| .yy (Yu (by omega) (Yg (.t rfl) Ev.c)) rfl <| .z) fun a w S => Zg S (.t rfl) (sg S (.ac rfl <| .ac rfl <| .ac rfl <| .z) fun a w S => wp_ret (Zd (Zq (Zd (Zd ?_))))))))
         rotate_left
         (refine Zk S zeroValue37 (cs := _) rfl rfl ?_; clear S a w; intro g5 a w S; refine Zw S ?_)
         (refine h_m (i := 9) rfl (by kernel_rfl) (Zr S call29 (.cons (.t rfl) (.cons (.t rfl) .nil)) (c29 _ _ _ _ _ _ _ _ _ (by exact Sl.of_own S.wd (k := 1) rfl (fun _ => rfl)) (by exact ⟨(by exact Sl.of_own S.wd (k := 2) rfl (fun _ => rfl)), (by exact Sl.of_own S.wd (k := 3) rfl (fun _ => rfl))⟩) (by exact SlIn.sl (by assumption) S.wd (k := 6) rfl) (by exact ⟨(by exact SlIn.sl (by assumption) S.wd (k := 6) rfl), (by exact SlIn.sl (by assumption) S.wd (k := 6) rfl)⟩)) rfl ?_); clear S a w; rintro _ _ ⟨A11, r11, A21, r21, A31, r31, rfl, rfl⟩ a w S; refine Zw S ?_)
         refine hy 10 S rfl (Zj (.t rfl)) rfl fun a w S => hy 11 S rfl (Xj (.t rfl) rfl) rfl fun a w S => hy 12 S rfl (Xj (.t rfl) rfl) rfl fun a w S => ?_
         (refine Xe (i := 14) rfl (by kernel_rfl) (Zp S sizeOf37 (.t rfl) (.t rfl) (k := 3) rfl rfl rfl (by simp [Value.oneCell']) ?_); clear S a w; intro a w S; refine Zw S ?_)
         refine hy 15 S rfl (Yb (.t rfl)) rfl fun a w S => Yq (by kernel_rfl) (Za (hK5 _ _ (wp_seq_k fun _ hK5 => sg S (.mv rfl <| .yy (Yu (by omega) (Yg (.t rfl) Ev.c)) rfl <| .z) fun a w S => Zg S (.t rfl) (sg S (.ac rfl <| .ac rfl <| .ac rfl <| .z) fun a w S => wp_ret (Zd (Zq (Zd (Zd ?_))))))))
         rotate_left
         all_goals exact ⟨hsn.symm, _, S.wk⟩
       rw [if_pos hjo] at hsn
       refine wp_seq_k fun _ hK4 => ?_
       rw [rw_a] at S
       refine rg S (.lt (by omega) rfl rfl <| .z) hK4 fun a w S => wp_seq_k fun _ hK4 => Zg S (.t rfl) (wp_skip (Za (hK4 _ _ (wp_seq_k fun _ hK4 => wp_block (sg S (.mv rfl <| .ix underlying58 sizeOf61 (by omega) rfl rfl <| .yy (Xp ⟨isAgg61, sizeOf61⟩ (.t rfl) (fun _ => hck 0 _ rfl)) rfl <| .as rfl <| .as rfl <| .z) fun a w S => wp_seq_k fun _ hK5 => sg S (.mv rfl <| .yy (Yp (by omega) (Yf (.t rfl) Ev.c)) rfl <| .z) fun a w S => Ze S (.t rfl) (wp_skip (Za (hK5 _ _ (wp_seq_k fun _ hK5 => Ve S (by kernel_rfl) fun a w S => hy 0 S rfl (Yc ⟨isAgg37, sizeOf37⟩ (.t rfl) (k := 3) rfl rfl) rfl fun a w S => hy 1 S rfl (Zj (.t rfl)) rfl fun a w S => ?_)))))))))
       refine hy 2 S rfl (Zj (.t rfl)) rfl fun a w S => hy 3 S rfl (Zj (.t rfl)) rfl fun a w S => hy 4 S rfl (Wr underlying64 (.t rfl)) rfl fun a w S => hy 5 S rfl (ys_cvU underlying3 underlying61 (.t rfl) (fun _ => by omega)) rfl fun a w S => hy 6 S rfl (Vd (.t rfl) (.t rfl) (fun _ => by omega)) rfl fun a w S => ?_
       rw [rw_r] at S
       refine hy 7 S rfl (Ym underlying64 sizeOf37 (.t rfl) (.t rfl) (fun _ => by omega)) rfl fun a w S => hy 8 S rfl (Xw ⟨isAgg37, sizeOf37⟩ (.t rfl) (k := 7) rfl hsc (fun _ => rfl)) rfl fun a w S => ?_
       refine Xd (i := 9) (j := 13) (by kernel_rfl) rfl rfl ?_ ?_
       (refine Zr S call29 (.cons (.t rfl) (.cons (.t rfl) .nil)) (c29 _ _ _ _ _ _ _ _ _ (by exact Sl.of_own S.wd (k := 0) rfl (fun _ => rfl)) (by exact ⟨(by exact Sl.of_own S.wd (k := 1) rfl (fun _ => rfl)), (by exact Sl.of_own S.wd (k := 2) rfl (fun _ => rfl))⟩) (by exact SlIn.sl (by assumption) S.wd (k := 5) rfl) (by exact ⟨(by exact SlIn.sl (by assumption) S.wd (k := 5) rfl), (by exact SlIn.sl (by assumption) S.wd (k := 5) rfl)⟩)) rfl ?_; clear S a w; rintro _ _ ⟨A11, r11, A21, r21, A31, r31, rfl, rfl⟩ a w S; refine Zw S ?_)
       refine hy 10 S rfl (Zj (.t rfl)) rfl fun a w S => hy 11 S rfl (Xj (.t rfl) rfl) rfl fun a w S => hy 12 S rfl (Xj (.t rfl) rfl) rfl fun a w S => ?_
       (refine h_m (i := 13) rfl (by kernel_rfl) (Zk S zeroValue37 (cs := _) rfl rfl ?_); clear S a w; intro g5 a w S; refine Zw S ?_)
       (refine Xe (i := 14) rfl (by kernel_rfl) (Zp S sizeOf37 (.t rfl) (.t rfl) (k := 0) rfl rfl rfl (by simp [Value.oneCell']) ?_); clear S a w; intro a w S; refine Zw S ?_)
       refine hy 15 S rfl (Yb (.t rfl)) rfl fun a w S => Yq (by kernel_rfl) (Za (hK5 _ _ (wp_seq_k fun _ hK5 => sg S (.mv rfl <| .yy (Yp (by omega) (Yg (.t rfl) Ev.c)) rfl <| .z) fun a w S => Ze S (.t rfl) (wp_skip (Za (hK5 _ _ (wp_region_lit (run S (.la gt37 0 rfl rfl rfl <| .z) fun a w S => Zi (Zp S sizeOf37 (.t rfl) (.t rfl) (k := 7) rfl rfl rfl (by simp [Value.oneCell']) fun a w S => Zb (Zm (Za (hK4 _ _ (wp_region_lit (run S (.ad (by unfold I64; omega) rfl <| .mv rfl <| .z) fun a w S => Zb (Za ?_)))))))))))))))
       rotate_left
       (refine Zk S zeroValue37 (cs := _) rfl rfl ?_; clear S a w; intro g5 a w S; refine Zw S ?_)
       (refine h_m (i := 9) rfl (by kernel_rfl) (Zr S call29 (.cons (.t rfl) (.cons (.t rfl) .nil)) (c29 _ _ _ _ _ _ _ _ _ (by exact Sl.of_own S.wd (k := 1) rfl (fun _ => rfl)) (by exact ⟨(by exact Sl.of_own S.wd (k := 2) rfl (fun _ => rfl)), (by exact Sl.of_own S.wd (k := 3) rfl (fun _ => rfl))⟩) (by exact SlIn.sl (by assumption) S.wd (k := 6) rfl) (by exact ⟨(by exact SlIn.sl (by assumption) S.wd (k := 6) rfl), (by exact SlIn.sl (by assumption) S.wd (k := 6) rfl)⟩)) rfl ?_); clear S a w; rintro _ _ ⟨A11, r11, A21, r21, A31, r31, rfl, rfl⟩ a w S; refine Zw S ?_)
       refine hy 10 S rfl (Zj (.t rfl)) rfl fun a w S => hy 11 S rfl (Xj (.t rfl) rfl) rfl fun a w S => hy 12 S rfl (Xj (.t rfl) rfl) rfl fun a w S => ?_
       (refine Xe (i := 14) rfl (by kernel_rfl) (Zp S sizeOf37 (.t rfl) (.t rfl) (k := 3) rfl rfl rfl (by simp [Value.oneCell']) ?_); clear S a w; intro a w S; refine Zw S ?_)
       refine hy 15 S rfl (Yb (.t rfl)) rfl fun a w S => Yq (by kernel_rfl) (Za (hK5 _ _ (wp_seq_k fun _ hK5 => sg S (.mv rfl <| .yy (Yp (by omega) (Yg (.t rfl) Ev.c)) rfl <| .z) fun a w S => Ze S (.t rfl) (wp_skip (Za (hK5 _ _ (wp_region_lit (run S (.la gt37 3 rfl rfl rfl <| .z) fun a w S => Zi (Zp S sizeOf37 (.t rfl) (.t rfl) (k := 7) rfl rfl rfl (by simp [Value.oneCell']) fun a w S => Zb (Zm (Za (hK4 _ _ (wp_region_lit (run S (.ad (by unfold I64; omega) rfl <| .mv rfl <| .z) fun a w S => Zb (Za ?_)))))))))))))))
       rotate_left
       all_goals (rw [← rw_a] at S; exact ⟨(j + 1, (A11, r11), (A21, r21), (A31, r31), (joinK c sc.1).1), ⟨by dsimp only; omega, by dsimp only; omega, hsn, inH_join hci hsH hjo⟩, by dsimp only; omega, S.pk⟩)
     obtain rfl : j = x.s.seen.length := by omega
     rw [List.drop_of_length_le (by rw [List.length_take]; omega), seenH] at hsn
     refine sg S (.ge (by omega) rfl rfl <| .z) fun a w S => wp_seq_k fun _ hK4 => Ze S (.t rfl) (wp_exit (Zh (Zh ?_)))
     exact ⟨rfl, c, _, _, _, _, _, _, hsn.symm, hci, S.pk⟩
   clear S
   rcases e with _ | _ | _ | _ | _ | _ | _
   any_goals exact qq.elim
   rotate_left
   · obtain ⟨hs1, L', S⟩ := qq
     have hst0 : stepH T x.s = none := by unfold stepH; rw [hs1]
     rw [hst0] at hF
     refine Zq (Zd (Zq (Zd (Zd (Zq (Zd (Zn S (results3 S results40 (Rv.tmp rfl) (Rv.tmp rfl) (Rv.tmp rfl)) ?_)))))))
     exact ⟨_, _, rfl, S.wd.sub (List.nil_sublist _), .inr ⟨hF.symm, rfl, rfl⟩⟩
   obtain ⟨rfl, c1, F1, f1, F2, f2, F3, f3, hs1, hc1, S⟩ := qq
   dsimp only [List.cons_append, List.nil_append] at S
   obtain ⟨n, hn⟩ : ∃ n, x.s.node.toNat % 3 = n := ⟨_, rfl⟩
   obtain ⟨f, hf⟩ : ∃ f, x.s.life.toNat % 3 = f := ⟨_, rfl⟩
   obtain ⟨it, hit⟩ : ∃ it, x.s.item.toNat % 3 = it := ⟨_, rfl⟩
   obtain ⟨qt, hqt⟩ : ∃ qt, x.s.qty.toNat % 4 = qt := ⟨_, rfl⟩
   have hn3 : n < 3 := by omega
   have hf3 : f < 3 := by omega
   have hi3 : it < 3 := by omega
   have hq4 : qt < 4 := by omega
   have rw_n3 : (x.s.node.toNat : Int) % 3 = (n : Int) := by omega
   have rw_f3 : (x.s.life.toNat : Int) % 3 = (f : Int) := by omega
   have rw_i3 : (x.s.item.toNat : Int) % 3 = (it : Int) := by omega
   have rw_q4 : (x.s.qty.toNat : Int) % 4 = (qt : Int) := by omega
   have hslot : slotH x.s = n * 3 + f := by unfold slotH; omega
   obtain ⟨V, hV⟩ : ∃ V, T.ct.getD (n * 3 + f) 0 = V := ⟨_, rfl⟩
   have hVp := hT.pos (n * 3 + f)
   rw [hV] at hVp
   have hctl := hT.ct
   have hcg := ctL_get2 (l := T.ct) (n := n) (f := f) (by omega)
   rw [hV] at hcg
   have hit3 := items_at hi3
   have hu : sayU T x.s c1 = ⟨[107], ⟨(n : Int), (f : Int) + 1, V + 1⟩, itemsH it, (qt : Int), 0, c1⟩ := by
     unfold sayU
     rw [hslot, hn, hf, hit, hqt, hV]
   have hupl : T.up.length ≤ 20 := by omega
   have halt_d := trivial
   refine Ya (Za (hK3 _ _ (wp_seq_k fun _ hK3 => Ye S (by kernel_rfl) (by kernel_rfl) fun a S => qrun S (.fa underlying154 sizeOf61 0 rfl rfl rfl <| .ld gt61 4 rfl rfl rfl <| .yy (Vd (.t rfl) Ev.c (fun _ => by omega)) rfl <| .z) fun a S => ?_)))
   rw [rw_n3] at S
   refine qrun S (.fa underlying154 sizeOf61 1 rfl rfl rfl <| .ld gt61 4 rfl rfl rfl <| .yy (Vd (.t rfl) Ev.c (fun _ => by omega)) rfl <| .z) fun a S => ?_
   rw [rw_f3] at S
   refine qrun S (.as rfl <| .as rfl <| .z) fun a S => ?_
   (refine Xb ?_; intro w W; replace S := St.mk S W; clear W)
   refine Za (hK3 _ _ (wp_seq_k fun _ hK3 => ?_))
   clear halt_d
   refine Code.wp_mono (Q := fun e a w => match e with
     | .normal => ∃ g5, St 115 w0 [(17, true, .pointer (some ⟨g5, 0, none⟩)), (16, true, .int .u64 (f : Int)), (15, true, .int .u64 (n : Int)), (5, true, .slice C us.length cC), (6, true, .slice B ms.length cB), (24, true, .int .i64 (i : Int)), (23, true, .int .i64 (l.length : Int)), (22, true, .slice (some ⟨gq, oq, none⟩) l.length cap), (7, true, .pointer (some ⟨g2, 0, none⟩))] [.blk g5 (.cells (Upd.enc (sayU T x.s c1) (.slice F1 c1.ents.length f1) (.slice F2 c1.ctx.marks.length f2) (.slice F3 c1.ctx.cloud.length f3)).toArray 77), rowOf 100 6 Ent.enc F1 f1 c1.ents, rowOf 30 3 Dot.enc F2 f2 c1.ctx.marks, rowOf 74 3 Dot.enc F3 f3 c1.ctx.cloud, .blk g4 (.cells #[.slice F1 c1.ents.length f1, .slice F2 c1.ctx.marks.length f2, .slice F3 c1.ctx.cloud.length f3] 37), .blk g3 (.cells (SSay.enc x).toArray 154), .ice w1 bs, rowOf 77 10 SUpd.enc C cC us, rowOf 37 3 SCart.enc B cB ms, .blk g2 (.cells (ctL T.ct).toArray 152)] a w
     | _ => False) (fun e a w qq => ?_) ?_
   rotate_left
   · rw [hu]
     obtain rfl | rfl | rfl : it = 0 ∨ it = 1 ∨ it = 2 := by omega
     · refine Ve S (by kernel_rfl) fun a w S => hy 0 S rfl (Zj (.t rfl)) rfl fun a w S => hy 1 S rfl (ys_cvI underlying61 underlying3 (.t rfl) (fun _ => by unfold I64; omega)) rfl fun a w S => hy 2 S rfl (Zj (.t rfl)) rfl fun a w S => hy 3 S rfl (ys_cvI underlying61 underlying3 (.t rfl) (fun _ => by unfold I64; omega)) rfl fun a w S => hy 4 S rfl (Xk (.t rfl) Ev.c (fun _ => by unfold I64; omega)) rfl fun a w S => ?_
       refine hy 5 S rfl (Zj (.t rfl)) rfl fun a w S => hy 6 S rfl (Zj (.t rfl)) rfl fun a w S => hy 7 S rfl (ys_ixA underlying152 sizeOf151 (.t rfl) (.t rfl) (fun _ => by omega)) rfl fun a w S => hy 8 S rfl (ys_ixA underlying151 sizeOf3 (.t rfl) (.t rfl) (fun _ => by omega)) rfl fun a w S => hy 9 S rfl (ys_ldN ⟨isAgg3, sizeOf3⟩ (.t rfl) (k := 8) rfl (fun _ => by assumption)) rfl fun a w S => ?_
       refine hy 10 S rfl (Xk (.t rfl) Ev.c (fun _ => by unfold I64; omega)) rfl fun a w S => hy 11 S rfl (Yn (ps := [(0, Go.Operand.tmp 66), (1, Go.Operand.tmp 69), (2, Go.Operand.tmp 75)]) (us := [_, _, _]) bld74 (.cons (.t rfl) (.cons (.t rfl) (.cons (.t rfl) .nil))) rfl) rfl fun a w S => hy 13 S rfl (Zc (FieldT.mk underlying154 rfl sizeOf61 rfl) (.t rfl) (i' := 2) rfl) rfl fun a w S => hy 14 S rfl (Zt ⟨isAgg61, sizeOf61⟩ (.t rfl) (k := 4) rfl rfl) rfl fun a w S => ?_
       refine hy 15 S rfl (Vd (.t rfl) Ev.c (fun _ => by omega)) rfl fun a w S => ?_
       rw [rw_i3] at S
       refine hy 18 S rfl (Zc (FieldT.mk underlying154 rfl sizeOf61 rfl) (.t rfl) (i' := 3) rfl) rfl fun a w S => hy 19 S rfl (Zt ⟨isAgg61, sizeOf61⟩ (.t rfl) (k := 4) rfl rfl) rfl fun a w S => hy 20 S rfl (Vd (.t rfl) Ev.c (fun _ => by omega)) rfl fun a w S => ?_
       rw [rw_q4] at S
       refine hy 21 S rfl (ys_cvI underlying61 underlying3 (.t rfl) (fun _ => by unfold I64; omega)) rfl fun a w S => hy 22 S rfl (Yc ⟨isAgg37, sizeOf37⟩ (.t rfl) (k := 3) rfl rfl) rfl fun a w S => ?_
       refine Xd (i := 12) (j := 24) (by kernel_rfl) rfl rfl ?_ ?_
       (refine Xv (ps := [(0, _), (1, _), (2, _)]) (us := [_, _, _]) S underlying85 sizeOf9 zeroValue9 rfl rfl (.cons Ev.c (.cons Ev.c (.cons Ev.c .nil))) rfl rfl ?_; clear S a w; intro g5 a w S; refine Zw S ?_)
       refine hy 16 S rfl (Ym (j := 0) underlying85 sizeOf9 (.t rfl) (.t rfl) (fun _ => by omega)) rfl fun a w S => ?_
       refine Xd (i := 17) (j := 24) (by kernel_rfl) rfl rfl ?_ ?_
       (refine Vn S (Yr.ys (Zt ⟨isAgg9, sizeOf9⟩ (.t rfl) (k := 0) rfl rfl)) rfl ?_; clear S a w; intro a w S; refine Zw S ?_)
       refine hy 23 S rfl (Yn (ps := [(0, _), (1, Go.Operand.tmp 76), (2, Go.Operand.tmp 82), (3, Go.Operand.tmp 86), (5, Go.Operand.tmp 87)]) (us := [_, _, _, _, _, _, _, _, _, _]) bld77 (.cons Ev.c (.cons (.t rfl) (.cons (.t rfl) (.cons (.t rfl) (.cons (.t rfl) .nil))))) rfl) rfl fun a w S => ?_
       (refine h_m (i := 24) rfl (by kernel_rfl) (Zk S zeroValue77 (cs := _) rfl rfl ?_); clear S a w; intro g6 a w S; refine Zw S ?_)
       (refine Xe (i := 25) rfl (by kernel_rfl) (Zp S sizeOf77 (.t rfl) (.t rfl) (k := 0) rfl rfl rfl (by simp [Value.oneCell']) ?_); clear S a w; intro a w S; refine Zw S ?_)
       refine Yq (by kernel_rfl) ?_
       rotate_left
       (refine Zk S zeroValue77 (cs := _) rfl rfl ?_; clear S a w; intro g6 a w S; refine Zw S ?_)
       refine h_q (i := 17) S (by repeat (first | exact List.Sublist.refl _ | exact List.nil_sublist _ | refine .cons_cons _ ?_ | refine .cons _ ?_)) rfl (by kernel_rfl) (Yr.ys (Zt ⟨isAgg9, sizeOf9⟩ (.t rfl) (k := 1) rfl rfl)) rfl fun a w S => hy 23 S rfl (Yn (ps := [(0, _), (1, Go.Operand.tmp 76), (2, Go.Operand.tmp 82), (3, Go.Operand.tmp 86), (5, Go.Operand.tmp 87)]) (us := [_, _, _, _, _, _, _, _, _, _]) bld77 (.cons Ev.c (.cons (.t rfl) (.cons (.t rfl) (.cons (.t rfl) (.cons (.t rfl) .nil))))) rfl) rfl fun a w S => ?_
       (refine Xe (i := 25) rfl (by kernel_rfl) (Zp S sizeOf77 (.t rfl) (.t rfl) (k := 0) rfl rfl rfl (by simp [Value.oneCell']) ?_); clear S a w; intro a w S; refine Zw S ?_)
       refine Yq (by kernel_rfl) ?_
       rotate_left
       (refine Zk S zeroValue77 (cs := _) rfl rfl ?_; clear S a w; intro g5 a w S; refine Zw S ?_)
       (refine h_m (i := 12) rfl (by kernel_rfl) (Xv (ps := [(0, _), (1, _), (2, _)]) (us := [_, _, _]) S underlying85 sizeOf9 zeroValue9 rfl rfl (.cons Ev.c (.cons Ev.c (.cons Ev.c .nil))) rfl rfl ?_); clear S a w; intro g6 a w S; refine Zw S ?_)
       refine hy 16 S rfl (Ym (j := 0) underlying85 sizeOf9 (.t rfl) (.t rfl) (fun _ => by omega)) rfl fun a w S => h_q (i := 17) S (by repeat (first | exact List.Sublist.refl _ | exact List.nil_sublist _ | refine .cons_cons _ ?_ | refine .cons _ ?_)) rfl (by kernel_rfl) (Yr.ys (Zt ⟨isAgg9, sizeOf9⟩ (.t rfl) (k := 0) rfl rfl)) rfl fun a w S => hy 23 S rfl (Yn (ps := [(0, _), (1, Go.Operand.tmp 76), (2, Go.Operand.tmp 82), (3, Go.Operand.tmp 86), (5, Go.Operand.tmp 87)]) (us := [_, _, _, _, _, _, _, _, _, _]) bld77 (.cons Ev.c (.cons (.t rfl) (.cons (.t rfl) (.cons (.t rfl) (.cons (.t rfl) .nil))))) rfl) rfl fun a w S => ?_
       (refine Xe (i := 25) rfl (by kernel_rfl) (Zp S sizeOf77 (.t rfl) (.t rfl) (k := 1) rfl rfl rfl (by simp [Value.oneCell']) ?_); clear S a w; intro a w S; refine Zw S ?_)
       refine Yq (by kernel_rfl) ?_
       rotate_left
       all_goals exact ⟨_, S.pk⟩
     · refine Ve S (by kernel_rfl) fun a w S => hy 0 S rfl (Zj (.t rfl)) rfl fun a w S => hy 1 S rfl (ys_cvI underlying61 underlying3 (.t rfl) (fun _ => by unfold I64; omega)) rfl fun a w S => hy 2 S rfl (Zj (.t rfl)) rfl fun a w S => hy 3 S rfl (ys_cvI underlying61 underlying3 (.t rfl) (fun _ => by unfold I64; omega)) rfl fun a w S => hy 4 S rfl (Xk (.t rfl) Ev.c (fun _ => by unfold I64; omega)) rfl fun a w S => ?_
       refine hy 5 S rfl (Zj (.t rfl)) rfl fun a w S => hy 6 S rfl (Zj (.t rfl)) rfl fun a w S => hy 7 S rfl (ys_ixA underlying152 sizeOf151 (.t rfl) (.t rfl) (fun _ => by omega)) rfl fun a w S => hy 8 S rfl (ys_ixA underlying151 sizeOf3 (.t rfl) (.t rfl) (fun _ => by omega)) rfl fun a w S => hy 9 S rfl (ys_ldN ⟨isAgg3, sizeOf3⟩ (.t rfl) (k := 8) rfl (fun _ => by assumption)) rfl fun a w S => ?_
       refine hy 10 S rfl (Xk (.t rfl) Ev.c (fun _ => by unfold I64; omega)) rfl fun a w S => hy 11 S rfl (Yn (ps := [(0, Go.Operand.tmp 66), (1, Go.Operand.tmp 69), (2, Go.Operand.tmp 75)]) (us := [_, _, _]) bld74 (.cons (.t rfl) (.cons (.t rfl) (.cons (.t rfl) .nil))) rfl) rfl fun a w S => hy 13 S rfl (Zc (FieldT.mk underlying154 rfl sizeOf61 rfl) (.t rfl) (i' := 2) rfl) rfl fun a w S => hy 14 S rfl (Zt ⟨isAgg61, sizeOf61⟩ (.t rfl) (k := 4) rfl rfl) rfl fun a w S => ?_
       refine hy 15 S rfl (Vd (.t rfl) Ev.c (fun _ => by omega)) rfl fun a w S => ?_
       rw [rw_i3] at S
       refine hy 18 S rfl (Zc (FieldT.mk underlying154 rfl sizeOf61 rfl) (.t rfl) (i' := 3) rfl) rfl fun a w S => hy 19 S rfl (Zt ⟨isAgg61, sizeOf61⟩ (.t rfl) (k := 4) rfl rfl) rfl fun a w S => hy 20 S rfl (Vd (.t rfl) Ev.c (fun _ => by omega)) rfl fun a w S => ?_
       rw [rw_q4] at S
       refine hy 21 S rfl (ys_cvI underlying61 underlying3 (.t rfl) (fun _ => by unfold I64; omega)) rfl fun a w S => hy 22 S rfl (Yc ⟨isAgg37, sizeOf37⟩ (.t rfl) (k := 3) rfl rfl) rfl fun a w S => ?_
       refine Xd (i := 12) (j := 24) (by kernel_rfl) rfl rfl ?_ ?_
       (refine Xv (ps := [(0, _), (1, _), (2, _)]) (us := [_, _, _]) S underlying85 sizeOf9 zeroValue9 rfl rfl (.cons Ev.c (.cons Ev.c (.cons Ev.c .nil))) rfl rfl ?_; clear S a w; intro g5 a w S; refine Zw S ?_)
       refine hy 16 S rfl (Ym (j := 1) underlying85 sizeOf9 (.t rfl) (.t rfl) (fun _ => by omega)) rfl fun a w S => ?_
       refine Xd (i := 17) (j := 24) (by kernel_rfl) rfl rfl ?_ ?_
       (refine Vn S (Yr.ys (Zt ⟨isAgg9, sizeOf9⟩ (.t rfl) (k := 0) rfl rfl)) rfl ?_; clear S a w; intro a w S; refine Zw S ?_)
       refine hy 23 S rfl (Yn (ps := [(0, _), (1, Go.Operand.tmp 76), (2, Go.Operand.tmp 82), (3, Go.Operand.tmp 86), (5, Go.Operand.tmp 87)]) (us := [_, _, _, _, _, _, _, _, _, _]) bld77 (.cons Ev.c (.cons (.t rfl) (.cons (.t rfl) (.cons (.t rfl) (.cons (.t rfl) .nil))))) rfl) rfl fun a w S => ?_
       (refine h_m (i := 24) rfl (by kernel_rfl) (Zk S zeroValue77 (cs := _) rfl rfl ?_); clear S a w; intro g6 a w S; refine Zw S ?_)
       (refine Xe (i := 25) rfl (by kernel_rfl) (Zp S sizeOf77 (.t rfl) (.t rfl) (k := 0) rfl rfl rfl (by simp [Value.oneCell']) ?_); clear S a w; intro a w S; refine Zw S ?_)
       refine Yq (by kernel_rfl) ?_
       rotate_left
       (refine Zk S zeroValue77 (cs := _) rfl rfl ?_; clear S a w; intro g6 a w S; refine Zw S ?_)
       refine h_q (i := 17) S (by repeat (first | exact List.Sublist.refl _ | exact List.nil_sublist _ | refine .cons_cons _ ?_ | refine .cons _ ?_)) rfl (by kernel_rfl) (Yr.ys (Zt ⟨isAgg9, sizeOf9⟩ (.t rfl) (k := 1) rfl rfl)) rfl fun a w S => hy 23 S rfl (Yn (ps := [(0, _), (1, Go.Operand.tmp 76), (2, Go.Operand.tmp 82), (3, Go.Operand.tmp 86), (5, Go.Operand.tmp 87)]) (us := [_, _, _, _, _, _, _, _, _, _]) bld77 (.cons Ev.c (.cons (.t rfl) (.cons (.t rfl) (.cons (.t rfl) (.cons (.t rfl) .nil))))) rfl) rfl fun a w S => ?_
       (refine Xe (i := 25) rfl (by kernel_rfl) (Zp S sizeOf77 (.t rfl) (.t rfl) (k := 0) rfl rfl rfl (by simp [Value.oneCell']) ?_); clear S a w; intro a w S; refine Zw S ?_)
       refine Yq (by kernel_rfl) ?_
       rotate_left
       (refine Zk S zeroValue77 (cs := _) rfl rfl ?_; clear S a w; intro g5 a w S; refine Zw S ?_)
       (refine h_m (i := 12) rfl (by kernel_rfl) (Xv (ps := [(0, _), (1, _), (2, _)]) (us := [_, _, _]) S underlying85 sizeOf9 zeroValue9 rfl rfl (.cons Ev.c (.cons Ev.c (.cons Ev.c .nil))) rfl rfl ?_); clear S a w; intro g6 a w S; refine Zw S ?_)
       refine hy 16 S rfl (Ym (j := 1) underlying85 sizeOf9 (.t rfl) (.t rfl) (fun _ => by omega)) rfl fun a w S => h_q (i := 17) S (by repeat (first | exact List.Sublist.refl _ | exact List.nil_sublist _ | refine .cons_cons _ ?_ | refine .cons _ ?_)) rfl (by kernel_rfl) (Yr.ys (Zt ⟨isAgg9, sizeOf9⟩ (.t rfl) (k := 0) rfl rfl)) rfl fun a w S => hy 23 S rfl (Yn (ps := [(0, _), (1, Go.Operand.tmp 76), (2, Go.Operand.tmp 82), (3, Go.Operand.tmp 86), (5, Go.Operand.tmp 87)]) (us := [_, _, _, _, _, _, _, _, _, _]) bld77 (.cons Ev.c (.cons (.t rfl) (.cons (.t rfl) (.cons (.t rfl) (.cons (.t rfl) .nil))))) rfl) rfl fun a w S => ?_
       (refine Xe (i := 25) rfl (by kernel_rfl) (Zp S sizeOf77 (.t rfl) (.t rfl) (k := 1) rfl rfl rfl (by simp [Value.oneCell']) ?_); clear S a w; intro a w S; refine Zw S ?_)
       refine Yq (by kernel_rfl) ?_
       rotate_left
       all_goals exact ⟨_, S.pk⟩
     · refine Ve S (by kernel_rfl) fun a w S => hy 0 S rfl (Zj (.t rfl)) rfl fun a w S => hy 1 S rfl (ys_cvI underlying61 underlying3 (.t rfl) (fun _ => by unfold I64; omega)) rfl fun a w S => hy 2 S rfl (Zj (.t rfl)) rfl fun a w S => hy 3 S rfl (ys_cvI underlying61 underlying3 (.t rfl) (fun _ => by unfold I64; omega)) rfl fun a w S => hy 4 S rfl (Xk (.t rfl) Ev.c (fun _ => by unfold I64; omega)) rfl fun a w S => ?_
       refine hy 5 S rfl (Zj (.t rfl)) rfl fun a w S => hy 6 S rfl (Zj (.t rfl)) rfl fun a w S => hy 7 S rfl (ys_ixA underlying152 sizeOf151 (.t rfl) (.t rfl) (fun _ => by omega)) rfl fun a w S => hy 8 S rfl (ys_ixA underlying151 sizeOf3 (.t rfl) (.t rfl) (fun _ => by omega)) rfl fun a w S => hy 9 S rfl (ys_ldN ⟨isAgg3, sizeOf3⟩ (.t rfl) (k := 8) rfl (fun _ => by assumption)) rfl fun a w S => ?_
       refine hy 10 S rfl (Xk (.t rfl) Ev.c (fun _ => by unfold I64; omega)) rfl fun a w S => hy 11 S rfl (Yn (ps := [(0, Go.Operand.tmp 66), (1, Go.Operand.tmp 69), (2, Go.Operand.tmp 75)]) (us := [_, _, _]) bld74 (.cons (.t rfl) (.cons (.t rfl) (.cons (.t rfl) .nil))) rfl) rfl fun a w S => hy 13 S rfl (Zc (FieldT.mk underlying154 rfl sizeOf61 rfl) (.t rfl) (i' := 2) rfl) rfl fun a w S => hy 14 S rfl (Zt ⟨isAgg61, sizeOf61⟩ (.t rfl) (k := 4) rfl rfl) rfl fun a w S => ?_
       refine hy 15 S rfl (Vd (.t rfl) Ev.c (fun _ => by omega)) rfl fun a w S => ?_
       rw [rw_i3] at S
       refine hy 18 S rfl (Zc (FieldT.mk underlying154 rfl sizeOf61 rfl) (.t rfl) (i' := 3) rfl) rfl fun a w S => hy 19 S rfl (Zt ⟨isAgg61, sizeOf61⟩ (.t rfl) (k := 4) rfl rfl) rfl fun a w S => hy 20 S rfl (Vd (.t rfl) Ev.c (fun _ => by omega)) rfl fun a w S => ?_
       rw [rw_q4] at S
       refine hy 21 S rfl (ys_cvI underlying61 underlying3 (.t rfl) (fun _ => by unfold I64; omega)) rfl fun a w S => hy 22 S rfl (Yc ⟨isAgg37, sizeOf37⟩ (.t rfl) (k := 3) rfl rfl) rfl fun a w S => ?_
       refine Xd (i := 12) (j := 24) (by kernel_rfl) rfl rfl ?_ ?_
       (refine Xv (ps := [(0, _), (1, _), (2, _)]) (us := [_, _, _]) S underlying85 sizeOf9 zeroValue9 rfl rfl (.cons Ev.c (.cons Ev.c (.cons Ev.c .nil))) rfl rfl ?_; clear S a w; intro g5 a w S; refine Zw S ?_)
       refine hy 16 S rfl (Ym (j := 2) underlying85 sizeOf9 (.t rfl) (.t rfl) (fun _ => by omega)) rfl fun a w S => ?_
       refine Xd (i := 17) (j := 24) (by kernel_rfl) rfl rfl ?_ ?_
       (refine Vn S (Yr.ys (Zt ⟨isAgg9, sizeOf9⟩ (.t rfl) (k := 0) rfl rfl)) rfl ?_; clear S a w; intro a w S; refine Zw S ?_)
       refine hy 23 S rfl (Yn (ps := [(0, _), (1, Go.Operand.tmp 76), (2, Go.Operand.tmp 82), (3, Go.Operand.tmp 86), (5, Go.Operand.tmp 87)]) (us := [_, _, _, _, _, _, _, _, _, _]) bld77 (.cons Ev.c (.cons (.t rfl) (.cons (.t rfl) (.cons (.t rfl) (.cons (.t rfl) .nil))))) rfl) rfl fun a w S => ?_
       (refine h_m (i := 24) rfl (by kernel_rfl) (Zk S zeroValue77 (cs := _) rfl rfl ?_); clear S a w; intro g6 a w S; refine Zw S ?_)
       (refine Xe (i := 25) rfl (by kernel_rfl) (Zp S sizeOf77 (.t rfl) (.t rfl) (k := 0) rfl rfl rfl (by simp [Value.oneCell']) ?_); clear S a w; intro a w S; refine Zw S ?_)
       refine Yq (by kernel_rfl) ?_
       rotate_left
       (refine Zk S zeroValue77 (cs := _) rfl rfl ?_; clear S a w; intro g6 a w S; refine Zw S ?_)
       refine h_q (i := 17) S (by repeat (first | exact List.Sublist.refl _ | exact List.nil_sublist _ | refine .cons_cons _ ?_ | refine .cons _ ?_)) rfl (by kernel_rfl) (Yr.ys (Zt ⟨isAgg9, sizeOf9⟩ (.t rfl) (k := 1) rfl rfl)) rfl fun a w S => hy 23 S rfl (Yn (ps := [(0, _), (1, Go.Operand.tmp 76), (2, Go.Operand.tmp 82), (3, Go.Operand.tmp 86), (5, Go.Operand.tmp 87)]) (us := [_, _, _, _, _, _, _, _, _, _]) bld77 (.cons Ev.c (.cons (.t rfl) (.cons (.t rfl) (.cons (.t rfl) (.cons (.t rfl) .nil))))) rfl) rfl fun a w S => ?_
       (refine Xe (i := 25) rfl (by kernel_rfl) (Zp S sizeOf77 (.t rfl) (.t rfl) (k := 0) rfl rfl rfl (by simp [Value.oneCell']) ?_); clear S a w; intro a w S; refine Zw S ?_)
       refine Yq (by kernel_rfl) ?_
       rotate_left
       (refine Zk S zeroValue77 (cs := _) rfl rfl ?_; clear S a w; intro g5 a w S; refine Zw S ?_)
       (refine h_m (i := 12) rfl (by kernel_rfl) (Xv (ps := [(0, _), (1, _), (2, _)]) (us := [_, _, _]) S underlying85 sizeOf9 zeroValue9 rfl rfl (.cons Ev.c (.cons Ev.c (.cons Ev.c .nil))) rfl rfl ?_); clear S a w; intro g6 a w S; refine Zw S ?_)
       refine hy 16 S rfl (Ym (j := 2) underlying85 sizeOf9 (.t rfl) (.t rfl) (fun _ => by omega)) rfl fun a w S => h_q (i := 17) S (by repeat (first | exact List.Sublist.refl _ | exact List.nil_sublist _ | refine .cons_cons _ ?_ | refine .cons _ ?_)) rfl (by kernel_rfl) (Yr.ys (Zt ⟨isAgg9, sizeOf9⟩ (.t rfl) (k := 0) rfl rfl)) rfl fun a w S => hy 23 S rfl (Yn (ps := [(0, _), (1, Go.Operand.tmp 76), (2, Go.Operand.tmp 82), (3, Go.Operand.tmp 86), (5, Go.Operand.tmp 87)]) (us := [_, _, _, _, _, _, _, _, _, _]) bld77 (.cons Ev.c (.cons (.t rfl) (.cons (.t rfl) (.cons (.t rfl) (.cons (.t rfl) .nil))))) rfl) rfl fun a w S => ?_
       (refine Xe (i := 25) rfl (by kernel_rfl) (Zp S sizeOf77 (.t rfl) (.t rfl) (k := 1) rfl rfl rfl (by simp [Value.oneCell']) ?_); clear S a w; intro a w S; refine Zw S ?_)
       refine Yq (by kernel_rfl) ?_
       rotate_left
       all_goals exact ⟨_, S.pk⟩
   clear S
   rcases e with _ | _ | _ | _ | _ | _ | _
   any_goals exact qq.elim
   obtain ⟨g5, S⟩ := qq
   refine Za ?_
   first | refine hK9 _ _ ?_ | refine hK8 _ _ ?_ | refine hK7 _ _ ?_ | refine hK6 _ _ ?_ | refine hK5 _ _ ?_ | refine hK4 _ _ ?_ | refine hK3 _ _ ?_ | refine hK2 _ _ ?_ | refine hK1 _ _ ?_
   obtain ⟨u, hu2⟩ : ∃ u, sayU T x.s c1 = u := ⟨_, rfl⟩
   have hus : u.seen = c1 := by rw [← hu2]; rfl
   rw [hu2] at S
   subst hus
   by_cases ha1 : (applyU u).2 = 0
   rotate_left
   · have hst0 : stepH T x.s = none := by
       unfold stepH
       rw [hs1]
       dsimp only
       rw [hu2, if_neg ha1]
     rw [hst0] at hF
     have rw_ap : decide ((applyU u).2 ≠ 0) = true := decide_eq_true ha1
     refine wp_seq_k fun _ hK4 => wp_region_lit (run S (.la gt77 0 rfl rfl rfl <| .z) fun a w S => ?_)
     (refine Zi (Zr S call113 (.cons (.t rfl) .nil) (c113 _ _ _ _ _ (by exact Sl.of_own S.wd (k := 1) rfl (fun _ => rfl)) (by exact ⟨(by exact Sl.of_own S.wd (k := 2) rfl (fun _ => rfl)), (by exact Sl.of_own S.wd (k := 3) rfl (fun _ => rfl))⟩)) rfl ?_); clear S a w; rintro _ _ ⟨A11, r11, A21, r21, A31, r31, rfl, rfl⟩ a w S)
     refine run S (.mv rfl <| .ex rfl rfl <| .ex rfl rfl <| .z) fun a w S => Zi (Zk S zeroValue37 (cs := _) rfl rfl fun g6 a w S => Zi (Zp S sizeOf37 (.t rfl) (.t rfl) (k := 0) rfl rfl rfl (by simp [Value.oneCell']) fun a w S => run S (.as rfl <| .z) fun a w S => Zb (Za (hK4 _ _ (wp_seq_k fun _ hK4 => sg S (.mv rfl <| .yy (Yu (by omega) (Yg (.t rfl) Ev.c)) rfl <| .z) fun a w S => Zg S (.t rfl) (sg S (.ac rfl <| .ac rfl <| .ac rfl <| .z) fun a w S => wp_ret (Zd (Zq (Zd (Zd (Zq (Zd (Zn S (results3 S results40 (Rv.tmp rfl) (Rv.tmp rfl) (Rv.tmp rfl)) ?_)))))))))))))
     exact ⟨_, _, rfl, S.wd.sub (List.nil_sublist _), .inr ⟨hF.symm, rfl, rfl⟩⟩
   have hst1 : stepH T x.s = some (nextH T x.s u) := by
     unfold stepH
     rw [hs1]
     dsimp only
     rw [hu2, if_pos ha1]
   rw [hst1] at hF
   have hT2 := hst_step hT hst1
   have rw_a := ha1
   refine wp_seq_k fun _ hK4 => wp_region_lit (run S (.la gt77 0 rfl rfl rfl <| .z) fun a w S => ?_)
   (refine Zi (Zr S call113 (.cons (.t rfl) .nil) (c113 _ _ _ _ _ (by exact Sl.of_own S.wd (k := 1) rfl (fun _ => rfl)) (by exact ⟨(by exact Sl.of_own S.wd (k := 2) rfl (fun _ => rfl)), (by exact Sl.of_own S.wd (k := 3) rfl (fun _ => rfl))⟩)) rfl ?_); clear S a w; rintro _ _ ⟨A11, r11, A21, r21, A31, r31, rfl, rfl⟩ a w S)
   rw [rw_a] at S
   refine run S (.mv rfl <| .ex rfl rfl <| .ex rfl rfl <| .z) fun a w S => Zi (Zk S zeroValue37 (cs := _) rfl rfl fun g6 a w S => Zi (Zp S sizeOf37 (.t rfl) (.t rfl) (k := 0) rfl rfl rfl (by simp [Value.oneCell']) fun a w S => run S (.as rfl <| .z) fun a w S => Zb (Za (hK4 _ _ (wp_seq_k fun _ hK4 => sg S (.mv rfl <| .yy (Yp (by omega) (Yg (.t rfl) Ev.c)) rfl <| .z) fun a w S => Ze S (.t rfl) (wp_skip (Za (hK4 _ _ (wp_seq_k fun _ hK4 => h_beginE S (by kernel_rfl) 13 fun a w S => hy 0 S rfl (Zj (.t rfl)) rfl fun a w S => hy 1 S rfl (Zj (.t rfl)) rfl fun a w S => hy 2 S rfl (ys_ixA underlying152 sizeOf151 (.t rfl) (.t rfl) (fun _ => by omega)) rfl fun a w S => ?_)))))))))
   refine hy 3 S rfl (ys_ixA underlying151 sizeOf3 (.t rfl) (.t rfl) (fun _ => by omega)) rfl fun a w S => hy 6 S rfl (ys_ixA underlying152 sizeOf151 (.t rfl) (.t rfl) (fun _ => by omega)) rfl fun a w S => h_q (i := 4) S (by repeat (first | exact List.Sublist.refl _ | exact List.nil_sublist _ | refine .cons_cons _ ?_ | refine .cons _ ?_)) rfl (by kernel_rfl) (Yr.ys (ys_ldN ⟨isAgg3, sizeOf3⟩ (.t rfl) (k := 13) rfl (fun _ => by assumption))) rfl fun a w S => hy 5 S rfl (Xk (.t rfl) Ev.c (fun _ => by unfold I64; omega)) rfl fun a w S => hy 7 S rfl (ys_ixA underlying151 sizeOf3 (.t rfl) (.t rfl) (fun _ => by omega)) rfl fun a w S => ?_
   (refine Xe (i := 8) rfl (by kernel_rfl) (Vv S sizeOf3 (.t rfl) (.t rfl) (k := 13) rfl rfl (by rw [Go.Fw.ctL_len]; omega) ?_); clear S a w; intro a w S; refine Zw S ?_)
   refine Yq (by kernel_rfl) (Za (hK4 _ _ (wp_seq_k fun _ hK4 => wp_region_lit (run S (.mv rfl <| .la gt77 4 rfl rfl rfl <| .z) fun a w S => Zi (Yd S underlying72 inf77 rfl rfl rfl (.t rfl) rfl rfl rfl fun g7 a w S => ?_)))))
   rw [ctL_set2] at S
   have e3 : #[Value.string (Fw.bs u.key), .int .i64 u.dot.node, .int .i64 u.dot.life, .int .i64 u.dot.count, .string (Fw.bs u.item), .int .i64 u.qty, .int .u64 (u.price.toNat : Int), .slice F1 u.seen.ents.length f1, .slice F2 u.seen.ctx.marks.length f2, .slice F3 u.seen.ctx.cloud.length f3] = (SUpd.enc (u, (⟨F1, u.seen.ents.length, f1, F2, u.seen.ctx.marks.length, f2, F3, u.seen.ctx.cloud.length, f3⟩ : Sls3))).toArray := rfl
   rw [e3] at S
   refine Zi (Yv S underlying72 inf77 rfl (k := 12) (j := 0) rfl (.t rfl) (.t rfl) rfl rfl rfl rfl (by first | omega | (simp only [List.length_append, List.length_cons, List.length_nil]; omega)) rfl rfl rfl fun A1 cap1 a w S => run S (.as rfl <| .z) fun a w S => Zb (Za (hK4 _ _ (wp_region_lit (run S (.mv rfl <| .la gt37 1 rfl rfl rfl <| .z) fun a w S => Zi (Yd S underlying64 inf37 rfl rfl rfl (.t rfl) rfl rfl rfl fun g8 a w S => ?_))))))
   have e4 : #[Value.slice A11 (applyU u).1.ents.length r11, .slice A21 (applyU u).1.ctx.marks.length r21, .slice A31 (applyU u).1.ctx.cloud.length r31] = (SCart.enc ((applyU u).1, (⟨A11, (applyU u).1.ents.length, r11, A21, (applyU u).1.ctx.marks.length, r21, A31, (applyU u).1.ctx.cloud.length, r31⟩ : Sls3))).toArray := rfl
   rw [e4] at S
   refine Zi (Yv S underlying64 inf37 rfl (k := 14) (j := 0) rfl (.t rfl) (.t rfl) rfl rfl rfl rfl (by first | omega | (simp only [List.length_append, List.length_cons, List.length_nil]; omega)) rfl rfl rfl fun A2 cap2 a w S => run S (.as rfl <| .z) fun a w S => Zb (Zm (Za (hK2 _ _ (wp_region_lit (run S (.ad (by unfold I64; omega) rfl <| .mv rfl <| .z) fun a w S => Zb (Za ?_)))))))
   obtain ⟨bs1, W1, n1, hold1⟩ := Vy (X := u.seen) (S.wd.picks (L' := [rowOf 100 6 Ent.enc F1 f1 u.seen.ents, rowOf 30 3 Dot.enc F2 f2 u.seen.ctx.marks, rowOf 74 3 Dot.enc F3 f3 u.seen.ctx.cloud, .ice w1 bs, rowOf 100 6 Ent.enc A11 r11 (applyU u).1.ents, rowOf 30 3 Dot.enc A21 r21 (applyU u).1.ctx.marks, rowOf 74 3 Dot.enc A31 r31 (applyU u).1.ctx.cloud, rowOf 77 10 SUpd.enc A1 cap1 (us ++ [(u, (⟨F1, u.seen.ents.length, f1, F2, u.seen.ctx.marks.length, f2, F3, u.seen.ctx.cloud.length, f3⟩ : Sls3))]), rowOf 37 3 SCart.enc A2 cap2 (ms ++ [((applyU u).1, (⟨A11, (applyU u).1.ents.length, r11, A21, (applyU u).1.ctx.marks.length, r21, A31, (applyU u).1.ctx.cloud.length, r31⟩ : Sls3))]), .blk g2 (.cells (ctL (T.ct.set (n * 3 + f) (V + 1))).toArray 152)]) (by repeat (first | exact Picks.nil | (refine Picks.rest ?_; (repeat (first | exact List.Sublist.refl _ | refine List.Sublist.cons_cons _ ?_ | refine List.Sublist.cons _ ?_)); done) | refine Picks.take 0 rfl ?_ | refine Picks.take 1 rfl ?_ | refine Picks.take 2 rfl ?_ | refine Picks.take 3 rfl ?_ | refine Picks.take 4 rfl ?_ | refine Picks.take 5 rfl ?_ | refine Picks.take 6 rfl ?_ | refine Picks.take 7 rfl ?_ | refine Picks.take 8 rfl ?_ | refine Picks.take 9 rfl ?_ | refine Picks.take 10 rfl ?_ | refine Picks.take 11 rfl ?_)))
   obtain ⟨bs2, W2, n2, hold2⟩ := Vy (X := (applyU u).1) (W1.picks (L' := [rowOf 100 6 Ent.enc A11 r11 (applyU u).1.ents, rowOf 30 3 Dot.enc A21 r21 (applyU u).1.ctx.marks, rowOf 74 3 Dot.enc A31 r31 (applyU u).1.ctx.cloud, .ice w bs1, rowOf 77 10 SUpd.enc A1 cap1 (us ++ [(u, (⟨F1, u.seen.ents.length, f1, F2, u.seen.ctx.marks.length, f2, F3, u.seen.ctx.cloud.length, f3⟩ : Sls3))]), rowOf 37 3 SCart.enc A2 cap2 (ms ++ [((applyU u).1, (⟨A11, (applyU u).1.ents.length, r11, A21, (applyU u).1.ctx.marks.length, r21, A31, (applyU u).1.ctx.cloud.length, r31⟩ : Sls3))]), .blk g2 (.cells (ctL (T.ct.set (n * 3 + f) (V + 1))).toArray 152)]) (by repeat (first | exact Picks.nil | (refine Picks.rest ?_; (repeat (first | exact List.Sublist.refl _ | refine List.Sublist.cons_cons _ ?_ | refine List.Sublist.cons _ ?_)); done) | refine Picks.take 0 rfl ?_ | refine Picks.take 1 rfl ?_ | refine Picks.take 2 rfl ?_ | refine Picks.take 3 rfl ?_ | refine Picks.take 4 rfl ?_ | refine Picks.take 5 rfl ?_ | refine Picks.take 6 rfl ?_ | refine Picks.take 7 rfl ?_ | refine Picks.take 8 rfl ?_ | refine Picks.take 9 rfl ?_ | refine Picks.take 10 rfl ?_ | refine Picks.take 11 rfl ?_)))
   replace S := St.mk S.kn W2
   have hct2 : (nextH T x.s u).ct = T.ct.set (n * 3 + f) (V + 1) := by unfold nextH; rw [hslot, hV]
   refine ⟨(i + 1, (A1, cap1, us ++ [(u, (⟨F1, u.seen.ents.length, f1, F2, u.seen.ctx.marks.length, f2, F3, u.seen.ctx.cloud.length, f3⟩ : Sls3))]), (A2, cap2, ms ++ [((applyU u).1, (⟨A11, (applyU u).1.ents.length, r11, A21, (applyU u).1.ctx.marks.length, r21, A31, (applyU u).1.ctx.cloud.length, r31⟩ : Sls3))]), (w, bs2), nextH T x.s u), ⟨by dsimp only; omega, ⟨?_, ?_, fun p hp => ?_, fun p hp => ?_⟩, hT2, ?_, by dsimp only; omega, hF⟩, by dsimp only; omega, by dsimp only; rw [hct2]; exact S.pk⟩
   · dsimp only; rw [List.map_append, ou]; rfl
   · dsimp only; rw [List.map_append, om]; rfl
   · rcases List.mem_append.1 hp with hp | hp
     · exact hold2 _ _ (hold1 _ _ (oi p hp))
     · rw [List.mem_singleton.1 hp]; exact hold2 _ _ n1
   · rcases List.mem_append.1 hp with hp | hp
     · exact hold2 _ _ (hold1 _ _ (oj p hp))
     · rw [List.mem_singleton.1 hp]; exact n2
   · show (T.up ++ [u]).length ≤ i + 1
     rw [List.length_append, List.length_singleton]
     omega
 obtain rfl : i = l.length := by omega
 rw [List.drop_of_length_le (by rw [List.length_take, List.length_map]; omega), histF] at hF
 refine sg S (.ge (by omega) rfl rfl <| .z) fun a w S => wp_seq_k fun _ hK2 => Ze S (.t rfl) (wp_exit (Zh (Zh (Ya (Za (hK1 _ _ (sg S (.mv rfl <| .mv rfl <| .as rfl <| .as rfl <| .ac rfl <| .z) fun a w S => wp_ret (Zn S (results3 S results40 (Rv.tmp rfl) (Rv.tmp rfl) (Rv.tmp rfl)) ?_))))))))
 exact ⟨_, _, rfl, S.wd.pk, .inl ⟨T, C, cC, us, B, cB, ms, w1, bs, hF.symm, hT, by omega, rfl, rfl, hO0⟩⟩
end Go.Proofs.YtakpdbmdfnialaaGreat
namespace Go.Proofs.YtakpdbmdfnialaaGreat
open Go.Fw Go.Proofs Go.RowKit Go.ChangeShapes Go.WideShapes Go.ChangeAt Go.Deep Go.Joins Go.Proofs.Tryz
section
variable {H : Type} {enc : TypeId × Value → H} {w : World}
theorem rdSay : Rdr enc Tryz.prog w 154 fun cs b => ∃ x : SSay, cs = SSay.enc x ∧ Sl encU 1 w w.heap.size (.slice x.a x.n x.c) x.s.seen := by
 refine (Rdr.struct underlying154 (by kernel_rfl) (.cons rdUint (.cons rdUint (.cons rdUint (.cons rdUint (.cons (Rdr.slice (k := 1) underlying58 (by kernel_rfl) rfl encU_len rdUint) .nil)))))).mono ?_
 rintro cs b ⟨_, _, rfl, ⟨_, _, p1, rfl, _⟩, _, _, rfl, ⟨_, _, p2, rfl, _⟩, _, _, rfl, ⟨_, _, p3, rfl, _⟩, _, _, rfl, ⟨_, _, p4, rfl, _⟩, _, _, rfl, ⟨_, hb, v, l, rfl, hl, _⟩, rfl⟩
 have hl0 := hl
 obtain ⟨A, c, rfl, _⟩ := hl
 exact ⟨⟨⟨p1, p2, p3, p4, l⟩, A, l.length, c⟩, rfl, hl0⟩
theorem read_says {v : Value} {d : DataW H} {p : List MemPlace} (hv : ∃ A len cap, v = .slice A len cap) (h : DataW.Trod enc Tryz.prog w 0 (fun _ => true) true 80 v d p) :
   ∃ l, Sl SSay.enc 5 w w.heap.size v l ∧ l.length + 1 ≤ Rows.uptoBulk d ∧ SaysRd w l := by
 obtain ⟨v', l, hc, hs, hl, hf⟩ := Rdr.top (Rdr.slice (k := 5) underlying80 (by kernel_rfl) rfl SSay.enc_len rdSay) h
 obtain ⟨A, n, c, rfl⟩ := hv
 simp only [Value.cells, List.cons.injEq, and_true] at hc
 subst hc
 exact ⟨l, hs, hl, fun x hx => by obtain ⟨b', h1, h2⟩ := hf x hx; exact h2⟩
end
end Go.Proofs.YtakpdbmdfnialaaGreat
namespace Go.Fw
open Go.RowKit
def logOk (x : SLog) : Bool := decide (canE x.s.1 = 0) && decide (canE x.c.1 = 0) && decide (canE x.u.1.seen = 0)
theorem logOk_is {x : SLog} (h : logOk x = true) : CartOk x.s.1 ∧ CartOk x.c.1 ∧ CartOk x.u.1.seen := by
 unfold logOk at h
 rw [Bool.and_eq_true, Bool.and_eq_true, decide_eq_true_eq, decide_eq_true_eq, decide_eq_true_eq, Wv, Wv, Wv] at h
 exact ⟨h.1.1, h.1.2, h.2⟩
end Go.Fw
namespace Go.Proofs.YtakpdbmdfnialaaGreat
open Go.Fw Go.Proofs Go.RowKit Go.Proofs.Tryz
end Go.Proofs.YtakpdbmdfnialaaGreat
