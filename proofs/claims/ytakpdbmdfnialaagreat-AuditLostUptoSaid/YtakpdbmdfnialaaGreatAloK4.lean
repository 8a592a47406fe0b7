/- Contracts and laws that the statement Alo leans on, part 4. -/
import Derived.Test.YtakpdbmdfnialaaGreatAloK3
import Derived.ScopeJumps
import Derived.LoopN
import Derived.Recover
import Derived.Lib.OthersKept
import Derived.Shelf.SlGeneric
import Derived.Shelf.SlSortCmp.WholeK
import Derived.Ground.SlsfProg
import Derived.Test.YtakpdbmdfnialaaGreatProg
set_option linter.unusedVariables false
set_option linter.unusedSimpArgs false
set_option maxRecDepth 100000
set_option maxHeartbeats 4000000
namespace Go.Fw
abbrev Upd.enc (u : Upd) (v1 v2 v3 : Value) : List Value := [.string (bs u.key), .int .i64 u.dot.node, .int .i64 u.dot.life, .int .i64 u.dot.count, .string (bs u.item), .int .i64 u.qty, .int .u64 (u.price.toNat : Int), v1, v2, v3]
end Go.Fw
namespace Go.Proofs.YtakpdbmdfnialaaGreat
open Go.Fw Go.Proofs Go.RowKit Go.Proofs.Tryz
theorem sl_y1 {w0 w : World} {L : List Chunk} {k g : Nat} {t : TypeId} {fr : Nat × Nat} {x y z : Int} (W : Wd w0 L w) (hk : L[k]? = some (.blk g (.cells #[.int .i64 x, .int .i64 y, .int .i64 z] t fr))) : Sl Dot.enc 3 w w.heap.size (.slice (some ⟨g, 0, none⟩) 1 1) [⟨x, y, z⟩] := by
 refine ⟨some ⟨g, 0, none⟩, 1, rfl, by simp, by simp, fun _ => ⟨g, 0, rfl, ((W.get hk).lt (b := g) rfl).2, fun i d hd j u hj => ?_⟩⟩
 have h2 := (W.get hk).2
 rcases i with _ | i
 · simp at hd
   subst hd
   rw [cell_of_row w g (0 + 0 * 3 + j) _ t fr h2]
   simpa [Dot.enc] using hj
 · simp at hd
theorem c106 (w0 : World) (u : Upd) (v1 v2 v3 : Value) (h : Sl Ent.enc 6 w0 w0.heap.size v1 u.seen.ents) (hr : RdCtx w0 w0.heap.size v2 v3 u.seen.ctx) :
   Calls Tryz.prog 106 #[.agg (Upd.enc u v1 v2 v3).toArray] w0 fun e w' => e = .returned (.int .i64 (mayE u)) ∧ Bel w0.heap.size w0 w' := by
 have hs := h
 have hrr := hr
 obtain ⟨A, cap, rfl, _⟩ := h
 obtain ⟨⟨A2, cap2, rfl, _⟩, ⟨A3, cap3, rfl, _⟩⟩ := hr
 unfold mayE
 cases rw_k : nameB u.key with
 | false =>
   refine enter1 func106 rfl ntmps106 rfl fun a S => wp_seq_k fun _ hK1 => wp_region_lit (Zk (Ya S (.t rfl) rfl fun g1 a w S => run S (.ac rfl <| .z) fun a w S => Zb (Za (hK1 _ _ (wp_seq_k fun _ hK1 => wp_block (wp_seq_k fun _ hK2 => wp_region_lit (run S (.fa underlying77 sizeOf9 0 rfl rfl rfl <| .ld gt9 0 rfl rfl rfl <| .xx (Zh call157 (.cons (.t rfl) .nil) (fun hp w W => c157 _ _)) rfl <| .z) fun a w S => ?_)))))))
   rw [rw_k] at S
   refine run S (.nt rfl <| .mv rfl <| .sk rfl rfl rfl <| .sk rfl rfl rfl <| .sk rfl rfl rfl <| .sk rfl rfl rfl <| .yy (Zt (.t rfl) Ev.c) rfl <| .as rfl <| .z) fun a w S => Zb (Za (hK2 _ _ (Zg S (.t rfl) (sg S (.ac rfl <| .z) fun a w S => wp_ret (Zr (Ze (Zj S (results1 S results106 (Rv.tmp rfl)) ?_)))))))
   exact ⟨by rw [if_pos (.inl rfl)], S.wd.below⟩
 | true =>
 cases rw_i : nameB u.item with
 | false =>
   refine enter1 func106 rfl ntmps106 rfl fun a S => wp_seq_k fun _ hK1 => wp_region_lit (Zk (Ya S (.t rfl) rfl fun g1 a w S => run S (.ac rfl <| .z) fun a w S => Zb (Za (hK1 _ _ (wp_seq_k fun _ hK1 => wp_block (wp_seq_k fun _ hK2 => wp_region_lit (run S (.fa underlying77 sizeOf9 0 rfl rfl rfl <| .ld gt9 0 rfl rfl rfl <| .xx (Zh call157 (.cons (.t rfl) .nil) (fun hp w W => c157 _ _)) rfl <| .z) fun a w S => ?_)))))))
   rw [rw_k] at S
   refine run S (.nt rfl <| .mv rfl <| .gy rfl rfl (Zc (FieldT.mk underlying77 rfl sizeOf9 rfl) (.t rfl) (i' := 4) rfl) <| .gy rfl rfl (Zu ⟨isAgg9, sizeOf9⟩ (.t rfl) (k := 0) rfl rfl) <| .gx rfl rfl (Zh call157 (.cons (.t rfl) .nil) (fun hp w W => c157 _ _)) <| .z) fun a w S => ?_
   rw [rw_i] at S
   refine run S (.gy rfl rfl (Xg (.t rfl)) <| .yy (Zq (.t rfl) (.t rfl)) rfl <| .as rfl <| .z) fun a w S => Zb (Za (hK2 _ _ (Zg S (.t rfl) (sg S (.ac rfl <| .z) fun a w S => wp_ret (Zr (Ze (Zj S (results1 S results106 (Rv.tmp rfl)) ?_)))))))
   exact ⟨by rw [if_pos (.inr rfl)], S.wd.below⟩
 | true =>
 rw [if_neg (by simp)]
 by_cases hq : u.qty < 0 ∨ 1000000 < u.qty
 · have rw_q : (decide (u.qty < 0) || decide (1000000 < u.qty)) = true := by simp; omega
   refine enter1 func106 rfl ntmps106 rfl fun a S => wp_seq_k fun _ hK1 => wp_region_lit (Zk (Ya S (.t rfl) rfl fun g1 a w S => run S (.ac rfl <| .z) fun a w S => Zb (Za (hK1 _ _ (wp_seq_k fun _ hK1 => wp_block (wp_seq_k fun _ hK2 => wp_region_lit (run S (.fa underlying77 sizeOf9 0 rfl rfl rfl <| .ld gt9 0 rfl rfl rfl <| .xx (Zh call157 (.cons (.t rfl) .nil) (fun hp w W => c157 _ _)) rfl <| .z) fun a w S => ?_)))))))
   rw [rw_k] at S
   refine run S (.nt rfl <| .mv rfl <| .gy rfl rfl (Zc (FieldT.mk underlying77 rfl sizeOf9 rfl) (.t rfl) (i' := 4) rfl) <| .gy rfl rfl (Zu ⟨isAgg9, sizeOf9⟩ (.t rfl) (k := 0) rfl rfl) <| .gx rfl rfl (Zh call157 (.cons (.t rfl) .nil) (fun hp w W => c157 _ _)) <| .z) fun a w S => ?_
   rw [rw_i] at S
   refine run S (.gy rfl rfl (Xg (.t rfl)) <| .yy (Zq (.t rfl) (.t rfl)) rfl <| .as rfl <| .z) fun a w S => Zb (Za (hK2 _ _ (Zf S (.t rfl) (wp_seq_k fun _ hK2 => wp_region_lit (run S (.fa underlying77 sizeOf3 5 rfl rfl rfl <| .ld gt3 0 rfl rfl rfl <| .yy (Yq (.t rfl) Ev.c) rfl <| .mv rfl <| .z) fun a w S => Xa S rfl rfl (Yr.ys (Zc (FieldT.mk underlying77 rfl sizeOf3 rfl) (.t rfl) (i' := 5) rfl)) rfl fun a w S => Xa S rfl rfl (Yr.ys (Zu ⟨isAgg3, sizeOf3⟩ (Ev.g rfl) (k := 0) rfl rfl)) rfl fun a w S => Xa S rfl rfl (Yr.ys (Yj (Ev.g rfl) Ev.c)) rfl fun a w S => run S (.yy (Ww (.t rfl) Ev.c (Ev.g rfl)) rfl <| .z) fun a w S => ?_)))))
   rw [rw_q] at S
   refine run S (.as rfl <| .z) fun a w S => Zb (Za (hK2 _ _ (Zg S (.t rfl) (sg S (.ac rfl <| .z) fun a w S => wp_ret (Zr (Ze (Zj S (results1 S results106 (Rv.tmp rfl)) ?_)))))))
   exact ⟨by rw [if_pos hq], S.wd.below⟩
 have rw_q : (decide (u.qty < 0) || decide (1000000 < u.qty)) = false := by simp; omega
 rw [if_neg hq]
 cases rw_p : priceB u.price with
 | false =>
   refine enter1 func106 rfl ntmps106 rfl fun a S => wp_seq_k fun _ hK1 => wp_region_lit (Zk (Ya S (.t rfl) rfl fun g1 a w S => run S (.ac rfl <| .z) fun a w S => Zb (Za (hK1 _ _ (wp_seq_k fun _ hK1 => wp_block (wp_seq_k fun _ hK2 => wp_region_lit (run S (.fa underlying77 sizeOf9 0 rfl rfl rfl <| .ld gt9 0 rfl rfl rfl <| .xx (Zh call157 (.cons (.t rfl) .nil) (fun hp w W => c157 _ _)) rfl <| .z) fun a w S => ?_)))))))
   rw [rw_k] at S
   refine run S (.nt rfl <| .mv rfl <| .gy rfl rfl (Zc (FieldT.mk underlying77 rfl sizeOf9 rfl) (.t rfl) (i' := 4) rfl) <| .gy rfl rfl (Zu ⟨isAgg9, sizeOf9⟩ (.t rfl) (k := 0) rfl rfl) <| .gx rfl rfl (Zh call157 (.cons (.t rfl) .nil) (fun hp w W => c157 _ _)) <| .z) fun a w S => ?_
   rw [rw_i] at S
   refine run S (.gy rfl rfl (Xg (.t rfl)) <| .yy (Zq (.t rfl) (.t rfl)) rfl <| .as rfl <| .z) fun a w S => Zb (Za (hK2 _ _ (Zf S (.t rfl) (sg S (.fa underlying77 sizeOf3 5 rfl rfl rfl <| .ld gt3 0 rfl rfl rfl <| .yy (Ym (by omega) (Yq (.t rfl) Ev.c)) rfl <| .mv rfl <| .gy rfl rfl (Zc (FieldT.mk underlying77 rfl sizeOf3 rfl) (.t rfl) (i' := 5) rfl) <| .gy rfl rfl (Zu ⟨isAgg3, sizeOf3⟩ (.t rfl) (k := 0) rfl rfl) <| .gy rfl rfl (Ym (by omega) (Yj (.t rfl) Ev.c)) <| .yy (Zq (.t rfl) (.t rfl)) rfl <| .as rfl <| .z) fun a w S => Zf S (.t rfl) (wp_seq_k fun _ hK2 => wp_region_lit (run S (.fa underlying77 sizeOf75 6 rfl rfl rfl <| .ld gt75 0 rfl rfl rfl <| .xx (Zh call158 (.cons (.t rfl) .nil) (fun hp w W => c158 _ _)) rfl <| .z) fun a w S => ?_))))))
   rw [rw_p] at S
   refine run S (.nt rfl <| .mv rfl <| .sk rfl rfl rfl <| .sk rfl rfl rfl <| .sk rfl rfl rfl <| .sk rfl rfl rfl <| .s0 rfl rfl <| .s0 rfl rfl <| .s0 rfl rfl <| .sk rfl rfl rfl <| .yy (Zt (.t rfl) Ev.c) rfl <| .as rfl <| .z) fun a w S => Zb (Za (hK2 _ _ (Zg S (.t rfl) (sg S (.ac rfl <| .z) fun a w S => wp_ret (Zr (Ze (Zj S (results1 S results106 (Rv.tmp rfl)) ?_)))))))
   exact ⟨by rw [if_pos (.inl rfl)], S.wd.below⟩
 | true =>
 by_cases hz : u.qty = 0 ∧ u.price.toNat ≠ 0
 · have rw_z : (decide (u.qty = 0) && decide ((u.price.toNat : Int) ≠ 0)) = true := by simp; omega
   refine enter1 func106 rfl ntmps106 rfl fun a S => wp_seq_k fun _ hK1 => wp_region_lit (Zk (Ya S (.t rfl) rfl fun g1 a w S => run S (.ac rfl <| .z) fun a w S => Zb (Za (hK1 _ _ (wp_seq_k fun _ hK1 => wp_block (wp_seq_k fun _ hK2 => wp_region_lit (run S (.fa underlying77 sizeOf9 0 rfl rfl rfl <| .ld gt9 0 rfl rfl rfl <| .xx (Zh call157 (.cons (.t rfl) .nil) (fun hp w W => c157 _ _)) rfl <| .z) fun a w S => ?_)))))))
   rw [rw_k] at S
   refine run S (.nt rfl <| .mv rfl <| .gy rfl rfl (Zc (FieldT.mk underlying77 rfl sizeOf9 rfl) (.t rfl) (i' := 4) rfl) <| .gy rfl rfl (Zu ⟨isAgg9, sizeOf9⟩ (.t rfl) (k := 0) rfl rfl) <| .gx rfl rfl (Zh call157 (.cons (.t rfl) .nil) (fun hp w W => c157 _ _)) <| .z) fun a w S => ?_
   rw [rw_i] at S
   refine run S (.gy rfl rfl (Xg (.t rfl)) <| .yy (Zq (.t rfl) (.t rfl)) rfl <| .as rfl <| .z) fun a w S => Zb (Za (hK2 _ _ (Zf S (.t rfl) (sg S (.fa underlying77 sizeOf3 5 rfl rfl rfl <| .ld gt3 0 rfl rfl rfl <| .yy (Ym (by omega) (Yq (.t rfl) Ev.c)) rfl <| .mv rfl <| .gy rfl rfl (Zc (FieldT.mk underlying77 rfl sizeOf3 rfl) (.t rfl) (i' := 5) rfl) <| .gy rfl rfl (Zu ⟨isAgg3, sizeOf3⟩ (.t rfl) (k := 0) rfl rfl) <| .gy rfl rfl (Ym (by omega) (Yj (.t rfl) Ev.c)) <| .yy (Zq (.t rfl) (.t rfl)) rfl <| .as rfl <| .z) fun a w S => Zf S (.t rfl) (wp_seq_k fun _ hK2 => wp_region_lit (run S (.fa underlying77 sizeOf75 6 rfl rfl rfl <| .ld gt75 0 rfl rfl rfl <| .xx (Zh call158 (.cons (.t rfl) .nil) (fun hp w W => c158 _ _)) rfl <| .z) fun a w S => ?_))))))
   rw [rw_p] at S
   refine run S (.nt rfl <| .mv rfl <| .gy rfl rfl (Zc (FieldT.mk underlying77 rfl sizeOf3 rfl) (.t rfl) (i' := 5) rfl) <| .gy rfl rfl (Zu ⟨isAgg3, sizeOf3⟩ (.t rfl) (k := 0) rfl rfl) <| .gy rfl rfl (Yu (by omega) (Yd (.t rfl) Ev.c)) <| .gy rfl rfl (Zd (.t rfl)) <| .gy rfl rfl (Zc (FieldT.mk underlying77 rfl sizeOf75 rfl) (.t rfl) (i' := 6) rfl) <| .gy rfl rfl (Zu ⟨isAgg75, sizeOf75⟩ (.t rfl) (k := 0) rfl rfl) <| .gy rfl rfl (Yu (by omega) (Yt (.t rfl) Ev.c)) <| .gy rfl rfl (Zt (.t rfl) (.t rfl)) <| .yy (Zq (.t rfl) (.t rfl)) rfl <| .as rfl <| .z) fun a w S => Zb (Za (hK2 _ _ (Zg S (.t rfl) (sg S (.ac rfl <| .z) fun a w S => wp_ret (Zr (Ze (Zj S (results1 S results106 (Rv.tmp rfl)) ?_)))))))
   exact ⟨by rw [if_pos (.inr hz)], S.wd.below⟩
 have rw_z : (decide (u.qty = 0) && decide ((u.price.toNat : Int) ≠ 0)) = false := by
   by_cases h0 : u.qty = 0
   · have : u.price.toNat = 0 := Decidable.byContradiction fun h => hz ⟨h0, h⟩
     simp [this]
   · simp [h0]
 rw [if_neg (by rintro (h | h); cases h; exact hz h)]
 by_cases he : canE u.seen = 0
 rotate_left
 · refine enter1 func106 rfl ntmps106 rfl fun a S => wp_seq_k fun _ hK1 => wp_region_lit (Zk (Ya S (.t rfl) rfl fun g1 a w S => run S (.ac rfl <| .z) fun a w S => Zb (Za (hK1 _ _ (wp_seq_k fun _ hK1 => wp_block (wp_seq_k fun _ hK2 => wp_region_lit (run S (.fa underlying77 sizeOf9 0 rfl rfl rfl <| .ld gt9 0 rfl rfl rfl <| .xx (Zh call157 (.cons (.t rfl) .nil) (fun hp w W => c157 _ _)) rfl <| .z) fun a w S => ?_)))))))
   rw [rw_k] at S
   refine run S (.nt rfl <| .mv rfl <| .gy rfl rfl (Zc (FieldT.mk underlying77 rfl sizeOf9 rfl) (.t rfl) (i' := 4) rfl) <| .gy rfl rfl (Zu ⟨isAgg9, sizeOf9⟩ (.t rfl) (k := 0) rfl rfl) <| .gx rfl rfl (Zh call157 (.cons (.t rfl) .nil) (fun hp w W => c157 _ _)) <| .z) fun a w S => ?_
   rw [rw_i] at S
   refine run S (.gy rfl rfl (Xg (.t rfl)) <| .yy (Zq (.t rfl) (.t rfl)) rfl <| .as rfl <| .z) fun a w S => Zb (Za (hK2 _ _ (Zf S (.t rfl) (sg S (.fa underlying77 sizeOf3 5 rfl rfl rfl <| .ld gt3 0 rfl rfl rfl <| .yy (Ym (by omega) (Yq (.t rfl) Ev.c)) rfl <| .mv rfl <| .gy rfl rfl (Zc (FieldT.mk underlying77 rfl sizeOf3 rfl) (.t rfl) (i' := 5) rfl) <| .gy rfl rfl (Zu ⟨isAgg3, sizeOf3⟩ (.t rfl) (k := 0) rfl rfl) <| .gy rfl rfl (Ym (by omega) (Yj (.t rfl) Ev.c)) <| .yy (Zq (.t rfl) (.t rfl)) rfl <| .as rfl <| .z) fun a w S => Zf S (.t rfl) (wp_seq_k fun _ hK2 => wp_region_lit (run S (.fa underlying77 sizeOf75 6 rfl rfl rfl <| .ld gt75 0 rfl rfl rfl <| .xx (Zh call158 (.cons (.t rfl) .nil) (fun hp w W => c158 _ _)) rfl <| .z) fun a w S => ?_))))))
   rw [rw_p] at S
   refine run S (.nt rfl <| .mv rfl <| .gy rfl rfl (Zc (FieldT.mk underlying77 rfl sizeOf3 rfl) (.t rfl) (i' := 5) rfl) <| .gy rfl rfl (Zu ⟨isAgg3, sizeOf3⟩ (.t rfl) (k := 0) rfl rfl) <| .gy rfl rfl (Yd (.t rfl) Ev.c) <| .gy rfl rfl (Zd (.t rfl)) <| .z) fun a w S => Yg S rfl rfl (Yr.ys (Zc (FieldT.mk underlying77 rfl sizeOf75 rfl) (.t rfl) (i' := 6) rfl)) rfl fun a w S => Yg S rfl rfl (Yr.ys (Zu ⟨isAgg75, sizeOf75⟩ (Ev.g rfl) (k := 0) rfl rfl)) rfl fun a w S => Yg S rfl rfl (Yr.ys (Yt (Ev.g rfl) Ev.c)) rfl fun a w S => run S (.gy rfl rfl (ys_and2 (.t rfl) (Ev.g rfl) Ev.c) <| .z) fun a w S => ?_
   rw [rw_z] at S
   refine run S (.yy (Zq (.t rfl) (.t rfl)) rfl <| .as rfl <| .z) fun a w S => Zb (Za (hK2 _ _ (Zf S (.t rfl) (wp_skip (Zm (Za (hK1 _ _ (sg S (.fa underlying77 sizeOf37 7 rfl rfl rfl <| .la gt37 0 rfl rfl rfl <| .xx (Zh call66 (.cons (.t rfl) .nil) (fun hp w W => c66 _ _ _ _ _ (by exact .old W (by assumption)) (by exact .old W (by assumption)))) rfl <| .as rfl <| .z) fun a w S => wp_seq_k fun _ hK1 => sg S (.mv rfl <| .yy (Yu (by omega) (Yt (.t rfl) Ev.c)) rfl <| .z) fun a w S => Zg S (.t rfl) (sg S (.mv rfl <| .as rfl <| .z) fun a w S => wp_ret (Ze (Zj S (results1 S results106 (Rv.tmp rfl)) ?_)))))))))))
   exact ⟨by rw [if_neg he], S.wd.below⟩
 have rw_e := he
 rw [if_pos he]
 have hn1 := norm_one (d := u.dot)
 cases hd : mayD u.dot with
 | false =>
   have rw_n : (normalL [] [⟨u.dot.node, u.dot.life, u.dot.count⟩]).2 = 1 := by rw [hd] at hn1; exact hn1
   refine enter1 func106 rfl ntmps106 rfl fun a S => wp_seq_k fun _ hK1 => wp_region_lit (Zk (Ya S (.t rfl) rfl fun g1 a w S => run S (.ac rfl <| .z) fun a w S => Zb (Za (hK1 _ _ (wp_seq_k fun _ hK1 => wp_block (wp_seq_k fun _ hK2 => wp_region_lit (run S (.fa underlying77 sizeOf9 0 rfl rfl rfl <| .ld gt9 0 rfl rfl rfl <| .xx (Zh call157 (.cons (.t rfl) .nil) (fun hp w W => c157 _ _)) rfl <| .z) fun a w S => ?_)))))))
   rw [rw_k] at S
   refine run S (.nt rfl <| .mv rfl <| .gy rfl rfl (Zc (FieldT.mk underlying77 rfl sizeOf9 rfl) (.t rfl) (i' := 4) rfl) <| .gy rfl rfl (Zu ⟨isAgg9, sizeOf9⟩ (.t rfl) (k := 0) rfl rfl) <| .gx rfl rfl (Zh call157 (.cons (.t rfl) .nil) (fun hp w W => c157 _ _)) <| .z) fun a w S => ?_
   rw [rw_i] at S
   refine run S (.gy rfl rfl (Xg (.t rfl)) <| .yy (Zq (.t rfl) (.t rfl)) rfl <| .as rfl <| .z) fun a w S => Zb (Za (hK2 _ _ (Zf S (.t rfl) (sg S (.fa underlying77 sizeOf3 5 rfl rfl rfl <| .ld gt3 0 rfl rfl rfl <| .yy (Ym (by omega) (Yq (.t rfl) Ev.c)) rfl <| .mv rfl <| .gy rfl rfl (Zc (FieldT.mk underlying77 rfl sizeOf3 rfl) (.t rfl) (i' := 5) rfl) <| .gy rfl rfl (Zu ⟨isAgg3, sizeOf3⟩ (.t rfl) (k := 0) rfl rfl) <| .gy rfl rfl (Ym (by omega) (Yj (.t rfl) Ev.c)) <| .yy (Zq (.t rfl) (.t rfl)) rfl <| .as rfl <| .z) fun a w S => Zf S (.t rfl) (wp_seq_k fun _ hK2 => wp_region_lit (run S (.fa underlying77 sizeOf75 6 rfl rfl rfl <| .ld gt75 0 rfl rfl rfl <| .xx (Zh call158 (.cons (.t rfl) .nil) (fun hp w W => c158 _ _)) rfl <| .z) fun a w S => ?_))))))
   rw [rw_p] at S
   refine run S (.nt rfl <| .mv rfl <| .gy rfl rfl (Zc (FieldT.mk underlying77 rfl sizeOf3 rfl) (.t rfl) (i' := 5) rfl) <| .gy rfl rfl (Zu ⟨isAgg3, sizeOf3⟩ (.t rfl) (k := 0) rfl rfl) <| .gy rfl rfl (Yd (.t rfl) Ev.c) <| .gy rfl rfl (Zd (.t rfl)) <| .z) fun a w S => Yg S rfl rfl (Yr.ys (Zc (FieldT.mk underlying77 rfl sizeOf75 rfl) (.t rfl) (i' := 6) rfl)) rfl fun a w S => Yg S rfl rfl (Yr.ys (Zu ⟨isAgg75, sizeOf75⟩ (Ev.g rfl) (k := 0) rfl rfl)) rfl fun a w S => Yg S rfl rfl (Yr.ys (Yt (Ev.g rfl) Ev.c)) rfl fun a w S => run S (.gy rfl rfl (ys_and2 (.t rfl) (Ev.g rfl) Ev.c) <| .z) fun a w S => ?_
   rw [rw_z] at S
   refine run S (.yy (Zq (.t rfl) (.t rfl)) rfl <| .as rfl <| .z) fun a w S => Zb (Za (hK2 _ _ (Zf S (.t rfl) (wp_skip (Zm (Za (hK1 _ _ (wp_seq_k fun _ hK1 => wp_region_lit (run S (.fa underlying77 sizeOf37 7 rfl rfl rfl <| .la gt37 0 rfl rfl rfl <| .xx (Zh call66 (.cons (.t rfl) .nil) (fun hp w W => c66 _ _ _ _ _ (by exact .old W (by assumption)) (by exact .old W (by assumption)))) rfl <| .z) fun a w S => ?_)))))))))
   rw [rw_e] at S
   refine run S (.as rfl <| .z) fun a w S => Zb (Za (hK1 _ _ (wp_seq_k fun _ hK1 => sg S (.mv rfl <| .yy (Ym (by omega) (Yt (.t rfl) Ev.c)) rfl <| .z) fun a w S => Zf S (.t rfl) (wp_skip (Za (hK1 _ _ (wp_seq_k fun _ hK1 => wp_region_lit (run S (.fa underlying77 sizeOf74 1 rfl rfl rfl <| .la gt74 0 rfl rfl rfl <| .z) fun a w S => Zk (Yp S underlying33 inf74 rfl rfl rfl (.t rfl) rfl rfl rfl fun g2 a w S => ?_)))))))))
   (refine Zk (Zz S call112 (.cons Ev.c (.cons (.t rfl) .nil)) (c112 _ _ _ _ _ (by exact Sl.nil_) (by exact sl_y1 S.wd (k := 0) rfl) (by (simp; done)) (by (simp; done))) rfl ?_); clear S a w; rintro _ _ ⟨A11, c11, A21, c21, rfl, rfl⟩ a w S)
   rw [rw_n] at S
   refine run S (.mv rfl <| .ex rfl rfl <| .ex rfl rfl <| .as rfl <| .z) fun a w S => Zb (Za (hK1 _ _ (wp_seq_k fun _ hK1 => sg S (.mv rfl <| .yy (Yu (by omega) (Yt (.t rfl) Ev.c)) rfl <| .mv rfl <| .sk rfl rfl rfl <| .sk rfl rfl rfl <| .sk rfl rfl rfl <| .sk rfl rfl rfl <| .sk rfl rfl rfl <| .sk rfl rfl rfl <| .yy (Zt (.t rfl) Ev.c) rfl <| .z) fun a w S => Zg S (.t rfl) (sg S (.ac rfl <| .z) fun a w S => wp_ret (Ze (Zj S (results1 S results106 (Rv.tmp rfl)) ?_))))))
   exact ⟨by rw [if_pos (.inl rfl)], S.wd.below⟩
 | true =>
   have rw_n : (normalL [] [⟨u.dot.node, u.dot.life, u.dot.count⟩]).2 = 0 := by rw [hd] at hn1; exact hn1
   cases hc : u.seen.ctx.covers u.dot with
   | true =>
     have rw_c : u.seen.ctx.covers ⟨u.dot.node, u.dot.life, u.dot.count⟩ = true := hc
     refine enter1 func106 rfl ntmps106 rfl fun a S => wp_seq_k fun _ hK1 => wp_region_lit (Zk (Ya S (.t rfl) rfl fun g1 a w S => run S (.ac rfl <| .z) fun a w S => Zb (Za (hK1 _ _ (wp_seq_k fun _ hK1 => wp_block (wp_seq_k fun _ hK2 => wp_region_lit (run S (.fa underlying77 sizeOf9 0 rfl rfl rfl <| .ld gt9 0 rfl rfl rfl <| .xx (Zh call157 (.cons (.t rfl) .nil) (fun hp w W => c157 _ _)) rfl <| .z) fun a w S => ?_)))))))
     rw [rw_k] at S
     refine run S (.nt rfl <| .mv rfl <| .gy rfl rfl (Zc (FieldT.mk underlying77 rfl sizeOf9 rfl) (.t rfl) (i' := 4) rfl) <| .gy rfl rfl (Zu ⟨isAgg9, sizeOf9⟩ (.t rfl) (k := 0) rfl rfl) <| .gx rfl rfl (Zh call157 (.cons (.t rfl) .nil) (fun hp w W => c157 _ _)) <| .z) fun a w S => ?_
     rw [rw_i] at S
     refine run S (.gy rfl rfl (Xg (.t rfl)) <| .yy (Zq (.t rfl) (.t rfl)) rfl <| .as rfl <| .z) fun a w S => Zb (Za (hK2 _ _ (Zf S (.t rfl) (sg S (.fa underlying77 sizeOf3 5 rfl rfl rfl <| .ld gt3 0 rfl rfl rfl <| .yy (Ym (by omega) (Yq (.t rfl) Ev.c)) rfl <| .mv rfl <| .gy rfl rfl (Zc (FieldT.mk underlying77 rfl sizeOf3 rfl) (.t rfl) (i' := 5) rfl) <| .gy rfl rfl (Zu ⟨isAgg3, sizeOf3⟩ (.t rfl) (k := 0) rfl rfl) <| .gy rfl rfl (Ym (by omega) (Yj (.t rfl) Ev.c)) <| .yy (Zq (.t rfl) (.t rfl)) rfl <| .as rfl <| .z) fun a w S => Zf S (.t rfl) (wp_seq_k fun _ hK2 => wp_region_lit (run S (.fa underlying77 sizeOf75 6 rfl rfl rfl <| .ld gt75 0 rfl rfl rfl <| .xx (Zh call158 (.cons (.t rfl) .nil) (fun hp w W => c158 _ _)) rfl <| .z) fun a w S => ?_))))))
     rw [rw_p] at S
     refine run S (.nt rfl <| .mv rfl <| .gy rfl rfl (Zc (FieldT.mk underlying77 rfl sizeOf3 rfl) (.t rfl) (i' := 5) rfl) <| .gy rfl rfl (Zu ⟨isAgg3, sizeOf3⟩ (.t rfl) (k := 0) rfl rfl) <| .gy rfl rfl (Yd (.t rfl) Ev.c) <| .gy rfl rfl (Zd (.t rfl)) <| .z) fun a w S => Yg S rfl rfl (Yr.ys (Zc (FieldT.mk underlying77 rfl sizeOf75 rfl) (.t rfl) (i' := 6) rfl)) rfl fun a w S => Yg S rfl rfl (Yr.ys (Zu ⟨isAgg75, sizeOf75⟩ (Ev.g rfl) (k := 0) rfl rfl)) rfl fun a w S => Yg S rfl rfl (Yr.ys (Yt (Ev.g rfl) Ev.c)) rfl fun a w S => run S (.gy rfl rfl (ys_and2 (.t rfl) (Ev.g rfl) Ev.c) <| .z) fun a w S => ?_
     rw [rw_z] at S
     refine run S (.yy (Zq (.t rfl) (.t rfl)) rfl <| .as rfl <| .z) fun a w S => Zb (Za (hK2 _ _ (Zf S (.t rfl) (wp_skip (Zm (Za (hK1 _ _ (wp_seq_k fun _ hK1 => wp_region_lit (run S (.fa underlying77 sizeOf37 7 rfl rfl rfl <| .la gt37 0 rfl rfl rfl <| .xx (Zh call66 (.cons (.t rfl) .nil) (fun hp w W => c66 _ _ _ _ _ (by exact .old W (by assumption)) (by exact .old W (by assumption)))) rfl <| .z) fun a w S => ?_)))))))))
     rw [rw_e] at S
     refine run S (.as rfl <| .z) fun a w S => Zb (Za (hK1 _ _ (wp_seq_k fun _ hK1 => sg S (.mv rfl <| .yy (Ym (by omega) (Yt (.t rfl) Ev.c)) rfl <| .z) fun a w S => Zf S (.t rfl) (wp_skip (Za (hK1 _ _ (wp_seq_k fun _ hK1 => wp_region_lit (run S (.fa underlying77 sizeOf74 1 rfl rfl rfl <| .la gt74 0 rfl rfl rfl <| .z) fun a w S => Zk (Yp S underlying33 inf74 rfl rfl rfl (.t rfl) rfl rfl rfl fun g2 a w S => ?_)))))))))
     (refine Zk (Zz S call112 (.cons Ev.c (.cons (.t rfl) .nil)) (c112 _ _ _ _ _ (by exact Sl.nil_) (by exact sl_y1 S.wd (k := 0) rfl) (by (simp; done)) (by (simp; done))) rfl ?_); clear S a w; rintro _ _ ⟨A11, c11, A21, c21, rfl, rfl⟩ a w S)
     rw [rw_n] at S
     refine run S (.mv rfl <| .ex rfl rfl <| .ex rfl rfl <| .as rfl <| .z) fun a w S => Zb (Za (hK1 _ _ (wp_seq_k fun _ hK1 => wp_seq_k fun _ hK2 => wp_region_lit (run S (.mv rfl <| .yy (Ym (by omega) (Yt (.t rfl) Ev.c)) rfl <| .mv rfl <| .gy rfl rfl (Zc (FieldT.mk underlying77 rfl sizeOf37 rfl) (.t rfl) (i' := 7) rfl) <| .gy rfl rfl (Zc (FieldT.mk underlying37 rfl sizeOf35 rfl) (.t rfl) (i' := 8) rfl) <| .gy rfl rfl (Ye ⟨isAgg35, sizeOf35⟩ (.t rfl) (k := 3) rfl rfl) <| .gy rfl rfl (Zc (FieldT.mk underlying77 rfl sizeOf74 rfl) (.t rfl) (i' := 1) rfl) <| .gy rfl rfl (Ye ⟨isAgg74, sizeOf74⟩ (.t rfl) (k := 3) rfl rfl) <| .gx rfl rfl (Zh call109 (.cons (.t rfl) (.cons (.t rfl) .nil)) (fun hp w W => c109 _ _ _ _ _ _ _ (by exact .old W (by assumption)))) <| .z) fun a w S => ?_))))
     rw [rw_c] at S
     refine run S (.yy (Zq (.t rfl) (.t rfl)) rfl <| .z) fun a w S => Zb (Za (hK2 _ _ (Zg S (.t rfl) (sg S (.ac rfl <| .z) fun a w S => wp_ret (Ze (Zj S (results1 S results106 (Rv.tmp rfl)) ?_))))))
     exact ⟨by rw [if_pos (.inr rfl)], S.wd.below⟩
   | false =>
     have rw_c : u.seen.ctx.covers ⟨u.dot.node, u.dot.life, u.dot.count⟩ = false := hc
     refine enter1 func106 rfl ntmps106 rfl fun a S => wp_seq_k fun _ hK1 => wp_region_lit (Zk (Ya S (.t rfl) rfl fun g1 a w S => run S (.ac rfl <| .z) fun a w S => Zb (Za (hK1 _ _ (wp_seq_k fun _ hK1 => wp_block (wp_seq_k fun _ hK2 => wp_region_lit (run S (.fa underlying77 sizeOf9 0 rfl rfl rfl <| .ld gt9 0 rfl rfl rfl <| .xx (Zh call157 (.cons (.t rfl) .nil) (fun hp w W => c157 _ _)) rfl <| .z) fun a w S => ?_)))))))
     rw [rw_k] at S
     refine run S (.nt rfl <| .mv rfl <| .gy rfl rfl (Zc (FieldT.mk underlying77 rfl sizeOf9 rfl) (.t rfl) (i' := 4) rfl) <| .gy rfl rfl (Zu ⟨isAgg9, sizeOf9⟩ (.t rfl) (k := 0) rfl rfl) <| .gx rfl rfl (Zh call157 (.cons (.t rfl) .nil) (fun hp w W => c157 _ _)) <| .z) fun a w S => ?_
     rw [rw_i] at S
     refine run S (.gy rfl rfl (Xg (.t rfl)) <| .yy (Zq (.t rfl) (.t rfl)) rfl <| .as rfl <| .z) fun a w S => Zb (Za (hK2 _ _ (Zf S (.t rfl) (sg S (.fa underlying77 sizeOf3 5 rfl rfl rfl <| .ld gt3 0 rfl rfl rfl <| .yy (Ym (by omega) (Yq (.t rfl) Ev.c)) rfl <| .mv rfl <| .gy rfl rfl (Zc (FieldT.mk underlying77 rfl sizeOf3 rfl) (.t rfl) (i' := 5) rfl) <| .gy rfl rfl (Zu ⟨isAgg3, sizeOf3⟩ (.t rfl) (k := 0) rfl rfl) <| .gy rfl rfl (Ym (by omega) (Yj (.t rfl) Ev.c)) <| .yy (Zq (.t rfl) (.t rfl)) rfl <| .as rfl <| .z) fun a w S => Zf S (.t rfl) (wp_seq_k fun _ hK2 => wp_region_lit (run S (.fa underlying77 sizeOf75 6 rfl rfl rfl <| .ld gt75 0 rfl rfl rfl <| .xx (Zh call158 (.cons (.t rfl) .nil) (fun hp w W => c158 _ _)) rfl <| .z) fun a w S => ?_))))))
     rw [rw_p] at S
     refine run S (.nt rfl <| .mv rfl <| .gy rfl rfl (Zc (FieldT.mk underlying77 rfl sizeOf3 rfl) (.t rfl) (i' := 5) rfl) <| .gy rfl rfl (Zu ⟨isAgg3, sizeOf3⟩ (.t rfl) (k := 0) rfl rfl) <| .gy rfl rfl (Yd (.t rfl) Ev.c) <| .gy rfl rfl (Zd (.t rfl)) <| .z) fun a w S => Yg S rfl rfl (Yr.ys (Zc (FieldT.mk underlying77 rfl sizeOf75 rfl) (.t rfl) (i' := 6) rfl)) rfl fun a w S => Yg S rfl rfl (Yr.ys (Zu ⟨isAgg75, sizeOf75⟩ (Ev.g rfl) (k := 0) rfl rfl)) rfl fun a w S => Yg S rfl rfl (Yr.ys (Yt (Ev.g rfl) Ev.c)) rfl fun a w S => run S (.gy rfl rfl (ys_and2 (.t rfl) (Ev.g rfl) Ev.c) <| .z) fun a w S => ?_
     rw [rw_z] at S
     refine run S (.yy (Zq (.t rfl) (.t rfl)) rfl <| .as rfl <| .z) fun a w S => Zb (Za (hK2 _ _ (Zf S (.t rfl) (wp_skip (Zm (Za (hK1 _ _ (wp_seq_k fun _ hK1 => wp_region_lit (run S (.fa underlying77 sizeOf37 7 rfl rfl rfl <| .la gt37 0 rfl rfl rfl <| .xx (Zh call66 (.cons (.t rfl) .nil) (fun hp w W => c66 _ _ _ _ _ (by exact .old W (by assumption)) (by exact .old W (by assumption)))) rfl <| .z) fun a w S => ?_)))))))))
     rw [rw_e] at S
     refine run S (.as rfl <| .z) fun a w S => Zb (Za (hK1 _ _ (wp_seq_k fun _ hK1 => sg S (.mv rfl <| .yy (Ym (by omega) (Yt (.t rfl) Ev.c)) rfl <| .z) fun a w S => Zf S (.t rfl) (wp_skip (Za (hK1 _ _ (wp_seq_k fun _ hK1 => wp_region_lit (run S (.fa underlying77 sizeOf74 1 rfl rfl rfl <| .la gt74 0 rfl rfl rfl <| .z) fun a w S => Zk (Yp S underlying33 inf74 rfl rfl rfl (.t rfl) rfl rfl rfl fun g2 a w S => ?_)))))))))
     (refine Zk (Zz S call112 (.cons Ev.c (.cons (.t rfl) .nil)) (c112 _ _ _ _ _ (by exact Sl.nil_) (by exact sl_y1 S.wd (k := 0) rfl) (by (simp; done)) (by (simp; done))) rfl ?_); clear S a w; rintro _ _ ⟨A11, c11, A21, c21, rfl, rfl⟩ a w S)
     rw [rw_n] at S
     refine run S (.mv rfl <| .ex rfl rfl <| .ex rfl rfl <| .as rfl <| .z) fun a w S => Zb (Za (hK1 _ _ (wp_seq_k fun _ hK1 => wp_seq_k fun _ hK2 => wp_region_lit (run S (.mv rfl <| .yy (Ym (by omega) (Yt (.t rfl) Ev.c)) rfl <| .mv rfl <| .gy rfl rfl (Zc (FieldT.mk underlying77 rfl sizeOf37 rfl) (.t rfl) (i' := 7) rfl) <| .gy rfl rfl (Zc (FieldT.mk underlying37 rfl sizeOf35 rfl) (.t rfl) (i' := 8) rfl) <| .gy rfl rfl (Ye ⟨isAgg35, sizeOf35⟩ (.t rfl) (k := 3) rfl rfl) <| .gy rfl rfl (Zc (FieldT.mk underlying77 rfl sizeOf74 rfl) (.t rfl) (i' := 1) rfl) <| .gy rfl rfl (Ye ⟨isAgg74, sizeOf74⟩ (.t rfl) (k := 3) rfl rfl) <| .gx rfl rfl (Zh call109 (.cons (.t rfl) (.cons (.t rfl) .nil)) (fun hp w W => c109 _ _ _ _ _ _ _ (by exact .old W (by assumption)))) <| .z) fun a w S => ?_))))
     rw [rw_c] at S
     refine run S (.yy (Zq (.t rfl) (.t rfl)) rfl <| .z) fun a w S => Zb (Za (hK2 _ _ (Zf S (.t rfl) (wp_skip (Za (hK1 _ _ (sg S (.ac rfl <| .z) fun a w S => wp_ret (Zj S (results1 S results106 (Rv.tmp rfl)) ?_))))))))
     exact ⟨by rw [if_neg (by simp)], S.wd.below⟩
end Go.Proofs.YtakpdbmdfnialaaGreat
namespace Go.Proofs.YtakpdbmdfnialaaGreat
open Go.Fw Go.Proofs Go.RowKit Go.ChangeShapes Go.WideShapes Go.ChangeAt Go.Deep Go.Joins Go.Proofs.Tryz
section
variable {H : Type} {enc : TypeId × Value → H} {w : World}
theorem Rdr.dot {t : TypeId} {i1 i2 i3 : TypeId} {k : IntKind} {f1 f2 f3 : Field} (ht : Tryz.prog.underlying t = some (.struct #[f1, f2, f3])) (ho : offs Tryz.prog [f1, f2, f3] 0 (Tryz.prog.cellsOf t) = true) (h1 : Tryz.prog.underlying f1.type = some (.int .i64)) (h2 : Tryz.prog.underlying f2.type = some (.int .i64)) (h3 : Tryz.prog.underlying f3.type = some (.int .i64)) :
   Rdr enc Tryz.prog w t fun cs _ => ∃ d : Dot, cs = Dot.enc d ∧ True := by
 refine (Rdr.struct ht ho (.cons (Rdr.int h1) (.cons (Rdr.int h2) (.cons (Rdr.int h3) .nil)))).mono ?_
 rintro cs b ⟨_, _, rfl, ⟨_, _, x, rfl, _⟩, _, _, rfl, ⟨_, _, y, rfl, _⟩, _, _, rfl, ⟨_, _, z, rfl, _⟩, rfl⟩
 exact ⟨⟨x, y, z⟩, rfl, trivial⟩
theorem rdDot : Rdr enc Tryz.prog w 74 fun cs _ => ∃ d : Dot, cs = Dot.enc d ∧ True := Rdr.dot (i1 := 0) (i2 := 0) (i3 := 0) (k := .i64) underlying74 (by kernel_rfl) underlying3 underlying3 underlying3
theorem rdMark : Rdr enc Tryz.prog w 30 fun cs _ => ∃ d : Dot, cs = Dot.enc d ∧ True := Rdr.dot (i1 := 0) (i2 := 0) (i3 := 0) (k := .i64) underlying30 (by kernel_rfl) underlying3 underlying3 underlying3
theorem u64_wf {n : Int} (h : (Lit.int .u64 n).wf = true) : ∃ p : UInt64, n = (p.toNat : Int) := by
 simp only [Lit.wf, IntKind.min, IntKind.max, IntKind.signed, IntKind.bits, Bool.and_eq_true, decide_eq_true_eq, Bool.false_eq_true, if_false] at h
 have h2 : n.toNat < 18446744073709551616 := by omega
 refine ⟨UInt64.ofNat n.toNat, ?_⟩
 rw [UInt64.toNat_ofNat', Nat.mod_eq_of_lt h2]
 omega
theorem rdEnt : Rdr enc Tryz.prog w 100 fun cs b => ∃ x : Ent, cs = Ent.enc x ∧ x.item.length ≤ b := by
 refine (Rdr.struct underlying100 (by kernel_rfl) (.cons (Rdr.str underlying9) (.cons rdDot (.cons (Rdr.int underlying3) (.cons (Rdr.int underlying75) .nil))))).mono ?_
 rintro cs b ⟨_, _, rfl, ⟨_, hb, s, rfl, hs⟩, _, _, rfl, ⟨_, _, d, rfl, _⟩, _, _, rfl, ⟨_, _, q, rfl, _⟩, _, _, rfl, ⟨_, _, n, rfl, hn⟩, rfl⟩
 obtain ⟨p, rfl⟩ := u64_wf hn
 exact ⟨⟨s, d, q, p⟩, rfl, by dsimp only; omega⟩
theorem rdCtx : Rdr enc Tryz.prog w 35 fun cs b => ∃ v2 v3 C, cs = [v2, v3] ∧ RdCtx w w.heap.size v2 v3 C ∧ C.marks.length + 1 ≤ b ∧ C.cloud.length + 1 ≤ b := by
 refine (Rdr.struct underlying35 (by kernel_rfl) (.cons (Rdr.slice (k := 3) underlying32 (by kernel_rfl) rfl (fun _ => rfl) rdMark) (.cons (Rdr.slice (k := 3) underlying33 (by kernel_rfl) rfl (fun _ => rfl) rdDot) .nil))).mono ?_
 rintro cs b ⟨_, _, rfl, ⟨_, hb, v, m, rfl, hm, hm1, _⟩, _, _, rfl, ⟨_, hb', v', d, rfl, hd, hd1, _⟩, rfl⟩
 exact ⟨v, v', ⟨m, d⟩, rfl, ⟨hm, hd⟩, by dsimp only; omega, by dsimp only; omega⟩
structure RdCart (w : World) (v1 v2 v3 : Value) (X : Cart) (b : Nat) : Prop where
 ents : Sl Ent.enc 6 w w.heap.size v1 X.ents
 ctx : RdCtx w w.heap.size v2 v3 X.ctx
 l1 : X.ents.length + 1 ≤ b
 l2 : X.ctx.marks.length + 1 ≤ b
 l3 : X.ctx.cloud.length + 1 ≤ b
 items : ∀ x ∈ X.ents, x.item.length ≤ b
theorem rdCart : Rdr enc Tryz.prog w 37 fun cs b => ∃ v1 v2 v3 X, cs = [v1, v2, v3] ∧ RdCart w v1 v2 v3 X b := by
 refine (Rdr.struct underlying37 (by kernel_rfl) (.cons (Rdr.slice (k := 6) underlying31 (by kernel_rfl) rfl (fun _ => rfl) rdEnt) (.cons rdCtx .nil))).mono ?_
 rintro cs b ⟨_, _, rfl, ⟨_, hb, v, l, rfl, hl, hl1, hli⟩, _, _, rfl, ⟨_, hb', v2, v3, C, rfl, hC, h1, h2⟩, rfl⟩
 exact ⟨v, v2, v3, ⟨l, C⟩, rfl, hl, hC, by dsimp only; omega, by dsimp only; omega, by dsimp only; omega, fun x hx => by obtain ⟨b', h3, h4⟩ := hli x hx; omega⟩
theorem rdUpd : Rdr enc Tryz.prog w 77 fun cs b => ∃ u v1 v2 v3, cs = Upd.enc u v1 v2 v3 ∧ RdCart w v1 v2 v3 u.seen b ∧ u.key.length ≤ b ∧ u.item.length ≤ b := by
 refine (Rdr.struct underlying77 (by kernel_rfl) (.cons (Rdr.str underlying9) (.cons rdDot (.cons (Rdr.str underlying9) (.cons (Rdr.int underlying3) (.cons (Rdr.int underlying75) (.cons rdCart .nil))))))).mono ?_
 rintro cs b ⟨_, _, rfl, ⟨_, hb, s, rfl, hs⟩, _, _, rfl, ⟨_, _, d, rfl, _⟩, _, _, rfl, ⟨_, hb2, s2, rfl, hs2⟩, _, _, rfl, ⟨_, _, q, rfl, _⟩, _, _, rfl, ⟨_, _, n, rfl, hn⟩, _, _, rfl, ⟨_, hb3, v1, v2, v3, X, rfl, hX⟩, rfl⟩
 obtain ⟨p, rfl⟩ := u64_wf hn
 refine ⟨⟨s, d, s2, q, p, X⟩, v1, v2, v3, rfl, ⟨hX.ents, hX.ctx, ?_, ?_, ?_, ?_⟩, ?_, ?_⟩
 · have := hX.l1; dsimp only; omega
 · have := hX.l2; dsimp only; omega
 · have := hX.l3; dsimp only; omega
 · intro x hx; have := hX.items x hx; omega
 · dsimp only; omega
 · dsimp only; omega
end
end Go.Proofs.YtakpdbmdfnialaaGreat
namespace Go.Fw
open Go.RowKit
def SlIn {α : Type} (enc : α → List Value) (size : Nat) (w1 : World) (bs : List Nat) (v : Value) (l : List α) : Prop :=
 ∃ A cap, v = .slice A l.length cap ∧ l.length ≤ cap ∧ cap ≤ 9223372036854775807 ∧ (0 < l.length → ∃ g o, A = some ⟨g, o, none⟩ ∧ g ∈ bs ∧ ∀ k x, l[k]? = some x → ∀ j u, (enc x)[j]? = some u → w1.cell? ⟨g, o + k * size + j, none⟩ = some u)
def Chunk.blocks : Chunk → List Nat
 | .blk b _ => [b]
 | .row _ _ A _ cap _ => if cap = 0 then [] else (A.map (·.block)).toList
 | .ice _ bs => bs
theorem Chunk.mem_blocks {c : Chunk} {b : Nat} : b ∈ c.blocks ↔ c.own b := by
 cases c with
 | blk b' o => simp [Chunk.blocks, Chunk.own]
 | row e size A n cap xs =>
   unfold Chunk.blocks Chunk.own
   by_cases h : cap = 0
   · simp [h]
   · simp [h]
 | ice w1 bs => rfl
section
variable {w0 w w1 : World} {L cs : List Chunk} {k e size : Nat} {bs bs' : List Nat}
theorem Wd.freeze (h : Wd w0 (cs ++ L) w) : Wd w0 (.ice w (cs.flatMap Chunk.blocks) :: L) w := by
 obtain ⟨h1, h2, h3⟩ := h
 rw [List.pairwise_append] at h3
 have key : ∀ b ∈ cs.flatMap Chunk.blocks, ∃ c ∈ cs, c.own b := fun b hb => by
   obtain ⟨c, hc, hb⟩ := List.mem_flatMap.1 hb
   exact ⟨c, hc, Chunk.mem_blocks.1 hb⟩
 refine ⟨h1, fun x hx => ?_, List.Pairwise.cons (fun x hx b hb hxb => ?_) h3.2.1⟩
 · rcases List.mem_cons.1 hx with rfl | hx
   · intro b hb
     obtain ⟨c, hc, hb⟩ := key b hb
     have := (h2 c (List.mem_append_left _ hc)).lt hb
     exact ⟨this.1, this.2, rfl⟩
   · exact h2 x (List.mem_append_right _ hx)
 · obtain ⟨c, hc, hb⟩ := key b hb
   exact h3.2.2 c hc x hx b hb hxb
variable {α : Type} {enc : α → List Value} {v : Value} {l : List α}
theorem ice_cell (W : Wd w0 L w) (hk : L[k]? = some (.ice w1 bs)) {g o : Nat} (hg : g ∈ bs) : w.cell? ⟨g, o, none⟩ = w1.cell? ⟨g, o, none⟩ := by
 have h := (W.get hk g hg).2.2
 simp only [World.cell?, h]
theorem SlIn.sl (h : SlIn enc size w1 bs v l) (W : Wd w0 L w) (hk : L[k]? = some (.ice w1 bs)) : Sl enc size w w.heap.size v l := by
 obtain ⟨A, cap, rfl, h1, h2, h3⟩ := h
 refine ⟨A, cap, rfl, h1, h2, fun hp => ?_⟩
 obtain ⟨g, o, rfl, hg, hc⟩ := h3 hp
 exact ⟨g, o, rfl, (W.get hk g hg).2.1, fun k x hx j u hu => (ice_cell W hk hg).trans (hc k x hx j u hu)⟩
theorem SlIn.anew (h : SlIn enc size w1 bs v l) (W : Wd w0 L w) (hk : L[k]? = some (.ice w1 bs)) (hb : ∀ b ∈ bs, b ∈ bs') : SlIn enc size w bs' v l := by
 obtain ⟨A, cap, rfl, h1, h2, h3⟩ := h
 refine ⟨A, cap, rfl, h1, h2, fun hp => ?_⟩
 obtain ⟨g, o, rfl, hg, hc⟩ := h3 hp
 exact ⟨g, o, rfl, hb g hg, fun k x hx j u hu => (ice_cell W hk hg).trans (hc k x hx j u hu)⟩
theorem SlIn.row {A : Option Addr} {cap : Nat} (W : Wd w0 L w) (hk : L[k]? = some (rowOf e size enc A cap l)) (he : ∀ x, (enc x).length = size) (hb : ∀ b ∈ Chunk.blocks (rowOf e size enc A cap l), b ∈ bs') : SlIn enc size w bs' (.slice A l.length cap) l := by
 obtain ⟨A', cap', hv, h1, h2, h3⟩ := Sl.of_own W hk he
 cases hv
 refine ⟨A, cap, rfl, h1, h2, fun hp => ?_⟩
 obtain ⟨g, o, rfl, hg, hc⟩ := h3 hp
 exact ⟨g, o, rfl, hb g (by simp [Chunk.blocks, rowOf, show cap ≠ 0 by omega]), hc⟩
theorem SlIn.nil_ {c : Nat} : SlIn enc size w1 bs (.slice none 0 0) [] := ⟨none, 0, rfl, by simp, by simp, fun h => by simp at h⟩
end
end Go.Fw
namespace Go.Fw
open Go.RowKit
structure Sls3 where
 a1 : Option Addr
 n1 : Nat
 c1 : Nat
 a2 : Option Addr
 n2 : Nat
 c2 : Nat
 a3 : Option Addr
 n3 : Nat
 c3 : Nat
abbrev SCart := Cart × Sls3
abbrev SUpd := Upd × Sls3
abbrev SCart.enc (p : SCart) : List Value := [.slice p.2.a1 p.2.n1 p.2.c1, .slice p.2.a2 p.2.n2 p.2.c2, .slice p.2.a3 p.2.n3 p.2.c3]
theorem SCart.enc_len (p : SCart) : (SCart.enc p).length = 3 := rfl
theorem SCart.enc_one (p : SCart) : ∀ u ∈ SCart.enc p, u.oneCell' = true := fun u hu => by simp [SCart.enc] at hu; rcases hu with rfl | rfl | rfl <;> rfl
abbrev SUpd.enc (p : SUpd) : List Value := Upd.enc p.1 (.slice p.2.a1 p.2.n1 p.2.c1) (.slice p.2.a2 p.2.n2 p.2.c2) (.slice p.2.a3 p.2.n3 p.2.c3)
theorem SUpd.enc_len (p : SUpd) : (SUpd.enc p).length = 10 := rfl
theorem SUpd.enc_one (p : SUpd) : ∀ u ∈ SUpd.enc p, u.oneCell' = true := fun u hu => by simp [SUpd.enc, Upd.enc] at hu; rcases hu with rfl | rfl | rfl | rfl | rfl | rfl | rfl | rfl | rfl | rfl <;> rfl
structure CartIn (w1 : World) (bs : List Nat) (X : Cart) (s : Sls3) : Prop where
 ents : SlIn Ent.enc 6 w1 bs (.slice s.a1 s.n1 s.c1) X.ents
 marks : SlIn Dot.enc 3 w1 bs (.slice s.a2 s.n2 s.c2) X.ctx.marks
 cloud : SlIn Dot.enc 3 w1 bs (.slice s.a3 s.n3 s.c3) X.ctx.cloud
structure CartRd (w : World) (X : Cart) (s : Sls3) : Prop where
 ents : Sl Ent.enc 6 w w.heap.size (.slice s.a1 s.n1 s.c1) X.ents
 marks : Sl Dot.enc 3 w w.heap.size (.slice s.a2 s.n2 s.c2) X.ctx.marks
 cloud : Sl Dot.enc 3 w w.heap.size (.slice s.a3 s.n3 s.c3) X.ctx.cloud
section
variable {w0 w w1 : World} {L : List Chunk} {k : Nat} {bs bs' : List Nat} {X : Cart} {s : Sls3}
theorem CartIn.rd (h : CartIn w1 bs X s) (W : Wd w0 L w) (hk : L[k]? = some (.ice w1 bs)) : CartRd w X s := ⟨h.ents.sl W hk, h.marks.sl W hk, h.cloud.sl W hk⟩
theorem CartIn.anew (h : CartIn w1 bs X s) (W : Wd w0 L w) (hk : L[k]? = some (.ice w1 bs)) (hb : ∀ b ∈ bs, b ∈ bs') : CartIn w bs' X s := ⟨h.ents.anew W hk hb, h.marks.anew W hk hb, h.cloud.anew W hk hb⟩
theorem CartRd.ctx (h : CartRd w X s) : RdCtx w w.heap.size (.slice s.a2 s.n2 s.c2) (.slice s.a3 s.n3 s.c3) X.ctx := ⟨h.marks, h.cloud⟩
theorem carts_rd {l : List SCart} (h : ∀ p ∈ l, CartIn w1 bs p.1 p.2) (W : Wd w0 L w) (hk : L[k]? = some (.ice w1 bs)) : ∀ p ∈ l, CartRd w p.1 p.2 := fun p hp => (h p hp).rd W hk
end
end Go.Fw
namespace Go.Fw
open Go.RowKit Go.Sort Go.Proofs
abbrev MEnt := {e : Ent // mayD e.dot = true}
instance : Inhabited MEnt := ⟨⟨⟨[], ⟨0, 1, 1⟩, 0, 0⟩, rfl⟩⟩
abbrev MEnt.enc (e : MEnt) : List Value := Ent.enc e.1
theorem not_ltE {a b : Ent} : ¬ ltE a b ↔ ltE b a ∨ (a.item = b.item ∧ a.dot = b.dot) := by
 constructor
 · intro h
   by_cases e : a.item = b.item
   · by_cases ed : a.dot = b.dot
     · exact .inr ⟨e, ed⟩
     · exact .inl ((ltE_total ed).resolve_left h)
   · rcases Wp e with h1 | h1
     · exact absurd (.inl h1) h
     · exact .inl (.inl h1)
 · rintro (h | ⟨h1, h2⟩) h'
   · exact ltE_asymm h h'
   · rcases h' with h' | ⟨_, h'⟩
     · rw [h1, Wa] at h'; cases h'
     · rw [h2] at h'; exact ltC_irr _ h'
theorem swoE : SWO (ltOf fun x y : MEnt => ordE x.1 y.1) where
 irrefl x := by
   simp only [ltOf, decide_eq_false_iff_not, ordE_iff]
   exact ltE_irr _
 trans x y z h1 h2 := by
   simp only [ltOf, decide_eq_true_eq, ordE_iff] at *
   exact ltE_trans h1 h2
 ntrans x y z h1 h2 := by
   simp only [ltOf, decide_eq_false_iff_not, ordE_iff] at *
   rcases not_ltE.1 h1 with a | ⟨a1, a2⟩
   · rcases not_ltE.1 h2 with b | ⟨b1, b2⟩
     · exact fun h => ltE_asymm h (ltE_trans b a)
     · intro h
       refine ltE_irr x.1 (ltE_trans h ?_)
       rcases a with a | ⟨a1, a2⟩
       · exact .inl (b1 ▸ a)
       · exact .inr ⟨b1 ▸ a1, b2 ▸ a2⟩
   · intro h
     refine h2 ?_
     rcases h with h | ⟨e1, e2⟩
     · exact .inl (a1 ▸ h)
     · exact .inr ⟨a1 ▸ e1, a2 ▸ e2⟩
theorem encE_map (ls : List MEnt) : ls.flatMap MEnt.enc = (ls.map (·.1)).flatMap Ent.enc := by
 induction ls with
 | nil => rfl
 | cons x r ih => simp only [List.flatMap_cons, List.map_cons, ih]
theorem sortE {l l' r : List Ent} (hp : l'.Perm l) (hs : l'.Pairwise fun a b => ¬ ordE b a < 0) (hd : (l.map (·.dot)).Nodup) (hr : r.Pairwise ltE) (hm : ∀ x, x ∈ r ↔ x ∈ l) : l' = r := by
 have hd' : (l'.map (·.dot)).Nodup := (hp.map _).nodup_iff.2 hd
 refine sorted_uniq ?_ hr fun x => by rw [hp.mem_iff, hm]
 have h2 : l'.Pairwise fun a b => a.dot ≠ b.dot := by rw [List.Nodup, List.pairwise_map] at hd'; exact hd'
 refine (hs.and h2).imp fun ⟨h1, h3⟩ => ?_
 rw [ordE_iff] at h1
 rcases not_ltE.1 h1 with h | ⟨_, h⟩
 · exact h
 · exact absurd h.symm h3
end Go.Fw
namespace Go.Ft
open Go.RowKit
abbrev bs (l : List UInt8) : ByteArray := ⟨l.toArray⟩
theorem bs_toList (l : List UInt8) : (bs l).toList = l := by rw [ByteArray.toList_eq]
section ops
variable {P : Program} {n : Nat} {w0 : World} {K : KL} {L : List Chunk} {b : Bool} {dst : Option Tmp} {ty : TypeId} {pos : String} {aft : Array Edge} {gd : Option (Nat × Bool)}
theorem Xt {t t' : TypeId} {x y : Operand} {l m : List UInt8} (hx : Ev n b K x (.string (bs l))) (hy : Ev n b K y (.string (bs m))) : Yr P ⟨dst, .binOp .neq t x y t', ty, pos, aft, gd⟩ n K w0 L b (.bool (decide (l ≠ m))) := fun a w hb hkn _ => by
 have h : (!(l == m)) = decide (l ≠ m) := by rw [Bool.eq_iff_iff]; simp
 simp only [execOp, hx a hb hkn, hy a hb hkn]
 simp [eqGuard, binOp, Op.stringOp, bs_toList, h]
end ops
section
variable {P : Program} {n : Nat} {w0 : World} {K : KL} {L : List Chunk} {ty : TypeId} {pos : String} {aft : Array Edge} {gd : Option (Nat × Bool)} {a : Act} {w : World} {Z : Act → World → Prop} {Q : Exit → Act → World → Prop} {d : Nat}
end
theorem Sl.first {P : Program} {w : World} {α : Type} {enc : α → List Value} {size B : Nat} {A : Option Addr} {l : List α} {cap : Nat} (h : Sl enc size w B (.slice A l.length cap) l) (m : Nat) (hm : m ≤ l.length) (hsz : 0 < size) (he : ∀ x, (enc x).length = size) :
   (Builtin.firstCells size m (.slice A l.length cap)).run P w = .ok ((l.take m).flatMap enc).toArray w := by
 have hflen : ∀ l : List α, (l.flatMap enc).length = l.length * size := by
   intro l
   induction l with
   | nil => simp
   | cons x r ih => simp [he, ih, Nat.add_mul, Nat.add_comm]
 obtain ⟨A', cap', hv, h2, h3, h4⟩ := h
 simp only [Value.slice.injEq, true_and] at hv
 obtain ⟨rfl, rfl⟩ := hv
 rcases Nat.eq_zero_or_pos l.length with h0 | hp
 · have : l = [] := List.eq_nil_of_length_eq_zero h0
   subst this
   have : m = 0 := by simpa using hm
   subst this
   cases A <;> simp [Builtin.firstCells, loadCells, loadCellsFrom]
 · obtain ⟨g, o, rfl, hg, hc⟩ := h4 hp
   have hs := Src.sl (P := P) (w := w) (enc := enc) (size := size) (B := B) (c := cap) (l := l.take m) (A := some ⟨g, o, none⟩) (cap := cap) ⟨_, _, rfl, by simp; omega, h3, fun _ => ⟨g, o, rfl, hg, fun k x hx => hc k x (by
     rw [List.getElem?_take] at hx
     split at hx
     · exact hx
     · cases hx)⟩⟩ hsz he
   have hlen : (l.take m).length = m := by simp; omega
   have e2 : (some (⟨g, o, none⟩ : Addr)) = some ⟨g, o, none⟩ := rfl
   refine run_firstCells_some (P := P) w size m ⟨g, o, none⟩ l.length cap _ (by rw [hflen, hlen]) (fun j u hj => ?_)
   rw [Addr.add_mid]
   have hget : ∀ (l : List α) (j : Nat) (u : Value), (l.flatMap enc)[j]? = some u → ∃ x, l[j / size]? = some x ∧ (enc x)[j % size]? = some u := by
     intro l
     induction l with
     | nil => intro j u hj; simp at hj
     | cons x r ih =>
       intro j u hj
       rw [List.flatMap_cons, List.getElem?_append] at hj
       split at hj
       · rename_i hlt
         rw [he] at hlt
         exact ⟨x, by simp [Nat.div_eq_of_lt hlt], by rw [Nat.mod_eq_of_lt hlt]; exact hj⟩
       · rename_i hge
         rw [he] at hge hj
         obtain ⟨y, h2, h3⟩ := ih _ _ hj
         have hge' : size ≤ j := by omega
         refine ⟨y, ?_, ?_⟩
         · rw [show j / size = (j - size) / size + 1 from Nat.div_eq_sub_div hsz hge']
           simpa using h2
         · rw [Nat.mod_eq_sub_mod hge']; exact h3
   obtain ⟨x, h5, h6⟩ := hget _ j u hj
   rw [List.getElem?_take] at h5
   split at h5
   · have := hc _ x h5 _ u h6
     rw [show o + j = o + j / size * size + j % size by rw [Nat.add_assoc, Nat.mul_comm, Nat.div_add_mod]]
     exact this
   · cases h5
section
variable {P : Program} {n : Nat} {w0 : World} {K : KL} {L : List Chunk} {ty : TypeId} {pos : String} {aft : Array Edge} {gd : Option (Nat × Bool)} {a : Act} {w : World} {Z : Act → World → Prop} {Q : Exit → Act → World → Prop} {d : Nat}
end
section
variable {P : Program} {n : Nat} {w0 : World} {K : KL} {L : List Chunk} {ty : TypeId} {pos : String} {aft : Array Edge} {gd : Option (Nat × Bool)} {a : Act} {w : World} {Z : Act → World → Prop} {Q : Exit → Act → World → Prop} {d : Nat}
end
section
variable {P : Program} {Q : Exit → Act → World → Prop} {J : Act → World → Prop} {l i : Nat} {a : Act} {w : World}
theorem Wk {c : Code} (n : Nat) (h : Code.rounds P c Q n a w) : (Code.loop c).wp P Q a w := wp_loop_rounds n h
theorem Yy {c : Code} {n : Nat} (h : c.wp P (Exit.then (fun a w => Code.rounds P c Q n a w) Q) a w) : Code.rounds P c Q (n + 1) a w := h
end
section ops
variable {P : Program} {n : Nat} {w0 : World} {K : KL} {L : List Chunk} {b : Bool} {dst : Option Tmp} {ty : TypeId} {pos : String} {aft : Array Edge} {gd : Option (Nat × Bool)}
end ops
end Go.Ft
namespace Go.Ft
open Go.RowKit
theorem Wg {α : Type} {enc : α → List Value} {size : Nat} (he : ∀ x, (enc x).length = size) (l : List α) : (l.flatMap enc).length = l.length * size := by
 induction l with
 | nil => simp
 | cons x r ih => simp [he, ih, Nat.add_mul, Nat.add_comm]
theorem flat_get {α : Type} {enc : α → List Value} {size : Nat} (he : ∀ x, (enc x).length = size) (hs : 0 < size) : ∀ (l : List α) (j : Nat) (x : α), l[j / size]? = some x → (l.flatMap enc)[j]? = (enc x)[j % size]?
 | [], j, x, h => by simp at h
 | y :: r, j, x, h => by
   rw [List.flatMap_cons, List.getElem?_append, he]
   split
   · rename_i hlt
     rw [Nat.div_eq_of_lt hlt] at h
     simp at h
     subst h
     rw [Nat.mod_eq_of_lt hlt]
   · rename_i hge
     have hge' : size ≤ j := by omega
     rw [show j / size = (j - size) / size + 1 from Nat.div_eq_sub_div hs hge'] at h
     rw [Nat.mod_eq_sub_mod hge']
     exact flat_get he hs r (j - size) x (by simpa using h)
section
variable {w0 w w' : World} {L : List Chunk}
end
end Go.Ft
namespace Go.Ft
open Go.RowKit
section ops
variable {P : Program} {n : Nat} {w0 : World} {K : KL} {L : List Chunk} {b : Bool} {dst : Option Tmp} {ty : TypeId} {pos : String} {aft : Array Edge} {gd : Option (Nat × Bool)}
end ops
section
variable {n : Nat} {w0 : World} {K : KL} {L : List Chunk} {a : Act} {w : World} {c : Chunk}
end
theorem Wd.cell {w0 w : World} {L : List Chunk} (W : Wd w0 L w) {k g i : Nat} {cs : List Value} {e : TypeId} {fr : Nat × Nat} {v : Value} (hk : L[k]? = some (.blk g (.cells cs.toArray e fr))) (hc : nth cs i = some v) : w.cell? ⟨g, i, none⟩ = some v := by
 rw [cell_of_row w g i _ e fr (W.get hk).2]
 rw [nth_eq] at hc
 simpa using hc
section split
variable {P : Program} {Q : Exit → Act → World → Prop} {n : Nat} {w0 : World} {K : KL} {L Lr : List Chunk} {a : Act} {w : World} {ops : Array Oper} {fuel : Nat} {listed : Array Bool} {md : Region.Mode}
end split
def zrep (len : Nat) (z : Value) : List Value := (List.replicate len ()).flatMap fun _ => z.cells.toList
theorem zrep_eq {z : Value} {sz : Nat} (len : Nat) (hz : z.cells.size = sz) : (Array.range (len * sz)).map (fun i => (if len * sz = 0 then #[] else z.cells)[i % (if len * sz = 0 then (#[] : Array Value) else z.cells).size]!) = (zrep len z).toArray := by
 have hl : (zrep len z).length = len * sz := by
   unfold zrep
   rw [Wg (size := sz) (fun _ => by simpa using hz)]; simp
 apply Array.ext
 · simp [hl]
 · intro i h1 h2
   have hi : i < len * sz := by simpa using h1
   have hs : 0 < sz := by rcases Nat.eq_zero_or_pos sz with h | h; rw [h] at hi; simp at hi; exact h
   have hx : (List.replicate len ())[i / sz]? = some () := by
     rw [List.getElem?_replicate, if_pos ((Nat.div_lt_iff_lt_mul hs).2 hi)]
   have h3 := flat_get (enc := fun (_ : Unit) => z.cells.toList) (size := sz) (fun _ => by simpa using hz) hs (List.replicate len ()) i () hx
   have h4 : i % sz < z.cells.size := by rw [hz]; exact Nat.mod_lt _ hs
   rw [Array.getElem_map, Array.getElem_range, if_neg (by omega), hz, getElem!_pos z.cells _ h4]
   have h5 : (zrep len z)[i]? = some z.cells[i % sz] := by
     unfold zrep
     rw [h3, Array.getElem?_toList, Array.getElem?_eq_getElem h4]
   rw [List.getElem_toArray]
   exact (Option.some.inj ((List.getElem?_eq_getElem (by rw [hl]; exact hi)).symm.trans h5)).symm
section
variable {P : Program} {n : Nat} {w0 : World} {K : KL} {L : List Chunk} {ty : TypeId} {pos : String} {aft : Array Edge} {gd : Option (Nat × Bool)} {a : Act} {w : World} {Z : Act → World → Prop} {Q : Exit → Act → World → Prop} {d : Nat}
theorem Wn {t e sz len : Nat} {z : Value} {ps : List (Nat × Operand)} {vs us : List Value} (S : St n w0 K L a w) (ht : P.underlying t = some (.slice e)) (hsz : ∀ w, (sizeOf e).run P w = .ok sz w) (hz : ∀ w, (zeroValue e).run P w = .ok z w)
   (hzc : z.cells.size = sz) (hmax : Nat.ble (len * sz) 16777216 = true) (hx : EvL n true K (ps.map (·.2)) vs) (hr : fillL (fun i => some (i * sz, sz)) (zrep len z) ((ps.map (·.1)).zip vs) = some us) (hd : Nat.blt d n = true)
   (next : ∀ g a w, St n w0 ((d, true, .slice (some ⟨g, 0, none⟩) len len) :: K) (.blk g (.cells us.toArray e) :: L) a w → Z a w) :
   Oper.wp P ⟨some d, .buildSlice t len ps.toArray, ty, pos, aft, gd⟩ a w Z Q := op_bslice (zrep len z) S ht hsz hz (zrep_eq len hzc) hmax hx hr hd next
end
end Go.Ft
namespace Go.Ft
open Go.Proofs Go.RowKit
section
variable {P : Program} {n : Nat} {w0 : World} {K : KL} {L : List Chunk} {ty : TypeId} {pos : String} {aft : Array Edge} {gd : Option (Nat × Bool)} {a : Act} {w : World} {Z : Act → World → Prop} {Q : Exit → Act → World → Prop} {d : Nat} {dst : Option Tmp} {b : Bool}
variable {K' : Act → World → Prop} {i : Nat} {ps : List PanicEntry}
end
section
variable {P : Program} {f : FuncId} {fn : Func} {c : Code} {R : Ending → World → Prop} {w0 w : World} {L : List Chunk} {v0 v1 v2 v3 v4 v5 v6 v7 v8 : Value}
end
theorem Sl.sub {w : World} {α : Type} {enc : α → List Value} {size B : Nat} {A : Option Addr} {l : List α} {cap : Nat} (h : Sl enc size w B (.slice A l.length cap) l) (lo hi : Nat) (hlo : lo ≤ hi) (hhi : hi ≤ l.length) :
   Sl enc size w B (.slice (if cap = lo then A else A.map (·.add (lo * size))) (hi - lo) (cap - lo)) ((l.drop lo).take (hi - lo)) := by
 obtain ⟨A', cap', hv, h2, h3, h4⟩ := h
 simp only [Value.slice.injEq, true_and] at hv
 obtain ⟨rfl, rfl⟩ := hv
 have hl : ((l.drop lo).take (hi - lo)).length = hi - lo := by simp; omega
 refine ⟨if cap = lo then A else A.map (·.add (lo * size)), cap - lo, by rw [hl], by rw [hl]; omega, by omega, fun hp => ?_⟩
 rw [hl] at hp
 obtain ⟨g, o, rfl, hg, hc⟩ := h4 (by omega)
 rw [if_neg (by omega)]
 refine ⟨g, o + lo * size, by simp [Addr.add_mid], hg, fun k x hx j u hu => ?_⟩
 rw [List.getElem?_take] at hx
 split at hx
 · rw [List.getElem?_drop] at hx
   have := hc _ x hx j u hu
   rw [Nat.add_mul] at this
   rw [show o + lo * size + k * size + j = o + (lo * size + k * size) + j by omega]
   exact this
 · cases hx
theorem Src.subS {P : Program} {w : World} {α : Type} {enc : α → List Value} {size B : Nat} {A : Option Addr} {l : List α} {cap lo hi c : Nat} (h : Sl enc size w B (.slice A l.length cap) l) (hsz : 0 < size) (he : ∀ x, (enc x).length = size) (h1 : ∀ x, ∀ u ∈ enc x, u.oneCell' = true) (hlo : lo ≤ hi) (hhi : hi ≤ l.length) :
   Src P w size (.slice (if cap = lo then A else A.map (·.add (lo * size))) (hi - lo) c) ((l.drop lo).take (hi - lo)).length (((l.drop lo).take (hi - lo)).flatMap enc) := by
 have hl : ((l.drop lo).take (hi - lo)).length = hi - lo := by simp; omega
 have h' : Sl enc size w B (.slice (if cap = lo then A else A.map (·.add (lo * size))) ((l.drop lo).take (hi - lo)).length (cap - lo)) ((l.drop lo).take (hi - lo)) := by rw [hl]; exact h.sub lo hi hlo hhi
 have := Src.sl (P := P) (c := c) h' hsz he h1
 rw [hl] at this
 rw [hl]
 exact this
theorem Src.sub {P : Program} {α : Type} {enc : α → List Value} {size e cap k lo hi c : Nat} {w w0 : World} {L : List Chunk} {A : Option Addr} {l : List α} (W : Wd w0 L w) (hk : L[k]? = some (rowOf e size enc A cap l)) (hsz : 0 < size) (he : ∀ x, (enc x).length = size) (h1 : ∀ x, ∀ u ∈ enc x, u.oneCell' = true) (hlo : lo ≤ hi) (hhi : hi ≤ l.length) :
   Src P w size (.slice (if cap = lo then A else A.map (·.add (lo * size))) (hi - lo) c) ((l.drop lo).take (hi - lo)).length (((l.drop lo).take (hi - lo)).flatMap enc) :=
 Src.subS (Sl.of_own W hk he) hsz he h1 hlo hhi
end Go.Ft
namespace Go.Ft
open Go.RowKit
theorem Wa : ∀ a : List UInt8, Op.bytesLess a a = false
 | [] => rfl
 | x :: r => by unfold Op.bytesLess; rw [Wa r]; simp
theorem less_nil (a : List UInt8) : Op.bytesLess a [] = false := by cases a <;> rfl
theorem less_cons (x y : UInt8) (a b : List UInt8) : Op.bytesLess (x :: a) (y :: b) = true ↔ x < y ∨ (x = y ∧ Op.bytesLess a b = true) := by
 rw [Op.bytesLess]
 simp
theorem less_trans : ∀ {a b c : List UInt8}, Op.bytesLess a b = true → Op.bytesLess b c = true → Op.bytesLess a c = true
 | _, [], _, h, _ => by rw [less_nil] at h; cases h
 | _, _ :: _, [], _, h => by rw [less_nil] at h; cases h
 | [], _ :: _, _ :: _, _, _ => rfl
 | x :: a, y :: b, z :: c, h, h' => by
   rw [less_cons] at h h' ⊢
   rcases h with h | ⟨rfl, h⟩
   · rcases h' with h' | ⟨rfl, h'⟩
     · exact .inl (UInt8.lt_trans h h')
     · exact .inl h
   · rcases h' with h' | ⟨rfl, h'⟩
     · exact .inl h'
     · exact .inr ⟨rfl, less_trans h h'⟩
theorem Wp : ∀ {a b : List UInt8}, a ≠ b → Op.bytesLess a b = true ∨ Op.bytesLess b a = true
 | [], [], h => absurd rfl h
 | [], _ :: _, _ => .inl rfl
 | _ :: _, [], _ => .inr rfl
 | x :: a, y :: b, h => by
   rw [less_cons, less_cons]
   by_cases e : x = y
   · subst e
     have h2 : a ≠ b := fun e => h (by rw [e])
     rcases Wp h2 with h | h
     · exact .inl (.inr ⟨rfl, h⟩)
     · exact .inr (.inr ⟨rfl, h⟩)
   · rcases UInt8.lt_or_lt_of_ne e with h | h
     · exact .inl (.inl h)
     · exact .inr (.inl h)
theorem less_asymm {a b : List UInt8} (h : Op.bytesLess a b = true) : Op.bytesLess b a = false := by
 rw [Bool.eq_false_iff]
 intro h'
 have := less_trans h h'
 rw [Wa] at this
 cases this
theorem less_ne {a b : List UInt8} (h : Op.bytesLess a b = true) : a ≠ b := fun e => by rw [e, Wa] at h; cases h
def cmpB (a b : List UInt8) : Int := if Op.bytesLess a b then -1 else if a = b then 0 else 1
theorem less_gt (l m : List UInt8) : (!(Op.bytesLess l m || l == m)) = Op.bytesLess m l := by
 by_cases e : l = m
 · subst e; simp [Wa]
 · rw [beq_false_of_ne e, Bool.or_false]
   rcases Wp e with h | h
   · rw [h, less_asymm h]; rfl
   · rw [h, less_asymm h]; rfl
end Go.Ft
namespace Go.Ft
open Go.Proofs Go.RowKit Go.ChangeMaps
section
variable {P : Program} {n : Nat} {w0 : World} {K : KL} {L : List Chunk} {b : Bool} {dst : Option Tmp} {ty : TypeId} {pos : String} {aft : Array Edge} {gd : Option (Nat × Bool)} {a : Act} {w : World} {Z : Act → World → Prop} {Q : Exit → Act → World → Prop} {d : Nat}
section
variable {t t' : TypeId} {x y : Operand} {l m : List UInt8} (hx : Ev n b K x (.string (bs l))) (hy : Ev n b K y (.string (bs m)))
include hx hy
theorem ys_lssStr : Yr P ⟨dst, .binOp .lss t x y t', ty, pos, aft, gd⟩ n K w0 L b (.bool (Op.bytesLess l m)) := fun a w hb hkn _ => by
 simp only [execOp, hx a hb hkn, hy a hb hkn]
 simp [eqGuard, binOp, Op.stringOp, bs_toList]
theorem ys_gtrStr : Yr P ⟨dst, .binOp .gtr t x y t', ty, pos, aft, gd⟩ n K w0 L b (.bool (Op.bytesLess m l)) := fun a w hb hkn _ => by
 simp only [execOp, hx a hb hkn, hy a hb hkn]
 simp only [eqGuard, binOp, Op.stringOp, bs_toList, less_gt]
 simp
end
end
end Go.Ft
namespace Go.Ft
open Go.RowKit
def ltM (a b : Dot) : Prop := a.node < b.node ∨ (a.node = b.node ∧ a.life < b.life)
def ltC (a b : Dot) : Prop := a.node < b.node ∨ (a.node = b.node ∧ (a.life < b.life ∨ (a.life = b.life ∧ a.count < b.count)))
theorem Xh (a b : Dot) : belowD a b = true ↔ ltC a b := by
 simp only [belowD, ltC]
 split
 · simp; omega
 · split <;> simp <;> omega
structure Nf (C : Ctx) : Prop where
 marks : C.marks.Pairwise ltM
 cloud : C.cloud.Pairwise ltC
 mayM : ∀ x ∈ C.marks, mayD x = true
 mayC : ∀ x ∈ C.cloud, mayD x = true
 gap : ∀ x ∈ C.cloud, markOf C.marks x.node x.life + 1 < x.count
end Go.Ft
namespace Go.Ft
open Go.RowKit
def charB (c : UInt8) : Bool := (decide (97 ≤ c.toNat) && decide (c.toNat ≤ 122)) || (decide (65 ≤ c.toNat) && decide (c.toNat ≤ 90)) || (decide (48 ≤ c.toNat) && decide (c.toNat ≤ 57)) || decide (c.toNat = 45) || decide (c.toNat = 95) || decide (c.toNat = 46)
def nameB (s : List UInt8) : Bool := decide (s ≠ []) && decide (s.length ≤ 32) && s.all charB
def priceB (p : UInt64) : Bool := decide (p.toNat ≤ 9218868437227405312) || decide (p.toNat = 9223372036854775808)
structure Ent where
 item : List UInt8
 dot : Dot
 qty : Int
 price : UInt64
deriving DecidableEq
abbrev Ent.enc (e : Ent) : List Value := [.string (bs e.item), .int .i64 e.dot.node, .int .i64 e.dot.life, .int .i64 e.dot.count, .int .i64 e.qty, .int .u64 (e.price.toNat : Int)]
structure Cart where
 ents : List Ent
 ctx : Ctx
deriving DecidableEq
abbrev Cart.zero : Cart := ⟨[], ⟨[], []⟩⟩
structure Line where
 item : List UInt8
 qty : Int
 price : UInt64
deriving DecidableEq
abbrev Line.enc (e : Line) : List Value := [.string (bs e.item), .int .i64 e.qty, .int .u64 (e.price.toNat : Int)]
def ltE (a b : Ent) : Prop := Op.bytesLess a.item b.item = true ∨ (a.item = b.item ∧ ltC a.dot b.dot)
instance (a b : Ent) : Decidable (ltE a b) := decidable_of_iff (Op.bytesLess a.item b.item = true ∨ (a.item = b.item ∧ belowD a.dot b.dot = true)) (by rw [Xh]; rfl)
def itemsFrom : Option (List UInt8) → List Ent → Nat
 | _, [] => 0
 | p, e :: r => (if p = some e.item then 0 else 1) + itemsFrom (some e.item) r
def itemsN (l : List Ent) : Nat := itemsFrom none l
structure EntOk (C : Ctx) (e : Ent) : Prop where
 name : nameB e.item = true
 qty : 1 ≤ e.qty ∧ e.qty ≤ 1000000
 price : priceB e.price = true
 cov : C.covers e.dot = true
structure CartOk (c : Cart) : Prop where
 ctx : canL c.ctx = true
 len : c.ents.length ≤ 64
 each : ∀ e ∈ c.ents, EntOk c.ctx e
 order : c.ents.Pairwise ltE
 dots : (c.ents.map (·.dot)).Nodup
 items : itemsN c.ents ≤ 32
structure Upd where
 key : List UInt8
 dot : Dot
 item : List UInt8
 qty : Int
 price : UInt64
 seen : Cart
deriving DecidableEq
def clashE (a b : Cart) : Prop := ∃ x ∈ a.ents, ∃ y ∈ b.ents, x.dot = y.dot ∧ x ≠ y
instance (a b : Cart) : Decidable (clashE a b) := by unfold clashE; infer_instance
end Go.Ft
namespace Go.Proofs
open Go.Shelf
def Tryz.sortEnts_ren : Go.Shelf.Ren := ⟨fun | 6 => 110 | 15 => 161 | 14 => 160 | 28 => 198 | 29 => 199 | 20 => 190 | 21 => 191 | 22 => 192 | 23 => 193 | 24 => 194 | 25 => 195 | 26 => 196 | 27 => 197 | 46 => 215 | 47 => 216 | 48 => 217 | 49 => 218 | 50 => 219 | 57 => 236 | n => n, fun | 22 => 31 | 24 => 100 | 25 => 149 | 3 => 3 | 39 => 61 | 0 => 0 | 53 => 225 | 55 => 75 | 4 => 4 | 46 => 219 | 45 => 218 | 50 => 106 | 5 => 5 | 9 => 9 | 66 => 237 | 70 => 241 | 76 => 251 | 77 => 252 | n => n, fun | n => n⟩
theorem Tryz.sortEnts : Go.Proofs.SlLaysF0.n6 Tryz.prog Tryz.sortEnts_ren := {
 mixed := by kernel_rfl
 f6 := ⟨Tryz.f110.name, by decide, Tryz.func110.trans (congrArg some (by kernel_rfl))⟩
 f14 := ⟨Tryz.f160.name, by decide, Tryz.func160.trans (congrArg some (by kernel_rfl))⟩
 f15 := Tryz.func161.trans (congrArg some (by kernel_rfl))
 f20 := ⟨Tryz.f190.name, by decide, Tryz.func190.trans (congrArg some (by kernel_rfl))⟩
 f21 := ⟨Tryz.f191.name, by decide, Tryz.func191.trans (congrArg some (by kernel_rfl))⟩
 f22 := ⟨Tryz.f192.name, by decide, Tryz.func192.trans (congrArg some (by kernel_rfl))⟩
 f23 := ⟨Tryz.f193.name, by decide, Tryz.func193.trans (congrArg some (by kernel_rfl))⟩
 f24 := ⟨Tryz.f194.name, by decide, Tryz.func194.trans (congrArg some (by kernel_rfl))⟩
 f25 := ⟨Tryz.f195.name, by decide, Tryz.func195.trans (congrArg some (by kernel_rfl))⟩
 f26 := ⟨Tryz.f196.name, by decide, Tryz.func196.trans (congrArg some (by kernel_rfl))⟩
 f27 := ⟨Tryz.f197.name, by decide, Tryz.func197.trans (congrArg some (by kernel_rfl))⟩
 f28 := Tryz.func198.trans (congrArg some (by kernel_rfl))
 f29 := Tryz.func199.trans (congrArg some (by kernel_rfl))
 f46 := ⟨Tryz.f215.name, by decide, Tryz.func215.trans (congrArg some (by kernel_rfl))⟩
 f47 := Tryz.func216.trans (congrArg some (by kernel_rfl))
 f48 := Tryz.func217.trans (congrArg some (by kernel_rfl))
 f49 := ⟨Tryz.f218.name, by decide, Tryz.func218.trans (congrArg some (by kernel_rfl))⟩
 f50 := ⟨Tryz.f219.name, by decide, Tryz.func219.trans (congrArg some (by kernel_rfl))⟩
 f57 := ⟨Tryz.f236.name, by decide, Tryz.func236.trans (congrArg some (by kernel_rfl))⟩
 t0 := Tryz.underlying0
 a0 := Tryz.isAgg0
 z0 := Tryz.sizeOf0
 v0 := Tryz.zeroValue0
 t3 := Tryz.underlying3
 a3 := Tryz.isAgg3
 z3 := Tryz.sizeOf3
 v3 := Tryz.zeroValue3
 t4 := Tryz.underlying4
 a4 := Tryz.isAgg4
 z4 := Tryz.sizeOf4
 v4 := Tryz.zeroValue4
 t5 := Tryz.underlying5
 a5 := Tryz.isAgg5
 z5 := Tryz.sizeOf5
 v5 := Tryz.zeroValue5
 t9 := Tryz.underlying9
 a9 := Tryz.isAgg9
 z9 := Tryz.sizeOf9
 v9 := Tryz.zeroValue9
 t22 := Tryz.underlying31
 a22 := Tryz.isAgg31
 z22 := Tryz.sizeOf31
 v22 := Tryz.zeroValue31
 t25 := Tryz.underlying149
 a25 := Tryz.isAgg149
 z25 := Tryz.sizeOf149
 v25 := Tryz.zeroValue149
 t39 := Tryz.underlying61
 a39 := Tryz.isAgg61
 z39 := Tryz.sizeOf61
 v39 := Tryz.zeroValue61
 t45 := Tryz.underlying218
 a45 := Tryz.isAgg218
 z45 := Tryz.sizeOf218
 v45 := Tryz.zeroValue218
 t46 := Tryz.underlying219
 a46 := Tryz.isAgg219
 z46 := Tryz.sizeOf219
 v46 := Tryz.zeroValue219
 t50 := Tryz.underlying106
 a50 := Tryz.isAgg106
 z50 := Tryz.sizeOf106
 v50 := Tryz.zeroValue106
 t53 := Tryz.underlying225
 a53 := Tryz.isAgg225
 z53 := Tryz.sizeOf225
 v53 := Tryz.zeroValue225
 t55 := Tryz.underlying75
 a55 := Tryz.isAgg75
 z55 := Tryz.sizeOf75
 v55 := Tryz.zeroValue75
 t66 := Tryz.underlying237
 a66 := Tryz.isAgg237
 z66 := Tryz.sizeOf237
 v66 := Tryz.zeroValue237
 t70 := Tryz.underlying241
 a70 := Tryz.isAgg241
 z70 := Tryz.sizeOf241
 v70 := Tryz.zeroValue241
 t76 := Tryz.underlying251
 a76 := Tryz.isAgg251
 z76 := Tryz.sizeOf251
 v76 := Tryz.zeroValue251
 t77 := Tryz.underlying252
 a77 := Tryz.isAgg252
 z77 := Tryz.sizeOf252
 v77 := Tryz.zeroValue252 }
end Go.Proofs
namespace Go.Proofs.YtakpdbmdfnialaaGreat
open Go.Fw Go.Proofs Go.RowKit Go.Proofs.Tryz
theorem c135 (w0 : World) (v1 : Value) (l : List Dot) (h : Sl Dot.enc 3 w0 w0.heap.size v1 l) (hn : l.length ≤ 4194304) :
   Rets Tryz.prog 135 #[v1] w0 fun v L => ∃ A c, v = .slice A l.length c ∧ L = [rowOf 30 3 Dot.enc A c l] := by
 have h0 := h
 obtain ⟨A, cap, rfl, hl, hcap, hA⟩ := h
 unfold Go.Fw.Rets
 refine enter1 func135 rfl ntmps135 rfl fun a S => sg S (.ac rfl <| .z) fun a w S => wp_seq_k fun _ hK1 => sg S (.mv rfl <| .yy (ys_sNil underlying32 (.t rfl) Ev.c) rfl <| .z) fun a w S => ?_
 refine Wb S (.t rfl) (fun h1 => ?_) (fun h1 => ?_)
 refine sg S (.ac rfl <| .z) fun a w S => wp_ret (Ze (Zj S (results1 S results135 (Rv.tmp rfl)) ?_))
 rotate_left
 refine wp_skip (Za (hK1 _ _ (wp_seq_k fun _ hK1 => wp_region_lit (Zk (op_bslice0 S underlying32 sizeOf30 rfl fun g1 a w S => run S (.mv rfl <| .z) fun a w S => Zk (Xu _ (S.nil_ 30 _ Go.Fw.Dot.enc _) underlying32 underlying32 (.inr ⟨_, rfl⟩) inf30 rfl (k := 0) rfl (.t rfl) (.t rfl) (Src.sl (Sl.old S.wd h0) (by decide) Go.Fw.Dot.enc_len Go.Fw.Dot.enc_one) (by first | omega | (simp only [List.length_append, List.length_cons, List.length_nil]; omega) | (simp; omega)) rfl rfl rfl fun A1 cap1 a w S => ?_))))))
 simp only [List.nil_append] at S
 refine run S (.as rfl <| .z) fun a w S => Zb (Za (hK1 _ _ (wp_ret (Zj S (results1 S results135 (Rv.tmp rfl)) ?_))))
 rotate_left
 · have hnil : l = [] := by
     refine List.eq_nil_of_length_eq_zero (Decidable.byContradiction fun hne => ?_)
     obtain ⟨g, o, rfl, _⟩ := hA (by omega)
     cases h1
   subst hnil
   exact ⟨_, _, rfl, (S.nil_ 30 3 Dot.enc none).wd.sub (by repeat (first | exact List.Sublist.refl _ | exact List.nil_sublist _ | refine .cons_cons _ ?_ | refine .cons _ ?_)), none, 0, rfl, rfl⟩
 · try simp only [List.nil_append] at S ⊢
   exact ⟨_, _, rfl, S.wd.sub (by repeat (first | exact List.Sublist.refl _ | exact List.nil_sublist _ | refine .cons_cons _ ?_ | refine .cons _ ?_)), _, _, rfl, rfl⟩
end Go.Proofs.YtakpdbmdfnialaaGreat
namespace Go.Proofs.YtakpdbmdfnialaaGreat
open Go.Fw Go.Proofs Go.RowKit Go.Proofs.Tryz
theorem c65 (w0 : World) (v1 v2 : Value) (C : Ctx) (h : RdCtx w0 w0.heap.size v1 v2 C) (hn : C.marks.length ≤ 1048576) (hn' : C.cloud.length ≤ 1048576) :
   Rets Tryz.prog 65 #[.agg #[v1, v2]] w0 fun v L => ∃ A1 r1 A2 r2, v = .agg #[.slice A1 C.marks.length r1, .slice A2 C.cloud.length r2] ∧
     L = [rowOf 30 3 Dot.enc A1 r1 C.marks, rowOf 74 3 Dot.enc A2 r2 C.cloud] := by
 obtain ⟨h1, h2⟩ := id h
 obtain ⟨B1, q1, rfl, _⟩ := id h1
 obtain ⟨B2, q2, rfl, _⟩ := id h2
 unfold Go.Fw.Rets
 refine enter1 func65 rfl ntmps65 rfl fun a S => wp_seq_k fun _ hK1 => wp_region_lit (Zk (Ya S (.t rfl) rfl fun g1 a w S => Zk (Zn S zeroValue35 (cs := _) rfl rfl fun g2 a w S => Zb (Za (hK1 _ _ (wp_seq_k fun _ hK1 => h_beginE S (by kernel_rfl) 0 fun a w S => hy 0 S rfl (Zc (FieldT.mk underlying35 rfl sizeOf32 rfl) (.t rfl) (i' := 0) rfl) rfl fun a w S => hy 1 S rfl (Zu ⟨isAgg32, sizeOf32⟩ (.t rfl) (k := 0) rfl rfl) rfl fun a w S => hy 3 S rfl (Zc (FieldT.mk underlying35 rfl sizeOf33 rfl) (.t rfl) (i' := 1) rfl) rfl fun a w S => ?_))))))
 refine hy 4 S rfl (Zu ⟨isAgg33, sizeOf33⟩ (.t rfl) (k := 0) rfl rfl) rfl fun a w S => ?_
 (refine h_m (i := 2) rfl (by kernel_rfl) (Zz S call135 (.cons (.t rfl) .nil) (c135 _ _ _ (by exact .old S.wd (by assumption)) (by omega)) rfl ?_); clear S a w; rintro _ _ ⟨A1, c1, rfl, rfl⟩ a w S; refine Yi S ?_)
 (refine h_m (i := 5) rfl (by kernel_rfl) (Zz S call136 (.cons (.t rfl) .nil) (c136 _ _ _ (by exact .old S.wd (by assumption)) (by omega)) rfl ?_); clear S a w; rintro _ _ ⟨A2, c2, rfl, rfl⟩ a w S; refine Yi S ?_)
 refine hy 6 S rfl (Xj (ps := [(0, Go.Operand.tmp 5), (1, Go.Operand.tmp 8)]) (us := [_, _]) bld35 (.cons (.t rfl) (.cons (.t rfl) .nil)) rfl) rfl fun a w S => ?_
 (refine Xq (i := 7) rfl (by kernel_rfl) (Zv S sizeOf35 (.t rfl) (.t rfl) (k := 2) rfl rfl rfl (by simp [Value.oneCell']) ?_); clear S a w; intro a w S; refine Yi S ?_)
 refine Yz (by kernel_rfl) (Za (hK1 _ _ (wp_ret (Zj S (results1 S results65 (Rv.cell (k := 2) ⟨isAgg35, sizeOf35⟩ rfl rfl rfl)) ?_))))
 (replace S := S.pull 1 rfl; try simp only [List.set_cons_zero, List.set_cons_succ, List.eraseIdx_cons_succ, List.eraseIdx_cons_zero] at S)
 exact ⟨_, _, rfl, S.wd.sub (by repeat (first | exact List.Sublist.refl _ | exact List.nil_sublist _ | refine .cons_cons _ ?_ | refine .cons _ ?_)), _, _, _, _, rfl, rfl⟩
end Go.Proofs.YtakpdbmdfnialaaGreat
namespace Go.Fw
theorem cart_same {X Y : Cart} : (decide (X.ents = Y.ents) && decide (X.ctx = Y.ctx)) = decide (X = Y) := by
 cases X; cases Y; simp
end Go.Fw
namespace Go.Proofs.YtakpdbmdfnialaaGreat
open Go.Fw Go.Proofs Go.RowKit Go.Proofs.Tryz
theorem c16 (w0 : World) (v1 v2 v3 : Value) (X : Cart) (h : Sl Ent.enc 6 w0 w0.heap.size v1 X.ents) (hr : RdCtx w0 w0.heap.size v2 v3 X.ctx) (hl1 : X.ents.length ≤ 1048576) (hl2 : X.ctx.marks.length ≤ 1048576) (hl3 : X.ctx.cloud.length ≤ 1048576) :
   Rets Tryz.prog 16 #[.agg #[v1, v2, v3]] w0 fun v L => ∃ A1 r1 A2 r2 A3 r3, v = .agg #[.slice A1 X.ents.length r1, .slice A2 X.ctx.marks.length r2, .slice A3 X.ctx.cloud.length r3] ∧
     L = [rowOf 100 6 Ent.enc A1 r1 X.ents, rowOf 30 3 Dot.enc A2 r2 X.ctx.marks, rowOf 74 3 Dot.enc A3 r3 X.ctx.cloud] := by
 have hs := h
 have hrr := hr
 obtain ⟨A, cap, rfl, hl, hcap, hA⟩ := h
 obtain ⟨⟨A2, cap2, rfl, _⟩, ⟨A3, cap3, rfl, _⟩⟩ := hr
 unfold Go.Fw.Rets
 refine enter1 func16 rfl ntmps16 rfl fun a S => wp_seq_k fun _ hK1 => wp_region_lit (Zk (Ya S (.t rfl) rfl fun g1 a w S => Zk (Zn S zeroValue37 (cs := _) rfl rfl fun g2 a w S => Zb (Za (hK1 _ _ (wp_seq_k fun _ hK1 => h_beginE S (by kernel_rfl) 0 fun a w S => hy 0 S rfl (Zc (FieldT.mk underlying37 rfl sizeOf31 rfl) (.t rfl) (i' := 0) rfl) rfl fun a w S => hy 1 S rfl (Zu ⟨isAgg31, sizeOf31⟩ (.t rfl) (k := 0) rfl rfl) rfl fun a w S => hy 3 S rfl (Zc (FieldT.mk underlying37 rfl sizeOf35 rfl) (.t rfl) (i' := 1) rfl) rfl fun a w S => ?_))))))
 refine hy 4 S rfl (Ye ⟨isAgg35, sizeOf35⟩ (.t rfl) (k := 0) rfl rfl) rfl fun a w S => ?_
 (refine h_m (i := 2) rfl (by kernel_rfl) (Zz S call64 (.cons (.t rfl) .nil) (c64 _ _ _ (by exact .old S.wd (by assumption)) (by omega)) rfl ?_); clear S a w; rintro _ _ ⟨A1, c1, rfl, rfl⟩ a w S; refine Yi S ?_)
 (refine h_m (i := 5) rfl (by kernel_rfl) (Zz S call65 (.cons (.t rfl) .nil) (c65 _ _ _ _ (by exact .old S.wd (by assumption)) (by assumption) (by assumption)) rfl ?_); clear S a w; rintro _ _ ⟨A11, r11, A21, r21, rfl, rfl⟩ a w S; refine Yi S ?_)
 refine hy 6 S rfl (Xj (ps := [(0, Go.Operand.tmp 5), (1, Go.Operand.tmp 8)]) (us := [_, _, _]) bld37 (.cons (.t rfl) (.cons (.t rfl) .nil)) rfl) rfl fun a w S => ?_
 (refine Xq (i := 7) rfl (by kernel_rfl) (Zv S sizeOf37 (.t rfl) (.t rfl) (k := 3) rfl rfl rfl (by simp [Value.oneCell']) ?_); clear S a w; intro a w S; refine Yi S ?_)
 refine Yz (by kernel_rfl) (Za (hK1 _ _ (wp_ret (Zj S (results1 S results16 (Rv.cell (k := 3) ⟨isAgg37, sizeOf37⟩ rfl rfl rfl)) ?_))))
 exact ⟨_, _, rfl, S.wd.pk, _, _, _, _, _, _, rfl, rfl⟩
theorem c19 (w0 : World) (v1 v2 v3 v4 v5 v6 : Value) (X Y : Cart) (h : Sl Ent.enc 6 w0 w0.heap.size v1 X.ents) (hr : RdCtx w0 w0.heap.size v2 v3 X.ctx) (h' : Sl Ent.enc 6 w0 w0.heap.size v4 Y.ents) (hr' : RdCtx w0 w0.heap.size v5 v6 Y.ctx) :
   Calls Tryz.prog 19 #[.agg #[v1, v2, v3], .agg #[v4, v5, v6]] w0 fun e w' => e = .returned (.bool (decide (X = Y))) ∧ Bel w0.heap.size w0 w' := by
 have hs := h
 have hrr := hr
 have hs' := h'
 have hrr' := hr'
 obtain ⟨A, cap, rfl, hl, hcap, hA⟩ := h
 obtain ⟨⟨A2, cap2, rfl, _⟩, ⟨A3, cap3, rfl, _⟩⟩ := hr
 obtain ⟨B, capB, rfl, hlB, hcapB, hB⟩ := h'
 obtain ⟨⟨B2, capB2, rfl, _⟩, ⟨B3, capB3, rfl, _⟩⟩ := hr'
 refine enter2 func19 rfl ntmps19 rfl fun a S => wp_seq_k fun _ hK1 => wp_region_lit (Zk (Ya S (.t rfl) rfl fun g1 a w S => Zk (Ya S (.t rfl) rfl fun g2 a w S => run S (.ac rfl <| .z) fun a w S => Zb (Za (hK1 _ _ (wp_seq_k fun _ hK1 => wp_region_lit (run S (.fa underlying37 sizeOf31 0 rfl rfl rfl <| .ld gt31 1 rfl rfl rfl <| .fa underlying37 sizeOf31 0 rfl rfl rfl <| .ld gt31 0 rfl rfl rfl <| .xx (Zh call71 (.cons (.t rfl) (.cons (.t rfl) .nil)) (fun hp w W => c71 _ _ _ _ _ (by exact .old W (by assumption)) (by exact .old W (by assumption)))) rfl <| .mv rfl <| .z) fun a w S => Yg S rfl rfl (Yr.ys (Zc (FieldT.mk underlying37 rfl sizeOf35 rfl) (.t rfl) (i' := 1) rfl)) rfl fun a w S => Yg S rfl rfl (Yr.ys (Ye ⟨isAgg35, sizeOf35⟩ (Ev.g rfl) (k := 1) rfl rfl)) rfl fun a w S => Yg S rfl rfl (Yr.ys (Zc (FieldT.mk underlying37 rfl sizeOf35 rfl) (.t rfl) (i' := 1) rfl)) rfl fun a w S => Yg S rfl rfl (Yr.ys (Ye ⟨isAgg35, sizeOf35⟩ (Ev.g rfl) (k := 0) rfl rfl)) rfl fun a w S => Yg S rfl rfl (Zh call72 (.cons (Ev.g rfl) (.cons (Ev.g rfl) .nil)) (fun hp w W => c72 _ _ _ _ _ _ _ (by exact .old W (by assumption)) (by exact .old W (by assumption)))) rfl fun a w S => run S (.yy (Xn (.t rfl) (Ev.g rfl) Ev.c) rfl <| .as rfl <| .z) fun a w S => Zb (Za (hK1 _ _ (wp_ret ?_))))))))))
 refine Zj S (results1 S results19 (Rv.tmp rfl)) ?_
 exact ⟨by rw [cart_same], S.wd.below⟩
end Go.Proofs.YtakpdbmdfnialaaGreat
namespace Go.Fw
open Go.RowKit
theorem CartRd.old {w0 w : World} {L : List Chunk} {X : Cart} {s : Sls3} (W : Wd w0 L w) (h : CartRd w0 X s) : CartRd w X s := ⟨.old W h.1, .old W h.2, .old W h.3⟩
def CartsRd (w : World) (l : List SCart) : Prop := ∀ x ∈ l, CartRd w x.1 x.2
theorem CartsRd.old {w0 w : World} {L : List Chunk} {l : List SCart} (W : Wd w0 L w) (h : CartsRd w0 l) : CartsRd w l := fun x hx => (h x hx).old W
theorem CartRd.wd {w0 w : World} {X : Cart} {s : Sls3} (h : CartRd w0 X s) (W : Wd w0 [] w) : CartRd w X s := h.old W
theorem freeze_cart {w0 w w1 : World} {L : List Chunk} {bs : List Nat} {e1 e2 e3 : TypeId} {A1 A2 A3 : Option Addr} {c1 c2 c3 : Nat} {X : Cart}
   (W : Wd w0 (rowOf e1 6 Ent.enc A1 c1 X.ents :: rowOf e2 3 Dot.enc A2 c2 X.ctx.marks :: rowOf e3 3 Dot.enc A3 c3 X.ctx.cloud :: .ice w1 bs :: L) w) :
   ∃ bs', Wd w0 (.ice w bs' :: L) w ∧ CartIn w bs' X ⟨A1, X.ents.length, c1, A2, X.ctx.marks.length, c2, A3, X.ctx.cloud.length, c3⟩ ∧ ∀ Y t, CartIn w1 bs Y t → CartIn w bs' Y t := by
 have W1 := Wd.freeze (cs := [rowOf e1 6 Ent.enc A1 c1 X.ents, rowOf e2 3 Dot.enc A2 c2 X.ctx.marks, rowOf e3 3 Dot.enc A3 c3 X.ctx.cloud, .ice w1 bs]) W
 generalize hcs0 : [rowOf e1 6 Ent.enc A1 c1 X.ents, rowOf e2 3 Dot.enc A2 c2 X.ctx.marks, rowOf e3 3 Dot.enc A3 c3 X.ctx.cloud, .ice w1 bs] = cs0 at W1
 have hblk : ∀ (k : Nat) (c : Chunk), cs0[k]? = some c → ∀ b ∈ c.blocks, b ∈ cs0.flatMap Chunk.blocks := fun k c hk b hb => List.mem_flatMap.2 ⟨c, List.mem_of_getElem? hk, hb⟩
 refine ⟨_, W1, ⟨SlIn.row W (k := 0) rfl (fun _ => rfl) (hblk 0 _ (by rw [← hcs0]; rfl)), SlIn.row W (k := 1) rfl (fun _ => rfl) (hblk 1 _ (by rw [← hcs0]; rfl)), SlIn.row W (k := 2) rfl (fun _ => rfl) (hblk 2 _ (by rw [← hcs0]; rfl))⟩, fun Y t h => h.anew W (k := 3) rfl (hblk 3 (.ice w1 bs) (by rw [← hcs0]; rfl))⟩
def SmallC (l : List SCart) : Prop := ∀ x ∈ l, x.1.ents.length ≤ 1048576 ∧ x.1.ctx.marks.length ≤ 1048576 ∧ x.1.ctx.cloud.length ≤ 1048576
theorem map_take_snoc {s l : List SCart} {i : Nat} {x : SCart} {t : Sls3} (h : s.map (·.1) = (l.map (·.1)).take i) (hx : l[i]? = some x) : (s ++ [(x.1, t)]).map (·.1) = (l.map (·.1)).take (i + 1) := by
 rw [List.map_append, h, List.take_add_one, List.getElem?_map, hx]
 rfl
end Go.Fw
namespace Go.Proofs.YtakpdbmdfnialaaGreat
open Go.Fw Go.Proofs Go.RowKit Go.Proofs.Tryz
theorem c36 (w0 : World) (v v' : Value) (l l' : List SCart) (h : Sl SCart.enc 3 w0 w0.heap.size v l) (h' : Sl SCart.enc 3 w0 w0.heap.size v' l') (hc : CartsRd w0 l) (hc' : CartsRd w0 l') :
   Calls Tryz.prog 36 #[v, v', .func (.func 19) #[] #[]] w0 fun e w' => e = .returned (.bool (decide (l.map (·.1) = l'.map (·.1)))) ∧ Bel w0.heap.size w0 w' := by
 obtain ⟨A, cap, rfl, hl, hcap, hA⟩ := h
 obtain ⟨A', cap', rfl, hl', hcap', hA'⟩ := h'
 refine enter3 func36 rfl ntmps36 rfl fun a S => sg S (.ac rfl <| .z) fun a w S => wp_seq_k fun _ hK1 => sg S (.mv rfl <| .ln underlying64 rfl <| .mv rfl <| .ln underlying64 rfl <| .yy (Yt (.t rfl) (.t rfl)) rfl <| .z) fun a w S => ?_
 refine Xv S (.t rfl) (fun h1 => ?_) (fun h1 => ?_)
 refine sg S (.ac rfl <| .z) fun a w S => wp_ret (Ze (Zj S (results1 S results36 (Rv.tmp rfl)) ?_))
 rotate_left
 refine wp_skip (Za (hK1 _ _ (wp_seq_k fun _ hK1 => sg S (.mv rfl <| .ln underlying64 rfl <| .mc rfl <| .z) fun a w S => wp_block ?_)))
 rotate_left
 · refine ⟨?_, S.wd.below⟩
   rw [decide_eq_false (fun e => h1 (by have := congrArg List.length e; simp only [List.length_map] at this; rw [this]))]
 · have hll : l.length = l'.length := by omega
   refine Xe S [6, 17] (X := Nat) (fun k => [(6, true, .bool false), (17, true, .int .i64 (k : Int))]) (fun _ => []) (fun k => k ≤ l.length ∧ (l.take k).map (·.1) = (l'.take k).map (·.1)) (fun k => l.length - k) 0 ⟨Nat.zero_le _, rfl⟩ ?_
   clear S
   rintro k a w ⟨hk, hno⟩ S
   by_cases hlt : k < l.length
   · obtain ⟨g, o, x, rfl, hx, hd, hcx⟩ := Yk hA hlt
     obtain ⟨g', o', x', rfl, hx', hd', hcx'⟩ := Yk hA' (show k < l'.length by omega)
     have r1 := (hc x (List.mem_of_getElem? hx)).ents
     have r2 := (hc x (List.mem_of_getElem? hx)).ctx
     have r3 := (hc' x' (List.mem_of_getElem? hx')).ents
     have r4 := (hc' x' (List.mem_of_getElem? hx')).ctx
     have e1 : (l.map (·.1))[k]? = some x.1 := by rw [List.getElem?_map, hx]; rfl
     have e2 : (l'.map (·.1))[k]? = some x'.1 := by rw [List.getElem?_map, hx']; rfl
     rw [List.map_take, List.map_take] at hno
     by_cases he : x.1 = x'.1
     · have rw_e := decide_eq_true he
       refine sg S (.lt (by omega) rfl rfl <| .z) fun a w S => wp_seq_k fun _ hK2 => Zg S (.t rfl) (wp_skip (Za (hK2 _ _ (wp_seq_k fun _ hK2 => wp_block (wp_seq_k fun _ hK3 => wp_region_lit (run S (.mv rfl <| .ix underlying64 sizeOf37 (by omega) rfl rfl <| .yy (Zp ⟨isAgg37, sizeOf37⟩ (.t rfl) (vs := [_, _, _]) rfl (fun _ => hcx)) rfl <| .z) fun a w S => Zk (Zn S zeroValue37 (cs := _) rfl rfl fun g1 a w S => run S (.as rfl <| .z) fun a w S => Zk (Zv S sizeOf37 (.t rfl) (.t rfl) (k := 0) rfl rfl rfl (by simp [Value.oneCell']) fun a w S => Zb (Za (hK3 _ _ (wp_seq_k fun _ hK3 => wp_region_lit (run S (.mv rfl <| .mv rfl <| .ix underlying64 sizeOf37 (by omega) rfl rfl <| .yy (Zp ⟨isAgg37, sizeOf37⟩ (.t rfl) (vs := [_, _, _]) rfl (fun _ => hcx')) rfl <| .z) fun a w S => Zk (Zn S zeroValue37 (cs := _) rfl rfl fun g2 a w S => Zk (Zv S sizeOf37 (.t rfl) (.t rfl) (k := 0) rfl rfl rfl (by simp [Value.oneCell']) fun a w S => Zb (Za (hK3 _ _ (wp_seq_k fun _ hK3 => wp_region_lit ?_)))))))))))))))))
       refine run S (.mv rfl <| .la gt37 1 rfl rfl rfl <| .la gt37 0 rfl rfl rfl <| .xx (ys_callV (.t rfl) call19 (.cons (.t rfl) (.cons (.t rfl) .nil)) (fun hp w W => c19 _ _ _ _ _ _ _ _ _ (by exact .old W (by assumption)) (by exact .old W (by assumption)) (by exact .old W (by assumption)) (by exact .old W (by assumption)))) rfl <| .z) fun a w S => ?_
       rw [rw_e] at S
       refine run S (.nt rfl <| .z) fun a w S => Zb (Za (hK3 _ _ (Zf S (.t rfl) (wp_skip (Zm (Za (hK2 _ _ (wp_region_lit (run S (.ad (by unfold I64; omega) rfl <| .mv rfl <| .z) fun a w S => Zb (Za ?_))))))))))
       exact ⟨k + 1, ⟨by omega, by rw [List.map_take, List.map_take]; exact at_step hno e1 e2 he⟩, by omega, S.pk⟩
     · have rw_e := decide_eq_false he
       refine sg S (.lt (by omega) rfl rfl <| .z) fun a w S => wp_seq_k fun _ hK2 => Zg S (.t rfl) (wp_skip (Za (hK2 _ _ (wp_seq_k fun _ hK2 => wp_block (wp_seq_k fun _ hK3 => wp_region_lit (run S (.mv rfl <| .ix underlying64 sizeOf37 (by omega) rfl rfl <| .yy (Zp ⟨isAgg37, sizeOf37⟩ (.t rfl) (vs := [_, _, _]) rfl (fun _ => hcx)) rfl <| .z) fun a w S => Zk (Zn S zeroValue37 (cs := _) rfl rfl fun g1 a w S => run S (.as rfl <| .z) fun a w S => Zk (Zv S sizeOf37 (.t rfl) (.t rfl) (k := 0) rfl rfl rfl (by simp [Value.oneCell']) fun a w S => Zb (Za (hK3 _ _ (wp_seq_k fun _ hK3 => wp_region_lit (run S (.mv rfl <| .mv rfl <| .ix underlying64 sizeOf37 (by omega) rfl rfl <| .yy (Zp ⟨isAgg37, sizeOf37⟩ (.t rfl) (vs := [_, _, _]) rfl (fun _ => hcx')) rfl <| .z) fun a w S => Zk (Zn S zeroValue37 (cs := _) rfl rfl fun g2 a w S => Zk (Zv S sizeOf37 (.t rfl) (.t rfl) (k := 0) rfl rfl rfl (by simp [Value.oneCell']) fun a w S => Zb (Za (hK3 _ _ (wp_seq_k fun _ hK3 => wp_region_lit ?_)))))))))))))))))
       refine run S (.mv rfl <| .la gt37 1 rfl rfl rfl <| .la gt37 0 rfl rfl rfl <| .xx (ys_callV (.t rfl) call19 (.cons (.t rfl) (.cons (.t rfl) .nil)) (fun hp w W => c19 _ _ _ _ _ _ _ _ _ (by exact .old W (by assumption)) (by exact .old W (by assumption)) (by exact .old W (by assumption)) (by exact .old W (by assumption)))) rfl <| .z) fun a w S => ?_
       rw [rw_e] at S
       refine run S (.nt rfl <| .z) fun a w S => Zb (Za (hK3 _ _ (Zg S (.t rfl) (sg S (.ac rfl <| .z) fun a w S => wp_ret (Zr (Ze (Ze (Zr (Ze (Zj S (results1 S results36 (Rv.tmp rfl)) ?_))))))))))
       exact ⟨by rw [at_ne e1 e2 he], S.wd.below⟩
   · obtain rfl : k = l.length := by omega
     rw [List.take_length, List.take_of_length_le (by omega)] at hno
     refine sg S (.ge (by omega) rfl rfl <| .z) fun a w S => wp_seq_k fun _ hK2 => Zf S (.t rfl) (wp_exit (Zi (Zi (Zy (Za (hK1 _ _ (sg S (.ac rfl <| .z) fun a w S => wp_ret (Zj S (results1 S results36 (Rv.tmp rfl)) ?_))))))))
     exact ⟨by rw [decide_eq_true hno], S.wd.below⟩
end Go.Proofs.YtakpdbmdfnialaaGreat
namespace Go.Proofs.YtakpdbmdfnialaaGreat
open Go.Fw Go.Proofs Go.RowKit Go.ChangeShapes Go.WideShapes Go.ChangeAt Go.Deep Go.Joins Go.Proofs.Tryz
section
variable {H : Type} {enc : TypeId × Value → H} {w : World}
def ScRd (w : World) (s : SCart) (b : Nat) : Prop := CartRd w s.1 s.2 ∧ s.1.ents.length ≤ b ∧ s.1.ctx.marks.length ≤ b ∧ s.1.ctx.cloud.length ≤ b
theorem rdSC : Rdr enc Tryz.prog w 37 fun cs b => ∃ s : SCart, cs = SCart.enc s ∧ ScRd w s b := rdCart.mono fun cs b ⟨v1, v2, v3, X, e, hX⟩ => by
 obtain ⟨h1, ⟨h2, h3⟩, l1, l2, l3, _⟩ := hX
 have k1 := h1
 have k2 := h2
 have k3 := h3
 obtain ⟨A1, c1, rfl, _⟩ := h1
 obtain ⟨A2, c2, rfl, _⟩ := h2
 obtain ⟨A3, c3, rfl, _⟩ := h3
 exact ⟨(X, ⟨A1, _, c1, A2, _, c2, A3, _, c3⟩), e, ⟨k1, k2, k3⟩, by dsimp only; omega, by dsimp only; omega, by dsimp only; omega⟩
theorem read_carts {v : Value} {d : DataW H} {p : List MemPlace} (hv : ∃ A len cap, v = .slice A len cap) (h : DataW.Trod enc Tryz.prog w 0 (fun _ => true) true 64 v d p) :
   ∃ l, Sl SCart.enc 3 w w.heap.size v l ∧ l.length + 1 ≤ Rows.uptoBulk d ∧ CartsRd w l ∧ ∀ x ∈ l, x.1.ents.length ≤ Rows.uptoBulk d ∧ x.1.ctx.marks.length ≤ Rows.uptoBulk d ∧ x.1.ctx.cloud.length ≤ Rows.uptoBulk d := by
 obtain ⟨v', l, hc, hs, hl, hf⟩ := Rdr.top (Rdr.slice (k := 3) underlying64 (by kernel_rfl) rfl SCart.enc_len rdSC) h
 obtain ⟨A, n, c, rfl⟩ := hv
 simp only [Value.cells, List.cons.injEq, and_true] at hc
 subst hc
 refine ⟨l, hs, hl, fun x hx => ?_, fun x hx => ?_⟩
 · obtain ⟨b', h1, h2, _⟩ := hf x hx
   exact h2
 · obtain ⟨b', h1, h2, h3, h4, h5⟩ := hf x hx
   omega
end
end Go.Proofs.YtakpdbmdfnialaaGreat
namespace Go.Fw
open Go.RowKit
def oneU (U : List Upd) : Prop := (U.map (·.dot)).Nodup
structure Play where
 st : List Cart
 up : List Upd
 ct : List Int
def Play.start : Play := ⟨[], [], List.replicate 8 0⟩
end Go.Fw
namespace Go.Fw
open Go.RowKit
def seenB (U : List Upd) (u : Upd) : Bool := U.any fun v => decide (v.item = u.item) && v.seen.ctx.covers u.dot
end Go.Fw
namespace Go.Fw
open Go.RowKit
def firstE : List Upd → Int
 | [] => 0
 | u :: r => if mayE u = 0 then firstE r else mayE u
def keptU (U V : List Upd) : List Ent := (V.filter fun u => decide (0 < u.qty) && !seenB U u).map Upd.ent
def marksU (U : List Upd) : List Dot := U.flatMap fun u => u.seen.ctx.marks
def dotsU (U : List Upd) : List Dot := U.flatMap fun u => u.seen.ctx.cloud ++ [u.dot]
def sortI (l : List Ent) : List Ent := l.foldl (fun a e => insE e a) []
def okU (U : List Upd) : Prop := oneU U ∧ ∀ u ∈ U, ∀ v ∈ U, u.key = v.key
instance (U : List Upd) : Decidable (okU U) := inferInstanceAs (Decidable ((U.map (·.dot)).Nodup ∧ ∀ u ∈ U, ∀ v ∈ U, u.key = v.key))
def knownU (U : List Upd) : Ctx × Int := normalL (marksU U) (dotsU U)
def meantC (U : List Upd) : Cart := ⟨sortI (keptU U U), (knownU U).1⟩
def meantK (U : List Upd) : Cart × Int :=
 if okU U then
   if firstE U = 0 then
     if (knownU U).2 = 0 then
       if canE (meantC U) = 0 then (meantC U, 0) else (Cart.zero, canE (meantC U))
     else (Cart.zero, (knownU U).2)
   else (Cart.zero, firstE U)
 else (Cart.zero, 260)
theorem firstE_ok : ∀ {U : List Upd}, firstE U = 0 ↔ ∀ u ∈ U, mayE u = 0
 | [] => by simp [firstE]
 | u :: r => by
   unfold firstE
   by_cases h : mayE u = 0
   · rw [if_pos h, firstE_ok]
     simp [h]
   · rw [if_neg h]
     simp [h]
theorem sortI_all : ∀ (l a : List Ent) (x : Ent), x ∈ l.foldl (fun a e => insE e a) a ↔ x ∈ a ∨ x ∈ l
 | [], a, x => by simp
 | e :: r, a, x => by
   rw [List.foldl_cons, sortI_all r, insE_mem, List.mem_cons]
   constructor
   · rintro ((h | h) | h)
     · exact .inr (.inl h)
     · exact .inl h
     · exact .inr (.inr h)
   · rintro (h | h | h)
     · exact .inl (.inr h)
     · exact .inl (.inl h)
     · exact .inr h
theorem sortI_mem {l : List Ent} {x : Ent} : x ∈ sortI l ↔ x ∈ l := by
 rw [sortI, sortI_all]; simp
theorem sortI_pw : ∀ (l a : List Ent), a.Pairwise ltE → (l.map (·.dot)).Nodup → (∀ x ∈ a, ∀ e ∈ l, x.dot ≠ e.dot) → (l.foldl (fun a e => insE e a) a).Pairwise ltE
 | [], a, h, _, _ => h
 | e :: r, a, h, hn, hd => by
   rw [List.map_cons, List.nodup_cons] at hn
   refine sortI_pw r _ (insE_sorted h fun x hx => hd x hx e (by simp)) hn.2 fun x hx f hf => ?_
   rcases insE_mem.1 hx with rfl | hx
   · exact fun e' => hn.1 (e' ▸ List.mem_map.2 ⟨f, hf, rfl⟩)
   · exact hd x hx f (by simp [hf])
theorem sortI_sorted {l : List Ent} (h : (l.map (·.dot)).Nodup) : (sortI l).Pairwise ltE := sortI_pw l [] List.Pairwise.nil h (fun x hx => by cases hx)
theorem sortI_len (l : List Ent) : (sortI l).length = l.length := by
 have : ∀ (l a : List Ent), (l.foldl (fun a e => insE e a) a).length = a.length + l.length := by
   intro l
   induction l with
   | nil => intro a; simp
   | cons e r ih => intro a; rw [List.foldl_cons, ih, insE_len, List.length_cons]; omega
 rw [sortI, this]; simp
theorem kept_mem {U V : List Upd} {x : Ent} : x ∈ keptU U V ↔ ∃ u ∈ V, 0 < u.qty ∧ seenB U u = false ∧ u.ent = x := by
 unfold keptU
 rw [List.mem_map]
 constructor
 · rintro ⟨u, hu, rfl⟩
   rw [List.mem_filter, Bool.and_eq_true, decide_eq_true_eq, Bool.not_eq_true'] at hu
   exact ⟨u, hu.1, hu.2.1, hu.2.2, rfl⟩
 · rintro ⟨u, hu, h1, h2, rfl⟩
   exact ⟨u, by rw [List.mem_filter, Bool.and_eq_true, decide_eq_true_eq, Bool.not_eq_true']; exact ⟨hu, h1, h2⟩, rfl⟩
theorem kept_dots {U V : List Upd} (h : oneU V) : ((keptU U V).map (·.dot)).Nodup := by
 unfold keptU
 rw [List.map_map]
 exact List.Nodup.sublist (List.Sublist.map _ List.filter_sublist) h
end Go.Fw
namespace Go.Fw
open Go.RowKit
def metD (m : List (Dot × Unit)) (l : List Dot) : List (Dot × Unit) := l.foldl (fun m d => aput m d ()) m
theorem metD_take {m : List (Dot × Unit)} {l : List Dot} {i : Nat} {d : Dot} (h : l[i]? = some d) : metD m (l.take (i + 1)) = aput (metD m (l.take i)) d () := by
 unfold metD
 rw [List.take_add_one, h, Option.toList_some, List.foldl_append]
 rfl
theorem aput_len (m : List (Dot × Unit)) (d : Dot) : (aput m d ()).length = if d ∈ m.map (·.1) then m.length else m.length + 1 := by
 have h := congrArg List.length (aput_keys m d ())
 rw [List.length_map] at h
 rw [h]
 split
 · rw [List.length_map]
 · rw [List.length_append, List.length_map]; rfl
theorem metD_len : ∀ (l : List Dot) (m : List (Dot × Unit)), (metD m l).length ≤ m.length + l.length ∧ ((metD m l).length = m.length + l.length ↔ l.Nodup ∧ ∀ d ∈ l, d ∉ m.map (·.1))
 | [], m => by simp [metD]
 | x :: r, m => by
   show (metD (aput m x ()) r).length ≤ _ ∧ ((metD (aput m x ()) r).length = _ ↔ _)
   obtain ⟨h1, h2⟩ := metD_len r (aput m x ())
   rw [aput_len] at h1 h2
   rw [List.length_cons]
   by_cases h : x ∈ m.map (·.1)
   · rw [if_pos h] at h1 h2
     refine ⟨by omega, ⟨fun e => by omega, fun ⟨_, e⟩ => absurd h (e x (by simp))⟩⟩
   · rw [if_neg h] at h1 h2
     refine ⟨by omega, ?_⟩
     rw [show m.length + (r.length + 1) = m.length + 1 + r.length by omega, h2, aput_keys, if_neg h, List.nodup_cons]
     constructor
     · rintro ⟨k1, k2⟩
       refine ⟨⟨fun hx => ?_, k1⟩, fun d hd => ?_⟩
       · exact k2 x hx (by simp)
       · rcases List.mem_cons.1 hd with rfl | hd
         · exact h
         · intro e; exact k2 d hd (by rw [List.mem_append]; exact .inl e)
     · rintro ⟨⟨k1, k2⟩, k3⟩
       refine ⟨k2, fun d hd e => ?_⟩
       rw [List.mem_append, List.mem_singleton] at e
       rcases e with e | rfl
       · exact k3 d (by simp [hd]) e
       · exact k1 hd
theorem met_fewer (U : List Upd) : decide (((metD [] (U.map (·.dot))).length : Int) < (U.length : Int)) = !decide ((U.map (·.dot)).Nodup) := by
 obtain ⟨h1, h2⟩ := metD_len (U.map (·.dot)) []
 rw [List.length_nil, List.length_map, Nat.zero_add] at h1 h2
 have h3 : (metD [] (U.map (·.dot))).length = U.length ↔ oneU U := by rw [h2]; exact ⟨fun h => h.1, fun h => ⟨h, fun d _ e => by simp at e⟩⟩
 by_cases h : oneU U
 · rw [decide_eq_true (show (U.map (·.dot)).Nodup from h), decide_eq_false (by have := h3.2 h; omega)]; rfl
 · have : (metD [] (U.map (·.dot))).length ≠ U.length := fun e => h (h3.1 e)
   rw [decide_eq_false (show ¬ (U.map (·.dot)).Nodup from h), decide_eq_true (by omega)]; rfl
end Go.Fw
namespace Go.Fw
open Go.RowKit
theorem marks_take {U : List Upd} {i : Nat} {u : Upd} (h : U[i]? = some u) : marksU (U.take (i + 1)) = marksU (U.take i) ++ u.seen.ctx.marks := by
 unfold marksU
 rw [List.take_add_one, h, Option.toList_some, List.flatMap_append, List.flatMap_cons, List.flatMap_nil, List.append_nil]
theorem dots_take {U : List Upd} {i : Nat} {u : Upd} (h : U[i]? = some u) : dotsU (U.take (i + 1)) = (dotsU (U.take i) ++ u.seen.ctx.cloud) ++ [u.dot] := by
 unfold dotsU
 rw [List.take_add_one, h, Option.toList_some, List.flatMap_append, List.flatMap_cons, List.flatMap_nil, List.append_nil, List.append_assoc]
theorem kept_take {U V : List Upd} {i : Nat} {u : Upd} (h : V[i]? = some u) : keptU U (V.take (i + 1)) = keptU U (V.take i) ++ if (decide (0 < u.qty) && !seenB U u) = true then [u.ent] else [] := by
 unfold keptU
 rw [List.take_add_one, h, Option.toList_some, List.filter_append, List.map_append]
 congr 1
 have e : List.filter (fun u => decide (0 < u.qty) && !seenB U u) [u] = if (decide (0 < u.qty) && !seenB U u) = true then [u] else [] := by
   rw [List.filter_cons, List.filter_nil]
 rw [e]
 split <;> rfl
theorem kept_len (U V : List Upd) : (keptU U V).length ≤ V.length := by
 unfold keptU
 rw [List.length_map]
 exact List.length_filter_le _ _
theorem firstE_at {U : List Upd} {i : Nat} {u : Upd} (h : U[i]? = some u) : firstE (U.drop i) = if mayE u = 0 then firstE (U.drop (i + 1)) else mayE u := by
 obtain ⟨h1, h2⟩ := List.getElem?_eq_some_iff.1 h
 rw [List.drop_eq_getElem_cons h1, h2, firstE]
def RoomU (U : List Upd) : Prop := (∀ u ∈ U, mayE u = 0) → (marksU U).length ≤ 1900000 ∧ (dotsU U).length ≤ 1900000
theorem marks_le (U : List Upd) (i : Nat) : (marksU (U.take i)).length ≤ (marksU U).length := by
 have h : marksU U = marksU (U.take i) ++ marksU (U.drop i) := by unfold marksU; rw [← List.flatMap_append, List.take_append_drop]
 rw [h, List.length_append]; omega
theorem dots_le (U : List Upd) (i : Nat) : (dotsU (U.take i)).length ≤ (dotsU U).length := by
 have h : dotsU U = dotsU (U.take i) ++ dotsU (U.drop i) := by unfold dotsU; rw [← List.flatMap_append, List.take_append_drop]
 rw [h, List.length_append]; omega
theorem flat_le {α β : Type} (f : α → List β) (k : Nat) : ∀ (l : List α), (∀ x ∈ l, (f x).length ≤ k) → (l.flatMap f).length ≤ l.length * k
 | [], _ => by simp
 | x :: r, h => by
   rw [List.flatMap_cons, List.length_append, List.length_cons, Nat.add_mul]
   have h1 := h x (by simp)
   have h2 := flat_le f k r fun y hy => h y (by simp [hy])
   omega
theorem room_few {U : List Upd} (h : U.length ≤ 20000) : RoomU U := fun hm => by
 have h1 := flat_le (fun u : Upd => u.seen.ctx.marks) 64 U fun u hu => (can_len (mayE_ok (hm u hu)).seen.ctx).1
 have h2 := flat_le (fun u : Upd => u.seen.ctx.cloud ++ [u.dot]) 65 U fun u hu => by
   have := (can_len (mayE_ok (hm u hu)).seen.ctx).2
   rw [List.length_append, List.length_singleton]; omega
 unfold marksU dotsU
 omega
theorem meant_keys {U : List Upd} (h : ¬ ∀ u ∈ U, ∀ v ∈ U, u.key = v.key) : meantK U = (Cart.zero, 260) := if_neg fun e => h e.2
theorem meant_dots {U : List Upd} (h : ¬ oneU U) : meantK U = (Cart.zero, 260) := if_neg fun e => h e.1
theorem meant_first {U : List Upd} (h : okU U) (h2 : firstE U ≠ 0) : meantK U = (Cart.zero, firstE U) := by
 unfold meantK
 rw [if_pos h, if_neg h2]
theorem meant_known {U : List Upd} (h : okU U) (h2 : firstE U = 0) (h3 : (knownU U).2 ≠ 0) : meantK U = (Cart.zero, (knownU U).2) := by
 unfold meantK
 rw [if_pos h, if_pos h2, if_neg h3]
theorem meant_can {U : List Upd} (h : okU U) (h2 : firstE U = 0) (h3 : (knownU U).2 = 0) (h4 : canE (meantC U) ≠ 0) : meantK U = (Cart.zero, canE (meantC U)) := by
 unfold meantK
 rw [if_pos h, if_pos h2, if_pos h3, if_neg h4]
theorem meant_ok {U : List Upd} (h : okU U) (h2 : firstE U = 0) (h3 : (knownU U).2 = 0) (h4 : canE (meantC U) = 0) : meantK U = (meantC U, 0) := by
 unfold meantK
 rw [if_pos h, if_pos h2, if_pos h3, if_pos h4]
theorem kept_may {U V : List Upd} (h : ∀ u ∈ V, mayE u = 0) : ∀ x ∈ keptU U V, mayD x.dot = true := fun x hx => by
 obtain ⟨u, hu, _, _, rfl⟩ := kept_mem.1 hx
 exact (mayE_ok (h u hu)).dot
end Go.Fw
namespace Go.Fw
open Go.RowKit
structure Gon where
 key : List UInt8
 dt : Dot
deriving DecidableEq
abbrev Gon.enc (x : Gon) : List Value := [.string (bs x.key), .int .i64 x.dt.node, .int .i64 x.dt.life, .int .i64 x.dt.count]
theorem Gon.enc_len (x : Gon) : (Gon.enc x).length = 4 := rfl
theorem Gon.enc_one (x : Gon) : ∀ u ∈ Gon.enc x, u.oneCell' = true := fun u hu => by simp [Gon.enc] at hu; rcases hu with rfl | rfl | rfl | rfl <;> rfl
theorem Gon.mkEnc {s : List UInt8} {x y z : Int} : [Value.string (bs s), .int .i64 x, .int .i64 y, .int .i64 z] = Gon.enc ⟨s, ⟨x, y, z⟩⟩ := rfl
def ltG (a b : Gon) : Prop := Op.bytesLess a.key b.key = true ∨ (a.key = b.key ∧ ltM a.dt b.dt)
def sameG (a b : Gon) : Prop := a.key = b.key ∧ a.dt.node = b.dt.node ∧ a.dt.life = b.dt.life
instance (a b : Gon) : Decidable (ltG a b) := by unfold ltG ltM; infer_instance
instance (a b : Gon) : Decidable (sameG a b) := by unfold sameG; infer_instance
end Go.Fw
namespace Go.Fw
def cmpI (x y : Int) : Int := if x < y then -1 else if y < x then 1 else 0
def orI (x y : Int) : Int := if x ≠ 0 then x else y
end Go.Fw
namespace Go.Proofs.YtakpdbmdfnialaaGreat
open Go.Fw Go.Proofs Go.RowKit Go.Proofs.Tryz
end Go.Proofs.YtakpdbmdfnialaaGreat
namespace Go.Fw
def ordA (a b : Ent) : Int := orI (cmpB a.item b.item) (orI (cmpI a.dot.node b.dot.node) (orI (cmpI a.dot.life b.dot.life) (cmpI a.dot.count b.dot.count)))
theorem ordA_iff (a b : Ent) : ordA a b < 0 ↔ ltE a b := by
 unfold ordA ltE ltC orI cmpB cmpI
 by_cases h1 : Op.bytesLess a.item b.item = true
 · simp [h1]
 · by_cases h2 : a.item = b.item
   · have h3 : Op.bytesLess b.item b.item = false := Wa _
     simp only [h2, h3, if_true, Bool.false_eq_true, if_false, false_or, true_and, ne_eq, not_true]
     repeat' split
     all_goals omega
   · simp [h1, h2]
end Go.Fw
namespace Go.Proofs.YtakpdbmdfnialaaGreat
open Go.Fw Go.Proofs Go.RowKit Go.Proofs.Tryz
end Go.Proofs.YtakpdbmdfnialaaGreat
namespace Go.Ft
open Go.RowKit
structure Play where
 st : List Cart
 up : List Upd
 ct : List Int
def Play.start : Play := ⟨[], [], List.replicate 8 0⟩
end Go.Ft
namespace Go.Ft
open Go.RowKit
structure Gon where
 key : List UInt8
 dt : Dot
deriving DecidableEq
abbrev Gon.enc (x : Gon) : List Value := [.string (bs x.key), .int .i64 x.dt.node, .int .i64 x.dt.life, .int .i64 x.dt.count]
def ltG (a b : Gon) : Prop := Op.bytesLess a.key b.key = true ∨ (a.key = b.key ∧ ltM a.dt b.dt)
def sameG (a b : Gon) : Prop := a.key = b.key ∧ a.dt.node = b.dt.node ∧ a.dt.life = b.dt.life
instance (a b : Gon) : Decidable (ltG a b) := by unfold ltG ltM; infer_instance
instance (a b : Gon) : Decidable (sameG a b) := by unfold sameG; infer_instance
end Go.Ft
namespace Go.Ft
def cmpI (x y : Int) : Int := if x < y then -1 else if y < x then 1 else 0
def orI (x y : Int) : Int := if x ≠ 0 then x else y
end Go.Ft
namespace Go.Proofs.YtakpdbmdfnialaaGreat.Tk
open Go.Ft Go.Proofs Go.RowKit
theorem c177 (w0 : World) (x : Int) : Calls Tryz.prog 177 #[.int .i64 x] w0 fun e w' => e = .returned (.bool false) ∧ Bel w0.heap.size w0 w' := by
 refine enter1 Tryz.func177 rfl Tryz.ntmps177 rfl fun a S => ?_
 refine wp_seq_k fun _ hK1 => ?_
 refine wp_region_lit ?_
 (refine Yh S (Yr.ys (Yb Ev.c)) rfl ?_; clear S a; intro a w S)
 refine Zb ?_
 (refine (Za (hK1 _ _ ?_)); clear hK1)
 refine wp_seq_k fun _ hK1 => ?_
 refine wp_region_lit ?_
 (refine Yh S (Yr.ys (Zd (Ev.t rfl))) rfl ?_; clear S a w; intro a w S)
 (refine Yh S (Yr.ys (Zd (Ev.t rfl))) rfl ?_; clear S a w; intro a w S)
 (refine Yh S (Yr.ys (Ym (by omega) (Yt (Ev.t rfl) (Ev.t rfl)))) rfl ?_; clear S a w; intro a w S)
 (refine Yh S (Yr.ys (Yb (Ev.t rfl))) rfl ?_; clear S a w; intro a w S)
 refine Zb ?_
 (refine (Za (hK1 _ _ ?_)); clear hK1)
 refine wp_ret ?_
 refine Zj S (results1 S Tryz.results177 (Rv.tmp rfl)) ?_
 exact ⟨by simp, S.wd.below⟩
theorem c132 (w0 : World) (x y : Int) :
   Calls Tryz.prog 132 #[.int .i64 x, .int .i64 y] w0 fun e w' => e = .returned (.int .i64 (cmpI x y)) ∧ Bel w0.heap.size w0 w' := by
 refine enter2 Tryz.func132 rfl Tryz.ntmps132 rfl fun a S => ?_
 refine wp_seq_k fun _ hK1 => ?_
 refine wp_region_lit ?_
 (refine Yh S (Yr.ys (Yb Ev.c)) rfl ?_; clear S a; intro a w S)
 refine Zb ?_
 (refine (Za (hK1 _ _ ?_)); clear hK1)
 refine wp_seq_k fun _ hK1 => ?_
 refine wp_region_lit ?_
 (refine Yh S (Yr.ys (Zd (Ev.t rfl))) rfl ?_; clear S a w; intro a w S)
 (refine Yh S (Zh Tryz.call177 (EvL.cons (Ev.t rfl) EvL.nil) (fun hp w W => c177 _ _)) rfl ?_; clear S a w; intro a w S)
 (refine Yh S (Yr.ys (Yb (Ev.t rfl))) rfl ?_; clear S a w; intro a w S)
 refine Zb ?_
 (refine (Za (hK1 _ _ ?_)); clear hK1)
 refine wp_seq_k fun _ hK1 => ?_
 refine wp_region_lit ?_
 (refine Yh S (Yr.ys (Zd (Ev.t rfl))) rfl ?_; clear S a w; intro a w S)
 (refine Yh S (Zh Tryz.call177 (EvL.cons (Ev.t rfl) EvL.nil) (fun hp w W => c177 _ _)) rfl ?_; clear S a w; intro a w S)
 (refine Yh S (Yr.ys (Yb (Ev.t rfl))) rfl ?_; clear S a w; intro a w S)
 refine Zb ?_
 (refine (Za (hK1 _ _ ?_)); clear hK1)
 refine wp_seq_k fun _ hK1 => ?_
 refine wp_seq_k fun _ hK2 => ?_
 refine wp_region_lit ?_
 (refine Yh S (Yr.ys (Zd (Ev.t rfl))) rfl ?_; clear S a w; intro a w S)
 refine Zb ?_
 (refine (Za (hK2 _ _ ?_)); clear hK2)
 refine Zf S (Ev.t rfl) ?_
 refine wp_skip ?_
 (refine (Za (hK1 _ _ ?_)); clear hK1)
 refine wp_seq_k fun _ hK1 => ?_
 refine wp_seq_k fun _ hK2 => ?_
 refine wp_region_lit ?_
 (refine Yh S (Yr.ys (Zd (Ev.t rfl))) rfl ?_; clear S a w; intro a w S)
 refine Zb ?_
 (refine (Za (hK2 _ _ ?_)); clear hK2)
 refine Zf S (Ev.t rfl) ?_
 refine wp_skip ?_
 (refine (Za (hK1 _ _ ?_)); clear hK1)
 refine wp_seq_k fun _ hK1 => ?_
 refine wp_seq_k fun _ hK2 => ?_
 refine wp_region_lit ?_
 (refine Yh S (Yr.ys (Zd (Ev.t rfl))) rfl ?_; clear S a w; intro a w S)
 (refine Yh S (Yr.ys (Zd (Ev.t rfl))) rfl ?_; clear S a w; intro a w S)
 (refine Yh S (Yr.ys (Yq (Ev.t rfl) (Ev.t rfl))) rfl ?_; clear S a w; intro a w S)
 refine Zb ?_
 (refine (Za (hK2 _ _ ?_)); clear hK2)
 refine Xv S (Ev.t rfl) (fun h1 => ?_) (fun h1 => ?_)
 refine wp_seq_k fun _ hK2 => ?_
 refine wp_region_lit ?_
 (refine Yh S (Yr.ys (Yb Ev.c)) rfl ?_; clear S a w; intro a w S)
 refine Zb ?_
 (refine (Za (hK2 _ _ ?_)); clear hK2)
 refine wp_ret ?_
 refine (Ze ?_)
 refine Zj S (results1 S Tryz.results132 (Rv.tmp rfl)) ?_
 rotate_left
 refine wp_skip ?_
 (refine (Za (hK1 _ _ ?_)); clear hK1)
 refine wp_seq_k fun _ hK1 => ?_
 refine wp_seq_k fun _ hK2 => ?_
 refine wp_region_lit ?_
 (refine Yh S (Yr.ys (Zd (Ev.t rfl))) rfl ?_; clear S a w; intro a w S)
 (refine Yh S (Yr.ys (Zd (Ev.t rfl))) rfl ?_; clear S a w; intro a w S)
 (refine Yh S (Yr.ys (Yj (Ev.t rfl) (Ev.t rfl))) rfl ?_; clear S a w; intro a w S)
 refine Zb ?_
 (refine (Za (hK2 _ _ ?_)); clear hK2)
 refine Xv S (Ev.t rfl) (fun h2 => ?_) (fun h2 => ?_)
 refine wp_seq_k fun _ hK2 => ?_
 refine wp_region_lit ?_
 (refine Yh S (Yr.ys (Yb Ev.c)) rfl ?_; clear S a w; intro a w S)
 refine Zb ?_
 (refine (Za (hK2 _ _ ?_)); clear hK2)
 refine wp_ret ?_
 refine (Ze ?_)
 refine Zj S (results1 S Tryz.results132 (Rv.tmp rfl)) ?_
 rotate_left
 refine wp_skip ?_
 (refine (Za (hK1 _ _ ?_)); clear hK1)
 refine wp_seq_k fun _ hK1 => ?_
 refine wp_region_lit ?_
 (refine Yh S (Yr.ys (Yb Ev.c)) rfl ?_; clear S a w; intro a w S)
 refine Zb ?_
 (refine (Za (hK1 _ _ ?_)); clear hK1)
 refine wp_ret ?_
 refine Zj S (results1 S Tryz.results132 (Rv.tmp rfl)) ?_
 rotate_left
 · exact ⟨by rw [cmpI, if_pos h1], S.wd.below⟩
 · exact ⟨by rw [cmpI, if_neg h1, if_pos h2], S.wd.below⟩
 · exact ⟨by rw [cmpI, if_neg h1, if_neg h2], S.wd.below⟩
end Go.Proofs.YtakpdbmdfnialaaGreat.Tk
namespace Go.Ft
theorem less_neither {a b : List UInt8} (h : Op.bytesLess a b = false) (h' : Op.bytesLess b a = false) : a = b := by
 refine Decidable.byContradiction fun hne => ?_
 rcases Wp hne with h1 | h1
 · rw [h] at h1; cases h1
 · rw [h'] at h1; cases h1
end Go.Ft
namespace Go.Proofs.YtakpdbmdfnialaaGreat.Tk
open Go.Ft Go.Proofs Go.RowKit
theorem c176 (w0 : World) (l : List UInt8) : Calls Tryz.prog 176 #[.string (bs l)] w0 fun e w' => e = .returned (.bool false) ∧ Bel w0.heap.size w0 w' := by
 refine enter1 Tryz.func176 rfl Tryz.ntmps176 rfl fun a S => ?_
 refine wp_seq_k fun _ hK1 => ?_
 refine wp_region_lit ?_
 (refine Yh S (Yr.ys (Yb Ev.c)) rfl ?_; clear S a; intro a w S)
 refine Zb ?_
 (refine (Za (hK1 _ _ ?_)); clear hK1)
 refine wp_seq_k fun _ hK1 => ?_
 refine wp_region_lit ?_
 (refine Yh S (Yr.ys (Zd (Ev.t rfl))) rfl ?_; clear S a w; intro a w S)
 (refine Yh S (Yr.ys (Zd (Ev.t rfl))) rfl ?_; clear S a w; intro a w S)
 (refine Yh S (Yr.ys (Xt (Ev.t rfl) (Ev.t rfl))) rfl ?_; clear S a w; intro a w S)
 (refine Yh S (Yr.ys (Yb (Ev.t rfl))) rfl ?_; clear S a w; intro a w S)
 refine Zb ?_
 (refine (Za (hK1 _ _ ?_)); clear hK1)
 refine wp_ret ?_
 refine Zj S (results1 S Tryz.results176 (Rv.tmp rfl)) ?_
 exact ⟨by simp, S.wd.below⟩
theorem c131 (w0 : World) (l m : List UInt8) : Calls Tryz.prog 131 #[.string (bs l), .string (bs m)] w0 fun e w' => e = .returned (.int .i64 (cmpB l m)) ∧ Bel w0.heap.size w0 w' := by
 refine enter2 Tryz.func131 rfl Tryz.ntmps131 rfl fun a S => ?_
 refine wp_seq_k fun _ hK1 => ?_
 refine wp_region_lit ?_
 (refine Yh S (Yr.ys (Yb Ev.c)) rfl ?_; clear S a; intro a w S)
 refine Zb ?_
 (refine (Za (hK1 _ _ ?_)); clear hK1)
 refine wp_seq_k fun _ hK1 => ?_
 refine wp_region_lit ?_
 (refine Yh S (Yr.ys (Zd (Ev.t rfl))) rfl ?_; clear S a w; intro a w S)
 (refine Yh S (Zh Tryz.call176 (EvL.cons (Ev.t rfl) EvL.nil) (fun hp w W => c176 _ _)) rfl ?_; clear S a w; intro a w S)
 (refine Yh S (Yr.ys (Yb (Ev.t rfl))) rfl ?_; clear S a w; intro a w S)
 refine Zb ?_
 (refine (Za (hK1 _ _ ?_)); clear hK1)
 refine wp_seq_k fun _ hK1 => ?_
 refine wp_region_lit ?_
 (refine Yh S (Yr.ys (Zd (Ev.t rfl))) rfl ?_; clear S a w; intro a w S)
 (refine Yh S (Zh Tryz.call176 (EvL.cons (Ev.t rfl) EvL.nil) (fun hp w W => c176 _ _)) rfl ?_; clear S a w; intro a w S)
 (refine Yh S (Yr.ys (Yb (Ev.t rfl))) rfl ?_; clear S a w; intro a w S)
 refine Zb ?_
 (refine (Za (hK1 _ _ ?_)); clear hK1)
 refine wp_seq_k fun _ hK1 => ?_
 refine wp_seq_k fun _ hK2 => ?_
 refine wp_region_lit ?_
 (refine Yh S (Yr.ys (Zd (Ev.t rfl))) rfl ?_; clear S a w; intro a w S)
 refine Zb ?_
 (refine (Za (hK2 _ _ ?_)); clear hK2)
 refine Zf S (Ev.t rfl) ?_
 refine wp_skip ?_
 (refine (Za (hK1 _ _ ?_)); clear hK1)
 refine wp_seq_k fun _ hK1 => ?_
 refine wp_seq_k fun _ hK2 => ?_
 refine wp_region_lit ?_
 (refine Yh S (Yr.ys (Zd (Ev.t rfl))) rfl ?_; clear S a w; intro a w S)
 refine Zb ?_
 (refine (Za (hK2 _ _ ?_)); clear hK2)
 refine Zf S (Ev.t rfl) ?_
 refine wp_skip ?_
 (refine (Za (hK1 _ _ ?_)); clear hK1)
 refine wp_seq_k fun _ hK1 => ?_
 refine wp_seq_k fun _ hK2 => ?_
 refine wp_region_lit ?_
 (refine Yh S (Yr.ys (Zd (Ev.t rfl))) rfl ?_; clear S a w; intro a w S)
 (refine Yh S (Yr.ys (Zd (Ev.t rfl))) rfl ?_; clear S a w; intro a w S)
 (refine Yh S (Yr.ys (ys_lssStr (Ev.t rfl) (Ev.t rfl))) rfl ?_; clear S a w; intro a w S)
 refine Zb ?_
 (refine (Za (hK2 _ _ ?_)); clear hK2)
 refine Wb S (Ev.t rfl) (fun h1 => ?_) (fun h1 => ?_)
 refine wp_seq_k fun _ hK2 => ?_
 refine wp_region_lit ?_
 (refine Yh S (Yr.ys (Yb Ev.c)) rfl ?_; clear S a w; intro a w S)
 refine Zb ?_
 (refine (Za (hK2 _ _ ?_)); clear hK2)
 refine wp_ret ?_
 refine (Ze ?_)
 refine Zj S (results1 S Tryz.results131 (Rv.tmp rfl)) ?_
 rotate_left
 refine wp_skip ?_
 (refine (Za (hK1 _ _ ?_)); clear hK1)
 refine wp_seq_k fun _ hK1 => ?_
 refine wp_seq_k fun _ hK2 => ?_
 refine wp_region_lit ?_
 (refine Yh S (Yr.ys (Zd (Ev.t rfl))) rfl ?_; clear S a w; intro a w S)
 (refine Yh S (Yr.ys (Zd (Ev.t rfl))) rfl ?_; clear S a w; intro a w S)
 (refine Yh S (Yr.ys (ys_gtrStr (Ev.t rfl) (Ev.t rfl))) rfl ?_; clear S a w; intro a w S)
 refine Zb ?_
 (refine (Za (hK2 _ _ ?_)); clear hK2)
 refine Wb S (Ev.t rfl) (fun h2 => ?_) (fun h2 => ?_)
 refine wp_seq_k fun _ hK2 => ?_
 refine wp_region_lit ?_
 (refine Yh S (Yr.ys (Yb Ev.c)) rfl ?_; clear S a w; intro a w S)
 refine Zb ?_
 (refine (Za (hK2 _ _ ?_)); clear hK2)
 refine wp_ret ?_
 refine (Ze ?_)
 refine Zj S (results1 S Tryz.results131 (Rv.tmp rfl)) ?_
 rotate_left
 refine wp_skip ?_
 (refine (Za (hK1 _ _ ?_)); clear hK1)
 refine wp_seq_k fun _ hK1 => ?_
 refine wp_region_lit ?_
 (refine Yh S (Yr.ys (Yb Ev.c)) rfl ?_; clear S a w; intro a w S)
 refine Zb ?_
 (refine (Za (hK1 _ _ ?_)); clear hK1)
 refine wp_ret ?_
 refine Zj S (results1 S Tryz.results131 (Rv.tmp rfl)) ?_
 rotate_left
 · exact ⟨by rw [cmpB, if_pos h1], S.wd.below⟩
 · exact ⟨by rw [cmpB, if_neg (by rw [h1]; simp), if_neg (less_ne h2).symm], S.wd.below⟩
 · exact ⟨by rw [cmpB, if_neg (by rw [h1]; simp), if_pos (less_neither h1 h2)], S.wd.below⟩
end Go.Proofs.YtakpdbmdfnialaaGreat.Tk
namespace Go.Ft
def ordA (a b : Ent) : Int := orI (cmpB a.item b.item) (orI (cmpI a.dot.node b.dot.node) (orI (cmpI a.dot.life b.dot.life) (cmpI a.dot.count b.dot.count)))
end Go.Ft
namespace Go.Proofs.YtakpdbmdfnialaaGreat.Tk
open Go.Ft Go.Proofs Go.RowKit
theorem e130 (w0 : World) (g : Nat) (x y z u : Int) (h0 : w0.cell? ⟨g, 0, none⟩ = some (.int .i64 x)) (h1 : w0.cell? ⟨g, 1, none⟩ = some (.int .i64 y)) (h2 : w0.cell? ⟨g, 2, none⟩ = some (.int .i64 z)) (hu : w0.cell? ⟨g, 3, none⟩ = some (.int .i64 u)) :
   Calls Tryz.prog 130 #[.slice (some ⟨g, 0, none⟩) 4 4] w0 fun e w' => e = .returned (.int .i64 (orI x (orI y (orI z u)))) ∧ Bel w0.heap.size w0 w' := by
 have rw_1 : (0 : Int) + 1 = ((1 : Nat) : Int) := rfl
 have rw_2 : ((1 : Nat) : Int) + 1 = ((2 : Nat) : Int) := rfl
 have rw_3 : ((2 : Nat) : Int) + 1 = ((3 : Nat) : Int) := rfl
 have rw_4 : ((3 : Nat) : Int) + 1 = ((4 : Nat) : Int) := rfl
 refine enter1 Tryz.func130 rfl Tryz.ntmps130 rfl fun a S => ?_
 refine wp_seq_k fun _ hK1 => ?_
 refine wp_region_lit ?_
 (refine Yh S (Yr.ys (Yb Ev.c)) rfl ?_; clear S a; intro a w S)
 refine Zb ?_
 (refine (Za (hK1 _ _ ?_)); clear hK1)
 refine wp_seq_k fun _ hK1 => ?_
 refine wp_region_lit ?_
 (refine Yh S (Yr.ys (Yb Ev.c)) rfl ?_; clear S a w; intro a w S)
 refine Zb ?_
 (refine (Za (hK1 _ _ ?_)); clear hK1)
 refine wp_seq_k fun _ hK1 => ?_
 refine wp_seq_k fun _ hK2 => ?_
 refine wp_region_lit ?_
 (refine Yh S (Yr.ys (Zd (Ev.t rfl))) rfl ?_; clear S a w; intro a w S)
 (refine Yh S (Yr.ys (Xy Tryz.underlying202 (Ev.t rfl))) rfl ?_; clear S a w; intro a w S)
 (refine Yh S (Yr.ys (Zd Ev.c)) rfl ?_; clear S a w; intro a w S)
 refine Zb ?_
 (refine (Za (hK2 _ _ ?_)); clear hK2)
 refine wp_block ?_
 refine Wk 5 (Yy ?_)
 refine wp_seq_k fun _ hK2 => ?_
 refine wp_region_lit ?_
 (refine Yh S (Yr.ys (Yu (by omega) (Yq (Ev.t rfl) (Ev.t rfl)))) rfl ?_; clear S a w; intro a w S)
 refine Zb ?_
 (refine (Za (hK2 _ _ ?_)); clear hK2)
 refine wp_seq_k fun _ hK2 => ?_
 refine Zg S (Ev.t rfl) ?_
 refine wp_skip ?_
 (refine (Za (hK2 _ _ ?_)); clear hK2)
 refine wp_seq_k fun _ hK2 => ?_
 refine wp_block ?_
 refine wp_seq_k fun _ hK3 => ?_
 refine wp_region_lit ?_
 (refine Yh S (Yr.ys (Yf (j := 0) Tryz.underlying202 Tryz.sizeOf3 (Ev.t rfl) (Ev.t rfl) (fun _ => by omega))) rfl ?_; clear S a w; intro a w S)
 (refine Yh S (Yr.ys (Yn ⟨Tryz.isAgg3, Tryz.sizeOf3⟩ (Ev.t rfl) (fun _ => h0))) rfl ?_; clear S a w; intro a w S)
 (refine Yh S (Yr.ys (Yb (Ev.t rfl))) rfl ?_; clear S a w; intro a w S)
 refine Zb ?_
 (refine (Za (hK3 _ _ ?_)); clear hK3)
 refine wp_seq_k fun _ hK3 => ?_
 refine wp_region_lit ?_
 (refine Yh S (Yr.ys (Zd (Ev.t rfl))) rfl ?_; clear S a w; intro a w S)
 (refine Yh S (Yr.ys (Zd (Ev.t rfl))) rfl ?_; clear S a w; intro a w S)
 (refine Yh S (Yr.ys (Yt (Ev.t rfl) (Ev.t rfl))) rfl ?_; clear S a w; intro a w S)
 refine Zb ?_
 (refine (Za (hK3 _ _ ?_)); clear hK3)
 refine Xv S (Ev.t rfl) (fun h3 => ?_) (fun h3 => ?_)
 refine wp_seq_k fun _ hK3 => ?_
 refine wp_region_lit ?_
 (refine Yh S (Yr.ys (Zd (Ev.t rfl))) rfl ?_; clear S a w; intro a w S)
 (refine Yh S (Yr.ys (Yb (Ev.t rfl))) rfl ?_; clear S a w; intro a w S)
 refine Zb ?_
 (refine (Za (hK3 _ _ ?_)); clear hK3)
 refine wp_ret ?_
 refine (Zr (Ze (Ze (Zr (Ze ?_)))))
 refine Zj S (results1 S Tryz.results130 (Rv.tmp rfl)) ?_
 rotate_left
 refine wp_skip ?_
 (refine (Zm (Za (hK2 _ _ ?_))); clear hK2)
 refine wp_region_lit ?_
 (refine Yh S (Yr.ys (Xm (Ev.t rfl) Ev.c (fun _ => by unfold I64; omega))) rfl ?_; clear S a w; intro a w S)
 rw [rw_1] at S
 (refine Yh S (Yr.ys (Zd (Ev.t rfl))) rfl ?_; clear S a w; intro a w S)
 refine Zb ?_
 refine (Za ?_)
 rotate_left
 · exact ⟨by rw [orI, if_pos h3], S.wd.below⟩
 refine Yy ?_
 refine wp_seq_k fun _ hK2 => ?_
 refine wp_region_lit ?_
 (refine Yh S (Yr.ys (Yu (by omega) (Yq (Ev.t rfl) (Ev.t rfl)))) rfl ?_; clear S a w; intro a w S)
 refine Zb ?_
 (refine (Za (hK2 _ _ ?_)); clear hK2)
 refine wp_seq_k fun _ hK2 => ?_
 refine Zg S (Ev.t rfl) ?_
 refine wp_skip ?_
 (refine (Za (hK2 _ _ ?_)); clear hK2)
 refine wp_seq_k fun _ hK2 => ?_
 refine wp_block ?_
 refine wp_seq_k fun _ hK3 => ?_
 refine wp_region_lit ?_
 (refine Yh S (Yr.ys (Yf (j := 1) Tryz.underlying202 Tryz.sizeOf3 (Ev.t rfl) (Ev.t rfl) (fun _ => by omega))) rfl ?_; clear S a w; intro a w S)
 (refine Yh S (Yr.ys (Yn ⟨Tryz.isAgg3, Tryz.sizeOf3⟩ (Ev.t rfl) (fun _ => h1))) rfl ?_; clear S a w; intro a w S)
 (refine Yh S (Yr.ys (Yb (Ev.t rfl))) rfl ?_; clear S a w; intro a w S)
 refine Zb ?_
 (refine (Za (hK3 _ _ ?_)); clear hK3)
 refine wp_seq_k fun _ hK3 => ?_
 refine wp_region_lit ?_
 (refine Yh S (Yr.ys (Zd (Ev.t rfl))) rfl ?_; clear S a w; intro a w S)
 (refine Yh S (Yr.ys (Zd (Ev.t rfl))) rfl ?_; clear S a w; intro a w S)
 (refine Yh S (Yr.ys (Yt (Ev.t rfl) (Ev.t rfl))) rfl ?_; clear S a w; intro a w S)
 refine Zb ?_
 (refine (Za (hK3 _ _ ?_)); clear hK3)
 refine Xv S (Ev.t rfl) (fun h4 => ?_) (fun h4 => ?_)
 refine wp_seq_k fun _ hK3 => ?_
 refine wp_region_lit ?_
 (refine Yh S (Yr.ys (Zd (Ev.t rfl))) rfl ?_; clear S a w; intro a w S)
 (refine Yh S (Yr.ys (Yb (Ev.t rfl))) rfl ?_; clear S a w; intro a w S)
 refine Zb ?_
 (refine (Za (hK3 _ _ ?_)); clear hK3)
 refine wp_ret ?_
 refine (Zr (Ze (Ze (Zr (Ze ?_)))))
 refine Zj S (results1 S Tryz.results130 (Rv.tmp rfl)) ?_
 rotate_left
 refine wp_skip ?_
 (refine (Zm (Za (hK2 _ _ ?_))); clear hK2)
 refine wp_region_lit ?_
 (refine Yh S (Yr.ys (Xm (Ev.t rfl) Ev.c (fun _ => by unfold I64; omega))) rfl ?_; clear S a w; intro a w S)
 rw [rw_2] at S
 (refine Yh S (Yr.ys (Zd (Ev.t rfl))) rfl ?_; clear S a w; intro a w S)
 refine Zb ?_
 refine (Za ?_)
 rotate_left
 · exact ⟨by rw [orI, if_neg h3, orI, if_pos h4], S.wd.below⟩
 refine Yy ?_
 refine wp_seq_k fun _ hK2 => ?_
 refine wp_region_lit ?_
 (refine Yh S (Yr.ys (Yu (by omega) (Yq (Ev.t rfl) (Ev.t rfl)))) rfl ?_; clear S a w; intro a w S)
 refine Zb ?_
 (refine (Za (hK2 _ _ ?_)); clear hK2)
 refine wp_seq_k fun _ hK2 => ?_
 refine Zg S (Ev.t rfl) ?_
 refine wp_skip ?_
 (refine (Za (hK2 _ _ ?_)); clear hK2)
 refine wp_seq_k fun _ hK2 => ?_
 refine wp_block ?_
 refine wp_seq_k fun _ hK3 => ?_
 refine wp_region_lit ?_
 (refine Yh S (Yr.ys (Yf (j := 2) Tryz.underlying202 Tryz.sizeOf3 (Ev.t rfl) (Ev.t rfl) (fun _ => by omega))) rfl ?_; clear S a w; intro a w S)
 (refine Yh S (Yr.ys (Yn ⟨Tryz.isAgg3, Tryz.sizeOf3⟩ (Ev.t rfl) (fun _ => h2))) rfl ?_; clear S a w; intro a w S)
 (refine Yh S (Yr.ys (Yb (Ev.t rfl))) rfl ?_; clear S a w; intro a w S)
 refine Zb ?_
 (refine (Za (hK3 _ _ ?_)); clear hK3)
 refine wp_seq_k fun _ hK3 => ?_
 refine wp_region_lit ?_
 (refine Yh S (Yr.ys (Zd (Ev.t rfl))) rfl ?_; clear S a w; intro a w S)
 (refine Yh S (Yr.ys (Zd (Ev.t rfl))) rfl ?_; clear S a w; intro a w S)
 (refine Yh S (Yr.ys (Yt (Ev.t rfl) (Ev.t rfl))) rfl ?_; clear S a w; intro a w S)
 refine Zb ?_
 (refine (Za (hK3 _ _ ?_)); clear hK3)
 refine Xv S (Ev.t rfl) (fun h5 => ?_) (fun h5 => ?_)
 refine wp_seq_k fun _ hK3 => ?_
 refine wp_region_lit ?_
 (refine Yh S (Yr.ys (Zd (Ev.t rfl))) rfl ?_; clear S a w; intro a w S)
 (refine Yh S (Yr.ys (Yb (Ev.t rfl))) rfl ?_; clear S a w; intro a w S)
 refine Zb ?_
 (refine (Za (hK3 _ _ ?_)); clear hK3)
 refine wp_ret ?_
 refine (Zr (Ze (Ze (Zr (Ze ?_)))))
 refine Zj S (results1 S Tryz.results130 (Rv.tmp rfl)) ?_
 rotate_left
 refine wp_skip ?_
 (refine (Zm (Za (hK2 _ _ ?_))); clear hK2)
 refine wp_region_lit ?_
 (refine Yh S (Yr.ys (Xm (Ev.t rfl) Ev.c (fun _ => by unfold I64; omega))) rfl ?_; clear S a w; intro a w S)
 rw [rw_3] at S
 (refine Yh S (Yr.ys (Zd (Ev.t rfl))) rfl ?_; clear S a w; intro a w S)
 refine Zb ?_
 refine (Za ?_)
 rotate_left
 · exact ⟨by rw [orI, if_neg h3, orI, if_neg h4, orI, if_pos h5], S.wd.below⟩
 refine Yy ?_
 refine wp_seq_k fun _ hK2 => ?_
 refine wp_region_lit ?_
 (refine Yh S (Yr.ys (Yu (by omega) (Yq (Ev.t rfl) (Ev.t rfl)))) rfl ?_; clear S a w; intro a w S)
 refine Zb ?_
 (refine (Za (hK2 _ _ ?_)); clear hK2)
 refine wp_seq_k fun _ hK2 => ?_
 refine Zg S (Ev.t rfl) ?_
 refine wp_skip ?_
 (refine (Za (hK2 _ _ ?_)); clear hK2)
 refine wp_seq_k fun _ hK2 => ?_
 refine wp_block ?_
 refine wp_seq_k fun _ hK3 => ?_
 refine wp_region_lit ?_
 (refine Yh S (Yr.ys (Yf (j := 3) Tryz.underlying202 Tryz.sizeOf3 (Ev.t rfl) (Ev.t rfl) (fun _ => by omega))) rfl ?_; clear S a w; intro a w S)
 (refine Yh S (Yr.ys (Yn ⟨Tryz.isAgg3, Tryz.sizeOf3⟩ (Ev.t rfl) (fun _ => hu))) rfl ?_; clear S a w; intro a w S)
 (refine Yh S (Yr.ys (Yb (Ev.t rfl))) rfl ?_; clear S a w; intro a w S)
 refine Zb ?_
 (refine (Za (hK3 _ _ ?_)); clear hK3)
 refine wp_seq_k fun _ hK3 => ?_
 refine wp_region_lit ?_
 (refine Yh S (Yr.ys (Zd (Ev.t rfl))) rfl ?_; clear S a w; intro a w S)
 (refine Yh S (Yr.ys (Zd (Ev.t rfl))) rfl ?_; clear S a w; intro a w S)
 (refine Yh S (Yr.ys (Yt (Ev.t rfl) (Ev.t rfl))) rfl ?_; clear S a w; intro a w S)
 refine Zb ?_
 (refine (Za (hK3 _ _ ?_)); clear hK3)
 refine Xv S (Ev.t rfl) (fun h6 => ?_) (fun h6 => ?_)
 refine wp_seq_k fun _ hK3 => ?_
 refine wp_region_lit ?_
 (refine Yh S (Yr.ys (Zd (Ev.t rfl))) rfl ?_; clear S a w; intro a w S)
 (refine Yh S (Yr.ys (Yb (Ev.t rfl))) rfl ?_; clear S a w; intro a w S)
 refine Zb ?_
 (refine (Za (hK3 _ _ ?_)); clear hK3)
 refine wp_ret ?_
 refine (Zr (Ze (Ze (Zr (Ze ?_)))))
 refine Zj S (results1 S Tryz.results130 (Rv.tmp rfl)) ?_
 rotate_left
 refine wp_skip ?_
 (refine (Zm (Za (hK2 _ _ ?_))); clear hK2)
 refine wp_region_lit ?_
 (refine Yh S (Yr.ys (Xm (Ev.t rfl) Ev.c (fun _ => by unfold I64; omega))) rfl ?_; clear S a w; intro a w S)
 rw [rw_4] at S
 (refine Yh S (Yr.ys (Zd (Ev.t rfl))) rfl ?_; clear S a w; intro a w S)
 refine Zb ?_
 refine (Za ?_)
 rotate_left
 · exact ⟨by rw [orI, if_neg h3, orI, if_neg h4, orI, if_neg h5], S.wd.below⟩
 refine Yy ?_
 refine wp_seq_k fun _ hK2 => ?_
 refine wp_region_lit ?_
 (refine Yh S (Yr.ys (Ym (by omega) (Yq (Ev.t rfl) (Ev.t rfl)))) rfl ?_; clear S a w; intro a w S)
 refine Zb ?_
 (refine (Za (hK2 _ _ ?_)); clear hK2)
 refine wp_seq_k fun _ hK2 => ?_
 refine Zf S (Ev.t rfl) ?_
 refine wp_exit ?_
 (refine (Zi (Zi (Zy (Za (hK1 _ _ ?_))))); clear hK1)
 refine wp_seq_k fun _ hK1 => ?_
 refine wp_region_lit ?_
 (refine Yh S (Yr.ys (Zd (Ev.t rfl))) rfl ?_; clear S a w; intro a w S)
 (refine Yh S (Yr.ys (Yb (Ev.t rfl))) rfl ?_; clear S a w; intro a w S)
 refine Zb ?_
 (refine (Za (hK1 _ _ ?_)); clear hK1)
 refine wp_ret ?_
 refine Zj S (results1 S Tryz.results130 (Rv.tmp rfl)) ?_
 exact ⟨by rw [orI, if_neg h3, orI, if_neg h4, orI, if_neg h5, Decidable.not_not.1 h6], S.wd.below⟩
theorem c111 (w0 : World) (a b : Ent) : Calls Tryz.prog 111 #[.agg (Ent.enc a).toArray, .agg (Ent.enc b).toArray] w0 fun e w' => e = .returned (.int .i64 (ordA a b)) ∧ Bel w0.heap.size w0 w' := by
 refine enter2 Tryz.func111 rfl Tryz.ntmps111 rfl fun a S => ?_
 refine wp_seq_k fun _ hK1 => ?_
 refine wp_region_lit ?_
 (refine Zk (Ya S (Ev.t rfl) rfl ?_); clear S a; intro g1 a w S)
 (refine Zk (Ya S (Ev.t rfl) rfl ?_); clear S a w; intro g2 a w S)
 (refine Yh S (Yr.ys (Yb Ev.c)) rfl ?_; clear S a w; intro a w S)
 refine Zb ?_
 (refine (Za (hK1 _ _ ?_)); clear hK1)
 refine wp_seq_k fun _ hK1 => ?_
 (refine h_begin0 S (by kernel_rfl) ?_; clear S a w; intro a w S)
 (refine h_y (i := 0) S (by repeat (first | exact List.Sublist.refl _ | exact List.nil_sublist _ | refine .cons_cons _ ?_ | refine .cons _ ?_)) rfl (by kernel_rfl) (by kernel_rfl) (by kernel_rfl) (fun _ _ _ _ h => h) (Zc (FieldT.mk Tryz.underlying100 rfl Tryz.sizeOf9 rfl) (Ev.t rfl) (i' := 0) rfl) rfl ?_; clear S a w; intro a w S)
 (refine h_y (i := 1) S (by repeat (first | exact List.Sublist.refl _ | exact List.nil_sublist _ | refine .cons_cons _ ?_ | refine .cons _ ?_)) rfl (by kernel_rfl) (by kernel_rfl) (by kernel_rfl) (fun _ _ _ _ h => h) (Zu ⟨Tryz.isAgg9, Tryz.sizeOf9⟩ (Ev.t rfl) (k := 1) rfl rfl) rfl ?_; clear S a w; intro a w S)
 (refine h_y (i := 2) S (by repeat (first | exact List.Sublist.refl _ | exact List.nil_sublist _ | refine .cons_cons _ ?_ | refine .cons _ ?_)) rfl (by kernel_rfl) (by kernel_rfl) (by kernel_rfl) (fun _ _ _ _ h => h) (Zc (FieldT.mk Tryz.underlying100 rfl Tryz.sizeOf9 rfl) (Ev.t rfl) (i' := 0) rfl) rfl ?_; clear S a w; intro a w S)
 (refine h_y (i := 3) S (by repeat (first | exact List.Sublist.refl _ | exact List.nil_sublist _ | refine .cons_cons _ ?_ | refine .cons _ ?_)) rfl (by kernel_rfl) (by kernel_rfl) (by kernel_rfl) (fun _ _ _ _ h => h) (Zu ⟨Tryz.isAgg9, Tryz.sizeOf9⟩ (Ev.t rfl) (k := 0) rfl rfl) rfl ?_; clear S a w; intro a w S)
 (refine h_y (i := 5) S (by repeat (first | exact List.Sublist.refl _ | exact List.nil_sublist _ | refine .cons_cons _ ?_ | refine .cons _ ?_)) rfl (by kernel_rfl) (by kernel_rfl) (by kernel_rfl) (fun _ _ _ _ h => h) (Zc (FieldT.mk Tryz.underlying100 rfl Tryz.sizeOf74 rfl) (Ev.t rfl) (i' := 1) rfl) rfl ?_; clear S a w; intro a w S)
 (refine h_y (i := 6) S (by repeat (first | exact List.Sublist.refl _ | exact List.nil_sublist _ | refine .cons_cons _ ?_ | refine .cons _ ?_)) rfl (by kernel_rfl) (by kernel_rfl) (by kernel_rfl) (fun _ _ _ _ h => h) (Zc (FieldT.mk Tryz.underlying74 rfl Tryz.sizeOf3 rfl) (Ev.t rfl) (i' := 1) rfl) rfl ?_; clear S a w; intro a w S)
 (refine h_y (i := 7) S (by repeat (first | exact List.Sublist.refl _ | exact List.nil_sublist _ | refine .cons_cons _ ?_ | refine .cons _ ?_)) rfl (by kernel_rfl) (by kernel_rfl) (by kernel_rfl) (fun _ _ _ _ h => h) (Zu ⟨Tryz.isAgg3, Tryz.sizeOf3⟩ (Ev.t rfl) (k := 1) rfl rfl) rfl ?_; clear S a w; intro a w S)
 (refine h_y (i := 8) S (by repeat (first | exact List.Sublist.refl _ | exact List.nil_sublist _ | refine .cons_cons _ ?_ | refine .cons _ ?_)) rfl (by kernel_rfl) (by kernel_rfl) (by kernel_rfl) (fun _ _ _ _ h => h) (Zc (FieldT.mk Tryz.underlying100 rfl Tryz.sizeOf74 rfl) (Ev.t rfl) (i' := 1) rfl) rfl ?_; clear S a w; intro a w S)
 (refine h_y (i := 9) S (by repeat (first | exact List.Sublist.refl _ | exact List.nil_sublist _ | refine .cons_cons _ ?_ | refine .cons _ ?_)) rfl (by kernel_rfl) (by kernel_rfl) (by kernel_rfl) (fun _ _ _ _ h => h) (Zc (FieldT.mk Tryz.underlying74 rfl Tryz.sizeOf3 rfl) (Ev.t rfl) (i' := 1) rfl) rfl ?_; clear S a w; intro a w S)
 (refine h_y (i := 10) S (by repeat (first | exact List.Sublist.refl _ | exact List.nil_sublist _ | refine .cons_cons _ ?_ | refine .cons _ ?_)) rfl (by kernel_rfl) (by kernel_rfl) (by kernel_rfl) (fun _ _ _ _ h => h) (Zu ⟨Tryz.isAgg3, Tryz.sizeOf3⟩ (Ev.t rfl) (k := 0) rfl rfl) rfl ?_; clear S a w; intro a w S)
 (refine h_y (i := 12) S (by repeat (first | exact List.Sublist.refl _ | exact List.nil_sublist _ | refine .cons_cons _ ?_ | refine .cons _ ?_)) rfl (by kernel_rfl) (by kernel_rfl) (by kernel_rfl) (fun _ _ _ _ h => h) (Zc (FieldT.mk Tryz.underlying100 rfl Tryz.sizeOf74 rfl) (Ev.t rfl) (i' := 1) rfl) rfl ?_; clear S a w; intro a w S)
 (refine h_y (i := 13) S (by repeat (first | exact List.Sublist.refl _ | exact List.nil_sublist _ | refine .cons_cons _ ?_ | refine .cons _ ?_)) rfl (by kernel_rfl) (by kernel_rfl) (by kernel_rfl) (fun _ _ _ _ h => h) (Zc (FieldT.mk Tryz.underlying74 rfl Tryz.sizeOf3 rfl) (Ev.t rfl) (i' := 2) rfl) rfl ?_; clear S a w; intro a w S)
 (refine h_y (i := 14) S (by repeat (first | exact List.Sublist.refl _ | exact List.nil_sublist _ | refine .cons_cons _ ?_ | refine .cons _ ?_)) rfl (by kernel_rfl) (by kernel_rfl) (by kernel_rfl) (fun _ _ _ _ h => h) (Zu ⟨Tryz.isAgg3, Tryz.sizeOf3⟩ (Ev.t rfl) (k := 1) rfl rfl) rfl ?_; clear S a w; intro a w S)
 (refine h_y (i := 15) S (by repeat (first | exact List.Sublist.refl _ | exact List.nil_sublist _ | refine .cons_cons _ ?_ | refine .cons _ ?_)) rfl (by kernel_rfl) (by kernel_rfl) (by kernel_rfl) (fun _ _ _ _ h => h) (Zc (FieldT.mk Tryz.underlying100 rfl Tryz.sizeOf74 rfl) (Ev.t rfl) (i' := 1) rfl) rfl ?_; clear S a w; intro a w S)
 (refine h_y (i := 16) S (by repeat (first | exact List.Sublist.refl _ | exact List.nil_sublist _ | refine .cons_cons _ ?_ | refine .cons _ ?_)) rfl (by kernel_rfl) (by kernel_rfl) (by kernel_rfl) (fun _ _ _ _ h => h) (Zc (FieldT.mk Tryz.underlying74 rfl Tryz.sizeOf3 rfl) (Ev.t rfl) (i' := 2) rfl) rfl ?_; clear S a w; intro a w S)
 (refine h_y (i := 17) S (by repeat (first | exact List.Sublist.refl _ | exact List.nil_sublist _ | refine .cons_cons _ ?_ | refine .cons _ ?_)) rfl (by kernel_rfl) (by kernel_rfl) (by kernel_rfl) (fun _ _ _ _ h => h) (Zu ⟨Tryz.isAgg3, Tryz.sizeOf3⟩ (Ev.t rfl) (k := 0) rfl rfl) rfl ?_; clear S a w; intro a w S)
 (refine h_y (i := 19) S (by repeat (first | exact List.Sublist.refl _ | exact List.nil_sublist _ | refine .cons_cons _ ?_ | refine .cons _ ?_)) rfl (by kernel_rfl) (by kernel_rfl) (by kernel_rfl) (fun _ _ _ _ h => h) (Zc (FieldT.mk Tryz.underlying100 rfl Tryz.sizeOf74 rfl) (Ev.t rfl) (i' := 1) rfl) rfl ?_; clear S a w; intro a w S)
 (refine h_y (i := 20) S (by repeat (first | exact List.Sublist.refl _ | exact List.nil_sublist _ | refine .cons_cons _ ?_ | refine .cons _ ?_)) rfl (by kernel_rfl) (by kernel_rfl) (by kernel_rfl) (fun _ _ _ _ h => h) (Zc (FieldT.mk Tryz.underlying74 rfl Tryz.sizeOf3 rfl) (Ev.t rfl) (i' := 3) rfl) rfl ?_; clear S a w; intro a w S)
 (refine h_y (i := 21) S (by repeat (first | exact List.Sublist.refl _ | exact List.nil_sublist _ | refine .cons_cons _ ?_ | refine .cons _ ?_)) rfl (by kernel_rfl) (by kernel_rfl) (by kernel_rfl) (fun _ _ _ _ h => h) (Zu ⟨Tryz.isAgg3, Tryz.sizeOf3⟩ (Ev.t rfl) (k := 1) rfl rfl) rfl ?_; clear S a w; intro a w S)
 (refine h_y (i := 22) S (by repeat (first | exact List.Sublist.refl _ | exact List.nil_sublist _ | refine .cons_cons _ ?_ | refine .cons _ ?_)) rfl (by kernel_rfl) (by kernel_rfl) (by kernel_rfl) (fun _ _ _ _ h => h) (Zc (FieldT.mk Tryz.underlying100 rfl Tryz.sizeOf74 rfl) (Ev.t rfl) (i' := 1) rfl) rfl ?_; clear S a w; intro a w S)
 (refine h_y (i := 23) S (by repeat (first | exact List.Sublist.refl _ | exact List.nil_sublist _ | refine .cons_cons _ ?_ | refine .cons _ ?_)) rfl (by kernel_rfl) (by kernel_rfl) (by kernel_rfl) (fun _ _ _ _ h => h) (Zc (FieldT.mk Tryz.underlying74 rfl Tryz.sizeOf3 rfl) (Ev.t rfl) (i' := 3) rfl) rfl ?_; clear S a w; intro a w S)
 (refine h_y (i := 24) S (by repeat (first | exact List.Sublist.refl _ | exact List.nil_sublist _ | refine .cons_cons _ ?_ | refine .cons _ ?_)) rfl (by kernel_rfl) (by kernel_rfl) (by kernel_rfl) (fun _ _ _ _ h => h) (Zu ⟨Tryz.isAgg3, Tryz.sizeOf3⟩ (Ev.t rfl) (k := 0) rfl rfl) rfl ?_; clear S a w; intro a w S)
 (refine h_q (i := 4) S (by repeat (first | exact List.Sublist.refl _ | exact List.nil_sublist _ | refine .cons_cons _ ?_ | refine .cons _ ?_)) rfl (by kernel_rfl) (Zh Tryz.call131 (EvL.cons (Ev.t rfl) (EvL.cons (Ev.t rfl) EvL.nil)) (fun hp w W => c131 _ _ _)) rfl ?_; clear S a w; intro a w S)
 (refine h_q (i := 11) S (by repeat (first | exact List.Sublist.refl _ | exact List.nil_sublist _ | refine .cons_cons _ ?_ | refine .cons _ ?_)) rfl (by kernel_rfl) (Zh Tryz.call132 (EvL.cons (Ev.t rfl) (EvL.cons (Ev.t rfl) EvL.nil)) (fun hp w W => c132 _ _ _)) rfl ?_; clear S a w; intro a w S)
 (refine h_q (i := 18) S (by repeat (first | exact List.Sublist.refl _ | exact List.nil_sublist _ | refine .cons_cons _ ?_ | refine .cons _ ?_)) rfl (by kernel_rfl) (Zh Tryz.call132 (EvL.cons (Ev.t rfl) (EvL.cons (Ev.t rfl) EvL.nil)) (fun hp w W => c132 _ _ _)) rfl ?_; clear S a w; intro a w S)
 (refine h_q (i := 25) S (by repeat (first | exact List.Sublist.refl _ | exact List.nil_sublist _ | refine .cons_cons _ ?_ | refine .cons _ ?_)) rfl (by kernel_rfl) (Zh Tryz.call132 (EvL.cons (Ev.t rfl) (EvL.cons (Ev.t rfl) EvL.nil)) (fun hp w W => c132 _ _ _)) rfl ?_; clear S a w; intro a w S)
 (refine h_m (i := 26) rfl (by kernel_rfl) (Wn (ps := [(0, Go.Operand.tmp 9), (1, Go.Operand.tmp 16), (2, Go.Operand.tmp 23), (3, Go.Operand.tmp 30)]) (us := [_, _, _, _]) S Tryz.underlying202 Tryz.sizeOf3 Tryz.zeroValue3 rfl rfl (EvL.cons (Ev.t rfl) (EvL.cons (Ev.t rfl) (EvL.cons (Ev.t rfl) (EvL.cons (Ev.t rfl) EvL.nil)))) rfl rfl ?_); clear S a w; intro g3 a w S; refine h_on S _ (by repeat (first | exact List.Sublist.refl _ | exact List.nil_sublist _ | refine .cons_cons _ ?_ | refine .cons _ ?_)) (List.Sublist.refl _) ?_)
 (refine h_q (i := 27) S (by repeat (first | exact List.Sublist.refl _ | exact List.nil_sublist _ | refine .cons_cons _ ?_ | refine .cons _ ?_)) rfl (by kernel_rfl) (Zh Tryz.call130 (EvL.cons (Ev.t rfl) EvL.nil) (fun hp w W => e130 _ _ _ _ _ _ (by exact Wd.cell W (k := 0) rfl rfl) (by exact Wd.cell W (k := 0) rfl rfl) (by exact Wd.cell W (k := 0) rfl rfl) (by exact Wd.cell W (k := 0) rfl rfl))) rfl ?_; clear S a w; intro a w S)
 (refine h_y (i := 28) S (by repeat (first | exact List.Sublist.refl _ | exact List.nil_sublist _ | refine .cons_cons _ ?_ | refine .cons _ ?_)) rfl (by kernel_rfl) (by kernel_rfl) (by kernel_rfl) (fun _ _ _ _ h => h) (Yb (Ev.t rfl)) rfl ?_; clear S a w; intro a w S)
 refine Yz (by kernel_rfl) ?_
 (refine (Za (hK1 _ _ ?_)); clear hK1)
 refine wp_ret ?_
 refine Zj S (results1 S Tryz.results111 (Rv.tmp rfl)) ?_
 exact ⟨rfl, S.wd.below⟩
end Go.Proofs.YtakpdbmdfnialaaGreat.Tk
namespace Go.Fw
open Go.RowKit Go.Sort Go.Proofs Go.Shelf
theorem swoA : SWO (ltOf fun x y : MEnt => ordA x.1 y.1) := by
 have e : (ltOf fun x y : MEnt => ordA x.1 y.1) = ltOf fun x y : MEnt => ordE x.1 y.1 := by
   funext x y
   unfold ltOf
   exact decide_eq_decide.2 (by rw [ordA_iff, ordE_iff])
 rw [e]
 exact swoE
end Go.Fw
namespace Go.Proofs.YtakpdbmdfnialaaGreat
open Go.Fw Go.Proofs Go.RowKit Go.Sort Go.Proofs.Tryz
theorem ordTA (W : World) (x y : MEnt) : Calls Tryz.prog 111 #[.agg (MEnt.enc x).toArray, .agg (MEnt.enc y).toArray] W fun e w' => e = .returned (.int .i64 (ordA x.1 y.1)) ∧ Go.Ft.Bel W.heap.size W w' := by
 obtain ⟨⟨s, ⟨a, b, c⟩, q, p⟩, hx⟩ := x
 obtain ⟨⟨s', ⟨a', b', c'⟩, q', p'⟩, hy⟩ := y
 exact Tk.c111 W ⟨s, ⟨a, b, c⟩, q, p⟩ ⟨s', ⟨a', b', c'⟩, q', p'⟩
theorem o110 {w0 w : World} {L : List Chunk} {A : Option Addr} {cap : Nat} {l r : List Ent} (W : Wd w0 (rowOf 100 6 Ent.enc A cap l :: L) w) (hm : ∀ x ∈ l, mayD x.dot = true) (hn : l.length ≤ 4194304)
   (hd : (l.map (·.dot)).Nodup) (hr : r.Pairwise ltE) (hlr : ∀ x, x ∈ r ↔ x ∈ l) :
   RetsO Tryz.prog 110 #[.slice A l.length cap, .func (.func 111) #[] #[]] w0 w fun v L' => v = .tuple #[] ∧ l.length = r.length ∧ L' = rowOf 100 6 Ent.enc A cap r :: L := by
 obtain ⟨ls, rfl⟩ : ∃ ls : List MEnt, ls.map (·.1) = l := ⟨l.pmap Subtype.mk hm, by simp [List.map_pmap]⟩
 have e1 : ∀ ls : List MEnt, rowOf 100 6 Ent.enc A cap (ls.map (·.1)) = rowOf 100 6 MEnt.enc A cap ls := fun ls => by
   unfold rowOf
   rw [encE_map, List.length_map]
 rw [e1] at W
 rw [List.length_map] at hn ⊢
 have h := sort_any Tryz.sortEnts 6 (by omega) isAgg100 sizeOf100 MEnt.enc (fun _ => rfl) (fun x => Ent.enc_one x.1) (fun x y => ordA x.1 y.1) swoA 111 call111
   (fun x y W => ordTA W x y) W hn
 refine Calls.mono h fun e w' ⟨v, L', he, W', l', hv, hp, hs, hL⟩ => ?_
 have hl : l'.map (·.1) = r := sortE (hp.map _) (by rw [List.pairwise_map]; exact hs.imp fun h => by rw [ordE_iff, ← ordA_iff]; exact h) hd hr hlr
 have hlen := hp.length_eq
 refine ⟨v, L', he, W', hv, ?_, ?_⟩
 · rw [← hl, List.length_map, hlen]
 · rw [hL, ← e1, hl]
end Go.Proofs.YtakpdbmdfnialaaGreat
namespace Go.Fw
def idxW {α : Type} (p : α → Bool) : Nat → List α → Int
 | _, [] => -1
 | k, y :: r => if p y then (k : Int) else idxW p (k + 1) r
theorem idxW_any {α : Type} (p : α → Bool) : ∀ (l : List α) (k : Nat), decide (0 ≤ idxW p k l) = l.any p
 | [], k => rfl
 | y :: r, k => by
   unfold idxW
   by_cases h : p y = true
   · rw [if_pos h, List.any_cons, h, Bool.true_or]
     exact decide_eq_true (by omega)
   · rw [if_neg h, idxW_any p r (k + 1), List.any_cons, Bool.eq_false_iff.2 h, Bool.false_or]
end Go.Fw
namespace Go.Proofs.YtakpdbmdfnialaaGreat
open Go.Fw Go.Proofs Go.RowKit Go.Proofs.Tryz
def ReadsV {α : Type} (enc : α → List Value) (w0 : World) (f : FuncId) (cs : List Value) (l : List α) (p : α → Bool) : Prop := ∀ w', Wd w0 [] w' → ∀ x ∈ l, Calls Tryz.prog f ([Value.agg (enc x).toArray] ++ cs).toArray w' fun e w'' => e = .returned (.bool (p x)) ∧ Bel w'.heap.size w' w''
end Go.Proofs.YtakpdbmdfnialaaGreat
namespace Go.Proofs.YtakpdbmdfnialaaGreat
open Go.Fw Go.Proofs Go.RowKit Go.Proofs.Tryz
theorem c103 (w0 : World) (u : Upd) (v1 v2 v3 : Value) (h : Sl Ent.enc 6 w0 w0.heap.size v1 u.seen.ents) (hr : RdCtx w0 w0.heap.size v2 v3 u.seen.ctx) (hl1 : u.seen.ents.length ≤ 1048576) (hl2 : u.seen.ctx.marks.length ≤ 1048576) (hl3 : u.seen.ctx.cloud.length ≤ 1048576) :
   Rets Tryz.prog 103 #[.agg (Upd.enc u v1 v2 v3).toArray] w0 fun v L => ∃ A1 r1 A2 r2 A3 r3, v = .agg (Upd.enc u (.slice A1 u.seen.ents.length r1) (.slice A2 u.seen.ctx.marks.length r2) (.slice A3 u.seen.ctx.cloud.length r3)).toArray ∧
     L = [rowOf 100 6 Ent.enc A1 r1 u.seen.ents, rowOf 30 3 Dot.enc A2 r2 u.seen.ctx.marks, rowOf 74 3 Dot.enc A3 r3 u.seen.ctx.cloud] := by
 have hs := h
 have hrr := hr
 obtain ⟨A, cap, rfl, hl, hcap, hA⟩ := h
 obtain ⟨⟨A2, cap2, rfl, _⟩, ⟨A3, cap3, rfl, _⟩⟩ := hr
 unfold Go.Fw.Rets
 refine enter1 func103 rfl ntmps103 rfl fun a S => wp_seq_k fun _ hK1 => wp_region_lit (Zk (Ya S (.t rfl) rfl fun g1 a w S => Zk (Zn S zeroValue77 (cs := _) rfl rfl fun g2 a w S => Zb (Za (hK1 _ _ (wp_seq_k fun _ hK1 => wp_region_lit (run S (.fa underlying77 sizeOf37 7 rfl rfl rfl <| .la gt37 1 rfl rfl rfl <| .z) fun a w S => ?_)))))))
 (refine Zk (Zz S call16 (.cons (.t rfl) .nil) (c16 _ _ _ _ _ (by exact .old S.wd (by assumption)) (by exact .old S.wd (by assumption)) (by assumption) (by assumption) (by assumption)) rfl ?_); clear S a w; rintro _ _ ⟨A11, r11, A21, r21, A31, r31, rfl, rfl⟩ a w S)
 refine run S (.fa underlying77 sizeOf37 7 rfl rfl rfl <| .z) fun a w S => Zk (Yw S sizeOf37 (.t rfl) (.t rfl) (k := 4) rfl rfl (by simp [Value.oneCell']) (by simp) fun a w S => Zb (Za (hK1 _ _ (wp_seq_k fun _ hK1 => wp_region_lit (run S (.la gt77 4 rfl rfl rfl <| .z) fun a w S => Zk (Zv S sizeOf77 (.t rfl) (.t rfl) (k := 3) rfl rfl rfl (by simp [Value.oneCell']) fun a w S => Zb (Za (hK1 _ _ (wp_ret (Zj S (results1 S results103 (Rv.cell (k := 3) ⟨isAgg77, sizeOf77⟩ rfl rfl rfl)) ?_))))))))))
 exact ⟨_, _, rfl, S.wd.pk, _, _, _, _, _, _, rfl, rfl⟩
theorem c172 (w0 : World) (v1 v2 v3 v4 v5 v6 : Value) (u u' : Upd) (h : Sl Ent.enc 6 w0 w0.heap.size v1 u.seen.ents) (hr : RdCtx w0 w0.heap.size v2 v3 u.seen.ctx) (h' : Sl Ent.enc 6 w0 w0.heap.size v4 u'.seen.ents) (hr' : RdCtx w0 w0.heap.size v5 v6 u'.seen.ctx) (he : u = u') :
   Calls Tryz.prog 172 #[.agg (Upd.enc u v1 v2 v3).toArray, .agg (Upd.enc u' v4 v5 v6).toArray] w0 fun e w' => e = .returned (.bool true) ∧ Bel w0.heap.size w0 w' := by
 have hs := h
 have hrr := hr
 have hs' := h'
 have hrr' := hr'
 subst he
 obtain ⟨A, cap, rfl, hl, hcap, hA⟩ := h
 obtain ⟨⟨A2, cap2, rfl, _⟩, ⟨A3, cap3, rfl, _⟩⟩ := hr
 obtain ⟨B, capB, rfl, hlB, hcapB, hB⟩ := h'
 obtain ⟨⟨B2, capB2, rfl, _⟩, ⟨B3, capB3, rfl, _⟩⟩ := hr'
 refine enter2 func172 rfl ntmps172 rfl fun a S => wp_seq_k fun _ hK1 => wp_region_lit (Zk (Ya S (.t rfl) rfl fun g1 a w S => Zk (Ya S (.t rfl) rfl fun g2 a w S => run S (.ac rfl <| .z) fun a w S => Zb (Za (hK1 _ _ (wp_seq_k fun _ hK1 => wp_region_lit (run S (.fa underlying77 sizeOf9 0 rfl rfl rfl <| .ld gt9 1 rfl rfl rfl <| .fa underlying77 sizeOf9 0 rfl rfl rfl <| .ld gt9 0 rfl rfl rfl <| .yy (Xi (.t rfl) (.t rfl)) rfl <| .mv rfl <| .z) fun a w S => Yg S rfl rfl (Yr.ys (Zc (FieldT.mk underlying77 rfl sizeOf74 rfl) (.t rfl) (i' := 1) rfl)) rfl fun a w S => Yg S rfl rfl (Yr.ys (Ye ⟨isAgg74, sizeOf74⟩ (Ev.g rfl) (k := 1) rfl rfl)) rfl fun a w S => Yg S rfl rfl (Yr.ys (Zc (FieldT.mk underlying77 rfl sizeOf74 rfl) (.t rfl) (i' := 1) rfl)) rfl fun a w S => Yg S rfl rfl (Yr.ys (Ye ⟨isAgg74, sizeOf74⟩ (Ev.g rfl) (k := 0) rfl rfl)) rfl fun a w S => Yg S rfl rfl (Yr.ys (Ws (Ev.g rfl) (Ev.g rfl) eq74)) rfl fun a w S => run S (.yy (Xn (.t rfl) (Ev.g rfl) Ev.c) rfl <| .mv rfl <| .z) fun a w S => Yg S rfl rfl (Yr.ys (Zc (FieldT.mk underlying77 rfl sizeOf9 rfl) (.t rfl) (i' := 4) rfl)) rfl fun a w S => Yg S rfl rfl (Yr.ys (Zu ⟨isAgg9, sizeOf9⟩ (Ev.g rfl) (k := 1) rfl rfl)) rfl fun a w S => ?_)))))))
 refine Yg S rfl rfl (Yr.ys (Zc (FieldT.mk underlying77 rfl sizeOf9 rfl) (.t rfl) (i' := 4) rfl)) rfl fun a w S => Yg S rfl rfl (Yr.ys (Zu ⟨isAgg9, sizeOf9⟩ (Ev.g rfl) (k := 0) rfl rfl)) rfl fun a w S => Yg S rfl rfl (Yr.ys (Xi (Ev.g rfl) (Ev.g rfl))) rfl fun a w S => run S (.yy (Xn (.t rfl) (Ev.g rfl) Ev.c) rfl <| .mv rfl <| .z) fun a w S => Yg S rfl rfl (Yr.ys (Zc (FieldT.mk underlying77 rfl sizeOf3 rfl) (.t rfl) (i' := 5) rfl)) rfl fun a w S => Yg S rfl rfl (Yr.ys (Zu ⟨isAgg3, sizeOf3⟩ (Ev.g rfl) (k := 1) rfl rfl)) rfl fun a w S => Yg S rfl rfl (Yr.ys (Zc (FieldT.mk underlying77 rfl sizeOf3 rfl) (.t rfl) (i' := 5) rfl)) rfl fun a w S => Yg S rfl rfl (Yr.ys (Zu ⟨isAgg3, sizeOf3⟩ (Ev.g rfl) (k := 0) rfl rfl)) rfl fun a w S => Yg S rfl rfl (Yr.ys (Yu (by omega) (Yd (Ev.g rfl) (Ev.g rfl)))) rfl fun a w S => run S (.yy (ys_andT (.t rfl) (Ev.g rfl) Ev.c) rfl <| .mv rfl <| .z) fun a w S => Yg S rfl rfl (Yr.ys (Zc (FieldT.mk underlying77 rfl sizeOf75 rfl) (.t rfl) (i' := 6) rfl)) rfl fun a w S => Yg S rfl rfl (Yr.ys (Zu ⟨isAgg75, sizeOf75⟩ (Ev.g rfl) (k := 1) rfl rfl)) rfl fun a w S => Yg S rfl rfl (Yr.ys (Zc (FieldT.mk underlying77 rfl sizeOf75 rfl) (.t rfl) (i' := 6) rfl)) rfl fun a w S => ?_
 refine Yg S rfl rfl (Yr.ys (Zu ⟨isAgg75, sizeOf75⟩ (Ev.g rfl) (k := 0) rfl rfl)) rfl fun a w S => Yg S rfl rfl (Yr.ys (Yu (by omega) (Yd (Ev.g rfl) (Ev.g rfl)))) rfl fun a w S => run S (.yy (ys_andT (.t rfl) (Ev.g rfl) Ev.c) rfl <| .mv rfl <| .z) fun a w S => Yg S rfl rfl (Yr.ys (Zc (FieldT.mk underlying77 rfl sizeOf37 rfl) (.t rfl) (i' := 7) rfl)) rfl fun a w S => Yg S rfl rfl (Yr.ys (Ye ⟨isAgg37, sizeOf37⟩ (Ev.g rfl) (k := 1) rfl rfl)) rfl fun a w S => Yg S rfl rfl (Yr.ys (Zc (FieldT.mk underlying77 rfl sizeOf37 rfl) (.t rfl) (i' := 7) rfl)) rfl fun a w S => Yg S rfl rfl (Yr.ys (Ye ⟨isAgg37, sizeOf37⟩ (Ev.g rfl) (k := 0) rfl rfl)) rfl fun a w S => Yg S rfl rfl (Zh call19 (.cons (Ev.g rfl) (.cons (Ev.g rfl) .nil)) (fun hp w W => c19 _ _ _ _ _ _ _ _ _ (by exact .old W (by assumption)) (by exact .old W (by assumption)) (by exact .old W (by assumption)) (by exact .old W (by assumption)))) rfl fun a w S => ?_
 simp only [List.nil_append] at S
 refine run S (.yy (Zt (.t rfl) (Ev.g rfl)) rfl <| .as rfl <| .z) fun a w S => Zb (Za (hK1 _ _ (wp_ret (Zj S (results1 S results172 (Rv.tmp rfl)) ?_))))
 exact ⟨by rw [decide_eq_true True.intro], S.wd.below⟩
end Go.Proofs.YtakpdbmdfnialaaGreat
namespace Go.Fw
theorem Line.mkEnc {s : List UInt8} {q : Int} {p : UInt64} : [Value.string (bs s), .int .i64 q, .int .u64 (p.toNat : Int)] = Line.enc ⟨s, q, p⟩ := rfl
theorem dot_cells {w : World} {g o : Nat} {d : Dot} (h1 : w.cell? ⟨g, o, none⟩ = some (.int .i64 d.node)) (h2 : w.cell? ⟨g, o + 1, none⟩ = some (.int .i64 d.life)) (h3 : w.cell? ⟨g, o + 2, none⟩ = some (.int .i64 d.count)) : ∀ j u, (Dot.enc d)[j]? = some u → w.cell? ⟨g, o + j, none⟩ = some u := by
 intro j u hj
 rcases j with _ | _ | _ | j
 · exact h1.trans hj
 · exact h2.trans hj
 · exact h3.trans hj
 · cases hj
end Go.Fw
namespace Go.Proofs.YtakpdbmdfnialaaGreat
open Go.Fw Go.Proofs Go.RowKit Go.Proofs.Tryz
end Go.Proofs.YtakpdbmdfnialaaGreat
namespace Go.Proofs.YtakpdbmdfnialaaGreat
open Go.Fw Go.Proofs Go.RowKit Go.Proofs.Tryz
theorem x150 (w0 : World) (v : Value) (l : List SCart) (f : FuncId) (cs : List Value) (p : SCart → Bool) (hf : ∀ args w, (callFunc f args).run Tryz.prog w = .ok (.enter f args) w) (hr : ReadsV SCart.enc w0 f cs l p) (h : Sl SCart.enc 3 w0 w0.heap.size v l) :
   Calls Tryz.prog 150 #[v, .func (.func f) #[] cs.toArray] w0 fun e w' => e = .returned (.int .i64 (idxW p 0 l)) ∧ Bel w0.heap.size w0 w' := by
 obtain ⟨A, cap, rfl, hl, hcap, hA⟩ := h
 refine enter2 func150 rfl ntmps150 rfl fun a S => sg S (.ac rfl <| .z) fun a w S => wp_seq_k fun _ hK1 => sg S (.mv rfl <| .ln underlying64 rfl <| .mc rfl <| .z) fun a w S => wp_block ?_
 refine Xe S [4, 5, 8] (X := Nat) (fun k => [(8, true, .int .i64 (k : Int))]) (fun _ => []) (fun k => k ≤ l.length ∧ idxW p k (l.drop k) = idxW p 0 l) (fun k => l.length - k) 0 ⟨Nat.zero_le _, rfl⟩ ?_
 clear S
 intro k a w ⟨hk, hno⟩ S
 by_cases hlt : k < l.length
 · obtain ⟨gq, oq, x, rfl, hx, hd, hcc⟩ := Yk hA hlt
   rw [hd] at hno
   have hrx := fun w' W' => hr w' W' x (List.mem_of_getElem? hx)
   refine sg S (.lt (by omega) rfl rfl <| .z) fun a w S => wp_seq_k fun _ hK2 => Zg S (.t rfl) (wp_skip (Za (hK2 _ _ (wp_seq_k fun _ hK2 => wp_block (sg S (.mv rfl <| .as rfl <| .z) fun a w S => wp_seq_k fun _ hK3 => wp_region_lit (run S (.mv rfl <| .mv rfl <| .mv rfl <| .ix underlying64 sizeOf37 (by omega) rfl rfl <| .yy (Zp ⟨isAgg37, sizeOf37⟩ (.t rfl) (vs := [_, _, _]) rfl (fun _ => hcc)) rfl <| .z) fun a w S => Yh S (ys_callVC (cs := cs) (vs := [.agg (SCart.enc x).toArray]) (v := .bool (p x)) (.t rfl) hf (.cons (.t rfl) .nil) (fun _ w' W' => hrx w' (W'.sub (List.nil_sublist _)))) rfl ?_))))))
   clear S a w
   intro a w S
   cases hp : p x with
   | true =>
     rw [hp] at S
     refine Zb (Za (hK3 _ _ (Zg S (.t rfl) (sg S (.mv rfl <| .as rfl <| .z) fun a w S => wp_ret (Zr (Ze (Ze (Zr (Ze (Zj S (results1 S results150 (Rv.tmp rfl)) ?_))))))))))
     refine ⟨?_, S.wd.below⟩
     rw [← hno, idxW, if_pos hp]
   | false =>
     rw [hp] at S
     refine Zb (Za (hK3 _ _ (Zf S (.t rfl) (wp_skip (Zm (Za (hK2 _ _ (wp_region_lit (run S (.ad (by unfold I64; omega) rfl <| .mv rfl <| .z) fun a w S => Zb (Za ?_))))))))))
     rw [idxW, if_neg (by rw [hp]; decide)] at hno
     exact ⟨k + 1, ⟨by omega, hno⟩, by omega, S.pk⟩
 · obtain rfl : k = l.length := by omega
   rw [List.drop_length] at hno
   refine sg S (.ge (by omega) rfl rfl <| .z) fun a w S => wp_seq_k fun _ hK2 => Zf S (.t rfl) (wp_exit (Zi (Zi (Zy (Za (hK1 _ _ (sg S (.ac rfl <| .z) fun a w S => wp_ret (Zj S (results1 S results150 (Rv.tmp rfl)) ?_))))))))
   exact ⟨by rw [← hno]; rfl, S.wd.below⟩
theorem x93 (w0 : World) (v : Value) (l : List SCart) (f : FuncId) (cs : List Value) (p : SCart → Bool) (hf : ∀ args w, (callFunc f args).run Tryz.prog w = .ok (.enter f args) w) (hr : ReadsV SCart.enc w0 f cs l p) (h : Sl SCart.enc 3 w0 w0.heap.size v l) :
   Calls Tryz.prog 93 #[v, .func (.func f) #[] cs.toArray] w0 fun e w' => e = .returned (.bool (l.any p)) ∧ Bel w0.heap.size w0 w' := by
 have hs := h
 obtain ⟨A, cap, rfl, hl, hcap, hA⟩ := h
 refine enter2 func93 rfl ntmps93 rfl fun a S => sg S (.ac rfl <| .z) fun a w S => wp_seq_k fun _ hK1 => wp_region_lit (run S (.mv rfl <| .mv rfl <| .z) fun a w S => Yh S (Zh call150 (.cons (.t rfl) (.cons (.t rfl) .nil)) (fun _ w' W' => x150 w' _ l f cs p hf (fun w'' W'' => hr w'' ((W'.sub (List.nil_sublist _)).step W''.below)) (Sl.old W' hs))) rfl ?_)
 clear S a w
 intro a w S
 refine run S (.yy (Xd (.t rfl) Ev.c) rfl <| .as rfl <| .z) fun a w S => Zb (Za (hK1 _ _ (wp_ret (Zj S (results1 S results93 (Rv.tmp rfl)) ?_))))
 exact ⟨by rw [← idxW_any p l 0], S.wd.below⟩
end Go.Proofs.YtakpdbmdfnialaaGreat
namespace Go.Fw
open Go.RowKit
structure SLog where
 kind : Int
 at_ : Int
 ask : Int
 u : SUpd
 an : Int
 al : Int
 key : List UInt8
 s : SCart
 c : SCart
abbrev SLog.enc (x : SLog) : List Value := [.int .i64 x.kind, .int .i64 x.at_, .int .i64 x.ask, .string (bs x.u.1.key), .int .i64 x.u.1.dot.node, .int .i64 x.u.1.dot.life, .int .i64 x.u.1.dot.count, .string (bs x.u.1.item), .int .i64 x.u.1.qty, .int .u64 (x.u.1.price.toNat : Int), .slice x.u.2.a1 x.u.2.n1 x.u.2.c1, .slice x.u.2.a2 x.u.2.n2 x.u.2.c2, .slice x.u.2.a3 x.u.2.n3 x.u.2.c3, .int .i64 x.an, .int .i64 x.al, .string (bs x.key), .slice x.s.2.a1 x.s.2.n1 x.s.2.c1, .slice x.s.2.a2 x.s.2.n2 x.s.2.c2, .slice x.s.2.a3 x.s.2.n3 x.s.2.c3, .slice x.c.2.a1 x.c.2.n1 x.c.2.c1, .slice x.c.2.a2 x.c.2.n2 x.c.2.c2, .slice x.c.2.a3 x.c.2.n3 x.c.2.c3]
theorem SLog.enc_len (x : SLog) : (SLog.enc x).length = 22 := rfl
theorem SLog.enc_one (x : SLog) : ∀ u ∈ SLog.enc x, u.oneCell' = true := fun u hu => by
 simp only [SLog.enc, List.mem_cons, List.not_mem_nil, or_false] at hu
 rcases hu with rfl | rfl | rfl | rfl | rfl | rfl | rfl | rfl | rfl | rfl | rfl | rfl | rfl | rfl | rfl | rfl | rfl | rfl | rfl | rfl | rfl | rfl <;> rfl
def UpdsRd (w : World) (l : List SUpd) : Prop := ∀ x ∈ l, CartRd w x.1.seen x.2
theorem UpdsRd.old {w0 w : World} {L : List Chunk} {l : List SUpd} (W : Wd w0 L w) (h : UpdsRd w0 l) : UpdsRd w l := fun x hx => (h x hx).old W
structure LogRd (w : World) (x : SLog) : Prop where
 u : CartRd w x.u.1.seen x.u.2
 s : CartRd w x.s.1 x.s.2
 c : CartRd w x.c.1 x.c.2
theorem LogRd.old {w0 w : World} {L : List Chunk} {x : SLog} (W : Wd w0 L w) (h : LogRd w0 x) : LogRd w x := ⟨h.u.old W, h.s.old W, h.c.old W⟩
def LogsRd (w : World) (l : List SLog) : Prop := ∀ x ∈ l, LogRd w x
theorem LogsRd.old {w0 w : World} {L : List Chunk} {l : List SLog} (W : Wd w0 L w) (h : LogsRd w0 l) : LogsRd w l := fun x hx => (h x hx).old W
end Go.Fw
namespace Go.Proofs.YtakpdbmdfnialaaGreat
open Go.Fw Go.Proofs Go.RowKit Go.Proofs.Tryz
theorem x107 (w0 : World) (v : Value) (l : List SUpd) (f : FuncId) (cs : List Value) (p : SUpd → Bool) (hf : ∀ args w, (callFunc f args).run Tryz.prog w = .ok (.enter f args) w) (hr : ReadsV SUpd.enc w0 f cs l p) (h : Sl SUpd.enc 10 w0 w0.heap.size v l) :
   Calls Tryz.prog 107 #[v, .func (.func f) #[] cs.toArray] w0 fun e w' => e = .returned (.int .i64 (idxW p 0 l)) ∧ Bel w0.heap.size w0 w' := by
 obtain ⟨A, cap, rfl, hl, hcap, hA⟩ := h
 refine enter2 func107 rfl ntmps107 rfl fun a S => sg S (.ac rfl <| .z) fun a w S => wp_seq_k fun _ hK1 => sg S (.mv rfl <| .ln underlying72 rfl <| .mc rfl <| .z) fun a w S => wp_block ?_
 refine Xe S [9] (X := Nat) (fun k => [(9, true, .int .i64 (k : Int))]) (fun _ => []) (fun k => k ≤ l.length ∧ idxW p k (l.drop k) = idxW p 0 l) (fun k => l.length - k) 0 ⟨Nat.zero_le _, rfl⟩ ?_
 clear S
 intro k a w ⟨hk, hno⟩ S
 by_cases hlt : k < l.length
 · obtain ⟨gq, oq, x, rfl, hx, hd, hcc⟩ := Yk hA hlt
   rw [hd] at hno
   have hrx := fun w' W' => hr w' W' x (List.mem_of_getElem? hx)
   refine sg S (.lt (by omega) rfl rfl <| .z) fun a w S => wp_seq_k fun _ hK2 => Zg S (.t rfl) (wp_skip (Za (hK2 _ _ (wp_seq_k fun _ hK2 => wp_block (wp_seq_k fun _ hK3 => wp_region_lit (run S (.mv rfl <| .ix underlying72 sizeOf77 (by omega) rfl rfl <| .yy (Zp ⟨isAgg77, sizeOf77⟩ (.t rfl) (vs := [_, _, _, _, _, _, _, _, _, _]) rfl (fun _ => hcc)) rfl <| .z) fun a w S => Zk (Zn S zeroValue77 (cs := _) rfl rfl fun g1 a w S => run S (.as rfl <| .z) fun a w S => Zk (Zv S sizeOf77 (.t rfl) (.t rfl) (k := 0) rfl rfl rfl (by simp [Value.oneCell']) fun a w S => Zb (Za (hK3 _ _ (wp_seq_k fun _ hK3 => wp_region_lit (run S (.mv rfl <| .la gt77 0 rfl rfl rfl <| .z) fun a w S => Yh S (ys_callVC (cs := cs) (vs := [.agg (SUpd.enc x).toArray]) (v := .bool (p x)) (.t rfl) hf (.cons (.t rfl) .nil) (fun _ w' W' => hrx w' (W'.sub (List.nil_sublist _)))) rfl ?_))))))))))))
   clear S a w
   intro a w S
   cases hp : p x with
   | true =>
     rw [hp] at S
     refine Zb (Za (hK3 _ _ (Zg S (.t rfl) (sg S (.mv rfl <| .as rfl <| .z) fun a w S => wp_ret (Zr (Ze (Ze (Zr (Ze (Zj S (results1 S results107 (Rv.tmp rfl)) ?_))))))))))
     refine ⟨?_, S.wd.below⟩
     rw [← hno, idxW, if_pos hp]
   | false =>
     rw [hp] at S
     refine Zb (Za (hK3 _ _ (Zf S (.t rfl) (wp_skip (Zm (Za (hK2 _ _ (wp_region_lit (run S (.ad (by unfold I64; omega) rfl <| .mv rfl <| .z) fun a w S => Zb (Za ?_))))))))))
     rw [idxW, if_neg (by rw [hp]; decide)] at hno
     exact ⟨k + 1, ⟨by omega, hno⟩, by omega, S.pk⟩
 · obtain rfl : k = l.length := by omega
   rw [List.drop_length] at hno
   refine sg S (.ge (by omega) rfl rfl <| .z) fun a w S => wp_seq_k fun _ hK2 => Zf S (.t rfl) (wp_exit (Zi (Zi (Zy (Za (hK1 _ _ (sg S (.ac rfl <| .z) fun a w S => wp_ret (Zj S (results1 S results107 (Rv.tmp rfl)) ?_))))))))
   exact ⟨by rw [← hno]; rfl, S.wd.below⟩
theorem x170 (w0 : World) (v : Value) (l : List SLog) (f : FuncId) (cs : List Value) (p : SLog → Bool) (hf : ∀ args w, (callFunc f args).run Tryz.prog w = .ok (.enter f args) w) (hr : ReadsV SLog.enc w0 f cs l p) (h : Sl SLog.enc 22 w0 w0.heap.size v l) :
   Calls Tryz.prog 170 #[v, .func (.func f) #[] cs.toArray] w0 fun e w' => e = .returned (.int .i64 (idxW p 0 l)) ∧ Bel w0.heap.size w0 w' := by
 obtain ⟨A, cap, rfl, hl, hcap, hA⟩ := h
 refine enter2 func170 rfl ntmps170 rfl fun a S => sg S (.ac rfl <| .z) fun a w S => wp_seq_k fun _ hK1 => sg S (.mv rfl <| .ln underlying84 rfl <| .mc rfl <| .z) fun a w S => wp_block ?_
 refine Xe S [9] (X := Nat) (fun k => [(9, true, .int .i64 (k : Int))]) (fun _ => []) (fun k => k ≤ l.length ∧ idxW p k (l.drop k) = idxW p 0 l) (fun k => l.length - k) 0 ⟨Nat.zero_le _, rfl⟩ ?_
 clear S
 intro k a w ⟨hk, hno⟩ S
 by_cases hlt : k < l.length
 · obtain ⟨gq, oq, x, rfl, hx, hd, hcc⟩ := Yk hA hlt
   rw [hd] at hno
   have hrx := fun w' W' => hr w' W' x (List.mem_of_getElem? hx)
   refine sg S (.lt (by omega) rfl rfl <| .z) fun a w S => wp_seq_k fun _ hK2 => Zg S (.t rfl) (wp_skip (Za (hK2 _ _ (wp_seq_k fun _ hK2 => wp_block (wp_seq_k fun _ hK3 => wp_region_lit (run S (.mv rfl <| .ix underlying84 sizeOf96 (by omega) rfl rfl <| .yy (Zp ⟨isAgg96, sizeOf96⟩ (.t rfl) (vs := [_, _, _, _, _, _, _, _, _, _, _, _, _, _, _, _, _, _, _, _, _, _]) rfl (fun _ => hcc)) rfl <| .z) fun a w S => Zk (Zn S zeroValue96 (cs := _) rfl rfl fun g1 a w S => run S (.as rfl <| .z) fun a w S => Zk (Zv S sizeOf96 (.t rfl) (.t rfl) (k := 0) rfl rfl rfl (by simp [Value.oneCell']) fun a w S => Zb (Za (hK3 _ _ (wp_seq_k fun _ hK3 => wp_region_lit (run S (.mv rfl <| .la gt96 0 rfl rfl rfl <| .z) fun a w S => Yh S (ys_callVC (cs := cs) (vs := [.agg (SLog.enc x).toArray]) (v := .bool (p x)) (.t rfl) hf (.cons (.t rfl) .nil) (fun _ w' W' => hrx w' (W'.sub (List.nil_sublist _)))) rfl ?_))))))))))))
   clear S a w
   intro a w S
   cases hp : p x with
   | true =>
     rw [hp] at S
     refine Zb (Za (hK3 _ _ (Zg S (.t rfl) (sg S (.mv rfl <| .as rfl <| .z) fun a w S => wp_ret (Zr (Ze (Ze (Zr (Ze (Zj S (results1 S results170 (Rv.tmp rfl)) ?_))))))))))
     refine ⟨?_, S.wd.below⟩
     rw [← hno, idxW, if_pos hp]
   | false =>
     rw [hp] at S
     refine Zb (Za (hK3 _ _ (Zf S (.t rfl) (wp_skip (Zm (Za (hK2 _ _ (wp_region_lit (run S (.ad (by unfold I64; omega) rfl <| .mv rfl <| .z) fun a w S => Zb (Za ?_))))))))))
     rw [idxW, if_neg (by rw [hp]; decide)] at hno
     exact ⟨k + 1, ⟨by omega, hno⟩, by omega, S.pk⟩
 · obtain rfl : k = l.length := by omega
   rw [List.drop_length] at hno
   refine sg S (.ge (by omega) rfl rfl <| .z) fun a w S => wp_seq_k fun _ hK2 => Zf S (.t rfl) (wp_exit (Zi (Zi (Zy (Za (hK1 _ _ (sg S (.ac rfl <| .z) fun a w S => wp_ret (Zj S (results1 S results170 (Rv.tmp rfl)) ?_))))))))
   exact ⟨by rw [← hno]; rfl, S.wd.below⟩
theorem x155 (w0 : World) (v : Value) (l : List SCart) (f : FuncId) (cs : List Value) (p : SCart → Bool) (hf : ∀ args w, (callFunc f args).run Tryz.prog w = .ok (.enter f args) w) (hr : ReadsV SCart.enc w0 f cs l p) (h : Sl SCart.enc 3 w0 w0.heap.size v l) :
   Calls Tryz.prog 155 #[v, .func (.func f) #[] cs.toArray] w0 fun e w' => e = .returned (.int .i64 (idxW p 0 l)) ∧ Bel w0.heap.size w0 w' := by
 obtain ⟨A, cap, rfl, hl, hcap, hA⟩ := h
 refine enter2 func155 rfl ntmps155 rfl fun a S => sg S (.ac rfl <| .z) fun a w S => wp_seq_k fun _ hK1 => sg S (.mv rfl <| .ln underlying64 rfl <| .mc rfl <| .z) fun a w S => wp_block ?_
 refine Xe S [9] (X := Nat) (fun k => [(9, true, .int .i64 (k : Int))]) (fun _ => []) (fun k => k ≤ l.length ∧ idxW p k (l.drop k) = idxW p 0 l) (fun k => l.length - k) 0 ⟨Nat.zero_le _, rfl⟩ ?_
 clear S
 intro k a w ⟨hk, hno⟩ S
 by_cases hlt : k < l.length
 · obtain ⟨gq, oq, x, rfl, hx, hd, hcc⟩ := Yk hA hlt
   rw [hd] at hno
   have hrx := fun w' W' => hr w' W' x (List.mem_of_getElem? hx)
   refine sg S (.lt (by omega) rfl rfl <| .z) fun a w S => wp_seq_k fun _ hK2 => Zg S (.t rfl) (wp_skip (Za (hK2 _ _ (wp_seq_k fun _ hK2 => wp_block (wp_seq_k fun _ hK3 => wp_region_lit (run S (.mv rfl <| .ix underlying64 sizeOf37 (by omega) rfl rfl <| .yy (Zp ⟨isAgg37, sizeOf37⟩ (.t rfl) (vs := [_, _, _]) rfl (fun _ => hcc)) rfl <| .z) fun a w S => Zk (Zn S zeroValue37 (cs := _) rfl rfl fun g1 a w S => run S (.as rfl <| .z) fun a w S => Zk (Zv S sizeOf37 (.t rfl) (.t rfl) (k := 0) rfl rfl rfl (by simp [Value.oneCell']) fun a w S => Zb (Za (hK3 _ _ (wp_seq_k fun _ hK3 => wp_region_lit (run S (.mv rfl <| .la gt37 0 rfl rfl rfl <| .z) fun a w S => Yh S (ys_callVC (cs := cs) (vs := [.agg (SCart.enc x).toArray]) (v := .bool (p x)) (.t rfl) hf (.cons (.t rfl) .nil) (fun _ w' W' => hrx w' (W'.sub (List.nil_sublist _)))) rfl ?_))))))))))))
   clear S a w
   intro a w S
   cases hp : p x with
   | true =>
     rw [hp] at S
     refine Zb (Za (hK3 _ _ (Zg S (.t rfl) (sg S (.mv rfl <| .as rfl <| .z) fun a w S => wp_ret (Zr (Ze (Ze (Zr (Ze (Zj S (results1 S results155 (Rv.tmp rfl)) ?_))))))))))
     refine ⟨?_, S.wd.below⟩
     rw [← hno, idxW, if_pos hp]
   | false =>
     rw [hp] at S
     refine Zb (Za (hK3 _ _ (Zf S (.t rfl) (wp_skip (Zm (Za (hK2 _ _ (wp_region_lit (run S (.ad (by unfold I64; omega) rfl <| .mv rfl <| .z) fun a w S => Zb (Za ?_))))))))))
     rw [idxW, if_neg (by rw [hp]; decide)] at hno
     exact ⟨k + 1, ⟨by omega, hno⟩, by omega, S.pk⟩
 · obtain rfl : k = l.length := by omega
   rw [List.drop_length] at hno
   refine sg S (.ge (by omega) rfl rfl <| .z) fun a w S => wp_seq_k fun _ hK2 => Zf S (.t rfl) (wp_exit (Zi (Zi (Zy (Za (hK1 _ _ (sg S (.ac rfl <| .z) fun a w S => wp_ret (Zj S (results1 S results155 (Rv.tmp rfl)) ?_))))))))
   exact ⟨by rw [← hno]; rfl, S.wd.below⟩
theorem c108 (w0 : World) (x : Upd) (v1 v2 v3 : Value) (u : SUpd) (g : Nat) (h : Sl Ent.enc 6 w0 w0.heap.size v1 x.seen.ents) (hr : RdCtx w0 w0.heap.size v2 v3 x.seen.ctx) (h1 : w0.cell? ⟨g, 1, none⟩ = some (.int .i64 u.1.dot.node)) (h2 : w0.cell? ⟨g, 2, none⟩ = some (.int .i64 u.1.dot.life)) (h3 : w0.cell? ⟨g, 3, none⟩ = some (.int .i64 u.1.dot.count)) (h4 : w0.cell? ⟨g, 4, none⟩ = some (.string (bs u.1.item))) :
   Calls Tryz.prog 108 #[.agg (Upd.enc x v1 v2 v3).toArray, .pointer (some ⟨g, 0, none⟩)] w0 fun e w' => e = .returned (.bool (decide (x.item = u.1.item) && x.seen.ctx.covers u.1.dot)) ∧ Bel w0.heap.size w0 w' := by
 have hdc := dot_cells (d := u.1.dot) h1 h2 h3
 by_cases he : x.item = u.1.item
 · have rw_e := decide_eq_true he
   refine enter2 func108 rfl ntmps108 rfl fun a S => wp_seq_k fun _ hK1 => wp_region_lit (Zk (Ya S (.t rfl) rfl fun g1 a w S => run S (.ac rfl <| .z) fun a w S => Zb (Za (hK1 _ _ (wp_seq_k fun _ hK1 => wp_region_lit (run S (.fa underlying77 sizeOf9 4 rfl rfl rfl <| .ld gt9 0 rfl rfl rfl <| .fa underlying77 sizeOf9 4 rfl rfl rfl <| .yy (Yn ⟨isAgg9, sizeOf9⟩ (.t rfl) (fun _ => h4)) rfl <| .yy (Xi (.t rfl) (.t rfl)) rfl <| .z) fun a w S => ?_))))))
   rw [rw_e] at S
   refine run S (.mv rfl <| .gy rfl rfl (Zc (FieldT.mk underlying77 rfl sizeOf37 rfl) (.t rfl) (i' := 7) rfl) <| .gy rfl rfl (Zc (FieldT.mk underlying37 rfl sizeOf35 rfl) (.t rfl) (i' := 8) rfl) <| .gy rfl rfl (Ye ⟨isAgg35, sizeOf35⟩ (.t rfl) (k := 0) rfl rfl) <| .gy rfl rfl (Zc (FieldT.mk underlying77 rfl sizeOf74 rfl) (.t rfl) (i' := 1) rfl) <| .gy rfl rfl (Zp ⟨isAgg74, sizeOf74⟩ (.t rfl) (vs := [_, _, _]) rfl (fun _ => hdc)) <| .gx rfl rfl (Zh call109 (.cons (.t rfl) (.cons (.t rfl) .nil)) (fun hp w W => c109 _ _ _ _ _ _ _ (by exact .old W (by assumption)))) <| .yy (Zt (.t rfl) (.t rfl)) rfl <| .as rfl <| .z) fun a w S => Zb (Za (hK1 _ _ (wp_ret (Zj S (results1 S results108 (Rv.tmp rfl)) ?_))))
   exact ⟨by rw [rw_e]; rfl, S.wd.below⟩
 · have rw_e := decide_eq_false he
   refine enter2 func108 rfl ntmps108 rfl fun a S => wp_seq_k fun _ hK1 => wp_region_lit (Zk (Ya S (.t rfl) rfl fun g1 a w S => run S (.ac rfl <| .z) fun a w S => Zb (Za (hK1 _ _ (wp_seq_k fun _ hK1 => wp_region_lit (run S (.fa underlying77 sizeOf9 4 rfl rfl rfl <| .ld gt9 0 rfl rfl rfl <| .fa underlying77 sizeOf9 4 rfl rfl rfl <| .yy (Yn ⟨isAgg9, sizeOf9⟩ (.t rfl) (fun _ => h4)) rfl <| .yy (Xi (.t rfl) (.t rfl)) rfl <| .z) fun a w S => ?_))))))
   rw [rw_e] at S
   refine run S (.mv rfl <| .sk rfl rfl rfl <| .sk rfl rfl rfl <| .sk rfl rfl rfl <| .sk rfl rfl rfl <| .sk rfl rfl rfl <| .sk rfl rfl rfl <| .yy (Zq (.t rfl) Ev.c) rfl <| .as rfl <| .z) fun a w S => Zb (Za (hK1 _ _ (wp_ret (Zj S (results1 S results108 (Rv.tmp rfl)) ?_))))
   exact ⟨by rw [rw_e]; rfl, S.wd.below⟩
end Go.Proofs.YtakpdbmdfnialaaGreat
namespace Go.Fw
open Go.RowKit
theorem Sl.len_is {α : Type} {enc : α → List Value} {size B : Nat} {w : World} {A : Option Addr} {l : List α} {n cap : Nat} (h : Sl enc size w B (.slice A n cap) l) : n = l.length := by
 obtain ⟨_, _, e, _⟩ := h
 simp only [Value.slice.injEq] at e
 exact e.2.1
theorem seen_is (l : List SUpd) (x : Upd) : decide (0 ≤ idxW (fun y : SUpd => decide (y.1.item = x.item) && y.1.seen.ctx.covers x.dot) 0 l) = seenB (l.map (·.1)) x := by
 rw [idxW_any]
 unfold seenB
 rw [List.any_map]
 rfl
end Go.Fw
namespace Go.Proofs.YtakpdbmdfnialaaGreat
open Go.Fw Go.Proofs Go.RowKit Go.Proofs.Tryz
abbrev kv143 : Dot → Value := fun d => .agg #[.int .i64 d.node, .int .i64 d.life, .int .i64 d.count]
abbrev vv143 : Unit → Value := fun _ => .agg #[]
theorem run_eqDot (a b : Dot) (w : World) : (Op.equal 74 (kv143 a) (kv143 b)).run Tryz.prog w = .ok (decide (a = b)) w := by
 have h := eq74 (x0 := a.node) (y0 := b.node) (x1 := a.life) (y1 := b.life) (x2 := a.count) (y2 := b.count)
 have e : decide (a.node = b.node ∧ a.life = b.life ∧ a.count = b.count) = decide (a = b) := decide_eq_decide.2 (by cases a; cases b; simp)
 rw [e] at h
 exact (h w).2
theorem ask_dotD (k : Dot) (β : Type) (vv : β → Value) (w : World) : ∀ (l : List (Dot × β)) (i : Nat), (Instr.findAsking 74 (kv143 k) (mL kv143 vv i l) i).run Tryz.prog w = .ok ((afind k i l).map fun p => (p.1, vv p.2)) w
 | [], i => by simp [mL, Instr.findAsking, afind]
 | (x, v) :: r, i => by
   simp only [mL, Instr.findAsking, Sem.run_bind, run_eqDot, Result.andThen_ok, afind]
   by_cases e : k = x
   · subst e
     simp
   · rw [if_neg e, decide_eq_false e]
     simpa using ask_dotD k β vv w r (i + 1)
theorem keyDot : KeyL kv143 Tryz.prog 74 := by
 refine ⟨fun k β vv l w => ?_, fun b k w => ?_, fun k => ?_, fun k k' e => ?_⟩
 · have h := ask_dotD k β vv w l 0
   cases l with
   | nil => simp [Instr.findKey, run_underlying underlying74, mL, Instr.findNow, afind]
   | cons p r => simp [Instr.findKey, run_underlying underlying74, mL, Instr.findNow, Instr.sameNow] at h ⊢; exact h
 · have hI : ∀ (n : Nat) (i : Int), (Instr.checkKey b (n + 1) 3 (.int .i64 i)).run Tryz.prog w = .ok () w := fun n i => by
     simp only [Instr.checkKey, Sem.run_bind, run_underlying underlying3, Result.andThen_ok]
     rfl
   have hc : (Instr.checkKey b (9998 + 1 + 1) 74 (kv143 k)).run Tryz.prog w = .ok () w := by
     rw [Instr.checkKey]
     simp only [Sem.run_bind, run_underlying underlying74, Result.andThen_ok]
     simp [part, isAgg3, hI]
   exact hc
 · have : Instr.sameBits (9999 + 1) (kv143 k) (kv143 k) = true := by simp [Instr.sameBits]
   exact this
 · cases k; cases k'; simp at e; simp [e]
theorem mapT143 : MapT kv143 vv143 Tryz.prog 143 () := mapT_mk underlying143 keyDot zeroValue144
theorem bld144 : BuildT Tryz.prog 144 [] [] := ⟨⟨_, zeroValue144, rfl⟩, _, underlying144, fun w => by simp⟩
theorem c39 (w0 : World) (v : Value) (l : List SUpd) (h : Sl SUpd.enc 10 w0 w0.heap.size v l) (hr : UpdsRd w0 l) (hn : l.length ≤ 1048576) (hB : RoomU (l.map (·.1))) :
   Rets Tryz.prog 39 #[v] w0 fun u L => ∃ A1 r1 A2 r2 A3 r3, u = .tuple #[.agg #[.slice A1 (meantK (l.map (·.1))).1.ents.length r1, .slice A2 (meantK (l.map (·.1))).1.ctx.marks.length r2, .slice A3 (meantK (l.map (·.1))).1.ctx.cloud.length r3], .int .i64 (meantK (l.map (·.1))).2] ∧
     L = [rowOf 100 6 Ent.enc A1 r1 (meantK (l.map (·.1))).1.ents, rowOf 30 3 Dot.enc A2 r2 (meantK (l.map (·.1))).1.ctx.marks, rowOf 74 3 Dot.enc A3 r3 (meantK (l.map (·.1))).1.ctx.cloud] := by
 have hs := h
 obtain ⟨A, cap, rfl, hl, hcap, hA⟩ := h
 have hUl : (l.map (·.1)).length = l.length := List.length_map ..
 have hUg : ∀ (i : Nat) (x : SUpd), l[i]? = some x → (l.map (·.1))[i]? = some x.1 := fun i x hx => by rw [List.getElem?_map, hx]; rfl
 have hUm : ∀ x ∈ l, x.1 ∈ l.map (·.1) := fun x hx => List.mem_map.2 ⟨x, hx, rfl⟩
 have hmet := met_fewer (l.map (·.1))
 rw [hUl] at hmet
 have hmd : (l.map (·.1)).map (·.dot) = l.map (fun x => x.1.dot) := by rw [List.map_map]; rfl
 unfold Go.Fw.Rets
 refine enter1 func39 rfl ntmps39 rfl fun a S => wp_seq_k fun _ hK1 => wp_region_lit (Zk (Zn S zeroValue37 (cs := _) rfl rfl fun g1 a w S => run S (.ac rfl <| .z) fun a w S => Zb (Za (hK1 _ _ (wp_seq_k fun _ hK1 => wp_region_lit (Zk (op_makeMap kv143 vv143 S rfl fun g2 a w S => run S (.as rfl <| .z) fun a w S => Zb (Za (hK1 _ _ (wp_seq_k fun _ hK1 => sg S (.mv rfl <| .ln underlying72 rfl <| .mc rfl <| .z) fun a w S => wp_block ?_))))))))))
 refine Xe S [22] (X := Nat) (fun q => [(22, true, .int .i64 (q : Int))]) (fun q => [.blk g2 (mapK kv143 vv143 (metD [] ((l.map (fun x => x.1.dot)).take q))), .blk g1 (.cells #[.slice none 0 0, .slice none 0 0, .slice none 0 0] 37)])
   (fun q => q ≤ l.length ∧ ∀ x ∈ l.take q, ∀ y, l[0]? = some y → x.1.key = y.1.key) (fun q => l.length - q) 0 ⟨Nat.zero_le _, by simp⟩ ?_
 clear S
 intro q a w ⟨hq, hsame⟩ S
 by_cases hlt : q < l.length
 · obtain ⟨gq, oq, x, rfl, hx, hd, hc⟩ := Yk hA hlt
   obtain ⟨gq', oq', y, e0, hy, hd0, hc0⟩ := Yk hA (show 0 < l.length by omega)
   cases e0
   have hme : (l.map (fun x => x.1.dot))[q]? = some x.1.dot := by rw [List.getElem?_map, hx]; rfl
   have hst := metD_take (m := []) hme
   generalize metD [] ((l.map (fun x => x.1.dot)).take q) = M at *
   have hz : oq + 0 * 10 = oq := by omega
   by_cases he : x.1.key = y.1.key
   · have rw_e : decide (x.1.key ≠ y.1.key) = false := decide_eq_false (fun h => h he)
     refine sg S (.lt (by omega) rfl rfl <| .z) fun a w S => wp_seq_k fun _ hK2 => Zg S (.t rfl) (wp_skip (Za (hK2 _ _ (wp_seq_k fun _ hK2 => wp_block (wp_seq_k fun _ hK3 => wp_region_lit (run S (.ix underlying72 sizeOf77 (by omega) rfl rfl <| .yy (Zp ⟨isAgg77, sizeOf77⟩ (.t rfl) (vs := [_, _, _, _, _, _, _, _, _, _]) rfl (fun _ => hc)) rfl <| .z) fun a w S => Zk (Zn S zeroValue77 (cs := _) rfl rfl fun g3 a w S => Zk (Zv S sizeOf77 (.t rfl) (.t rfl) (k := 0) rfl rfl rfl (by simp [Value.oneCell']) fun a w S => Zb (Za (hK3 _ _ (wp_seq_k fun _ hK3 => wp_region_lit (run S (.mv rfl <| .fa underlying77 sizeOf74 1 rfl rfl rfl <| .la gt74 0 rfl rfl rfl <| .yy (Xj (ps := []) (us := []) bld144 .nil rfl) rfl <| .z) fun a w S => Zk (op_mapUpd (k := x.1.dot) (v := ()) S mapT143 (.t rfl) (.t rfl) (.t rfl) (j := 1) rfl ?_)))))))))))))
     clear S a w
     intro a w S
     refine Zb (Za (hK3 _ _ (wp_seq_k fun _ hK3 => Zw S (by kernel_rfl) (by kernel_rfl) fun a S => qrun S (.fa underlying77 sizeOf9 0 rfl rfl rfl <| .ld gt9 0 rfl rfl rfl <| .mv rfl <| .yy (Yf (j := 0) underlying72 sizeOf77 (.t rfl) Ev.c (fun _ => by omega)) rfl <| .yy (Yc (FieldT.mk underlying77 rfl sizeOf9 rfl) (.t rfl)) rfl <| .yy (Yn ⟨isAgg9, sizeOf9⟩ (.t rfl) (fun _ => hc0 _ _ rfl)) rfl <| .yy (Xt (.t rfl) (.t rfl)) rfl <| .z) fun a S => ?_)))
     rw [rw_e] at S
     (refine Yv ?_; intro w W; replace S := St.mk S W; clear W)
     refine Za (hK3 _ _ (Zf S (.t rfl) (wp_skip (Zm (Za (hK2 _ _ (wp_region_lit (run S (.ad (by unfold I64; omega) rfl <| .mv rfl <| .z) fun a w S => Zb (Za ?_)))))))))
     refine ⟨q + 1, ⟨by omega, fun z hz y' hy' => ?_⟩, by omega, by rw [hst]; exact S.pk⟩
     rw [List.take_add_one, hx, Option.toList_some] at hz
     rcases List.mem_append.1 hz with hz | hz
     · exact hsame z hz y' hy'
     · rw [List.mem_singleton.1 hz, he, Option.some.inj (hy.symm.trans hy')]
   · have rw_e : decide (x.1.key ≠ y.1.key) = true := decide_eq_true he
     have hk := meant_keys (U := l.map (·.1)) (fun h => he (h _ (hUm x (List.mem_of_getElem? hx)) _ (hUm y (List.mem_of_getElem? hy))))
     rw [hk]
     refine sg S (.lt (by omega) rfl rfl <| .z) fun a w S => wp_seq_k fun _ hK2 => Zg S (.t rfl) (wp_skip (Za (hK2 _ _ (wp_seq_k fun _ hK2 => wp_block (wp_seq_k fun _ hK3 => wp_region_lit (run S (.ix underlying72 sizeOf77 (by omega) rfl rfl <| .yy (Zp ⟨isAgg77, sizeOf77⟩ (.t rfl) (vs := [_, _, _, _, _, _, _, _, _, _]) rfl (fun _ => hc)) rfl <| .z) fun a w S => Zk (Zn S zeroValue77 (cs := _) rfl rfl fun g3 a w S => Zk (Zv S sizeOf77 (.t rfl) (.t rfl) (k := 0) rfl rfl rfl (by simp [Value.oneCell']) fun a w S => Zb (Za (hK3 _ _ (wp_seq_k fun _ hK3 => wp_region_lit (run S (.mv rfl <| .fa underlying77 sizeOf74 1 rfl rfl rfl <| .la gt74 0 rfl rfl rfl <| .yy (Xj (ps := []) (us := []) bld144 .nil rfl) rfl <| .z) fun a w S => Zk (op_mapUpd (k := x.1.dot) (v := ()) S mapT143 (.t rfl) (.t rfl) (.t rfl) (j := 1) rfl ?_)))))))))))))
     clear S a w
     intro a w S
     refine Zb (Za (hK3 _ _ (wp_seq_k fun _ hK3 => Zw S (by kernel_rfl) (by kernel_rfl) fun a S => qrun S (.fa underlying77 sizeOf9 0 rfl rfl rfl <| .ld gt9 0 rfl rfl rfl <| .mv rfl <| .yy (Yf (j := 0) underlying72 sizeOf77 (.t rfl) Ev.c (fun _ => by omega)) rfl <| .yy (Yc (FieldT.mk underlying77 rfl sizeOf9 rfl) (.t rfl)) rfl <| .yy (Yn ⟨isAgg9, sizeOf9⟩ (.t rfl) (fun _ => hc0 _ _ rfl)) rfl <| .yy (Xt (.t rfl) (.t rfl)) rfl <| .z) fun a S => ?_)))
     rw [rw_e] at S
     (refine Yv ?_; intro w W; replace S := St.mk S W; clear W)
     refine Za (hK3 _ _ (Zg S (.t rfl) (wp_seq_k fun _ hK3 => wp_region_lit (run S (.yy (Xj (ps := []) (us := [_, _, _]) bld37 .nil rfl) rfl <| .z) fun a w S => Zk (Zv S sizeOf37 (.t rfl) (.t rfl) (k := 2) rfl rfl rfl (by simp [Value.oneCell']) fun a w S => run S (.ac rfl <| .z) fun a w S => Zb (Za (hK3 _ _ (wp_ret (Zr (Ze (Ze (Zr (Ze (Zj S (results2 S results39 (Rv.cell (k := 2) ⟨isAgg37, sizeOf37⟩ rfl rfl rfl) (Rv.tmp rfl)) ?_))))))))))))))
     replace S := ((S.nil_ 74 3 Dot.enc none).nil_ 30 3 Dot.enc none).nil_ 100 6 Ent.enc none
     exact ⟨_, _, rfl, S.wd.pk, none, 0, none, 0, none, 0, rfl, rfl⟩
 obtain rfl : q = l.length := by omega
 have hkeys : ∀ u ∈ l.map (·.1), ∀ v ∈ l.map (·.1), u.key = v.key := fun u hu v hv => by
   obtain ⟨x, hx, rfl⟩ := List.mem_map.1 hu
   obtain ⟨y, hy, rfl⟩ := List.mem_map.1 hv
   rw [List.take_length] at hsame
   have h0 : 0 < l.length := List.length_pos_of_mem hx
   exact (hsame x hx _ (List.getElem?_eq_getElem h0)).trans (hsame y hy _ (List.getElem?_eq_getElem h0)).symm
 rw [List.take_of_length_le (by simp)] at S
 rw [hmd] at hmet
 by_cases hone : oneU (l.map (·.1))
 rotate_left
 · have rw_m : decide (((metD [] (l.map fun x => x.1.dot)).length : Int) < (l.length : Int)) = true := by
     rw [hmet, decide_eq_false (show ¬ (l.map fun x => x.1.dot).Nodup from fun e => hone (by unfold oneU; rw [hmd]; exact e))]; rfl
   have hk := meant_dots hone
   refine sg S (.ge (by omega) rfl rfl <| .z) fun a w S => wp_seq_k fun _ hK2 => Zf S (.t rfl) (wp_exit (Zi (Zi (Zy (Za (hK1 _ _ (wp_seq_k fun _ hK1 => wp_seq_k fun _ hK3 => wp_region_lit (run S (.mv rfl <| .yy (ys_lenMap underlying143 (.t rfl) (j := 0) rfl) rfl <| .mv rfl <| .ln underlying72 rfl <| .yy (Yq (.t rfl) (.t rfl)) rfl <| .z) fun a w S => ?_))))))))
   rw [rw_m] at S
   refine Zb (Za (hK3 _ _ (Zg S (.t rfl) (wp_seq_k fun _ hK3 => wp_region_lit (run S (.yy (Xj (ps := []) (us := [_, _, _]) bld37 .nil rfl) rfl <| .z) fun a w S => Zk (Zv S sizeOf37 (.t rfl) (.t rfl) (k := 1) rfl rfl rfl (by simp [Value.oneCell']) fun a w S => run S (.ac rfl <| .z) fun a w S => Zb (Za (hK3 _ _ (wp_ret (Ze (Zj S (results2 S results39 (Rv.cell (k := 1) ⟨isAgg37, sizeOf37⟩ rfl rfl rfl) (Rv.tmp rfl)) ?_)))))))))))
   rw [hk]
   replace S := ((S.nil_ 74 3 Dot.enc none).nil_ 30 3 Dot.enc none).nil_ 100 6 Ent.enc none
   exact ⟨_, _, rfl, S.wd.pk, none, 0, none, 0, none, 0, rfl, rfl⟩
 have rw_m : decide (((metD [] (l.map fun x => x.1.dot)).length : Int) < (l.length : Int)) = false := by
   rw [hmet, decide_eq_true (show (l.map fun x => x.1.dot).Nodup from by unfold oneU at hone; rw [hmd] at hone; exact hone)]; rfl
 have hokU : okU (l.map (·.1)) := ⟨hone, hkeys⟩
 clear hsame hq
 refine sg S (.ge (by omega) rfl rfl <| .z) fun a w S => wp_seq_k fun _ hK2 => Zf S (.t rfl) (wp_exit (Zi (Zi (Zy (Za (hK1 _ _ (wp_seq_k fun _ hK1 => wp_seq_k fun _ hK3 => wp_region_lit (run S (.mv rfl <| .yy (ys_lenMap underlying143 (.t rfl) (j := 0) rfl) rfl <| .mv rfl <| .ln underlying72 rfl <| .yy (Yq (.t rfl) (.t rfl)) rfl <| .z) fun a w S => ?_))))))))
 rw [rw_m] at S
 refine Zb (Za (hK3 _ _ (Zf S (.t rfl) (wp_skip (Za (hK1 _ _ (wp_seq_k fun _ hK1 => sg S (.mv rfl <| .ln underlying72 rfl <| .mc rfl <| .z) fun a w S => wp_block ?_)))))))
 clear rw_m
 refine Xe S [47] (X := Nat) (fun q => [(47, true, .int .i64 (q : Int))]) (fun q => [.blk g1 (.cells #[.slice none 0 0, .slice none 0 0, .slice none 0 0] 37)])
   (fun q => q ≤ l.length ∧ firstE ((l.map (·.1)).drop q) = firstE (l.map (·.1))) (fun q => l.length - q) 0 ⟨Nat.zero_le _, rfl⟩ ?_
 clear S
 intro q a w ⟨hq, hfe⟩ S
 by_cases hlt : q < l.length
 · obtain ⟨gq, oq, x, rfl, hx, hd, hc⟩ := Yk hA hlt
   have r1 := (hr x (List.mem_of_getElem? hx)).ents
   have r2 := (hr x (List.mem_of_getElem? hx)).ctx
   rw [firstE_at (hUg q x hx)] at hfe
   by_cases hm : mayE x.1 = 0
   · have rw_hm := hm
     rw [if_pos hm] at hfe
     refine sg S (.lt (by omega) rfl rfl <| .z) fun a w S => wp_seq_k fun _ hK3 => Zg S (.t rfl) (wp_skip (Za (hK3 _ _ (wp_seq_k fun _ hK3 => wp_block (wp_seq_k fun _ hK4 => wp_region_lit (run S (.ix underlying72 sizeOf77 (by omega) rfl rfl <| .yy (Zp ⟨isAgg77, sizeOf77⟩ (.t rfl) (vs := [_, _, _, _, _, _, _, _, _, _]) rfl (fun _ => hc)) rfl <| .z) fun a w S => Zk (Zn S zeroValue77 (cs := _) rfl rfl fun g3 a w S => Zk (Zv S sizeOf77 (.t rfl) (.t rfl) (k := 0) rfl rfl rfl (by simp [Value.oneCell']) fun a w S => Zb (Za (hK4 _ _ (wp_seq_k fun _ hK4 => wp_region_lit (run S (.la gt77 0 rfl rfl rfl <| .xx (Zh call106 (.cons (.t rfl) .nil) (fun hp w W => c106 _ _ _ _ _ (by exact .old W (by assumption)) (by exact .old W (by assumption)))) rfl <| .z) fun a w S => ?_))))))))))))
     rw [rw_hm] at S
     refine run S (.as rfl <| .z) fun a w S => Zb (Za (hK4 _ _ (sg S (.mv rfl <| .yy (Ym (by omega) (Yt (.t rfl) Ev.c)) rfl <| .z) fun a w S => Zf S (.t rfl) (wp_skip (Zm (Za (hK3 _ _ (wp_region_lit (run S (.ad (by unfold I64; omega) rfl <| .mv rfl <| .z) fun a w S => Zb (Za ?_))))))))))
     exact ⟨q + 1, ⟨by omega, hfe⟩, by omega, S.pk⟩
   · have rw_hm : decide (mayE x.1 ≠ 0) = true := decide_eq_true hm
     rw [if_neg hm] at hfe
     have hk := meant_first hokU (by rw [← hfe]; exact hm)
     rw [← hfe] at hk
     refine sg S (.lt (by omega) rfl rfl <| .z) fun a w S => wp_seq_k fun _ hK3 => Zg S (.t rfl) (wp_skip (Za (hK3 _ _ (wp_seq_k fun _ hK3 => wp_block (wp_seq_k fun _ hK4 => wp_region_lit (run S (.ix underlying72 sizeOf77 (by omega) rfl rfl <| .yy (Zp ⟨isAgg77, sizeOf77⟩ (.t rfl) (vs := [_, _, _, _, _, _, _, _, _, _]) rfl (fun _ => hc)) rfl <| .z) fun a w S => Zk (Zn S zeroValue77 (cs := _) rfl rfl fun g3 a w S => Zk (Zv S sizeOf77 (.t rfl) (.t rfl) (k := 0) rfl rfl rfl (by simp [Value.oneCell']) fun a w S => Zb (Za (hK4 _ _ (sg S (.la gt77 0 rfl rfl rfl <| .xx (Zh call106 (.cons (.t rfl) .nil) (fun hp w W => c106 _ _ _ _ _ (by exact .old W (by assumption)) (by exact .old W (by assumption)))) rfl <| .as rfl <| .z) fun a w S => sg S (.mv rfl <| .yy (Yu (by omega) (Yt (.t rfl) Ev.c)) rfl <| .z) fun a w S => Zg S (.t rfl) (wp_seq_k fun _ hK4 => wp_region_lit (run S (.yy (Xj (ps := []) (us := [_, _, _]) bld37 .nil rfl) rfl <| .mv rfl <| .z) fun a w S => Zk (Zv S sizeOf37 (.t rfl) (.t rfl) (k := 1) rfl rfl rfl (by simp [Value.oneCell']) fun a w S => run S (.as rfl <| .z) fun a w S => Zb (Za (hK4 _ _ (wp_ret ?_)))))))))))))))))
     refine Zr (Ze (Ze (Zr (Ze (Zj S (results2 S results39 (Rv.cell (k := 1) ⟨isAgg37, sizeOf37⟩ rfl rfl rfl) (Rv.tmp rfl)) ?_)))))
     rw [hk]
     replace S := ((S.nil_ 74 3 Dot.enc none).nil_ 30 3 Dot.enc none).nil_ 100 6 Ent.enc none
     exact ⟨_, _, rfl, S.wd.pk, none, 0, none, 0, none, 0, rfl, rfl⟩
 obtain rfl : q = l.length := by omega
 rw [List.drop_of_length_le (by simp)] at hfe
 have hfe0 : firstE (l.map (·.1)) = 0 := hfe.symm
 have hmay := firstE_ok.1 hfe0
 obtain ⟨hB1, hB2⟩ := hB hmay
 clear hfe hq
 refine sg S (.ge (by omega) rfl rfl <| .z) fun a w S => wp_seq_k fun _ hK3 => Zf S (.t rfl) (wp_exit (Zi (Zi (Zy (Za (hK1 _ _ (wp_seq_k fun _ hK1 => wp_region_lit (Zk (Zn S zeroValue37 (cs := _) rfl rfl fun g3 a w S => Zb (Za (hK1 _ _ (sg S (.ac rfl <| .z) fun a w S => sg S (.ac rfl <| .z) fun a w S => wp_seq_k fun _ hK1 => sg S (.mv rfl <| .ln underlying72 rfl <| .mc rfl <| .z) fun a w S => wp_block ?_))))))))))))
 replace S := ((S.nil_ 74 3 Dot.enc none).nil_ 30 3 Dot.enc none).nil_ 100 6 Ent.enc none
 replace S : St 128 w0 [(60, true, .int .i64 0), (59, true, .int .i64 (l.length : Int)), (58, true, .slice A l.length cap), (12, true, .slice none 0 0), (11, true, .slice none 0 0), (10, true, .pointer (some ⟨g3, 0, none⟩)), (3, true, .int .i64 0), (2, true, .pointer (some ⟨g1, 0, none⟩)), (0, true, .slice A l.length cap)]
   [rowOf 100 6 Ent.enc none 0 [], rowOf 30 3 Dot.enc none 0 [], rowOf 74 3 Dot.enc none 0 [], .blk g3 (.cells #[.slice none 0 0, .slice none 0 0, .slice none 0 0] 37), .blk g1 (.cells #[.slice none 0 0, .slice none 0 0, .slice none 0 0] 37)] _ _ := S.pk
 refine Xe S [11, 12, 60] (X := Nat × (Option Addr × Nat) × (Option Addr × Nat) × (Option Addr × Nat)) (fun q => [(11, true, .slice q.2.1.1 (marksU ((l.map (·.1)).take q.1)).length q.2.1.2), (12, true, .slice q.2.2.1.1 (dotsU ((l.map (·.1)).take q.1)).length q.2.2.1.2), (60, true, .int .i64 (q.1 : Int))])
   (fun q => [rowOf 100 6 Ent.enc q.2.2.2.1 q.2.2.2.2 (keptU (l.map (·.1)) ((l.map (·.1)).take q.1)), rowOf 30 3 Dot.enc q.2.1.1 q.2.1.2 (marksU ((l.map (·.1)).take q.1)), rowOf 74 3 Dot.enc q.2.2.1.1 q.2.2.1.2 (dotsU ((l.map (·.1)).take q.1)),
     .blk g3 (.cells #[.slice q.2.2.2.1 (keptU (l.map (·.1)) ((l.map (·.1)).take q.1)).length q.2.2.2.2, .slice none 0 0, .slice none 0 0] 37), .blk g1 (.cells #[.slice none 0 0, .slice none 0 0, .slice none 0 0] 37)])
   (fun q => q.1 ≤ l.length) (fun q => l.length - q.1) (0, (none, 0), (none, 0), (none, 0)) (Nat.zero_le _) ?_
 clear S
 rintro ⟨q, ⟨Am, cm⟩, ⟨Ad, cd⟩, ⟨Ae, ce⟩⟩ a w hq S
 dsimp only at hq S
 have hml := marks_le (l.map (·.1)) q
 have hdl := dots_le (l.map (·.1)) q
 have hel := kept_len (l.map (·.1)) ((l.map (·.1)).take q)
 rw [List.length_take, hUl] at hel
 by_cases hlt : q < l.length
 · obtain ⟨gq, oq, x, rfl, hx, hd, hc⟩ := Yk hA hlt
   have r1 := (hr x (List.mem_of_getElem? hx)).ents
   have r3 := (hr x (List.mem_of_getElem? hx)).marks
   have r4 := (hr x (List.mem_of_getElem? hx)).cloud
   have rw_n2 : x.2.n2 = x.1.seen.ctx.marks.length := Sl.len_is r3
   have rw_n3 : x.2.n3 = x.1.seen.ctx.cloud.length := Sl.len_is r4
   rw [rw_n2] at r3
   rw [rw_n3] at r4
   have hxo := mayE_ok (hmay _ (hUm x (List.mem_of_getElem? hx)))
   have hxl := can_len hxo.seen.ctx
   have hst1 := marks_take (hUg q x hx)
   have hst2 := dots_take (hUg q x hx)
   have hst3 := kept_take (U := l.map (·.1)) (hUg q x hx)
   have rw_sb := seen_is l x.1
   generalize marksU ((l.map (·.1)).take q) = M at *
   generalize dotsU ((l.map (·.1)).take q) = D at *
   generalize keptU (l.map (·.1)) ((l.map (·.1)).take q) = E at *
   have halt_d := trivial
   refine sg S (.lt (by omega) rfl rfl <| .z) fun a w S => wp_seq_k fun _ hK4 => Zg S (.t rfl) (wp_skip (Za (hK4 _ _ (wp_seq_k fun _ hK4 => wp_block (wp_seq_k fun _ hK5 => wp_region_lit (run S (.ix underlying72 sizeOf77 (by omega) rfl rfl <| .yy (Zp ⟨isAgg77, sizeOf77⟩ (.t rfl) (vs := [_, _, _, _, _, _, _, _, _, _]) rfl (fun _ => hc)) rfl <| .z) fun a w S => ?_))))))
   rw [rw_n2] at S
   rw [rw_n3] at S
   refine Zk (Zn S zeroValue77 (cs := _) rfl rfl fun g4 a w S => Zk (Zv S sizeOf77 (.t rfl) (.t rfl) (k := 0) rfl rfl rfl (by simp [Value.oneCell']) fun a w S => Zb (Za (hK5 _ _ (wp_seq_k fun _ hK5 => wp_region_lit (run S (.mv rfl <| .fa underlying77 sizeOf37 7 rfl rfl rfl <| .fa underlying37 sizeOf35 8 rfl rfl rfl <| .fa underlying35 sizeOf32 8 rfl rfl rfl <| .ld gt32 0 rfl rfl rfl <| .z) fun a w S => Zk (Xu _ S underlying32 underlying32 (.inr ⟨_, rfl⟩) inf30 rfl (k := 2) rfl (.t rfl) (.t rfl) (Src.sl (Sl.old S.wd r3) (by decide) Go.Fw.Dot.enc_len Go.Fw.Dot.enc_one) (by first | omega | (simp only [List.length_append, List.length_cons, List.length_nil]; omega) | (simp; omega)) rfl rfl rfl fun A1 cap1 a w S => run S (.as rfl <| .z) fun a w S => Zb (Za (hK5 _ _ (wp_seq_k fun _ hK5 => ?_))))))))))
   clear halt_d
   refine Code.wp_mono (Q := fun e a w => match e with
     | .normal => ∃ Bd bd, St 128 w0 [(12, true, .slice Bd ((D ++ x.1.seen.ctx.cloud) ++ [x.1.dot]).length bd), (11, true, .slice A1 (M ++ x.1.seen.ctx.marks).length cap1), (14, true, .pointer (some ⟨g4, 0, none⟩)), (60, true, .int .i64 (q : Int)), (59, true, .int .i64 (l.length : Int)), (58, true, .slice (some ⟨gq, oq, none⟩) l.length cap), (10, true, .pointer (some ⟨g3, 0, none⟩)), (3, true, .int .i64 0), (2, true, .pointer (some ⟨g1, 0, none⟩)), (0, true, .slice (some ⟨gq, oq, none⟩) l.length cap)]
         [rowOf 74 3 Dot.enc Bd bd ((D ++ x.1.seen.ctx.cloud) ++ [x.1.dot]), .blk g4 (.cells (Upd.enc x.1 (.slice x.2.a1 x.2.n1 x.2.c1) (.slice x.2.a2 x.1.seen.ctx.marks.length x.2.c2) (.slice x.2.a3 x.1.seen.ctx.cloud.length x.2.c3)).toArray 77), rowOf 100 6 Ent.enc Ae ce E, rowOf 30 3 Dot.enc A1 cap1 (M ++ x.1.seen.ctx.marks),
           .blk g3 (.cells #[.slice Ae E.length ce, .slice none 0 0, .slice none 0 0] 37), .blk g1 (.cells #[.slice none 0 0, .slice none 0 0, .slice none 0 0] 37)] a w
     | _ => False) (fun e a w qq => ?_) ?_
   rotate_left
   · have hold_r := trivial
     have lr_nil := trivial
     refine h_begin S (by kernel_rfl) [] fun a w S => hy 0 S rfl (Zd (.t rfl)) rfl fun a w S => hy 1 S rfl (Zc (FieldT.mk underlying77 rfl sizeOf37 rfl) (.t rfl) (i' := 7) rfl) rfl fun a w S => hy 2 S rfl (Zc (FieldT.mk underlying37 rfl sizeOf35 rfl) (.t rfl) (i' := 8) rfl) rfl fun a w S => hy 3 S rfl (Zc (FieldT.mk underlying35 rfl sizeOf33 rfl) (.t rfl) (i' := 9) rfl) rfl fun a w S => ?_
     refine hy 6 S rfl (Zc (FieldT.mk underlying77 rfl sizeOf74 rfl) (.t rfl) (i' := 1) rfl) rfl fun a w S => ?_
     refine Xz (i := 4) (j := 7) (by kernel_rfl) rfl rfl ?_ ?_
     (refine op_y S (Yr.ys (Zu ⟨isAgg33, sizeOf33⟩ (.t rfl) (k := 0) rfl rfl)) rfl ?_; clear S a w; intro a w S; refine Yi S ?_)
     refine Xz (i := 5) (j := 7) (by kernel_rfl) rfl rfl ?_ ?_
     (refine Xu _ S underlying33 underlying33 (.inr ⟨_, rfl⟩) inf74 rfl (k := 3) rfl (.t rfl) (.t rfl) (Src.sl (Sl.old S.wd r4) (by decide) Go.Fw.Dot.enc_len Go.Fw.Dot.enc_one) (by first | omega | (simp only [List.length_append, List.length_cons, List.length_nil]; omega) | (simp; omega)) rfl rfl rfl ?_; clear S a w; intro A2 cap2 a w S; refine Yi S ?_)
     refine h_q (i := 7) S (by repeat (first | exact List.Sublist.refl _ | exact List.nil_sublist _ | refine .cons_cons _ ?_ | refine .cons _ ?_)) rfl (by kernel_rfl) (Yr.ys (Ye ⟨isAgg74, sizeOf74⟩ (.t rfl) (k := 0) rfl rfl)) rfl fun a w S => ?_
     (refine h_m (i := 8) rfl (by kernel_rfl) (Yp S underlying33 inf74 rfl rfl rfl (.t rfl) rfl rfl rfl ?_); clear S a w; intro g5 a w S; refine Yi S ?_)
     (refine h_m (i := 9) rfl (by kernel_rfl) (Xp S underlying33 inf74 rfl (k := 4) (j := 0) rfl (.t rfl) (.t rfl) rfl Go.Fw.Dot.mkEnc rfl rfl (by first | omega | (simp only [List.length_append, List.length_cons, List.length_nil]; omega)) rfl rfl rfl ?_); clear S a w; intro A3 cap3 a w S; refine Yi S ?_)
     refine hy 10 S rfl (Yb (.t rfl)) rfl fun a w S => Yz (by kernel_rfl) ?_
     rotate_left
     (refine op_y S (Yr.ys (Ye ⟨isAgg74, sizeOf74⟩ (.t rfl) (k := 0) rfl rfl)) rfl ?_; clear S a w; intro a w S; refine Yi S ?_)
     refine Xz (i := 5) (j := 8) (by kernel_rfl) rfl rfl ?_ ?_
     (refine Xu _ S underlying33 underlying33 (.inr ⟨_, rfl⟩) inf74 rfl (k := 3) rfl (.t rfl) (.t rfl) (Src.sl (Sl.old S.wd r4) (by decide) Go.Fw.Dot.enc_len Go.Fw.Dot.enc_one) (by first | omega | (simp only [List.length_append, List.length_cons, List.length_nil]; omega) | (simp; omega)) rfl rfl rfl ?_; clear S a w; intro A2 cap2 a w S; refine Yi S ?_)
     (refine h_m (i := 8) rfl (by kernel_rfl) (Yp S underlying33 inf74 rfl rfl rfl (.t rfl) rfl rfl rfl ?_); clear S a w; intro g5 a w S; refine Yi S ?_)
     (refine h_m (i := 9) rfl (by kernel_rfl) (Xp S underlying33 inf74 rfl (k := 4) (j := 0) rfl (.t rfl) (.t rfl) rfl Go.Fw.Dot.mkEnc rfl rfl (by first | omega | (simp only [List.length_append, List.length_cons, List.length_nil]; omega)) rfl rfl rfl ?_); clear S a w; intro A3 cap3 a w S; refine Yi S ?_)
     refine hy 10 S rfl (Yb (.t rfl)) rfl fun a w S => Yz (by kernel_rfl) ?_
     rotate_left
     (refine Yp S underlying33 inf74 rfl rfl rfl (.t rfl) rfl rfl rfl ?_; clear S a w; intro g5 a w S; refine Yi S ?_)
     (refine h_m (i := 5) rfl (by kernel_rfl) (Xu _ S underlying33 underlying33 (.inr ⟨_, rfl⟩) inf74 rfl (k := 4) rfl (.t rfl) (.t rfl) (Src.sl (Sl.old S.wd r4) (by decide) Go.Fw.Dot.enc_len Go.Fw.Dot.enc_one) (by first | omega | (simp only [List.length_append, List.length_cons, List.length_nil]; omega) | (simp; omega)) rfl rfl rfl ?_); clear S a w; intro A2 cap2 a w S; refine Yi S ?_)
     (refine h_m (i := 9) rfl (by kernel_rfl) (Xp S underlying33 inf74 rfl (k := 4) (j := 0) rfl (.t rfl) (.t rfl) rfl Go.Fw.Dot.mkEnc rfl rfl (by first | omega | (simp only [List.length_append, List.length_cons, List.length_nil]; omega)) rfl rfl rfl ?_); clear S a w; intro A3 cap3 a w S; refine Yi S ?_)
     refine hy 10 S rfl (Yb (.t rfl)) rfl fun a w S => Yz (by kernel_rfl) ?_
     rotate_left
     (refine op_y S (Yr.ys (Ye ⟨isAgg74, sizeOf74⟩ (.t rfl) (k := 0) rfl rfl)) rfl ?_; clear S a w; intro a w S; refine Yi S ?_)
     refine Xz (i := 4) (j := 8) (by kernel_rfl) rfl rfl ?_ ?_
     (refine op_y S (Yr.ys (Zu ⟨isAgg33, sizeOf33⟩ (.t rfl) (k := 0) rfl rfl)) rfl ?_; clear S a w; intro a w S; refine Yi S ?_)
     refine Xz (i := 5) (j := 8) (by kernel_rfl) rfl rfl ?_ ?_
     (refine Xu _ S underlying33 underlying33 (.inr ⟨_, rfl⟩) inf74 rfl (k := 3) rfl (.t rfl) (.t rfl) (Src.sl (Sl.old S.wd r4) (by decide) Go.Fw.Dot.enc_len Go.Fw.Dot.enc_one) (by first | omega | (simp only [List.length_append, List.length_cons, List.length_nil]; omega) | (simp; omega)) rfl rfl rfl ?_; clear S a w; intro A2 cap2 a w S; refine Yi S ?_)
     (refine h_m (i := 8) rfl (by kernel_rfl) (Yp S underlying33 inf74 rfl rfl rfl (.t rfl) rfl rfl rfl ?_); clear S a w; intro g5 a w S; refine Yi S ?_)
     (refine h_m (i := 9) rfl (by kernel_rfl) (Xp S underlying33 inf74 rfl (k := 4) (j := 0) rfl (.t rfl) (.t rfl) rfl Go.Fw.Dot.mkEnc rfl rfl (by first | omega | (simp only [List.length_append, List.length_cons, List.length_nil]; omega)) rfl rfl rfl ?_); clear S a w; intro A3 cap3 a w S; refine Yi S ?_)
     refine hy 10 S rfl (Yb (.t rfl)) rfl fun a w S => Yz (by kernel_rfl) ?_
     rotate_left
     (refine Yp S underlying33 inf74 rfl rfl rfl (.t rfl) rfl rfl rfl ?_; clear S a w; intro g5 a w S; refine Yi S ?_)
     (refine h_m (i := 5) rfl (by kernel_rfl) (Xu _ S underlying33 underlying33 (.inr ⟨_, rfl⟩) inf74 rfl (k := 4) rfl (.t rfl) (.t rfl) (Src.sl (Sl.old S.wd r4) (by decide) Go.Fw.Dot.enc_len Go.Fw.Dot.enc_one) (by first | omega | (simp only [List.length_append, List.length_cons, List.length_nil]; omega) | (simp; omega)) rfl rfl rfl ?_); clear S a w; intro A2 cap2 a w S; refine Yi S ?_)
     (refine h_m (i := 9) rfl (by kernel_rfl) (Xp S underlying33 inf74 rfl (k := 4) (j := 0) rfl (.t rfl) (.t rfl) rfl Go.Fw.Dot.mkEnc rfl rfl (by first | omega | (simp only [List.length_append, List.length_cons, List.length_nil]; omega)) rfl rfl rfl ?_); clear S a w; intro A3 cap3 a w S; refine Yi S ?_)
     refine hy 10 S rfl (Yb (.t rfl)) rfl fun a w S => Yz (by kernel_rfl) ?_
     rotate_left
     (refine Yp S underlying33 inf74 rfl rfl rfl (.t rfl) rfl rfl rfl ?_; clear S a w; intro g5 a w S; refine Yi S ?_)
     refine h_q (i := 4) S (by repeat (first | exact List.Sublist.refl _ | exact List.nil_sublist _ | refine .cons_cons _ ?_ | refine .cons _ ?_)) rfl (by kernel_rfl) (Yr.ys (Zu ⟨isAgg33, sizeOf33⟩ (.t rfl) (k := 1) rfl rfl)) rfl fun a w S => ?_
     (refine h_m (i := 5) rfl (by kernel_rfl) (Xu _ S underlying33 underlying33 (.inr ⟨_, rfl⟩) inf74 rfl (k := 4) rfl (.t rfl) (.t rfl) (Src.sl (Sl.old S.wd r4) (by decide) Go.Fw.Dot.enc_len Go.Fw.Dot.enc_one) (by first | omega | (simp only [List.length_append, List.length_cons, List.length_nil]; omega) | (simp; omega)) rfl rfl rfl ?_); clear S a w; intro A2 cap2 a w S; refine Yi S ?_)
     (refine h_m (i := 9) rfl (by kernel_rfl) (Xp S underlying33 inf74 rfl (k := 4) (j := 0) rfl (.t rfl) (.t rfl) rfl Go.Fw.Dot.mkEnc rfl rfl (by first | omega | (simp only [List.length_append, List.length_cons, List.length_nil]; omega)) rfl rfl rfl ?_); clear S a w; intro A3 cap3 a w S; refine Yi S ?_)
     refine hy 10 S rfl (Yb (.t rfl)) rfl fun a w S => Yz (by kernel_rfl) ?_
     rotate_left
     all_goals exact ⟨_, _, S.pk⟩
   clear S
   rcases e with _ | _ | _ | _ | _ | _ | _
   any_goals exact qq.elim
   obtain ⟨Bd, bd, S⟩ := qq
   refine Za ?_
   first | refine hK9 _ _ ?_ | refine hK8 _ _ ?_ | refine hK7 _ _ ?_ | refine hK6 _ _ ?_ | refine hK5 _ _ ?_ | refine hK4 _ _ ?_ | refine hK3 _ _ ?_ | refine hK2 _ _ ?_ | refine hK1 _ _ ?_
   refine wp_seq_k fun _ hK6 => wp_region_lit (run S (.mv rfl <| .yy (ys_mkFunc (.cons (.t rfl) .nil)) rfl <| .z) fun a w S => ?_)
   refine Yh S (Zh call107 (.cons (.t rfl) (.cons (.t rfl) .nil)) (fun _ w' W' => x107 w' _ l 108 [.pointer (some ⟨g4, 0, none⟩)] (fun y => decide (y.1.item = x.1.item) && y.1.seen.ctx.covers x.1.dot) call108
     (fun w'' W'' y hy => c108 w'' y.1 _ _ _ x g4 (((hr y hy).old W').old W'').ents (((hr y hy).old W').old W'').ctx (Wd.cellOld W'' (Wd.cell W' (k := 1) rfl rfl)) (Wd.cellOld W'' (Wd.cell W' (k := 1) rfl rfl)) (Wd.cellOld W'' (Wd.cell W' (k := 1) rfl rfl)) (Wd.cellOld W'' (Wd.cell W' (k := 1) rfl rfl))) (Sl.old W' hs))) rfl ?_
   clear S a w
   intro a w S
   by_cases hqt : 0 < x.1.qty
   · have rw_q := decide_eq_true hqt
     cases hsb : seenB (l.map (·.1)) x.1 with
     | true =>
       rw [hsb] at rw_sb
       rw [hsb, Bool.not_true, Bool.and_false, if_neg (by decide), List.append_nil] at hst3
       refine run S (.yy (Xd (.t rfl) Ev.c) rfl <| .z) fun a w S => ?_
       rw [rw_sb] at S
       refine run S (.as rfl <| .z) fun a w S => Zb (Za (hK6 _ _ (sg S (.fa underlying77 sizeOf3 5 rfl rfl rfl <| .ld gt3 1 rfl rfl rfl <| .yy (Yu (by omega) (Yj (.t rfl) Ev.c)) rfl <| .mv rfl <| .gy rfl rfl (Zd (.t rfl)) <| .gy rfl rfl (Xg (.t rfl)) <| .yy (Zt (.t rfl) (.t rfl)) rfl <| .z) fun a w S => Zf S (.t rfl) (wp_skip (Zm (Za (hK4 _ _ (wp_region_lit (run S (.ad (by unfold I64; omega) rfl <| .mv rfl <| .z) fun a w S => Zb (Za ?_))))))))))
       exact ⟨(q + 1, (A1, cap1), (Bd, bd), (Ae, ce)), by dsimp only; omega, by dsimp only; omega, by dsimp only; rw [hst1, hst2, hst3]; exact S.pk⟩
     | false =>
       rw [hsb] at rw_sb
       rw [hsb, rw_q, Bool.not_false, Bool.and_true, if_pos rfl] at hst3
       have rw_ent : #[Value.string (bs x.1.item), .int .i64 x.1.dot.node, .int .i64 x.1.dot.life, .int .i64 x.1.dot.count, .int .i64 x.1.qty, .int .u64 (x.1.price.toNat : Int)] = (Ent.enc x.1.ent).toArray := rfl
       refine run S (.yy (Xd (.t rfl) Ev.c) rfl <| .z) fun a w S => ?_
       rw [rw_sb] at S
       refine run S (.as rfl <| .z) fun a w S => Zb (Za (hK6 _ _ (sg S (.fa underlying77 sizeOf3 5 rfl rfl rfl <| .ld gt3 1 rfl rfl rfl <| .yy (Yu (by omega) (Yj (.t rfl) Ev.c)) rfl <| .mv rfl <| .gy rfl rfl (Zd (.t rfl)) <| .gy rfl rfl (Xg (.t rfl)) <| .yy (Zt (.t rfl) (.t rfl)) rfl <| .z) fun a w S => Zg S (.t rfl) (wp_region_lit (run S (.fa underlying37 sizeOf31 0 rfl rfl rfl <| .ld gt31 4 rfl rfl rfl <| .fa underlying77 sizeOf9 4 rfl rfl rfl <| .ld gt9 1 rfl rfl rfl <| .fa underlying77 sizeOf74 1 rfl rfl rfl <| .la gt74 1 rfl rfl rfl <| .fa underlying77 sizeOf3 5 rfl rfl rfl <| .ld gt3 1 rfl rfl rfl <| .fa underlying77 sizeOf75 6 rfl rfl rfl <| .ld gt75 1 rfl rfl rfl <| .yy (Xj (ps := [(0, Go.Operand.tmp 94), (1, Go.Operand.tmp 96), (2, Go.Operand.tmp 98), (3, Go.Operand.tmp 100)]) (us := [_, _, _, _, _, _]) bld100 (.cons (.t rfl) (.cons (.t rfl) (.cons (.t rfl) (.cons (.t rfl) .nil)))) rfl) rfl <| .z) fun a w S => ?_)))))
       rw [rw_ent] at S
       refine Zk (Yp S underlying31 inf100 rfl rfl rfl (.t rfl) rfl rfl rfl fun g5 a w S => ?_)
       rw [rw_ent] at S
       refine Zk (Xp S underlying31 inf100 rfl (k := 3) (j := 0) rfl (.t rfl) (.t rfl) rfl rfl rfl rfl (by first | omega | (simp only [List.length_append, List.length_cons, List.length_nil]; omega)) rfl rfl rfl fun A2 cap2 a w S => ?_)
       rw [rw_ent] at S
       refine run S (.fa underlying37 sizeOf31 0 rfl rfl rfl <| .z) fun a w S => ?_
       rw [rw_ent] at S
       refine Zk (op_st S sizeOf31 (.t rfl) (.t rfl) (k := 5) rfl rfl (by simp) fun a w S => ?_)
       rw [rw_ent] at S
       refine Zb ?_
       rw [rw_ent] at S
       refine Zm (Za (hK4 _ _ ?_))
       rw [rw_ent] at S
       refine wp_region_lit ?_
       rw [rw_ent] at S
       refine run S (.ad (by unfold I64; omega) rfl <| .z) fun a w S => ?_
       rw [rw_ent] at S
       refine run S (.mv rfl <| .z) fun a w S => ?_
       rw [rw_ent] at S
       refine Zb ?_
       rw [rw_ent] at S
       refine Za ?_
       rw [rw_ent] at S
       exact ⟨(q + 1, (A1, cap1), (Bd, bd), (A2, cap2)), by dsimp only; omega, by dsimp only; omega, by dsimp only; rw [hst1, hst2, hst3]; exact S.pk⟩
   · have rw_q := decide_eq_false hqt
     rw [rw_q, Bool.false_and, if_neg (by decide), List.append_nil] at hst3
     refine run S (.yy (Xd (.t rfl) Ev.c) rfl <| .z) fun a w S => ?_
     rw [rw_sb] at S
     refine run S (.as rfl <| .z) fun a w S => Zb (Za (hK6 _ _ (sg S (.fa underlying77 sizeOf3 5 rfl rfl rfl <| .ld gt3 1 rfl rfl rfl <| .yy (Ym (by omega) (Yj (.t rfl) Ev.c)) rfl <| .mv rfl <| .sk rfl rfl rfl <| .sk rfl rfl rfl <| .yy (Zq (.t rfl) Ev.c) rfl <| .z) fun a w S => Zf S (.t rfl) (wp_skip (Zm (Za (hK4 _ _ (wp_region_lit (run S (.ad (by unfold I64; omega) rfl <| .mv rfl <| .z) fun a w S => Zb (Za ?_))))))))))
     exact ⟨(q + 1, (A1, cap1), (Bd, bd), (Ae, ce)), by dsimp only; omega, by dsimp only; omega, by dsimp only; rw [hst1, hst2, hst3]; exact S.pk⟩
 obtain rfl : q = l.length := by omega
 rw [List.take_of_length_le (by rw [hUl]; exact Nat.le_refl _)] at S
 have hes := kept_may (U := l.map (·.1)) hmay
 have hed := kept_dots (U := l.map (·.1)) hone
 have hel := kept_len (l.map (·.1)) (l.map (·.1))
 rw [hUl] at hel
 have hC : meantC (l.map (·.1)) = ⟨sortI (keptU (l.map (·.1)) (l.map (·.1))), (normalL (marksU (l.map (·.1))) (dotsU (l.map (·.1)))).1⟩ := rfl
 have hKn : knownU (l.map (·.1)) = normalL (marksU (l.map (·.1))) (dotsU (l.map (·.1))) := rfl
 have ho1 := meant_known hokU hfe0
 have ho2 := meant_can hokU hfe0
 have ho3 := meant_ok hokU hfe0
 rw [hKn] at ho1 ho2 ho3
 rw [hC] at ho2 ho3
 generalize meantK (l.map (·.1)) = R at *
 generalize marksU (l.map (·.1)) = M at *
 generalize dotsU (l.map (·.1)) = D at *
 generalize keptU (l.map (·.1)) (l.map (·.1)) = E at *
 have hsr := sortI_sorted hed
 have hsm : ∀ x, x ∈ sortI E ↔ x ∈ E := fun x => sortI_mem
 have hsl := sortI_len E
 have hEn : E.length ≤ 4194304 := by omega
 have hMn : M.length ≤ 2097152 := by omega
 have hDn : D.length ≤ 2097152 := by omega
 generalize sortI E = F at *
 by_cases hN : (normalL M D).2 = 0
 rotate_left
 · have rw_N : decide ((normalL M D).2 ≠ 0) = true := decide_eq_true hN
   have hk := ho1 hN
   refine sg S (.ge (by omega) rfl rfl <| .z) fun a w S => wp_seq_k fun _ hK4 => Zf S (.t rfl) (wp_exit (Zi (Zi (Zy (Za (hK1 _ _ (wp_seq_k fun _ hK1 => wp_region_lit (run S (.fa underlying37 sizeOf31 0 rfl rfl rfl <| .ld gt31 3 rfl rfl rfl <| .z) fun a w S => ?_))))))))
   (refine Zk (op_callO S call110 (.cons (.t rfl) (.cons Ev.f .nil)) (o110 S.wd (by first | assumption | omega | (dsimp only; omega) | exact Sl.nil_ | exact .old S.wd (by assumption) | exact Sl.of_own S.wd (k := 0) rfl (fun _ => rfl) | exact Sl.of_own S.wd (k := 1) rfl (fun _ => rfl) | exact Sl.of_own S.wd (k := 2) rfl (fun _ => rfl) | exact Sl.of_own S.wd (k := 3) rfl (fun _ => rfl) | exact Sl.of_own S.wd (k := 4) rfl (fun _ => rfl) | (intro _ W'; first | exact .old W' (by assumption) | exact Sl.of_own W' (k := 0) rfl (fun _ => rfl) | exact Sl.of_own W' (k := 1) rfl (fun _ => rfl) | exact Sl.of_own W' (k := 2) rfl (fun _ => rfl) | exact Sl.of_own W' (k := 3) rfl (fun _ => rfl) | exact Sl.of_own W' (k := 4) rfl (fun _ => rfl)) | (simp; done) | (simp at *; omega)) (by first | assumption | omega | (dsimp only; omega) | exact Sl.nil_ | exact .old S.wd (by assumption) | exact Sl.of_own S.wd (k := 0) rfl (fun _ => rfl) | exact Sl.of_own S.wd (k := 1) rfl (fun _ => rfl) | exact Sl.of_own S.wd (k := 2) rfl (fun _ => rfl) | exact Sl.of_own S.wd (k := 3) rfl (fun _ => rfl) | exact Sl.of_own S.wd (k := 4) rfl (fun _ => rfl) | (simp; done) | (simp at *; omega)) (by first | assumption | omega | (dsimp only; omega) | exact Sl.nil_ | exact .old S.wd (by assumption) | exact Sl.of_own S.wd (k := 0) rfl (fun _ => rfl) | exact Sl.of_own S.wd (k := 1) rfl (fun _ => rfl) | exact Sl.of_own S.wd (k := 2) rfl (fun _ => rfl) | exact Sl.of_own S.wd (k := 3) rfl (fun _ => rfl) | exact Sl.of_own S.wd (k := 4) rfl (fun _ => rfl) | (simp; done) | (simp at *; omega)) (by first | assumption | omega | (dsimp only; omega) | exact Sl.nil_ | exact .old S.wd (by assumption) | exact Sl.of_own S.wd (k := 0) rfl (fun _ => rfl) | exact Sl.of_own S.wd (k := 1) rfl (fun _ => rfl) | exact Sl.of_own S.wd (k := 2) rfl (fun _ => rfl) | exact Sl.of_own S.wd (k := 3) rfl (fun _ => rfl) | exact Sl.of_own S.wd (k := 4) rfl (fun _ => rfl) | (simp; done) | (simp at *; omega)) (by first | assumption | omega | (dsimp only; omega) | exact Sl.nil_ | exact .old S.wd (by assumption) | exact Sl.of_own S.wd (k := 0) rfl (fun _ => rfl) | exact Sl.of_own S.wd (k := 1) rfl (fun _ => rfl) | exact Sl.of_own S.wd (k := 2) rfl (fun _ => rfl) | exact Sl.of_own S.wd (k := 3) rfl (fun _ => rfl) | exact Sl.of_own S.wd (k := 4) rfl (fun _ => rfl) | (intro _ W'; first | exact .old W' (by assumption) | exact Sl.of_own W' (k := 0) rfl (fun _ => rfl) | exact Sl.of_own W' (k := 1) rfl (fun _ => rfl) | exact Sl.of_own W' (k := 2) rfl (fun _ => rfl) | exact Sl.of_own W' (k := 3) rfl (fun _ => rfl) | exact Sl.of_own W' (k := 4) rfl (fun _ => rfl)) | (simp; done) | (simp at *; omega))) rfl ?_) <;> clear S a w)
   rintro _ _ ⟨rfl, hr1, rfl⟩ a w S
   refine Zb (Za (hK1 _ _ (wp_seq_k fun _ hK1 => wp_region_lit (run S (.mv rfl <| .mv rfl <| .z) fun a w S => ?_))))
   (refine Zk (Zz S call112 (.cons (.t rfl) (.cons (.t rfl) .nil)) (c112 _ _ _ _ _ (by exact Sl.of_own S.wd (k := 1) rfl (fun _ => rfl)) (by exact Sl.of_own S.wd (k := 2) rfl (fun _ => rfl)) (by assumption) (by assumption)) rfl ?_); clear S a w; rintro _ _ ⟨A11, c11, A21, c21, rfl, rfl⟩ a w S)
   refine run S (.mv rfl <| .ex rfl rfl <| .ex rfl rfl <| .z) fun a w S => Zk (Zn S zeroValue35 (cs := _) rfl rfl fun g4 a w S => Zk (Zv S sizeOf35 (.t rfl) (.t rfl) (k := 0) rfl rfl rfl (by simp [Value.oneCell']) fun a w S => run S (.as rfl <| .z) fun a w S => Zb (Za (hK1 _ _ (wp_seq_k fun _ hK1 => sg S (.mv rfl <| .yy (Yu (by omega) (Yt (.t rfl) Ev.c)) rfl <| .z) fun a w S => Zg S (.t rfl) (wp_seq_k fun _ hK5 => wp_region_lit (run S (.yy (Xj (ps := []) (us := [_, _, _]) bld37 .nil rfl) rfl <| .mv rfl <| .z) fun a w S => Zk (Zv S sizeOf37 (.t rfl) (.t rfl) (k := 7) rfl rfl rfl (by simp [Value.oneCell']) fun a w S => run S (.as rfl <| .z) fun a w S => Zb (Za (hK5 _ _ (wp_ret (Ze (Zj S (results2 S results39 (Rv.cell (k := 7) ⟨isAgg37, sizeOf37⟩ rfl rfl rfl) (Rv.tmp rfl)) ?_)))))))))))))
   rw [hk]
   replace S := ((S.nil_ 74 3 Dot.enc none).nil_ 30 3 Dot.enc none).nil_ 100 6 Ent.enc none
   exact ⟨_, _, rfl, S.wd.pk, none, 0, none, 0, none, 0, rfl, rfl⟩
 have rw_N := hN
 obtain ⟨C, rw_C⟩ : ∃ C, (normalL M D).1 = C := ⟨_, rfl⟩
 rw [rw_C] at ho2 ho3
 refine sg S (.ge (by omega) rfl rfl <| .z) fun a w S => wp_seq_k fun _ hK4 => Zf S (.t rfl) (wp_exit (Zi (Zi (Zy (Za (hK1 _ _ (wp_seq_k fun _ hK1 => wp_region_lit (run S (.fa underlying37 sizeOf31 0 rfl rfl rfl <| .ld gt31 3 rfl rfl rfl <| .z) fun a w S => ?_))))))))
 (refine Zk (op_callO S call110 (.cons (.t rfl) (.cons Ev.f .nil)) (o110 S.wd (by first | assumption | omega | (dsimp only; omega) | exact Sl.nil_ | exact .old S.wd (by assumption) | exact Sl.of_own S.wd (k := 0) rfl (fun _ => rfl) | exact Sl.of_own S.wd (k := 1) rfl (fun _ => rfl) | exact Sl.of_own S.wd (k := 2) rfl (fun _ => rfl) | exact Sl.of_own S.wd (k := 3) rfl (fun _ => rfl) | exact Sl.of_own S.wd (k := 4) rfl (fun _ => rfl) | (intro _ W'; first | exact .old W' (by assumption) | exact Sl.of_own W' (k := 0) rfl (fun _ => rfl) | exact Sl.of_own W' (k := 1) rfl (fun _ => rfl) | exact Sl.of_own W' (k := 2) rfl (fun _ => rfl) | exact Sl.of_own W' (k := 3) rfl (fun _ => rfl) | exact Sl.of_own W' (k := 4) rfl (fun _ => rfl)) | (simp; done) | (simp at *; omega)) (by first | assumption | omega | (dsimp only; omega) | exact Sl.nil_ | exact .old S.wd (by assumption) | exact Sl.of_own S.wd (k := 0) rfl (fun _ => rfl) | exact Sl.of_own S.wd (k := 1) rfl (fun _ => rfl) | exact Sl.of_own S.wd (k := 2) rfl (fun _ => rfl) | exact Sl.of_own S.wd (k := 3) rfl (fun _ => rfl) | exact Sl.of_own S.wd (k := 4) rfl (fun _ => rfl) | (simp; done) | (simp at *; omega)) (by first | assumption | omega | (dsimp only; omega) | exact Sl.nil_ | exact .old S.wd (by assumption) | exact Sl.of_own S.wd (k := 0) rfl (fun _ => rfl) | exact Sl.of_own S.wd (k := 1) rfl (fun _ => rfl) | exact Sl.of_own S.wd (k := 2) rfl (fun _ => rfl) | exact Sl.of_own S.wd (k := 3) rfl (fun _ => rfl) | exact Sl.of_own S.wd (k := 4) rfl (fun _ => rfl) | (simp; done) | (simp at *; omega)) (by first | assumption | omega | (dsimp only; omega) | exact Sl.nil_ | exact .old S.wd (by assumption) | exact Sl.of_own S.wd (k := 0) rfl (fun _ => rfl) | exact Sl.of_own S.wd (k := 1) rfl (fun _ => rfl) | exact Sl.of_own S.wd (k := 2) rfl (fun _ => rfl) | exact Sl.of_own S.wd (k := 3) rfl (fun _ => rfl) | exact Sl.of_own S.wd (k := 4) rfl (fun _ => rfl) | (simp; done) | (simp at *; omega)) (by first | assumption | omega | (dsimp only; omega) | exact Sl.nil_ | exact .old S.wd (by assumption) | exact Sl.of_own S.wd (k := 0) rfl (fun _ => rfl) | exact Sl.of_own S.wd (k := 1) rfl (fun _ => rfl) | exact Sl.of_own S.wd (k := 2) rfl (fun _ => rfl) | exact Sl.of_own S.wd (k := 3) rfl (fun _ => rfl) | exact Sl.of_own S.wd (k := 4) rfl (fun _ => rfl) | (intro _ W'; first | exact .old W' (by assumption) | exact Sl.of_own W' (k := 0) rfl (fun _ => rfl) | exact Sl.of_own W' (k := 1) rfl (fun _ => rfl) | exact Sl.of_own W' (k := 2) rfl (fun _ => rfl) | exact Sl.of_own W' (k := 3) rfl (fun _ => rfl) | exact Sl.of_own W' (k := 4) rfl (fun _ => rfl)) | (simp; done) | (simp at *; omega))) rfl ?_) <;> clear S a w)
 rintro _ _ ⟨rfl, hr1, rfl⟩ a w S
 refine Zb (Za (hK1 _ _ (wp_seq_k fun _ hK1 => wp_region_lit (run S (.mv rfl <| .mv rfl <| .z) fun a w S => ?_))))
 (refine Zk (Zz S call112 (.cons (.t rfl) (.cons (.t rfl) .nil)) (c112 _ _ _ _ _ (by exact Sl.of_own S.wd (k := 1) rfl (fun _ => rfl)) (by exact Sl.of_own S.wd (k := 2) rfl (fun _ => rfl)) (by assumption) (by assumption)) rfl ?_); clear S a w; rintro _ _ ⟨A11, c11, A21, c21, rfl, rfl⟩ a w S)
 rw [rw_N] at S
 rw [rw_C] at S
 refine run S (.mv rfl <| .ex rfl rfl <| .ex rfl rfl <| .z) fun a w S => Zk (Zn S zeroValue35 (cs := _) rfl rfl fun g4 a w S => Zk (Zv S sizeOf35 (.t rfl) (.t rfl) (k := 0) rfl rfl rfl (by simp [Value.oneCell']) fun a w S => run S (.as rfl <| .z) fun a w S => Zb (Za (hK1 _ _ (wp_seq_k fun _ hK1 => sg S (.mv rfl <| .yy (Ym (by omega) (Yt (.t rfl) Ev.c)) rfl <| .z) fun a w S => Zf S (.t rfl) (wp_skip (Za (hK1 _ _ (wp_seq_k fun _ hK1 => wp_region_lit (run S (.la gt35 0 rfl rfl rfl <| .fa underlying37 sizeOf35 1 rfl rfl rfl <| .z) fun a w S => Zk (Yw S sizeOf35 (.t rfl) (.t rfl) (k := 6) rfl rfl (by simp [Value.oneCell']) (by simp) fun a w S => Zb (Za (hK1 _ _ (wp_seq_k fun _ hK1 => wp_seq_k fun _ hK5 => wp_region_lit (run S (.la gt37 6 rfl rfl rfl <| .z) fun a w S => ?_)))))))))))))))
 rw [← hsl] at S
 refine Yh S (Zh call66 (.cons (.t rfl) .nil) (fun _ w' W' => c66 w' _ _ _ ⟨F, C⟩ (Sl.of_own W' (k := 3) rfl (fun _ => rfl)) ⟨Sl.of_own W' (k := 1) rfl (fun _ => rfl), Sl.of_own W' (k := 2) rfl (fun _ => rfl)⟩)) rfl ?_
 clear S a w
 intro a w S
 by_cases hE : canE ⟨F, C⟩ = 0
 · have rw_E := hE
   have hk := ho3 hN hE
   refine run S (.as rfl <| .z) fun a w S => ?_
   rw [rw_E] at S
   refine Zb (Za (hK5 _ _ (sg S (.mv rfl <| .yy (Ym (by omega) (Yt (.t rfl) Ev.c)) rfl <| .z) fun a w S => Zf S (.t rfl) (wp_skip (Za (hK1 _ _ (wp_seq_k fun _ hK1 => wp_region_lit (run S (.la gt37 6 rfl rfl rfl <| .z) fun a w S => Zk (Zv S sizeOf37 (.t rfl) (.t rfl) (k := 7) rfl rfl rfl (by simp [Value.oneCell']) fun a w S => run S (.ac rfl <| .z) fun a w S => Zb (Za (hK1 _ _ (wp_ret (Zj S (results2 S results39 (Rv.cell (k := 7) ⟨isAgg37, sizeOf37⟩ rfl rfl rfl) (Rv.tmp rfl)) ?_)))))))))))))
   rw [hk]
   exact ⟨_, _, rfl, S.wd.pk, Ae, ce, A11, c11, A21, c21, rfl, rfl⟩
 · have rw_E : decide (canE ⟨F, C⟩ ≠ 0) = true := decide_eq_true hE
   have hk := ho2 hN hE
   refine run S (.as rfl <| .z) fun a w S => Zb (Za (hK5 _ _ (sg S (.mv rfl <| .yy (Yu (by omega) (Yt (.t rfl) Ev.c)) rfl <| .z) fun a w S => Zg S (.t rfl) (wp_seq_k fun _ hK5 => wp_region_lit (run S (.yy (Xj (ps := []) (us := [_, _, _]) bld37 .nil rfl) rfl <| .mv rfl <| .z) fun a w S => Zk (Zv S sizeOf37 (.t rfl) (.t rfl) (k := 7) rfl rfl rfl (by simp [Value.oneCell']) fun a w S => run S (.as rfl <| .z) fun a w S => Zb (Za (hK5 _ _ (wp_ret (Ze (Zj S (results2 S results39 (Rv.cell (k := 7) ⟨isAgg37, sizeOf37⟩ rfl rfl rfl) (Rv.tmp rfl)) ?_)))))))))))
   rw [hk]
   replace S := ((S.nil_ 74 3 Dot.enc none).nil_ 30 3 Dot.enc none).nil_ 100 6 Ent.enc none
   exact ⟨_, _, rfl, S.wd.pk, none, 0, none, 0, none, 0, rfl, rfl⟩
end Go.Proofs.YtakpdbmdfnialaaGreat
namespace Go.Fw
open Go.RowKit
abbrev Nam := List UInt8 × Dot
def issuedB (met : List Nam) (u : Upd) : Bool := !decide ((u.key, u.dot) ∈ met) && decide (mayE u = 0)
def issuedF : Nat → List Nam → List SLog → Int × Int
 | _, _, [] => (0, 0)
 | i, met, x :: r => if x.kind = 1 then (if issuedB met x.u.1 = true then issuedF (i + 1) ((x.u.1.key, x.u.1.dot) :: met) r else ((i : Int), 260)) else issuedF (i + 1) met r
def issuedK (l : List SLog) : Int × Int := issuedF 0 [] l
theorem issuedF_at {l : List SLog} {x : SLog} {i : Nat} (h : l[i]? = some x) (met : List Nam) : issuedF i met (l.drop i) = if x.kind = 1 then (if issuedB met x.u.1 = true then issuedF (i + 1) ((x.u.1.key, x.u.1.dot) :: met) (l.drop (i + 1)) else ((i : Int), 260)) else issuedF (i + 1) met (l.drop (i + 1)) := by
 obtain ⟨h1, h2⟩ := List.getElem?_eq_some_iff.1 h
 rw [List.drop_eq_getElem_cons h1, h2, issuedF]
def MetN (m : List (Nam × Unit)) (met : List Nam) : Prop := ∀ k, k ∈ m.map (·.1) ↔ k ∈ met
theorem metN_put {m : List (Nam × Unit)} {met : List Nam} (h : MetN m met) (k : Nam) : MetN (aput m k ()) (k :: met) := fun x => by
 rw [aput_keys, List.mem_cons]
 split
 · rename_i hk
   rw [h x]
   exact ⟨.inr, fun h1 => h1.elim (fun e => by rw [e]; exact (h k).1 hk) id⟩
 · rw [List.mem_append, List.mem_singleton, h x]
   exact Or.comm
theorem metN_get {m : List (Nam × Unit)} {met : List Nam} (h : MetN m met) (k : Nam) : (aget m k).isSome = decide (k ∈ met) := by
 rw [Bool.eq_iff_iff, decide_eq_true_eq, ← h k]
 constructor
 · intro h1
   refine Decidable.byContradiction fun h2 => ?_
   rw [aget_none.2 h2] at h1
   cases h1
 · intro h1
   cases e : aget m k with
   | none => exact absurd h1 (aget_none.1 e)
   | some _ => rfl
end Go.Fw
namespace Go.Proofs.YtakpdbmdfnialaaGreat
open Go.Fw Go.Proofs Go.RowKit Go.Proofs.Tryz
abbrev kv171 : Nam → Value := fun p => .agg #[.string (bs p.1), .int .i64 p.2.node, .int .i64 p.2.life, .int .i64 p.2.count]
abbrev vv171 : Unit → Value := fun _ => .agg #[]
theorem run_eqNam (a b : Nam) (w : World) : (Op.equal 173 (kv171 a) (kv171 b)).run Tryz.prog w = .ok (decide (a = b)) w := by
 have h := eq173 (x0 := bs a.1) (y0 := bs b.1) (x1 := a.2.node) (y1 := b.2.node) (x2 := a.2.life) (y2 := b.2.life) (x3 := a.2.count) (y3 := b.2.count)
 have e : decide (bs a.1 = bs b.1 ∧ a.2.node = b.2.node ∧ a.2.life = b.2.life ∧ a.2.count = b.2.count) = decide (a = b) := decide_eq_decide.2 (by
   obtain ⟨k, d⟩ := a
   obtain ⟨k', d'⟩ := b
   cases d; cases d'
   simp [bs_inj])
 rw [e] at h
 exact (h w).2
theorem ask_nam (k : Nam) (β : Type) (vv : β → Value) (w : World) : ∀ (l : List (Nam × β)) (i : Nat), (Instr.findAsking 173 (kv171 k) (mL kv171 vv i l) i).run Tryz.prog w = .ok ((afind k i l).map fun p => (p.1, vv p.2)) w
 | [], i => by simp [mL, Instr.findAsking, afind]
 | (x, v) :: r, i => by
   simp only [mL, Instr.findAsking, Sem.run_bind, run_eqNam, Result.andThen_ok, afind]
   by_cases e : k = x
   · subst e
     simp
   · rw [if_neg e, decide_eq_false e]
     simpa using ask_nam k β vv w r (i + 1)
theorem keyNam : KeyL kv171 Tryz.prog 173 := by
 refine ⟨fun k β vv l w => ?_, fun b k w => ?_, fun k => ?_, fun k k' e => ?_⟩
 · have h := ask_nam k β vv w l 0
   cases l with
   | nil => simp [Instr.findKey, run_underlying underlying173, mL, Instr.findNow, afind]
   | cons p r => simp [Instr.findKey, run_underlying underlying173, mL, Instr.findNow, Instr.sameNow] at h ⊢; exact h
 · have hI : ∀ (n : Nat) (i : Int), (Instr.checkKey b (n + 1) 3 (.int .i64 i)).run Tryz.prog w = .ok () w := fun n i => by
     simp only [Instr.checkKey, Sem.run_bind, run_underlying underlying3, Result.andThen_ok]
     rfl
   have hS : ∀ (n : Nat) (s : ByteArray), (Instr.checkKey b (n + 1) 9 (.string s)).run Tryz.prog w = .ok () w := fun n s => by
     simp only [Instr.checkKey, Sem.run_bind, run_underlying underlying9, Result.andThen_ok]
     rfl
   have hD : ∀ (n : Nat) (x y z : Int), (Instr.checkKey b (n + 1 + 1) 74 (.agg #[.int .i64 x, .int .i64 y, .int .i64 z])).run Tryz.prog w = .ok () w := fun n x y z => by
     rw [Instr.checkKey]
     simp only [Sem.run_bind, run_underlying underlying74, Result.andThen_ok]
     simp [part, isAgg3, hI]
   have hc : (Instr.checkKey b (9997 + 1 + 1 + 1) 173 (kv171 k)).run Tryz.prog w = .ok () w := by
     rw [Instr.checkKey]
     simp only [Sem.run_bind, run_underlying underlying173, Result.andThen_ok]
     simp [part, isAgg9, isAgg74, sizeOf74, hS, hD]
   exact hc
 · have hb : (bs k.1 == bs k.1) = true := by
     show (k.1.toArray == k.1.toArray) = true
     simp
   have : Instr.sameBits (9999 + 1) (kv171 k) (kv171 k) = true := by simp [Instr.sameBits, hb]
   exact this
 · obtain ⟨k, d⟩ := k
   obtain ⟨k', d'⟩ := k'
   cases d; cases d'
   simp [bs_inj] at e
   simp [e]
theorem mapT171 : MapT kv171 vv171 Tryz.prog 171 () := mapT_mk underlying171 keyNam zeroValue144
theorem bld170 : BuildT Tryz.prog 170 [Value.int .i64 0, Value.nilFunc] [(0, 1), (1, 1)] := ⟨⟨_, zeroValue170, rfl⟩, _, underlying170, fun w => by simp [sizeOf3, sizeOf168]⟩
theorem o127 {w0 w : World} {L : List Chunk} {gm gc : Nat} {m : List (Nam × Unit)} {met : List Nam} {e : TypeId} (W : Wd w0 (.blk gm (mapK kv171 vv171 m) :: .blk gc (.cells #[.map (some gm)] e) :: L) w) (v : Value) (x : SLog) (hm : MetN m met) (h : LogRd w0 x) :
   RetsO Tryz.prog 127 #[v, .agg (SLog.enc x).toArray, .pointer (some ⟨gc, 0, none⟩)] w0 w fun u L' => u = .bool (issuedB met x.u.1) ∧ L' = .blk gm (mapK kv171 vv171 (aput m (x.u.1.key, x.u.1.dot) ())) :: .blk gc (.cells #[.map (some gm)] e) :: L := by
 have r1 := h.u.ents
 have r2 := h.u.ctx
 have rw_g := metN_get hm (x.u.1.key, x.u.1.dot)
 unfold Go.Fw.RetsO
 refine enterW3 W func127 rfl ntmps127 rfl fun a S => wp_seq_k fun _ hK1 => wp_region_lit (Zk (Ya S (.t rfl) rfl fun g1 a w S => run S (.ac rfl <| .z) fun a w S => Zb (Za (hK1 _ _ (wp_seq_k fun _ hK1 => wp_region_lit (run S (.fa underlying96 sizeOf77 3 rfl rfl rfl <| .fa underlying77 sizeOf9 3 rfl rfl rfl <| .ld gt9 0 rfl rfl rfl <| .fa underlying96 sizeOf77 3 rfl rfl rfl <| .fa underlying77 sizeOf74 4 rfl rfl rfl <| .la gt74 0 rfl rfl rfl <| .yy (Xj (ps := [(0, Go.Operand.tmp 11), (1, Go.Operand.tmp 14)]) (us := [_, _, _, _]) bld173 (.cons (.t rfl) (.cons (.t rfl) .nil)) rfl) rfl <| .z) fun a w S => Zk (Zn S zeroValue173 (cs := _) rfl rfl fun g2 a w S => Zk (Zv S sizeOf173 (.t rfl) (.t rfl) (k := 0) rfl rfl rfl (by simp [Value.oneCell']) fun a w S => Zb (Za (hK1 _ _ (wp_seq_k fun _ hK1 => wp_region_lit (run S (.ld gt171 3 rfl rfl rfl <| .la gt173 0 rfl rfl rfl <| .z) fun a w S => Yh S (Yr.ys (ys_lookOk (k := (x.u.1.key, x.u.1.dot)) mapT171 (.t rfl) (.t rfl) (j := 2) rfl)) rfl ?_))))))))))))
 clear S a w
 intro a w S
 refine run S (.mv rfl <| .z) fun a w S => ?_
 rw [rw_g] at S
 refine run S (.ex rfl rfl <| .ex rfl rfl <| .z) fun a w S => Zk (Zn S zeroValue144 (cs := _) rfl rfl fun g3 a w S => Zk (Zv S sizeOf144 (.t rfl) (.t rfl) (k := 0) rfl rfl rfl (by simp [Value.oneCell']) fun a w S => run S (.as rfl <| .z) fun a w S => Zb (Za (hK1 _ _ (wp_seq_k fun _ hK1 => wp_region_lit (run S (.ld gt171 4 rfl rfl rfl <| .la gt173 1 rfl rfl rfl <| .yy (Xj (ps := []) (us := []) bld144 .nil rfl) rfl <| .z) fun a w S => Zk (op_mapUpd (k := (x.u.1.key, x.u.1.dot)) (v := ()) S mapT171 (.t rfl) (.t rfl) (.t rfl) (j := 3) rfl ?_)))))))
 clear S a w
 intro a w S
 by_cases hmt : (x.u.1.key, x.u.1.dot) ∈ met
 · have rw_t := decide_eq_true hmt
   refine Zb ?_
   rw [rw_t] at S
   refine Za (hK1 _ _ (sg S (.mv rfl <| .nt rfl <| .mv rfl <| .sk rfl rfl rfl <| .sk rfl rfl rfl <| .sk rfl rfl rfl <| .sk rfl rfl rfl <| .yy (Zq (.t rfl) Ev.c) rfl <| .as rfl <| .z) fun a w S => wp_ret (Zj S (results1 S results127 (Rv.tmp rfl)) ?_)))
   exact ⟨_, _, rfl, S.wd.pk, by unfold issuedB; rw [rw_t]; rfl, rfl⟩
 · have rw_t := decide_eq_false hmt
   by_cases hmy : mayE x.u.1 = 0
   · have rw_m := decide_eq_true hmy
     refine Zb ?_
     rw [rw_t] at S
     refine Za (hK1 _ _ (sg S (.mv rfl <| .nt rfl <| .mv rfl <| .gy rfl rfl (Zc (FieldT.mk underlying96 rfl sizeOf77 rfl) (.t rfl) (i' := 3) rfl) <| .gy rfl rfl (Ye ⟨isAgg77, sizeOf77⟩ (.t rfl) (k := 2) rfl rfl) <| .gx rfl rfl (Zh call106 (.cons (.t rfl) .nil) (fun hp w W => c106 _ _ _ _ _ (by exact .old W (by assumption)) (by exact .old W (by assumption)))) <| .gy rfl rfl (Yu (by omega) (Yd (.t rfl) Ev.c)) <| .yy (Zt (.t rfl) (.t rfl)) rfl <| .as rfl <| .z) fun a w S => wp_ret (Zj S (results1 S results127 (Rv.tmp rfl)) ?_)))
     exact ⟨_, _, rfl, S.wd.pk, by unfold issuedB; rw [rw_t, rw_m]; rfl, rfl⟩
   · have rw_m := decide_eq_false hmy
     refine Zb ?_
     rw [rw_t] at S
     refine Za (hK1 _ _ (sg S (.mv rfl <| .nt rfl <| .mv rfl <| .gy rfl rfl (Zc (FieldT.mk underlying96 rfl sizeOf77 rfl) (.t rfl) (i' := 3) rfl) <| .gy rfl rfl (Ye ⟨isAgg77, sizeOf77⟩ (.t rfl) (k := 2) rfl rfl) <| .gx rfl rfl (Zh call106 (.cons (.t rfl) .nil) (fun hp w W => c106 _ _ _ _ _ (by exact .old W (by assumption)) (by exact .old W (by assumption)))) <| .gy rfl rfl (Ym (by omega) (Yd (.t rfl) Ev.c)) <| .yy (Zt (.t rfl) (.t rfl)) rfl <| .as rfl <| .z) fun a w S => wp_ret (Zj S (results1 S results127 (Rv.tmp rfl)) ?_)))
     exact ⟨_, _, rfl, S.wd.pk, by unfold issuedB; rw [rw_t, rw_m]; rfl, rfl⟩
theorem o126 {w0 w : World} {L : List Chunk} {gm gc : Nat} {e : TypeId} (W : Wd w0 (.blk gm (mapK kv171 vv171 []) :: .blk gc (.cells #[.map (some gm)] e) :: L) w) (v : Value) (l : List SLog) (h : Sl SLog.enc 22 w0 w0.heap.size v l) (hl : LogsRd w0 l) :
   RetsO Tryz.prog 126 #[.agg #[.int .i64 1, .func (.func 127) #[] #[.pointer (some ⟨gc, 0, none⟩)]], v] w0 w fun u L' => u = .tuple #[.int .i64 (issuedK l).1, .int .i64 (issuedK l).2] ∧ ∃ m, L' = .blk gm (mapK kv171 vv171 m) :: .blk gc (.cells #[.map (some gm)] e) :: L := by
 obtain ⟨A, cap, rfl, hl0, hcap, hA⟩ := h
 unfold Go.Fw.RetsO
 refine enterW2 W func126 rfl ntmps126 rfl fun a S => wp_seq_k fun _ hK1 => wp_region_lit (Zk (Ya S (.t rfl) rfl fun g1 a w S => run S (.ac rfl <| .ac rfl <| .z) fun a w S => Zb (Za (hK1 _ _ (wp_seq_k fun _ hK1 => sg S (.mv rfl <| .ln underlying84 rfl <| .mc rfl <| .z) fun a w S => wp_block ?_)))))
 refine Xe S [10] (X := Nat × List (Nam × Unit) × List Nam) (fun q => [(10, true, .int .i64 (q.1 : Int))])
   (fun q => .blk g1 (.cells #[.int .i64 1, .func (.func 127) #[] #[.pointer (some ⟨gc, 0, none⟩)]] 170) :: .blk gm (mapK kv171 vv171 q.2.1) :: .blk gc (.cells #[.map (some gm)] e) :: L)
   (fun q => q.1 ≤ l.length ∧ MetN q.2.1 q.2.2 ∧ issuedF q.1 q.2.2 (l.drop q.1) = issuedK l) (fun q => l.length - q.1) (0, [], []) ⟨Nat.zero_le _, fun k => by simp, rfl⟩ ?_
 clear S
 rintro ⟨q, m, met⟩ a w ⟨hq, hm, hF⟩ S
 dsimp only at hq hm hF S
 by_cases hlt : q < l.length
 · obtain ⟨gq, oq, x, rfl, hx, hd, hc⟩ := Yk hA hlt
   have hxr := hl x (List.mem_of_getElem? hx)
   rw [issuedF_at hx] at hF
   by_cases hk : x.kind = 1
   · have rw_k := decide_eq_true hk
     rw [if_pos hk] at hF
     cases hB : issuedB met x.u.1 with
     | true =>
       have rw_B := hB
       rw [if_pos hB] at hF
       have halt_r := trivial
       refine sg S (.lt (by omega) rfl rfl <| .z) fun a w S => wp_seq_k fun _ hK2 => Zg S (.t rfl) (wp_skip (Za (hK2 _ _ (wp_seq_k fun _ hK2 => wp_block (wp_seq_k fun _ hK3 => wp_region_lit (run S (.mv rfl <| .ix underlying84 sizeOf96 (by omega) rfl rfl <| .yy (Zp ⟨isAgg96, sizeOf96⟩ (.t rfl) (vs := [_, _, _, _, _, _, _, _, _, _, _, _, _, _, _, _, _, _, _, _, _, _]) rfl (fun _ => hc)) rfl <| .z) fun a w S => Zk (Zn S zeroValue96 (cs := _) rfl rfl fun g2 a w S => run S (.as rfl <| .z) fun a w S => Zk (Zv S sizeOf96 (.t rfl) (.t rfl) (k := 0) rfl rfl rfl (by simp [Value.oneCell']) fun a w S => Zb (Za (hK3 _ _ (wp_seq_k fun _ hK3 => ?_)))))))))))
       clear halt_r
       refine h_begin S (by kernel_rfl) [.blk g2 (.cells (SLog.enc x).toArray 96), .blk g1 (.cells #[.int .i64 1, .func (.func 127) #[] #[.pointer (some ⟨gc, 0, none⟩)]] 170)] ?_
       clear S
       intro a w S
       have hold_r := trivial
       refine hy 0 S rfl (Zc (FieldT.mk underlying96 rfl sizeOf3 rfl) (.t rfl) (i' := 0) rfl) rfl fun a w S => hy 1 S rfl (Zu ⟨isAgg3, sizeOf3⟩ (.t rfl) (k := 0) rfl rfl) rfl fun a w S => hy 2 S rfl (Zc (FieldT.mk underlying170 rfl sizeOf3 rfl) (.t rfl) (i' := 0) rfl) rfl fun a w S => hy 3 S rfl (Zu ⟨isAgg3, sizeOf3⟩ (.t rfl) (k := 1) rfl rfl) rfl fun a w S => hy 4 S rfl (Yu (by omega) (Yd (.t rfl) (.t rfl))) rfl fun a w S => ?_
       refine hy 5 S rfl (Zd (.t rfl)) rfl fun a w S => hyt 6 S rfl rfl rfl (Zc (FieldT.mk underlying170 rfl sizeOf168 rfl) (.t rfl) (i' := 1) rfl) rfl fun a w S => hyt 7 S rfl rfl rfl (Zu ⟨isAgg168, sizeOf168⟩ (.t rfl) (k := 1) rfl rfl) rfl fun a w S => hyt 8 S rfl rfl rfl (Zd (.t rfl)) rfl fun a w S => hyt 9 S rfl rfl rfl (Zd (.t rfl)) rfl fun a w S => ?_
       refine hyt 10 S rfl rfl rfl (Va underlying84 sizeOf96 (.t rfl) (.t rfl) (fun _ => by first | omega | (simp; done) | (simp; omega))) rfl fun a w S => hyt 11 S rfl rfl rfl (Ye ⟨isAgg96, sizeOf96⟩ (.t rfl) (k := 0) rfl rfl) rfl fun a w S => ?_
       (replace S := S.pull 3 rfl; try simp only [List.set_cons_zero, List.set_cons_succ, List.eraseIdx_cons_succ, List.eraseIdx_cons_zero] at S; replace S := S.pull 3 rfl; try simp only [List.set_cons_zero, List.set_cons_succ, List.eraseIdx_cons_succ, List.eraseIdx_cons_zero] at S; refine h_mg (i := 12) S rfl (by kernel_rfl) rfl rfl (op_callVO (cs := [_]) S (.t rfl) call127 (.cons (.t rfl) (.cons (.t rfl) .nil)) (o127 S.wd _ _ (by first | assumption | omega | (dsimp only; omega) | exact Sl.nil_ | exact .old S.wd (by assumption) | exact Sl.of_own S.wd (k := 0) rfl (fun _ => rfl) | exact Sl.of_own S.wd (k := 1) rfl (fun _ => rfl) | exact Sl.of_own S.wd (k := 2) rfl (fun _ => rfl) | exact Sl.of_own S.wd (k := 3) rfl (fun _ => rfl) | (simp; done) | (simp at *; omega)) (by first | assumption | omega | (dsimp only; omega) | exact Sl.nil_ | exact .old S.wd (by assumption) | exact Sl.of_own S.wd (k := 0) rfl (fun _ => rfl) | exact Sl.of_own S.wd (k := 1) rfl (fun _ => rfl) | exact Sl.of_own S.wd (k := 2) rfl (fun _ => rfl) | exact Sl.of_own S.wd (k := 3) rfl (fun _ => rfl) | (simp; done) | (simp at *; omega))) rfl ?_) <;> clear S a w)
       rintro _ _ ⟨rfl, rfl⟩ a w S
       rw [rw_B] at S
       refine Yi S ?_
       refine hyt 13 S rfl rfl rfl (Xg (.t rfl)) rfl fun a w S => hy 14 S rfl (Zt (.t rfl) (.t rfl)) rfl fun a w S => Yz (by kernel_rfl) (Za (hK3 _ _ (Zf S (.t rfl) (wp_skip (Zm (Za (hK2 _ _ (wp_region_lit (run S (.ad (by unfold I64; omega) rfl <| .mv rfl <| .z) fun a w S => Zb (Za ?_))))))))))
       exact ⟨(q + 1, aput m (x.u.1.key, x.u.1.dot) (), (x.u.1.key, x.u.1.dot) :: met), ⟨by dsimp only; omega, metN_put hm _, hF⟩, by dsimp only; omega, S.pk⟩
     | false =>
       have rw_B := hB
       rw [if_neg (by rw [hB]; decide)] at hF
       have halt_r := trivial
       refine sg S (.lt (by omega) rfl rfl <| .z) fun a w S => wp_seq_k fun _ hK2 => Zg S (.t rfl) (wp_skip (Za (hK2 _ _ (wp_seq_k fun _ hK2 => wp_block (wp_seq_k fun _ hK3 => wp_region_lit (run S (.mv rfl <| .ix underlying84 sizeOf96 (by omega) rfl rfl <| .yy (Zp ⟨isAgg96, sizeOf96⟩ (.t rfl) (vs := [_, _, _, _, _, _, _, _, _, _, _, _, _, _, _, _, _, _, _, _, _, _]) rfl (fun _ => hc)) rfl <| .z) fun a w S => Zk (Zn S zeroValue96 (cs := _) rfl rfl fun g2 a w S => run S (.as rfl <| .z) fun a w S => Zk (Zv S sizeOf96 (.t rfl) (.t rfl) (k := 0) rfl rfl rfl (by simp [Value.oneCell']) fun a w S => Zb (Za (hK3 _ _ (wp_seq_k fun _ hK3 => ?_)))))))))))
       clear halt_r
       refine h_begin S (by kernel_rfl) [.blk g2 (.cells (SLog.enc x).toArray 96), .blk g1 (.cells #[.int .i64 1, .func (.func 127) #[] #[.pointer (some ⟨gc, 0, none⟩)]] 170)] ?_
       clear S
       intro a w S
       have hold_r := trivial
       refine hy 0 S rfl (Zc (FieldT.mk underlying96 rfl sizeOf3 rfl) (.t rfl) (i' := 0) rfl) rfl fun a w S => hy 1 S rfl (Zu ⟨isAgg3, sizeOf3⟩ (.t rfl) (k := 0) rfl rfl) rfl fun a w S => hy 2 S rfl (Zc (FieldT.mk underlying170 rfl sizeOf3 rfl) (.t rfl) (i' := 0) rfl) rfl fun a w S => hy 3 S rfl (Zu ⟨isAgg3, sizeOf3⟩ (.t rfl) (k := 1) rfl rfl) rfl fun a w S => hy 4 S rfl (Yu (by omega) (Yd (.t rfl) (.t rfl))) rfl fun a w S => ?_
       refine hy 5 S rfl (Zd (.t rfl)) rfl fun a w S => hyt 6 S rfl rfl rfl (Zc (FieldT.mk underlying170 rfl sizeOf168 rfl) (.t rfl) (i' := 1) rfl) rfl fun a w S => hyt 7 S rfl rfl rfl (Zu ⟨isAgg168, sizeOf168⟩ (.t rfl) (k := 1) rfl rfl) rfl fun a w S => hyt 8 S rfl rfl rfl (Zd (.t rfl)) rfl fun a w S => hyt 9 S rfl rfl rfl (Zd (.t rfl)) rfl fun a w S => ?_
       refine hyt 10 S rfl rfl rfl (Va underlying84 sizeOf96 (.t rfl) (.t rfl) (fun _ => by first | omega | (simp; done) | (simp; omega))) rfl fun a w S => hyt 11 S rfl rfl rfl (Ye ⟨isAgg96, sizeOf96⟩ (.t rfl) (k := 0) rfl rfl) rfl fun a w S => ?_
       (replace S := S.pull 3 rfl; try simp only [List.set_cons_zero, List.set_cons_succ, List.eraseIdx_cons_succ, List.eraseIdx_cons_zero] at S; replace S := S.pull 3 rfl; try simp only [List.set_cons_zero, List.set_cons_succ, List.eraseIdx_cons_succ, List.eraseIdx_cons_zero] at S; refine h_mg (i := 12) S rfl (by kernel_rfl) rfl rfl (op_callVO (cs := [_]) S (.t rfl) call127 (.cons (.t rfl) (.cons (.t rfl) .nil)) (o127 S.wd _ _ (by first | assumption | omega | (dsimp only; omega) | exact Sl.nil_ | exact .old S.wd (by assumption) | exact Sl.of_own S.wd (k := 0) rfl (fun _ => rfl) | exact Sl.of_own S.wd (k := 1) rfl (fun _ => rfl) | exact Sl.of_own S.wd (k := 2) rfl (fun _ => rfl) | exact Sl.of_own S.wd (k := 3) rfl (fun _ => rfl) | (simp; done) | (simp at *; omega)) (by first | assumption | omega | (dsimp only; omega) | exact Sl.nil_ | exact .old S.wd (by assumption) | exact Sl.of_own S.wd (k := 0) rfl (fun _ => rfl) | exact Sl.of_own S.wd (k := 1) rfl (fun _ => rfl) | exact Sl.of_own S.wd (k := 2) rfl (fun _ => rfl) | exact Sl.of_own S.wd (k := 3) rfl (fun _ => rfl) | (simp; done) | (simp at *; omega))) rfl ?_) <;> clear S a w)
       rintro _ _ ⟨rfl, rfl⟩ a w S
       rw [rw_B] at S
       refine Yi S ?_
       refine hyt 13 S rfl rfl rfl (Xg (.t rfl)) rfl fun a w S => hy 14 S rfl (Zt (.t rfl) (.t rfl)) rfl fun a w S => Yz (by kernel_rfl) (Za (hK3 _ _ (Zg S (.t rfl) (sg S (.mv rfl <| .as rfl <| .ac rfl <| .z) fun a w S => wp_ret (Zr (Ze (Ze (Zr (Ze (Zj S (results2 S results126 (Rv.tmp rfl) (Rv.tmp rfl)) ?_))))))))))
       rw [← hF]
       exact ⟨_, _, rfl, S.wd.pk, rfl, aput m (x.u.1.key, x.u.1.dot) (), rfl⟩
   · have rw_k := decide_eq_false hk
     rw [if_neg hk] at hF
     refine sg S (.lt (by omega) rfl rfl <| .z) fun a w S => wp_seq_k fun _ hK2 => Zg S (.t rfl) (wp_skip (Za (hK2 _ _ (wp_seq_k fun _ hK2 => wp_block (wp_seq_k fun _ hK3 => wp_region_lit (run S (.mv rfl <| .ix underlying84 sizeOf96 (by omega) rfl rfl <| .yy (Zp ⟨isAgg96, sizeOf96⟩ (.t rfl) (vs := [_, _, _, _, _, _, _, _, _, _, _, _, _, _, _, _, _, _, _, _, _, _]) rfl (fun _ => hc)) rfl <| .z) fun a w S => Zk (Zn S zeroValue96 (cs := _) rfl rfl fun g2 a w S => run S (.as rfl <| .z) fun a w S => Zk (Zv S sizeOf96 (.t rfl) (.t rfl) (k := 0) rfl rfl rfl (by simp [Value.oneCell']) fun a w S => Zb (Za (hK3 _ _ (wp_seq_k fun _ hK3 => Zw S (by kernel_rfl) (by kernel_rfl) fun a S => qrun S (.fa underlying96 sizeOf3 0 rfl rfl rfl <| .ld gt3 0 rfl rfl rfl <| .fa underlying170 sizeOf3 0 rfl rfl rfl <| .ld gt3 1 rfl rfl rfl <| .yy (Ym (by omega) (Yd (.t rfl) (.t rfl))) rfl <| .mv rfl <| .sk rfl rfl rfl <| .sk rfl rfl rfl <| .sk rfl rfl rfl <| .sk rfl rfl rfl <| .sk rfl rfl rfl <| .sk rfl rfl rfl <| .sk rfl rfl rfl <| .sk rfl rfl rfl <| .yy (Zq (.t rfl) Ev.c) rfl <| .z) fun a S => ?_)))))))))))
     (refine Yv ?_; intro w W; replace S := St.mk S W; clear W)
     refine Za (hK3 _ _ (Zf S (.t rfl) (wp_skip (Zm (Za (hK2 _ _ (wp_region_lit (run S (.ad (by unfold I64; omega) rfl <| .mv rfl <| .z) fun a w S => Zb (Za ?_)))))))))
     exact ⟨(q + 1, m, met), ⟨by dsimp only; omega, hm, hF⟩, by dsimp only; omega, S.pk⟩
 obtain rfl : q = l.length := by omega
 rw [List.drop_length] at hF
 refine sg S (.ge (by omega) rfl rfl <| .z) fun a w S => wp_seq_k fun _ hK2 => Zf S (.t rfl) (wp_exit (Zi (Zi (Zy (Za (hK1 _ _ (sg S (.ac rfl <| .ac rfl <| .z) fun a w S => wp_ret (Zj S (results2 S results126 (Rv.tmp rfl) (Rv.tmp rfl)) ?_))))))))
 rw [← hF]
 exact ⟨_, _, rfl, S.wd.pk, rfl, m, rfl⟩
theorem c52 (w0 : World) (v : Value) (l : List SLog) (h : Sl SLog.enc 22 w0 w0.heap.size v l) (hl : LogsRd w0 l) :
   Calls Tryz.prog 52 #[v] w0 fun e w' => e = .returned (.tuple #[.int .i64 (issuedK l).1, .int .i64 (issuedK l).2]) ∧ Bel w0.heap.size w0 w' := by
 refine enter1 func52 rfl ntmps52 rfl fun a S => sg S (.ac rfl <| .ac rfl <| .z) fun a w S => wp_seq_k fun _ hK1 => wp_region_lit (Zk (op_makeMap kv171 vv171 S rfl fun g1 a w S => Zk (Zn S zeroValue171 (cs := _) rfl rfl fun g2 a w S => Zk (op_st S sizeOf171 (.t rfl) (.t rfl) (k := 0) rfl rfl (by simp) fun a w S => Zb (Za (hK1 _ _ (wp_seq_k fun _ hK1 => wp_region_lit (run S (.yy (ys_mkFunc (.cons (.t rfl) .nil)) rfl <| .yy (Xj (ps := [(0, _), (1, Go.Operand.tmp 6)]) (us := [_, _]) bld170 (.cons Ev.c (.cons (.t rfl) .nil)) rfl) rfl <| .mv rfl <| .z) fun a w S => ?_))))))))
 (replace S := S.pull 0 rfl; try simp only [List.set_cons_zero, List.set_cons_succ, List.eraseIdx_cons_succ, List.eraseIdx_cons_zero] at S; replace S := S.pull 1 rfl; try simp only [List.set_cons_zero, List.set_cons_succ, List.eraseIdx_cons_succ, List.eraseIdx_cons_zero] at S; refine Zk (op_callO S call126 (.cons (.t rfl) (.cons (.t rfl) .nil)) (o126 S.wd _ _ (by first | assumption | omega | (dsimp only; omega) | exact Sl.nil_ | exact .old S.wd (by assumption) | exact Sl.of_own S.wd (k := 0) rfl (fun _ => rfl) | exact Sl.of_own S.wd (k := 1) rfl (fun _ => rfl) | (simp; done) | (simp at *; omega)) (by first | assumption | omega | (dsimp only; omega) | exact Sl.nil_ | exact .old S.wd (by assumption) | exact Sl.of_own S.wd (k := 0) rfl (fun _ => rfl) | exact Sl.of_own S.wd (k := 1) rfl (fun _ => rfl) | (simp; done) | (simp at *; omega))) rfl ?_) <;> clear S a w)
 rintro _ _ ⟨rfl, hr1⟩ a w S
 refine run S (.ex rfl rfl <| .ex rfl rfl <| .as rfl <| .as rfl <| .z) fun a w S => Zb (Za (hK1 _ _ (wp_ret (Zj S (results2 S results52 (Rv.tmp rfl) (Rv.tmp rfl)) ?_))))
 exact ⟨rfl, S.wd.below⟩
theorem c156 (w0 : World) (v1 v2 v3 : Value) (X : Cart) (d : Dot) (g : Nat) (hr : RdCtx w0 w0.heap.size v2 v3 X.ctx) (h1 : w0.cell? ⟨g, 1, none⟩ = some (.int .i64 d.node)) (h2 : w0.cell? ⟨g, 2, none⟩ = some (.int .i64 d.life)) (h3 : w0.cell? ⟨g, 3, none⟩ = some (.int .i64 d.count)) :
   Calls Tryz.prog 156 #[.agg #[v1, v2, v3], .pointer (some ⟨g, 0, none⟩)] w0 fun e w' => e = .returned (.bool (X.ctx.covers d)) ∧ Bel w0.heap.size w0 w' := by
 have hdc := dot_cells (d := d) h1 h2 h3
 refine enter2 func156 rfl ntmps156 rfl fun a S => wp_seq_k fun _ hK1 => wp_region_lit (Zk (Ya S (.t rfl) rfl fun g1 a w S => run S (.ac rfl <| .z) fun a w S => Zb (Za (hK1 _ _ (sg S (.fa underlying37 sizeOf35 1 rfl rfl rfl <| .la gt35 0 rfl rfl rfl <| .fa underlying77 sizeOf74 1 rfl rfl rfl <| .yy (Zp ⟨isAgg74, sizeOf74⟩ (.t rfl) (vs := [_, _, _]) rfl (fun _ => hdc)) rfl <| .xx (Zh call109 (.cons (.t rfl) (.cons (.t rfl) .nil)) (fun hp w W => c109 _ _ _ _ _ _ _ (by exact .old W (by assumption)))) rfl <| .as rfl <| .z) fun a w S => wp_ret (Zj S (results1 S results156 (Rv.tmp rfl)) ?_))))))
 exact ⟨rfl, S.wd.below⟩
theorem c105 (w0 : World) (u : Upd) (v1 v2 v3 v : Value) (l : List SCart) (h : Sl SCart.enc 3 w0 w0.heap.size v l) (hc : CartsRd w0 l) :
   Calls Tryz.prog 105 #[.agg (Upd.enc u v1 v2 v3).toArray, v] w0 fun e w' => e = .returned (.bool (l.any fun c => c.1.ctx.covers u.dot)) ∧ Bel w0.heap.size w0 w' := by
 have hs := h
 have rw_i := idxW_any (fun c : SCart => c.1.ctx.covers u.dot) l 0
 refine enter2 func105 rfl ntmps105 rfl fun a S => wp_seq_k fun _ hK1 => wp_region_lit (Zk (Ya S (.t rfl) rfl fun g1 a w S => run S (.ac rfl <| .z) fun a w S => Zb (Za (hK1 _ _ (wp_seq_k fun _ hK1 => wp_region_lit (run S (.mv rfl <| .yy (ys_mkFunc (.cons (.t rfl) .nil)) rfl <| .z) fun a w S => ?_))))))
 refine Yh S (Zh call155 (.cons (.t rfl) (.cons (.t rfl) .nil)) (fun _ w' W' => x155 w' _ l 156 [.pointer (some ⟨g1, 0, none⟩)] (fun c => c.1.ctx.covers u.dot) call156
   (fun w'' W'' y hy => c156 w'' _ _ _ y.1 u.dot g1 (((hc y hy).old W').old W'').ctx (Wd.cellOld W'' (Wd.cell W' (k := 0) rfl rfl)) (Wd.cellOld W'' (Wd.cell W' (k := 0) rfl rfl)) (Wd.cellOld W'' (Wd.cell W' (k := 0) rfl rfl))) (Sl.old W' hs))) rfl ?_
 clear S a w
 intro a w S
 refine run S (.yy (Xd (.t rfl) Ev.c) rfl <| .z) fun a w S => ?_
 rw [rw_i] at S
 refine run S (.as rfl <| .z) fun a w S => Zb (Za (hK1 _ _ (wp_ret (Zj S (results1 S results105 (Rv.tmp rfl)) ?_))))
 exact ⟨rfl, S.wd.below⟩
end Go.Proofs.YtakpdbmdfnialaaGreat
namespace Go.Fw
open Go.RowKit
def Wants (ops : Array Oper) (K : KL) : Option (Nat × Bool) → Prop
 | none => True
 | some (j, p) => ∃ t, (ops[j]?).bind (·.dst) = some t ∧ look K t = some (true, .bool p)
section
variable {P : Program} {Q : Exit → Act → World → Prop} {n : Nat} {w0 : World} {K : KL} {L Lr : List Chunk} {a : Act} {w : World} {ops : Array Oper} {fuel : Nat} {listed : Array Bool} {md : Region.Mode}
theorem h_pick {i : Nat} {d : Option Tmp} {op : Op} {ty : TypeId} {pos : String} {aft : Array Edge} {g : Option (Nat × Bool)} (S : St n w0 K L a w) (hi : ops[i]? = some ⟨d, op, ty, pos, aft, g⟩) (hw : Wants ops K g)
   (h : Oper.wp P ⟨d, op, ty, pos, aft, g⟩ a w (fun a' w' => Wd w0 Lr w' ∧ wpAnyH P md ops Q (Wd w0 Lr) fuel (listed.setIfInBounds i true) a' w') Q) : wpOp P ops Q i (fun a' w' => Wd w0 Lr w' ∧ wpAnyH P md ops Q (Wd w0 Lr) fuel (listed.setIfInBounds i true) a' w') a w := by
 cases g with
 | none =>
   unfold wpOp
   simp only [hi, Region.wanted, if_true]
   exact .inl h
 | some g =>
   obtain ⟨j, p⟩ := g
   obtain ⟨t, hj, hl⟩ := hw
   have hyd := Xc S.kn hj hl
   unfold wpOp
   simp only [hi, Region.wanted, hyd, cond_true]
   simpa using Or.inl h
theorem h_splitw {i j : Nat} {di dj : Option Tmp} {opi opj : Op} {tyi tyj : TypeId} {posi posj : String} {ai aj : Array Edge} {gi gj : Option (Nat × Bool)} (S : St n w0 K L a w) (hr : Region.ready md ops listed = [i, j]) (hi : ops[i]? = some ⟨di, opi, tyi, posi, ai, gi⟩) (hj : ops[j]? = some ⟨dj, opj, tyj, posj, aj, gj⟩)
   (wi : Wants ops K gi) (wj : Wants ops K gj)
   (h1 : Oper.wp P ⟨di, opi, tyi, posi, ai, gi⟩ a w (fun a' w' => Wd w0 Lr w' ∧ wpAnyH P md ops Q (Wd w0 Lr) fuel (listed.setIfInBounds i true) a' w') Q)
   (h2 : Oper.wp P ⟨dj, opj, tyj, posj, aj, gj⟩ a w (fun a' w' => Wd w0 Lr w' ∧ wpAnyH P md ops Q (Wd w0 Lr) fuel (listed.setIfInBounds j true) a' w') Q) : wpAnyH P md ops Q (Wd w0 Lr) (fuel + 1) listed a w :=
 wpAnyH_all hr (by simp) fun k hk => by
   simp only [List.mem_cons, List.not_mem_nil, or_false] at hk
   rcases hk with rfl | rfl
   · exact h_pick S hi wi h1
   · exact h_pick S hj wj h2
end
end Go.Fw
namespace Go.Fw
open Go.RowKit
abbrev U1 : Upd := ⟨[107], ⟨0, 1, 1⟩, [109, 105, 108, 107], 1, 0, Cart.zero⟩
abbrev S0 : Sls3 := ⟨none, 0, 0, none, 0, 0, none, 0, 0⟩
def C1 : Cart := ⟨[U1.ent], ⟨[⟨0, 1, 1⟩], []⟩⟩
theorem meant_one : meantK [U1] = (C1, 0) := by decide +kernel
theorem room_one : RoomU [U1] := room_few (by decide)
abbrev L1 : SLog := ⟨1, 0, 0, (U1, S0), 0, 0, [107], (Cart.zero, S0), (Cart.zero, S0)⟩
theorem issued_two : issuedK [L1, L1] = (1, 260) := by decide +kernel
end Go.Fw
namespace Go.Proofs.YtakpdbmdfnialaaGreat
open Go.Fw Go.Proofs Go.RowKit Go.Proofs.Tryz
theorem c104 (w0 : World) : Calls Tryz.prog 104 #[] w0 fun e w' => e = .returned (.agg (Upd.enc U1 (.slice none 0 0) (.slice none 0 0) (.slice none 0 0)).toArray) ∧ Bel w0.heap.size w0 w' := by
 refine enter0 func104 rfl ntmps104 rfl fun a S => wp_seq_k fun _ hK1 => wp_region_lit (Zk (Zn S zeroValue77 (cs := _) rfl rfl fun g1 a w S => Zb (Za (hK1 _ _ (wp_seq_k fun _ hK1 => wp_region_lit (run S (.yy (Xj (ps := [(0, _), (1, _), (2, _)]) (us := [_, _, _]) bld74 (.cons Ev.c (.cons Ev.c (.cons Ev.c .nil))) rfl) rfl <| .yy (Xj (ps := [(0, _), (1, Go.Operand.tmp 1), (2, _), (3, _)]) (us := [_, _, _, _, _, _, _, _, _, _]) bld77 (.cons Ev.c (.cons (.t rfl) (.cons Ev.c (.cons Ev.c .nil)))) rfl) rfl <| .z) fun a w S => Zk (Zv S sizeOf77 (.t rfl) (.t rfl) (k := 0) rfl rfl rfl (by simp [Value.oneCell']) fun a w S => Zb (Za (hK1 _ _ (wp_ret (Zj S (results1 S results104 (Rv.cell (k := 0) ⟨isAgg77, sizeOf77⟩ rfl rfl rfl)) ?_)))))))))))
 exact ⟨rfl, S.wd.below⟩
theorem c38 (w0 : World) : Calls Tryz.prog 38 #[] w0 fun e w' => e = .returned (.bool true) ∧ Bel w0.heap.size w0 w' := by
 have hu : ∀ w, UpdsRd w [(U1, S0)] := fun w x hx => by
   rw [List.mem_singleton.1 hx]
   exact ⟨Sl.nil_, Sl.nil_, Sl.nil_⟩
 have hl : ∀ w, LogsRd w [L1, L1] := fun w x hx => by
   have e : x = L1 := by simpa using hx
   rw [e]
   exact ⟨⟨Sl.nil_, Sl.nil_, Sl.nil_⟩, ⟨Sl.nil_, Sl.nil_, Sl.nil_⟩, ⟨Sl.nil_, Sl.nil_, Sl.nil_⟩⟩
 have hm : meantK (List.map (fun x : SUpd => x.1) [(U1, S0)]) = (C1, 0) := meant_one
 refine enter0 func38 rfl ntmps38 rfl fun a S => sg S (.ac rfl <| .z) fun a w S => wp_seq_k fun _ hK1 => wp_region_lit (run S (.xx (Zh call104 .nil (fun hp w W => c104 _)) rfl <| .z) fun a w S => Zk (Yp S underlying72 inf77 rfl rfl rfl (.t rfl) rfl rfl rfl fun g1 a w S => Zk (Zz S call39 (.cons (.t rfl) .nil) (c39 _ _ [(U1, S0)] (Sl.of_blk (enc := SUpd.enc) (cap := 1) [(U1, S0)] S.wd (k := 0) rfl rfl SUpd.enc_len (Nat.le_refl 1) (by decide)) (hu _) (by decide) room_one) rfl ?_)))
 clear S a w
 rintro _ _ ⟨A1, r1, A2, r2, A3, r3, rfl, rfl⟩ a w S
 simp only [hm] at S
 refine run S (.mv rfl <| .ex rfl rfl <| .ex rfl rfl <| .z) fun a w S => Zk (Zn S zeroValue37 (cs := _) rfl rfl fun g2 a w S => Zk (Zv S sizeOf37 (.t rfl) (.t rfl) (k := 0) rfl rfl rfl (by simp [Value.oneCell']) fun a w S => run S (.as rfl <| .z) fun a w S => Zb (Za (hK1 _ _ (wp_seq_k fun _ hK1 => wp_region_lit (run S (.xx (Zh call104 .nil (fun hp w W => c104 _)) rfl <| .yy (Xj (ps := [(0, _), (3, Go.Operand.tmp 12), (5, _)]) (us := [_, _, _, _, _, _, _, _, _, _, _, _, _, _, _, _, _, _, _, _, _, _]) bld96 (.cons Ev.c (.cons (.t rfl) (.cons Ev.c .nil))) rfl) rfl <| .xx (Zh call104 .nil (fun hp w W => c104 _)) rfl <| .yy (Xj (ps := [(0, _), (3, Go.Operand.tmp 14), (5, _)]) (us := [_, _, _, _, _, _, _, _, _, _, _, _, _, _, _, _, _, _, _, _, _, _]) bld96 (.cons Ev.c (.cons (.t rfl) (.cons Ev.c .nil))) rfl) rfl <| .z) fun a w S => Zk (Wn (ps := [(0, Go.Operand.tmp 13), (1, Go.Operand.tmp 15)]) (us := [_, _, _, _, _, _, _, _, _, _, _, _, _, _, _, _, _, _, _, _, _, _, _, _, _, _, _, _, _, _, _, _, _, _, _, _, _, _, _, _, _, _, _, _]) S underlying84 sizeOf96 zeroValue96 rfl rfl (.cons (.t rfl) (.cons (.t rfl) .nil)) rfl rfl fun g3 a w S => run S (.as rfl <| .z) fun a w S => Zb (Za (hK1 _ _ (wp_seq_k fun _ hK1 => wp_region_lit (run S (.mv rfl <| .z) fun a w S => ?_)))))))))))
 refine Yh S (Zh call52 (.cons (.t rfl) .nil) (fun _ w' W' => c52 w' _ [L1, L1] (Sl.of_blk (enc := SLog.enc) (cap := 2) [L1, L1] W' (k := 0) rfl rfl SLog.enc_len (Nat.le_refl 2) (by decide)) (hl _))) rfl ?_
 clear S a w
 intro a w S
 simp only [issued_two] at S
 have rw_c1 : ((C1.ents.length : Nat) : Int) = 1 := rfl
 have rw_kp : ∀ s : Sls3, (List.any [(C1, s)] fun c : SCart => c.1.ctx.covers U1.dot) = true := fun s => by
   rw [List.any_cons, List.any_nil, Bool.or_false]
   exact (by decide +kernel : C1.ctx.covers U1.dot = true)
 refine run S (.mv rfl <| .ex rfl rfl <| .ex rfl rfl <| .as rfl <| .as rfl <| .z) fun a w S => Zb (Za (hK1 _ _ (wp_seq_k fun _ hK1 => h_begin0 S (by kernel_rfl) fun a w S => hy 0 S rfl (Zd (.t rfl)) rfl fun a w S => hy 1 S rfl (Yu (by omega) (Yd (.t rfl) Ev.c)) rfl fun a w S => hy 2 S rfl (Zd (.t rfl)) rfl fun a w S => hyt 3 S rfl rfl rfl (Zc (FieldT.mk underlying37 rfl sizeOf31 rfl) (.t rfl) (i' := 0) rfl) rfl fun a w S => ?_)))
 refine hyt 4 S rfl rfl rfl (Zu ⟨isAgg31, sizeOf31⟩ (.t rfl) (k := 1) rfl rfl) rfl fun a w S => hyt 5 S rfl rfl rfl (Xy underlying31 (.t rfl)) rfl fun a w S => ?_
 rw [rw_c1] at S
 refine hyt 6 S rfl rfl rfl (Yu (by omega) (Yd (.t rfl) Ev.c)) rfl fun a w S => hy 7 S rfl (Zt (.t rfl) (.t rfl)) rfl fun a w S => hy 8 S rfl (Zd (.t rfl)) rfl fun a w S => hyt 9 S rfl rfl rfl (Zd (.t rfl)) rfl fun a w S => hyt 10 S rfl rfl rfl (Yu (by omega) (Yd (.t rfl) Ev.c)) rfl fun a w S => ?_
 refine hy 11 S rfl (Zt (.t rfl) (.t rfl)) rfl fun a w S => hy 12 S rfl (Zd (.t rfl)) rfl fun a w S => hyt 13 S rfl rfl rfl (Zd (.t rfl)) rfl fun a w S => hyt 14 S rfl rfl rfl (Yu (by omega) (Yd (.t rfl) Ev.c)) rfl fun a w S => hy 15 S rfl (Zt (.t rfl) (.t rfl)) rfl fun a w S => ?_
 refine hy 16 S rfl (Zd (.t rfl)) rfl fun a w S => hyt 18 S rfl rfl rfl (Ye ⟨isAgg37, sizeOf37⟩ (.t rfl) (k := 1) rfl rfl) rfl fun a w S => ?_
 refine h_splitw S (i := 17) (j := 19) (by kernel_rfl) rfl rfl ⟨_, rfl, rfl⟩ ⟨_, rfl, rfl⟩ ?_ ?_
 (refine op_y S (Zh call104 .nil (fun hp w W => c104 _)) rfl ?_; clear S a w; intro a w S; refine Yi S ?_)
 (refine h_mg (i := 19) S rfl (by kernel_rfl) rfl rfl (Yp S underlying64 inf37 rfl rfl rfl (.t rfl) rfl rfl rfl ?_); clear S a w; intro g4 a w S; refine h_n2 S ?_)
 rotate_left
 (refine Yp S underlying64 inf37 rfl rfl rfl (.t rfl) rfl rfl rfl ?_; clear S a w; intro g4 a w S; refine Yi S ?_)
 refine h_qg (i := 17) S (by repeat (first | exact List.Sublist.refl _ | exact List.nil_sublist _ | refine .cons_cons _ ?_ | refine .cons _ ?_)) rfl (by kernel_rfl) rfl rfl (Zh call104 .nil (fun hp w W => c104 _)) rfl fun a w S => ?_
 rotate_left
 · refine h_qg (i := 20) S (by repeat (first | exact List.Sublist.refl _ | exact List.nil_sublist _ | refine .cons_cons _ ?_ | refine .cons _ ?_)) rfl (by kernel_rfl) rfl rfl (Zh call105 (.cons (.t rfl) (.cons (.t rfl) .nil)) (fun hp w W => c105 w _ _ _ _ _ [(C1, ⟨A1, C1.ents.length, r1, A2, C1.ctx.marks.length, r2, A3, C1.ctx.cloud.length, r3⟩)]
     (Sl.of_blk (enc := SCart.enc) (cap := 1) [(C1, ⟨A1, C1.ents.length, r1, A2, C1.ctx.marks.length, r2, A3, C1.ctx.cloud.length, r3⟩)] W (k := 0) rfl rfl SCart.enc_len (Nat.le_refl 1) (by decide))
     (fun x hx => by rw [List.mem_singleton.1 hx]; exact ⟨Sl.of_own W (k := 3) rfl (fun _ => rfl), Sl.of_own W (k := 4) rfl (fun _ => rfl), Sl.of_own W (k := 5) rfl (fun _ => rfl)⟩))) rfl ?_
   clear S
   intro a w S
   refine hy 21 S rfl (Zt (.t rfl) (.t rfl)) rfl fun a w S => ?_
   rw [rw_kp] at S
   refine hy 22 S rfl (Yb (.t rfl)) rfl fun a w S => Yz (by kernel_rfl) (Za (hK1 _ _ (wp_ret (Zj S (results1 S results38 (Rv.tmp rfl)) ?_))))
   exact ⟨rfl, S.wd.below⟩
 · refine h_qg (i := 20) S (by repeat (first | exact List.Sublist.refl _ | exact List.nil_sublist _ | refine .cons_cons _ ?_ | refine .cons _ ?_)) rfl (by kernel_rfl) rfl rfl (Zh call105 (.cons (.t rfl) (.cons (.t rfl) .nil)) (fun hp w W => c105 w _ _ _ _ _ [(C1, ⟨A1, C1.ents.length, r1, A2, C1.ctx.marks.length, r2, A3, C1.ctx.cloud.length, r3⟩)]
     (Sl.of_blk (enc := SCart.enc) (cap := 1) [(C1, ⟨A1, C1.ents.length, r1, A2, C1.ctx.marks.length, r2, A3, C1.ctx.cloud.length, r3⟩)] W (k := 0) rfl rfl SCart.enc_len (Nat.le_refl 1) (by decide))
     (fun x hx => by rw [List.mem_singleton.1 hx]; exact ⟨Sl.of_own W (k := 3) rfl (fun _ => rfl), Sl.of_own W (k := 4) rfl (fun _ => rfl), Sl.of_own W (k := 5) rfl (fun _ => rfl)⟩))) rfl ?_
   clear S
   intro a w S
   refine hy 21 S rfl (Zt (.t rfl) (.t rfl)) rfl fun a w S => ?_
   rw [rw_kp] at S
   refine hy 22 S rfl (Yb (.t rfl)) rfl fun a w S => Yz (by kernel_rfl) (Za (hK1 _ _ (wp_ret (Zj S (results1 S results38 (Rv.tmp rfl)) ?_))))
   exact ⟨rfl, S.wd.below⟩
end Go.Proofs.YtakpdbmdfnialaaGreat
namespace Go.Proofs.YtakpdbmdfnialaaGreat
open Go.Fw Go.Proofs Go.RowKit Go.ChangeShapes Go.WideShapes Go.ChangeAt Go.Deep Go.Joins Go.Proofs.Tryz
section
variable {H : Type} {enc : TypeId × Value → H} {w : World}
def lensC (X : Cart) (b : Nat) : Prop := X.ents.length ≤ b ∧ X.ctx.marks.length ≤ b ∧ X.ctx.cloud.length ≤ b
def SuRd (w : World) (s : SUpd) (b : Nat) : Prop := CartRd w s.1.seen s.2 ∧ lensC s.1.seen b ∧ s.1.key.length ≤ b
theorem rdSU : Rdr enc Tryz.prog w 77 fun cs b => ∃ s : SUpd, cs = SUpd.enc s ∧ SuRd w s b := rdUpd.mono fun cs b ⟨u, v1, v2, v3, e, hX, hk, _⟩ => by
 obtain ⟨h1, ⟨h2, h3⟩, l1, l2, l3, _⟩ := hX
 have k1 := h1
 have k2 := h2
 have k3 := h3
 obtain ⟨A1, c1, rfl, _⟩ := h1
 obtain ⟨A2, c2, rfl, _⟩ := h2
 obtain ⟨A3, c3, rfl, _⟩ := h3
 exact ⟨(u, ⟨A1, _, c1, A2, _, c2, A3, _, c3⟩), e, ⟨k1, k2, k3⟩, ⟨by dsimp only; omega, by dsimp only; omega, by dsimp only; omega⟩, hk⟩
end
end Go.Proofs.YtakpdbmdfnialaaGreat
namespace Go.Fw
open Go.RowKit
def logOk (x : SLog) : Bool := decide (canE x.s.1 = 0) && decide (canE x.c.1 = 0) && decide (canE x.u.1.seen = 0)
theorem logOk_is {x : SLog} (h : logOk x = true) : CartOk x.s.1 ∧ CartOk x.c.1 ∧ CartOk x.u.1.seen := by
 unfold logOk at h
 rw [Bool.and_eq_true, Bool.and_eq_true, decide_eq_true_eq, decide_eq_true_eq, decide_eq_true_eq, canE_ok, canE_ok, canE_ok] at h
 exact ⟨h.1.1, h.1.2, h.2⟩
theorem any_not {α : Type} (p : α → Bool) (l : List α) : (l.any fun x => !p x) = !l.all p := by
 induction l with
 | nil => rfl
 | cons x r ih => rw [List.any_cons, List.all_cons, ih, Bool.not_and]
end Go.Fw
namespace Go.Proofs.YtakpdbmdfnialaaGreat
open Go.Fw Go.Proofs Go.RowKit Go.Proofs.Tryz
theorem x169 (w0 : World) (v : Value) (l : List SLog) (f : FuncId) (cs : List Value) (p : SLog → Bool) (hf : ∀ args w, (callFunc f args).run Tryz.prog w = .ok (.enter f args) w) (hr : ReadsV SLog.enc w0 f cs l p) (h : Sl SLog.enc 22 w0 w0.heap.size v l) :
   Calls Tryz.prog 169 #[v, .func (.func f) #[] cs.toArray] w0 fun e w' => e = .returned (.int .i64 (idxW p 0 l)) ∧ Bel w0.heap.size w0 w' := by
 obtain ⟨A, cap, rfl, hl, hcap, hA⟩ := h
 refine enter2 func169 rfl ntmps169 rfl fun a S => sg S (.ac rfl <| .z) fun a w S => wp_seq_k fun _ hK1 => sg S (.mv rfl <| .ln underlying84 rfl <| .mc rfl <| .z) fun a w S => wp_block ?_
 refine Xe S [4, 5, 8] (X := Nat) (fun k => [(8, true, .int .i64 (k : Int))]) (fun _ => []) (fun k => k ≤ l.length ∧ idxW p k (l.drop k) = idxW p 0 l) (fun k => l.length - k) 0 ⟨Nat.zero_le _, rfl⟩ ?_
 clear S
 intro k a w ⟨hk, hno⟩ S
 by_cases hlt : k < l.length
 · obtain ⟨gq, oq, x, rfl, hx, hd, hcc⟩ := Yk hA hlt
   rw [hd] at hno
   have hrx := fun w' W' => hr w' W' x (List.mem_of_getElem? hx)
   refine sg S (.lt (by omega) rfl rfl <| .z) fun a w S => wp_seq_k fun _ hK2 => Zg S (.t rfl) (wp_skip (Za (hK2 _ _ (wp_seq_k fun _ hK2 => wp_block (sg S (.mv rfl <| .as rfl <| .z) fun a w S => wp_seq_k fun _ hK3 => wp_region_lit (run S (.mv rfl <| .mv rfl <| .mv rfl <| .ix underlying84 sizeOf96 (by omega) rfl rfl <| .yy (Zp ⟨isAgg96, sizeOf96⟩ (.t rfl) (vs := [_, _, _, _, _, _, _, _, _, _, _, _, _, _, _, _, _, _, _, _, _, _]) rfl (fun _ => hcc)) rfl <| .z) fun a w S => Yh S (ys_callVC (cs := cs) (vs := [.agg (SLog.enc x).toArray]) (v := .bool (p x)) (.t rfl) hf (.cons (.t rfl) .nil) (fun _ w' W' => hrx w' (W'.sub (List.nil_sublist _)))) rfl ?_))))))
   clear S a w
   intro a w S
   cases hp : p x with
   | true =>
     rw [hp] at S
     refine Zb (Za (hK3 _ _ (Zg S (.t rfl) (sg S (.mv rfl <| .as rfl <| .z) fun a w S => wp_ret (Zr (Ze (Ze (Zr (Ze (Zj S (results1 S results169 (Rv.tmp rfl)) ?_))))))))))
     refine ⟨?_, S.wd.below⟩
     rw [← hno, idxW, if_pos hp]
   | false =>
     rw [hp] at S
     refine Zb (Za (hK3 _ _ (Zf S (.t rfl) (wp_skip (Zm (Za (hK2 _ _ (wp_region_lit (run S (.ad (by unfold I64; omega) rfl <| .mv rfl <| .z) fun a w S => Zb (Za ?_))))))))))
     rw [idxW, if_neg (by rw [hp]; decide)] at hno
     exact ⟨k + 1, ⟨by omega, hno⟩, by omega, S.pk⟩
 · obtain rfl : k = l.length := by omega
   rw [List.drop_length] at hno
   refine sg S (.ge (by omega) rfl rfl <| .z) fun a w S => wp_seq_k fun _ hK2 => Zf S (.t rfl) (wp_exit (Zi (Zi (Zy (Za (hK1 _ _ (sg S (.ac rfl <| .z) fun a w S => wp_ret (Zj S (results1 S results169 (Rv.tmp rfl)) ?_))))))))
   exact ⟨by rw [← hno]; rfl, S.wd.below⟩
theorem x114 (w0 : World) (v : Value) (l : List SLog) (f : FuncId) (cs : List Value) (p : SLog → Bool) (hf : ∀ args w, (callFunc f args).run Tryz.prog w = .ok (.enter f args) w) (hr : ReadsV SLog.enc w0 f cs l p) (h : Sl SLog.enc 22 w0 w0.heap.size v l) :
   Calls Tryz.prog 114 #[v, .func (.func f) #[] cs.toArray] w0 fun e w' => e = .returned (.bool (l.any p)) ∧ Bel w0.heap.size w0 w' := by
 have hs := h
 obtain ⟨A, cap, rfl, hl, hcap, hA⟩ := h
 refine enter2 func114 rfl ntmps114 rfl fun a S => sg S (.ac rfl <| .z) fun a w S => wp_seq_k fun _ hK1 => wp_region_lit (run S (.mv rfl <| .mv rfl <| .z) fun a w S => Yh S (Zh call169 (.cons (.t rfl) (.cons (.t rfl) .nil)) (fun _ w' W' => x169 w' _ l f cs p hf (fun w'' W'' => hr w'' ((W'.sub (List.nil_sublist _)).step W''.below)) (Sl.old W' hs))) rfl ?_)
 clear S a w
 intro a w S
 refine run S (.yy (Xd (.t rfl) Ev.c) rfl <| .as rfl <| .z) fun a w S => Zb (Za (hK1 _ _ (wp_ret (Zj S (results1 S results114 (Rv.tmp rfl)) ?_))))
 exact ⟨by rw [← idxW_any p l 0], S.wd.below⟩
theorem c116 (w0 : World) (c : SCart) (h : CartRd w0 c.1 c.2) :
   Calls Tryz.prog 116 #[.agg (SCart.enc c).toArray] w0 fun e w' => e = .returned (.bool (!decide (canE c.1 = 0))) ∧ Bel w0.heap.size w0 w' := by
 have r1 := h.ents
 have r2 := h.ctx
 by_cases hc : canE c.1 = 0
 · have rw_c := hc
   refine enter1 func116 rfl ntmps116 rfl fun a S => wp_seq_k fun _ hK1 => wp_region_lit (Zk (Ya S (.t rfl) rfl fun g1 a w S => run S (.ac rfl <| .z) fun a w S => Zb (Za (hK1 _ _ (wp_seq_k fun _ hK1 => wp_region_lit (run S (.la gt37 0 rfl rfl rfl <| .xx (Zh call32 (.cons (.t rfl) .nil) (fun hp w W => c32 _ _ _ _ _ (by exact .old W (by assumption)) (by exact .old W (by assumption)))) rfl <| .z) fun a w S => ?_))))))
   rw [rw_c] at S
   refine run S (.yy (Ym (by omega) (Yt (.t rfl) Ev.c)) rfl <| .as rfl <| .z) fun a w S => Zb (Za (hK1 _ _ (wp_ret (Zj S (results1 S results116 (Rv.tmp rfl)) ?_))))
   exact ⟨by rw [decide_eq_true hc]; rfl, S.wd.below⟩
 · have rw_c : decide (canE c.1 ≠ 0) = true := decide_eq_true hc
   refine enter1 func116 rfl ntmps116 rfl fun a S => wp_seq_k fun _ hK1 => wp_region_lit (Zk (Ya S (.t rfl) rfl fun g1 a w S => run S (.ac rfl <| .z) fun a w S => Zb (Za (hK1 _ _ (sg S (.la gt37 0 rfl rfl rfl <| .xx (Zh call32 (.cons (.t rfl) .nil) (fun hp w W => c32 _ _ _ _ _ (by exact .old W (by assumption)) (by exact .old W (by assumption)))) rfl <| .yy (Yu (by omega) (Yt (.t rfl) Ev.c)) rfl <| .as rfl <| .z) fun a w S => wp_ret (Zj S (results1 S results116 (Rv.tmp rfl)) ?_))))))
   exact ⟨by rw [decide_eq_false hc]; rfl, S.wd.below⟩
theorem c42 (w0 : World) (v : Value) (l : List SCart) (h : Sl SCart.enc 3 w0 w0.heap.size v l) (hc : CartsRd w0 l) :
   Calls Tryz.prog 42 #[v] w0 fun e w' => e = .returned (.bool (l.all fun c => decide (canE c.1 = 0))) ∧ Bel w0.heap.size w0 w' := by
 refine enter1 func42 rfl ntmps42 rfl fun a S => sg S (.ac rfl <| .z) fun a w S => wp_seq_k fun _ hK1 => wp_region_lit (run S (.mv rfl <| .z) fun a w S => ?_)
 refine Yh S (Zh call93 (.cons (.t rfl) (.cons Ev.f .nil)) (fun _ w' W' => x93 w' _ l 116 [] _ call116
   (fun w'' W'' y hy => c116 w'' y (((hc y hy).old W').old W'')) (Sl.old W' h))) rfl ?_
 clear S a w
 intro a w S
 rw [any_not] at S
 refine run S (.nt rfl <| .as rfl <| .z) fun a w S => Zb (Za (hK1 _ _ (wp_ret (Zj S (results1 S results42 (Rv.tmp rfl)) ?_))))
 exact ⟨by simp, S.wd.below⟩
theorem c115 (w0 : World) (x : SLog) (h : LogRd w0 x) :
   Calls Tryz.prog 115 #[.agg (SLog.enc x).toArray] w0 fun e w' => e = .returned (.bool (!logOk x)) ∧ Bel w0.heap.size w0 w' := by
 have r1 := h.u
 have r2 := h.s
 have r3 := h.c
 refine enter1 func115 rfl ntmps115 rfl fun a S => wp_seq_k fun _ hK1 => wp_region_lit (Zk (Ya S (.t rfl) rfl fun g1 a w S => run S (.ac rfl <| .z) fun a w S => Zb (Za (hK1 _ _ (wp_seq_k fun _ hK1 => wp_region_lit (run S (.fa underlying96 sizeOf37 16 rfl rfl rfl <| .la gt37 0 rfl rfl rfl <| .fa underlying96 sizeOf37 19 rfl rfl rfl <| .la gt37 0 rfl rfl rfl <| .fa underlying96 sizeOf77 3 rfl rfl rfl <| .fa underlying77 sizeOf37 10 rfl rfl rfl <| .la gt37 0 rfl rfl rfl <| .z) fun a w S => Zk (Wn (ps := [(0, Go.Operand.tmp 4), (1, Go.Operand.tmp 6), (2, Go.Operand.tmp 9)]) (us := [_, _, _, _, _, _, _, _, _]) S underlying64 sizeOf37 zeroValue37 rfl rfl (.cons (.t rfl) (.cons (.t rfl) (.cons (.t rfl) .nil))) rfl rfl fun g2 a w S => ?_)))))))
 refine Yh S (Zh call42 (.cons (.t rfl) .nil) (fun _ w' W' => c42 w' _ [x.s, x.c, (x.u.1.seen, x.u.2)]
   (Sl.of_blk (enc := SCart.enc) (cap := 3) [x.s, x.c, (x.u.1.seen, x.u.2)] W' (k := 0) rfl rfl SCart.enc_len (Nat.le_refl 3) (by decide))
   (fun y hy => by
     simp only [List.mem_cons, List.not_mem_nil, or_false] at hy
     rcases hy with rfl | rfl | rfl
     · exact r2.old W'
     · exact r3.old W'
     · exact r1.old W'))) rfl ?_
 clear S a w
 intro a w S
 have hlo : ([x.s, x.c, (x.u.1.seen, x.u.2)].all fun c : SCart => decide (canE c.1 = 0)) = logOk x := by
   simp only [List.all_cons, List.all_nil, Bool.and_true]
   unfold logOk
   rw [Bool.and_assoc]
 rw [hlo] at S
 refine run S (.nt rfl <| .as rfl <| .z) fun a w S => Zb (Za (hK1 _ _ (wp_ret (Zj S (results1 S results115 (Rv.tmp rfl)) ?_))))
 exact ⟨rfl, S.wd.below⟩
theorem c41 (w0 : World) (v : Value) (l : List SLog) (h : Sl SLog.enc 22 w0 w0.heap.size v l) (hl : LogsRd w0 l) :
   Calls Tryz.prog 41 #[v] w0 fun e w' => e = .returned (.bool (l.all logOk)) ∧ Bel w0.heap.size w0 w' := by
 refine enter1 func41 rfl ntmps41 rfl fun a S => sg S (.ac rfl <| .z) fun a w S => wp_seq_k fun _ hK1 => wp_region_lit (run S (.mv rfl <| .z) fun a w S => ?_)
 refine Yh S (Zh call114 (.cons (.t rfl) (.cons Ev.f .nil)) (fun _ w' W' => x114 w' _ l 115 [] _ call115
   (fun w'' W'' y hy => c115 w'' y (((hl y hy).old W').old W'')) (Sl.old W' h))) rfl ?_
 clear S a w
 intro a w S
 rw [any_not] at S
 refine run S (.nt rfl <| .as rfl <| .z) fun a w S => Zb (Za (hK1 _ _ (wp_ret (Zj S (results1 S results41 (Rv.tmp rfl)) ?_))))
 exact ⟨by simp, S.wd.below⟩
end Go.Proofs.YtakpdbmdfnialaaGreat
