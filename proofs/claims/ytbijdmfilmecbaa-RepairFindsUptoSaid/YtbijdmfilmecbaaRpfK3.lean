/- Contracts and laws that the statement Rpf leans on, part 3. -/
import Derived.Test.YtbijdmfilmecbaaRpfK2
set_option linter.unusedVariables false
set_option linter.unusedSimpArgs false
set_option maxRecDepth 100000
set_option maxHeartbeats 4000000
namespace Go.Fw
open Go.RowKit
theorem unlikeA_ok {T : List KH} {n : Int} {sums : List Sm} (h : okP n 4 (sums.map (·.place)) = true) : unlikeA T n sums = (unlikeT T n sums, 0) := if_pos h
theorem unlikeA_no {T : List KH} {n : Int} {sums : List Sm} (h : ¬ okP n 4 (sums.map (·.place)) = true) : unlikeA T n sums = ([], 80) := if_neg h
end Go.Fw
namespace Go.Proofs.Ytbijdmfilmecbaa
open Go.Fw Go.Proofs Go.RowKit Go.Proofs.Try
theorem c83 (w0 : World) (self : Int) (m : MV) (g cap : Nat) (A : Option Addr) (gs : List Nat) (T : List KH) (sums : List Sm) (h : TreeAt w0 g A cap gs T) (hT : KhOk T) (hl : T.length ≤ 1048576) (h2 : Sl Sm.enc 3 w0 w0.heap.size (.slice m.su.a m.su.n m.su.c) sums) (hs : Sums sums) :
   Rets Try.prog 83 #[.agg (XV.enc self g m).toArray] w0 fun u L => ∃ C cC B cB, u = .slice C (ansV self m ⟨[], downT T m.nn sums⟩ B cB).length cC ∧ L = [rowOf 111 17 MV.enc C cC (ansV self m ⟨[], downT T m.nn sums⟩ B cB), rowOf 28 3 Sm.enc B cB (Ans.sums ⟨[], downT T m.nn sums⟩)] := by
 have hsl := hs.len
 have hsl4 : sums.length ≤ 4194304 := by omega
 by_cases hok : okP m.nn 4 (sums.map (·.place)) = true
 rotate_left
 · have hu := unlikeA_no (T := T) hok
   have hd : downT T m.nn sums = none := if_neg fun e => hok e.1
   have rw_1 : (unlikeA T m.nn sums).1 = [] := by rw [hu]
   have rw_2 : (unlikeA T m.nn sums).2 = 80 := by rw [hu]
   rw [hd]
   unfold Go.Fw.Rets
   refine enter1 func83 rfl ntmps83 rfl fun a S => wp_seq_k fun _ hK1 => wp_region_lit (Zh (Xw S (.t rfl) rfl fun g1 a w S => run S (.ac rfl <| .z) fun a w S => Zb (Za (hK1 _ _ (wp_seq_k fun _ hK1 => wp_region_lit (run S (.fa underlying130 sizeOf24 1 rfl rfl rfl <| .ld gt24 0 rfl rfl rfl <| .fa underlying130 sizeOf111 2 rfl rfl rfl <| .fa underlying111 sizeOf3 12 rfl rfl rfl <| .ld gt3 0 rfl rfl rfl <| .fa underlying130 sizeOf111 2 rfl rfl rfl <| .fa underlying111 sizeOf22 18 rfl rfl rfl <| .ld gt22 0 rfl rfl rfl <| .z) fun a w S => ?_))))))
   (refine Zh (Zq S call27 (.cons (.t rfl) (.cons (.t rfl) (.cons (.t rfl) .nil))) (c27 _ _ _ _ _ _ _ _ _ (by exact .old S.wd (by assumption)) (by assumption) (by omega) (by exact .old S.wd (by assumption)) (by assumption)) rfl ?_); clear S a w; rintro _ _ ⟨B1, c1, rfl, rfl⟩ a w S)
   rw [rw_1] at S
   rw [rw_2] at S
   refine run S (.mv rfl <| .ex rfl rfl <| .ex rfl rfl <| .as rfl <| .as rfl <| .z) fun a w S => Zb (Za (hK1 _ _ (wp_seq_k fun _ hK1 => sg S (.mv rfl <| .yy (Ym (by omega) (Yn (.t rfl) Ev.c)) rfl <| .mv rfl <| .sk rfl rfl rfl <| .sk rfl rfl rfl <| .sk rfl rfl rfl <| .yy (Zu (.t rfl) Ev.c) rfl <| .z) fun a w S => Ze S (.t rfl) (sg S (.ac rfl <| .z) fun a w S => wp_ret (Zj (Zk S (results1 S results83 (Rv.tmp rfl)) ?_))))))
   replace S := (S.nil_ 28 3 Sm.enc none).nil_ 111 17 MV.enc none
   exact ⟨_, _, rfl, S.wd.pk, none, 0, none, 0, rfl, rfl⟩
 have hu := unlikeA_ok (T := T) hok
 have hul := unlike_len T m.nn sums
 have hou := okP_unlike (T := T) hok
 by_cases hne : unlikeT T m.nn sums = []
 · have hd : downT T m.nn sums = none := if_neg fun e => e.2 hne
   have rw_1 : (unlikeA T m.nn sums).1 = [] := by rw [hu, hne]
   have rw_2 : (unlikeA T m.nn sums).2 = 0 := by rw [hu]
   rw [hd]
   unfold Go.Fw.Rets
   refine enter1 func83 rfl ntmps83 rfl fun a S => wp_seq_k fun _ hK1 => wp_region_lit (Zh (Xw S (.t rfl) rfl fun g1 a w S => run S (.ac rfl <| .z) fun a w S => Zb (Za (hK1 _ _ (wp_seq_k fun _ hK1 => wp_region_lit (run S (.fa underlying130 sizeOf24 1 rfl rfl rfl <| .ld gt24 0 rfl rfl rfl <| .fa underlying130 sizeOf111 2 rfl rfl rfl <| .fa underlying111 sizeOf3 12 rfl rfl rfl <| .ld gt3 0 rfl rfl rfl <| .fa underlying130 sizeOf111 2 rfl rfl rfl <| .fa underlying111 sizeOf22 18 rfl rfl rfl <| .ld gt22 0 rfl rfl rfl <| .z) fun a w S => ?_))))))
   (refine Zh (Zq S call27 (.cons (.t rfl) (.cons (.t rfl) (.cons (.t rfl) .nil))) (c27 _ _ _ _ _ _ _ _ _ (by exact .old S.wd (by assumption)) (by assumption) (by omega) (by exact .old S.wd (by assumption)) (by assumption)) rfl ?_); clear S a w; rintro _ _ ⟨B1, c1, rfl, rfl⟩ a w S)
   rw [rw_1] at S
   rw [rw_2] at S
   refine run S (.mv rfl <| .ex rfl rfl <| .ex rfl rfl <| .as rfl <| .as rfl <| .z) fun a w S => Zb (Za (hK1 _ _ (wp_seq_k fun _ hK1 => sg S (.mv rfl <| .yy (Yf (by omega) (Yn (.t rfl) Ev.c)) rfl <| .mv rfl <| .gy rfl rfl (Zd (.t rfl)) <| .gy rfl rfl (ys_lenS underlying42 (.t rfl)) <| .gy rfl rfl (Yt (.t rfl) Ev.c) <| .yy (Zs (.t rfl) (.t rfl)) rfl <| .z) fun a w S => Ze S (.t rfl) (sg S (.ac rfl <| .z) fun a w S => wp_ret (Zj (Zk S (results1 S results83 (Rv.tmp rfl)) ?_))))))
   replace S := (S.nil_ 28 3 Sm.enc none).nil_ 111 17 MV.enc none
   exact ⟨_, _, rfl, S.wd.pk, none, 0, none, 0, rfl, rfl⟩
 obtain ⟨u, hu0⟩ : ∃ u, unlikeT T m.nn sums = u := ⟨_, rfl⟩
 rw [hu0] at hu hul hou hne
 have rw_1 : (unlikeA T m.nn sums).1 = u := by rw [hu]
 have rw_2 : (unlikeA T m.nn sums).2 = 0 := by rw [hu]
 have hul0 : u.length ≠ 0 := fun e => hne (List.eq_nil_of_length_eq_zero e)
 have rw_0 : decide ((u.length : Int) = 0) = false := decide_eq_false (by omega)
 by_cases h4 : m.nn = 4
 · have hd : downT T m.nn sums = some (5, leavesT T u) := by
     unfold downT
     rw [if_pos ⟨hok, by rw [hu0]; exact hne⟩, if_pos h4, hu0]
   have rw_4 := decide_eq_true h4
   rw [hd]
   have hou4 : okP 4 4 u = true := by have := hou; rw [h4] at this; exact this
   unfold Go.Fw.Rets
   refine enter1 func83 rfl ntmps83 rfl fun a S => wp_seq_k fun _ hK1 => wp_region_lit (Zh (Xw S (.t rfl) rfl fun g1 a w S => run S (.ac rfl <| .z) fun a w S => Zb (Za (hK1 _ _ (wp_seq_k fun _ hK1 => wp_region_lit (run S (.fa underlying130 sizeOf24 1 rfl rfl rfl <| .ld gt24 0 rfl rfl rfl <| .fa underlying130 sizeOf111 2 rfl rfl rfl <| .fa underlying111 sizeOf3 12 rfl rfl rfl <| .ld gt3 0 rfl rfl rfl <| .fa underlying130 sizeOf111 2 rfl rfl rfl <| .fa underlying111 sizeOf22 18 rfl rfl rfl <| .ld gt22 0 rfl rfl rfl <| .z) fun a w S => ?_))))))
   (refine Zh (Zq S call27 (.cons (.t rfl) (.cons (.t rfl) (.cons (.t rfl) .nil))) (c27 _ _ _ _ _ _ _ _ _ (by exact .old S.wd (by assumption)) (by assumption) (by omega) (by exact .old S.wd (by assumption)) (by assumption)) rfl ?_); clear S a w; rintro _ _ ⟨B1, c1, rfl, rfl⟩ a w S)
   rw [rw_1] at S
   rw [rw_2] at S
   refine run S (.mv rfl <| .ex rfl rfl <| .ex rfl rfl <| .as rfl <| .as rfl <| .z) fun a w S => Zb (Za (hK1 _ _ (wp_seq_k fun _ hK1 => sg S (.mv rfl <| .yy (Yf (by omega) (Yn (.t rfl) Ev.c)) rfl <| .mv rfl <| .gy rfl rfl (Zd (.t rfl)) <| .gy rfl rfl (ys_lenS underlying42 (.t rfl)) <| .gy rfl rfl (Yf (by omega) (Yt (.t rfl) Ev.c)) <| .yy (Zs (.t rfl) (.t rfl)) rfl <| .z) fun a w S => Zf S (.t rfl) (wp_skip (Za (hK1 _ _ (wp_seq_k fun _ hK1 => sg S (.fa underlying130 sizeOf111 2 rfl rfl rfl <| .fa underlying111 sizeOf3 12 rfl rfl rfl <| .ld gt3 1 rfl rfl rfl <| .yy (Ym (by omega) (Yt (.t rfl) Ev.c)) rfl <| .z) fun a w S => Ze S (.t rfl) (sg S (.ac rfl <| .z) fun a w S => wp_seq_k fun _ hK2 => sg S (.mv rfl <| .ln underlying42 rfl <| .mc rfl <| .z) fun a w S => wp_block ?_))))))))
   replace S := S.nil_ 28 3 Sm.enc none
   refine Ye S [5, 38] (X := Nat × Option Addr × Nat) (fun q => [(5, true, .slice q.2.1 (leavesT T (u.take q.1)).length q.2.2), (38, true, .int .i64 (q.1 : Int))])
     (fun q => [rowOf 28 3 Sm.enc q.2.1 q.2.2 (leavesT T (u.take q.1)), rowOf 3 1 encI B1 c1 u, .blk g1 (.cells (XV.enc self g m).toArray 130)]) (fun q => q.1 ≤ u.length) (fun q => u.length - q.1) (0, none, 0) (Nat.zero_le _) ?_
   clear S
   rintro ⟨q, B, cB⟩ a w hq S
   dsimp only at hq S
   by_cases hlt : q < u.length
   · obtain ⟨gU, rfl⟩ := S.wd.row_at (k := 1) rfl (by have := (S.wd.room (k := 1) rfl).1; omega)
     obtain ⟨p, hp⟩ : ∃ p, u[q]? = some p := ⟨_, List.getElem?_eq_getElem hlt⟩
     have hst := leaves_snoc (T := T) hp
     have hll := leaves_len T (u.take q)
     rw [List.length_take, Nat.min_eq_left (Nat.le_of_lt hlt)] at hll
     have hl2 : (leavesT T (u.take q)).length ≤ 1048576 * 1048577 := Nat.le_trans hll (Nat.mul_le_mul (by omega) (by omega))
     have hka : keysA T [p] = (keysT T [p], 0) := if_pos (okP_one hou4 (List.mem_of_getElem? hp))
     have hkn := Xz T p
     generalize leavesT T (u.take q) = G at *
     generalize hks : keysT T [p] = ks at *
     have rw_k1 : (keysA T [p]).1 = ks := by rw [hka]
     have rw_k2 : (keysA T [p]).2 = 0 := by rw [hka]
     refine sg S (.lt (by omega) rfl rfl <| .z) fun a w S => wp_seq_k fun _ hK3 => Ze S (.t rfl) (wp_skip (Za (hK3 _ _ (wp_seq_k fun _ hK3 => wp_block (sg S (.ix underlying42 sizeOf3 (by omega) rfl rfl <| .yy (ys_ldW0 ⟨isAgg3, sizeOf3⟩ (.t rfl) (k := 1) rfl hp (fun _ => rfl) rfl) rfl <| .as rfl <| .z) fun a w S => wp_seq_k fun _ hK4 => wp_region_lit (run S (.fa underlying130 sizeOf24 1 rfl rfl rfl <| .ld gt24 2 rfl rfl rfl <| .mv rfl <| .z) fun a w S => Zh (Zm S underlying42 inf3 rfl rfl rfl (.t rfl) rfl rfl rfl fun g2 a w S => ?_)))))))
     (refine Zh (Zq S call25 (.cons (.t rfl) (.cons (.t rfl) .nil)) (c25 _ _ _ _ _ _ _ _ (by exact .old S.wd (by assumption)) (by assumption) (by assumption) (by exact sl_i1 S.wd (k := 0) rfl) (by (simp; done))) rfl ?_); clear S a w; rintro _ _ ⟨B1, c2, rfl, rfl⟩ a w S)
     rw [rw_k1] at S
     rw [rw_k2] at S
     refine run S (.mv rfl <| .ex rfl rfl <| .ex rfl rfl <| .as rfl <| .as rfl <| .z) fun a w S => Zb (Za (hK4 _ _ (wp_seq_k fun _ hK4 => wp_region_lit (run S (.mv rfl <| .mv rfl <| .yy (Xc (ps := [(0, Go.Operand.tmp 51)]) (us := [_, _, _]) bld28 (.cons (.t rfl) .nil) rfl) rfl <| .z) fun a w S => Zh (Zm S underlying22 inf28 rfl rfl rfl (.t rfl) rfl rfl rfl fun g3 a w S => Zh (Zw S underlying22 inf28 rfl (k := 3) (j := 0) rfl (.t rfl) (.t rfl) rfl Go.Fw.Sm.mkEnc rfl rfl (by first | omega | (simp only [List.length_append, List.length_cons, List.length_nil]; omega)) rfl rfl rfl fun A1 cap1 a w S => run S (.as rfl <| .z) fun a w S => Zb (Za (hK4 _ _ (wp_region_lit (run S (.mv rfl <| .mv rfl <| .z) fun a w S => Zh (op_extend _ S underlying22 underlying22 (.inr ⟨_, rfl⟩) inf28 rfl (k := 3) rfl (.t rfl) (.t rfl) (Src.row S.wd (k := 1) rfl (Go.Fw.flat_one Go.Fw.Sm.enc_one _)) (by first | omega | (simp only [List.length_append, List.length_cons, List.length_nil]; omega) | (simp; omega)) rfl rfl rfl fun A2 cap2 a w S => run S (.as rfl <| .z) fun a w S => Zb (Zg (Za (hK3 _ _ (wp_region_lit (run S (.ad (by unfold I64; omega) rfl <| .mv rfl <| .z) fun a w S => Zb (Za ?_)))))))))))))))))
     exact ⟨(q + 1, A2, cap2), by dsimp only; omega, by dsimp only; omega, by dsimp only; rw [hst]; exact S.pk⟩
   obtain rfl : q = u.length := by omega
   rw [List.take_length] at S
   generalize leavesT T u = G at *
   refine sg S (.ge (by omega) rfl rfl <| .z) fun a w S => wp_seq_k fun _ hK3 => Zf S (.t rfl) (wp_exit (Zc (Zc (Zn (Za (hK2 _ _ (wp_seq_k fun _ hK2 => wp_region_lit (run S (.la gt130 2 rfl rfl rfl <| .mv rfl <| .xx (Zi call103 (.cons (.t rfl) (.cons Ev.c (.cons (.t rfl) .nil))) (fun hp w W => c103 _ _ _ _ _ _ _ _)) rfl <| .z) fun a w S => Zh (Zm S underlying114 inf111 rfl rfl rfl (.t rfl) rfl rfl rfl fun g2 a w S => run S (.as rfl <| .z) fun a w S => Zb (Za (hK2 _ _ (wp_ret (Zj (Zk S (results1 S results83 (Rv.tmp rfl)) ?_))))))))))))))
   have W2 := (S.wd.picks (L' := [.blk g2 (.cells (MV.enc (treeV self m 5 ⟨B, G.length, cB⟩)).toArray 111), rowOf 28 3 Sm.enc B cB G]) (by repeat (first | exact Picks.nil | (refine Picks.rest ?_; (repeat (first | exact List.Sublist.refl _ | refine List.Sublist.cons_cons _ ?_ | refine List.Sublist.cons _ ?_)); done) | refine Picks.take 0 rfl ?_ | refine Picks.take 1 rfl ?_ | refine Picks.take 2 rfl ?_ | refine Picks.take 3 rfl ?_ | refine Picks.take 4 rfl ?_ | refine Picks.take 5 rfl ?_ | refine Picks.take 6 rfl ?_ | refine Picks.take 7 rfl ?_ | refine Picks.take 8 rfl ?_ | refine Picks.take 9 rfl ?_ | refine Picks.take 10 rfl ?_ | refine Picks.take 11 rfl ?_))).close_row (k := 0) rfl (size := 17) 1 1 ([treeV self m 5 ⟨B, G.length, cB⟩].flatMap MV.enc) (by decide) rfl (Nat.le_refl 1) (by decide) rfl
   exact ⟨_, _, rfl, W2, _, 1, B, cB, rfl, rfl⟩
 · obtain ⟨hb1, hb2⟩ := okP_below hou h4
   have hd : downT T m.nn sums = some (m.nn + 1, sumsT T (m.nn + 1) (belowT u)) := by
     unfold downT
     rw [if_pos ⟨hok, by rw [hu0]; exact hne⟩, if_neg h4, hu0]
   have rw_4 := decide_eq_false h4
   have rw_5 : (belowA m.nn u).1 = belowT u := by unfold belowA; rw [if_pos hb1]
   have rw_6 : (belowA m.nn u).2 = 0 := by unfold belowA; rw [if_pos hb1]
   have hbl := below_len u
   generalize hbt : belowT u = bt at *
   have rw_7 : (sumsA T (m.nn + 1) bt).1 = sumsT T (m.nn + 1) bt := by unfold sumsA; rw [if_pos hb2]
   have rw_8 : (sumsA T (m.nn + 1) bt).2 = 0 := by unfold sumsA; rw [if_pos hb2]
   have hlv := (okP_iff.1 hou).1
   generalize sumsT T (m.nn + 1) bt = st at *
   rw [hd]
   unfold Go.Fw.Rets
   refine enter1 func83 rfl ntmps83 rfl fun a S => wp_seq_k fun _ hK1 => wp_region_lit (Zh (Xw S (.t rfl) rfl fun g1 a w S => run S (.ac rfl <| .z) fun a w S => Zb (Za (hK1 _ _ (wp_seq_k fun _ hK1 => wp_region_lit (run S (.fa underlying130 sizeOf24 1 rfl rfl rfl <| .ld gt24 0 rfl rfl rfl <| .fa underlying130 sizeOf111 2 rfl rfl rfl <| .fa underlying111 sizeOf3 12 rfl rfl rfl <| .ld gt3 0 rfl rfl rfl <| .fa underlying130 sizeOf111 2 rfl rfl rfl <| .fa underlying111 sizeOf22 18 rfl rfl rfl <| .ld gt22 0 rfl rfl rfl <| .z) fun a w S => ?_))))))
   (refine Zh (Zq S call27 (.cons (.t rfl) (.cons (.t rfl) (.cons (.t rfl) .nil))) (c27 _ _ _ _ _ _ _ _ _ (by exact .old S.wd (by assumption)) (by assumption) (by omega) (by exact .old S.wd (by assumption)) (by assumption)) rfl ?_); clear S a w; rintro _ _ ⟨B1, c1, rfl, rfl⟩ a w S)
   rw [rw_1] at S
   rw [rw_2] at S
   refine run S (.mv rfl <| .ex rfl rfl <| .ex rfl rfl <| .as rfl <| .as rfl <| .z) fun a w S => Zb (Za (hK1 _ _ (wp_seq_k fun _ hK1 => sg S (.mv rfl <| .yy (Yf (by omega) (Yn (.t rfl) Ev.c)) rfl <| .mv rfl <| .gy rfl rfl (Zd (.t rfl)) <| .gy rfl rfl (ys_lenS underlying42 (.t rfl)) <| .gy rfl rfl (Yf (by omega) (Yt (.t rfl) Ev.c)) <| .yy (Zs (.t rfl) (.t rfl)) rfl <| .z) fun a w S => Zf S (.t rfl) (wp_skip (Za (hK1 _ _ (wp_seq_k fun _ hK1 => sg S (.fa underlying130 sizeOf111 2 rfl rfl rfl <| .fa underlying111 sizeOf3 12 rfl rfl rfl <| .ld gt3 1 rfl rfl rfl <| .yy (Yf (by omega) (Yt (.t rfl) Ev.c)) rfl <| .z) fun a w S => Zf S (.t rfl) (wp_skip (Za (hK1 _ _ (wp_seq_k fun _ hK1 => wp_region_lit (run S (.fa underlying130 sizeOf111 2 rfl rfl rfl <| .fa underlying111 sizeOf3 12 rfl rfl rfl <| .ld gt3 1 rfl rfl rfl <| .mv rfl <| .z) fun a w S => ?_))))))))))))
   (refine Zh (Zq S call30 (.cons (.t rfl) (.cons (.t rfl) .nil)) (c30 _ _ _ _ (by exact Sl.of_own S.wd (k := 0) rfl (fun _ => rfl)) (by omega)) rfl ?_); clear S a w; rintro _ _ ⟨B2, c2, rfl, rfl⟩ a w S)
   rw [rw_6] at S
   rw [rw_5] at S
   refine run S (.mv rfl <| .ex rfl rfl <| .ex rfl rfl <| .as rfl <| .as rfl <| .z) fun a w S => Zb (Za (hK1 _ _ (wp_seq_k fun _ hK1 => wp_region_lit (run S (.fa underlying130 sizeOf24 1 rfl rfl rfl <| .ld gt24 2 rfl rfl rfl <| .fa underlying130 sizeOf111 2 rfl rfl rfl <| .fa underlying111 sizeOf3 12 rfl rfl rfl <| .ld gt3 2 rfl rfl rfl <| .ad (by unfold I64; omega) rfl <| .mv rfl <| .z) fun a w S => ?_))))
   (refine Zh (Zq S call22 (.cons (.t rfl) (.cons (.t rfl) (.cons (.t rfl) .nil))) (c22 _ _ _ _ _ _ _ _ _ (by exact .old S.wd (by assumption)) (by assumption) (by omega) (by exact Sl.of_own S.wd (k := 0) rfl (fun _ => rfl)) (by omega)) rfl ?_); clear S a w; rintro _ _ ⟨B3, c3, rfl, rfl⟩ a w S)
   rw [rw_8] at S
   rw [rw_7] at S
   refine run S (.mv rfl <| .ex rfl rfl <| .ex rfl rfl <| .as rfl <| .as rfl <| .z) fun a w S => Zb (Za (hK1 _ _ (wp_seq_k fun _ hK1 => sg S (.mv rfl <| .yy (Yf (by omega) (Yn (.t rfl) Ev.c)) rfl <| .z) fun a w S => Zf S (.t rfl) (wp_skip (Za (hK1 _ _ (wp_seq_k fun _ hK1 => wp_region_lit (run S (.la gt130 3 rfl rfl rfl <| .fa underlying130 sizeOf111 2 rfl rfl rfl <| .fa underlying111 sizeOf3 12 rfl rfl rfl <| .ld gt3 3 rfl rfl rfl <| .ad (by unfold I64; omega) rfl <| .mv rfl <| .xx (Zi call103 (.cons (.t rfl) (.cons (.t rfl) (.cons (.t rfl) .nil))) (fun hp w W => c103 _ _ _ _ _ _ _ _)) rfl <| .z) fun a w S => Zh (Zm S underlying114 inf111 rfl rfl rfl (.t rfl) rfl rfl rfl fun g2 a w S => run S (.as rfl <| .z) fun a w S => Zb (Za (hK1 _ _ (wp_ret (Zk S (results1 S results83 (Rv.tmp rfl)) ?_)))))))))))))
   have W2 := (S.wd.picks (L' := [.blk g2 (.cells (MV.enc (treeV self m (m.nn + 1) ⟨B3, st.length, c3⟩)).toArray 111), rowOf 28 3 Sm.enc B3 c3 st]) (by repeat (first | exact Picks.nil | (refine Picks.rest ?_; (repeat (first | exact List.Sublist.refl _ | refine List.Sublist.cons_cons _ ?_ | refine List.Sublist.cons _ ?_)); done) | refine Picks.take 0 rfl ?_ | refine Picks.take 1 rfl ?_ | refine Picks.take 2 rfl ?_ | refine Picks.take 3 rfl ?_ | refine Picks.take 4 rfl ?_ | refine Picks.take 5 rfl ?_ | refine Picks.take 6 rfl ?_ | refine Picks.take 7 rfl ?_ | refine Picks.take 8 rfl ?_ | refine Picks.take 9 rfl ?_ | refine Picks.take 10 rfl ?_ | refine Picks.take 11 rfl ?_))).close_row (k := 0) rfl (size := 17) 1 1 ([treeV self m (m.nn + 1) ⟨B3, st.length, c3⟩].flatMap MV.enc) (by decide) rfl (Nat.le_refl 1) (by decide) rfl
   exact ⟨_, _, rfl, W2, _, 1, B3, c3, rfl, rfl⟩
end Go.Proofs.Ytbijdmfilmecbaa
namespace Go.Fw
open Go.RowKit
theorem split_snoc {l : List Sm} {q : Nat} {x : Sm} (h : l[q]? = some x) : placesS (l.take (q + 1)) = placesS (l.take q) ++ (if x.key = [] then [x.place] else []) ∧ restS (l.take (q + 1)) = restS (l.take q) ++ (if x.key = [] then [] else [x]) := by
 unfold placesS restS
 rw [List.take_add_one, h, Option.toList_some, List.filter_append, List.filter_append, List.map_append]
 by_cases e : x.key = []
 · rw [if_pos e, if_pos e, List.filter_cons_of_pos (by simpa using e), List.filter_cons_of_neg (by simpa using e)]
   exact ⟨rfl, rfl⟩
 · rw [if_neg e, if_neg e, List.filter_cons_of_neg (by simpa using e), List.filter_cons_of_pos (by simpa using e)]
   exact ⟨rfl, rfl⟩
theorem pls_len (l : List Sm) : (placesS l).length ≤ l.length := by
 unfold placesS
 rw [List.length_map]
 exact List.length_filter_le _ _
theorem rest_len (l : List Sm) : (restS l).length ≤ l.length := List.length_filter_le _ _
theorem rest_sums {l : List Sm} (h : Sums l) : Sums (restS l) := ⟨fun x hx => h.hash x (List.mem_filter.1 hx).1, fun x hx => h.key x (List.mem_filter.1 hx).1, by have := rest_len l; have := h.len; omega⟩
theorem missA_len (T : List KH) (sums : List Sm) (places : List Int) : (missA T sums places).1.length ≤ T.length + sums.length := by
 unfold missA
 have := miss_len T sums places
 split
 · split
   · exact this
   · simp
 · simp
theorem name_short {s : List UInt8} (h : nameB s = true) : s.length ≤ 32 := by
 unfold nameB at h
 rw [Bool.and_eq_true, Bool.and_eq_true, decide_eq_true_eq, decide_eq_true_eq] at h
 exact h.1.2
theorem miss_keys {T : List KH} (hT : KhOk T) {sums : List Sm} (hs : hashOk sums) (places : List Int) : ∀ k ∈ (missA T sums places).1, k.length ≤ 1048576 := by
 intro k hk
 unfold missA at hk
 split at hk
 · split at hk
   · unfold missT at hk
     obtain ⟨x, hx, rfl⟩ := List.mem_map.1 hk
     have := name_short ((both_ok hT hs).name x (List.mem_filter.1 hx).1)
     omega
   · cases hk
 · cases hk
theorem miss_err {T : List KH} {sums : List Sm} {places : List Int} (h : (missA T sums places).2 ≠ 0) : (missA T sums places).1 = [] := by
 unfold missA at h ⊢
 split at h
 · split at h
   · exact absurd rfl h
   · rename_i h1 h2; rw [if_pos h1, if_neg h2]
 · rename_i h1; rw [if_neg h1]
end Go.Fw
namespace Go.Proofs.Ytbijdmfilmecbaa
open Go.Fw Go.Proofs Go.RowKit Go.Proofs.Try
theorem c84 (w0 : World) (self : Int) (m : MV) (g cap : Nat) (A : Option Addr) (gs : List Nat) (T : List KH) (sums : List Sm) (h : TreeAt w0 g A cap gs T) (hT : KhOk T) (hl : T.length ≤ 1048576) (h2 : Sl Sm.enc 3 w0 w0.heap.size (.slice m.su.a m.su.n m.su.c) sums) (hs : Sums sums) (hTs : T.length + sums.length ≤ 1048576) :
   Rets Try.prog 84 #[.agg (XV.enc self g m).toArray] w0 fun u L => ∃ C cC B cB, u = .slice C (ansV self m (keysQ T sums) B cB).length cC ∧ L = [rowOf 111 17 MV.enc C cC (ansV self m (keysQ T sums) B cB), rowOf 28 3 Sm.enc B cB (Ans.sums (keysQ T sums))] := by
 have hsl := hs.len
 have hsl4 : sums.length ≤ 4194304 := by omega
 obtain ⟨A', cap', e', hl', hcap', hA'⟩ := h2
 simp only [Value.slice.injEq] at e'
 obtain ⟨rfl, e2, rfl⟩ := e'
 have rw_b : ((m.su.n : Nat) : Int) = (sums.length : Int) := by rw [e2]
 unfold Go.Fw.Rets
 refine enter1 func84 rfl ntmps84 rfl fun a S => wp_seq_k fun _ hK1 => wp_region_lit (Zh (Xw S (.t rfl) rfl fun g1 a w S => run S (.ac rfl <| .z) fun a w S => Zb (Za (hK1 _ _ (sg S (.ac rfl <| .z) fun a w S => sg S (.ac rfl <| .z) fun a w S => wp_seq_k fun _ hK1 => wp_seq_k fun _ hK2 => wp_region_lit (run S (.fa underlying130 sizeOf111 2 rfl rfl rfl <| .fa underlying111 sizeOf22 18 rfl rfl rfl <| .ld gt22 0 rfl rfl rfl <| .ln underlying22 rfl <| .z) fun a w S => ?_))))))
 rw [rw_b] at S
 refine run S (.mc rfl <| .z) fun a w S => Zb (Za (hK2 _ _ (wp_block ?_)))
 replace S := (S.nil_ 28 3 Sm.enc none).nil_ 3 1 encI none
 refine Ye S [3, 4, 16] (X := Nat × Option Addr × Nat × Option Addr × Nat) (fun q => [(3, true, .slice q.2.1 (placesS (sums.take q.1)).length q.2.2.1), (4, true, .slice q.2.2.2.1 (restS (sums.take q.1)).length q.2.2.2.2), (16, true, .int .i64 (q.1 : Int))])
   (fun q => [rowOf 3 1 encI q.2.1 q.2.2.1 (placesS (sums.take q.1)), rowOf 28 3 Sm.enc q.2.2.2.1 q.2.2.2.2 (restS (sums.take q.1)), .blk g1 (.cells (XV.enc self g m).toArray 130)]) (fun q => q.1 ≤ sums.length) (fun q => sums.length - q.1) (0, none, 0, none, 0) (Nat.zero_le _) ?_
 clear S
 rintro ⟨q, P, cP, R, cR⟩ a w hq S
 dsimp only at hq S
 by_cases hlt : q < sums.length
 · obtain ⟨gq, oq, x, rw_a, hx, hd, hc⟩ := Yc hA' hlt
   obtain ⟨hst1, hst2⟩ := split_snoc hx
   have hpl := pls_len (sums.take q)
   have hrl := rest_len (sums.take q)
   rw [List.length_take] at hpl hrl
   generalize placesS (sums.take q) = G at *
   generalize restS (sums.take q) = H at *
   by_cases hk : x.key = []
   · have rw_k := decide_eq_true hk
     rw [if_pos hk] at hst1 hst2
     rw [List.append_nil] at hst2
     refine wp_seq_k fun _ hK2 => ?_
     rw [rw_a] at S
     refine rg S (.lt (by omega) rfl rfl <| .z) hK2 fun a w S => wp_seq_k fun _ hK2 => Ze S (.t rfl) (wp_skip (Za (hK2 _ _ (wp_seq_k fun _ hK2 => wp_block (wp_seq_k fun _ hK3 => wp_region_lit (run S (.ix underlying22 sizeOf28 (by omega) rfl rfl <| .yy (Yh ⟨isAgg28, sizeOf28⟩ (.t rfl) (vs := [_, _, _]) rfl (fun _ => hc)) rfl <| .z) fun a w S => Zh (Zr S zeroValue28 (cs := _) rfl rfl fun g2 a w S => Zh (Yb S sizeOf28 (.t rfl) (.t rfl) (k := 0) rfl rfl rfl (by simp [Value.oneCell']) fun a w S => Zb (Za (hK3 _ _ (wp_seq_k fun _ hK3 => wp_region_lit (run S (.fa underlying28 sizeOf9 1 rfl rfl rfl <| .ld gt9 0 rfl rfl rfl <| .yy (ys_eqlStr (.t rfl) Ev.c) rfl <| .z) fun a w S => ?_))))))))))))
     rw [rw_k] at S
     refine Zb (Za (hK3 _ _ (Ze S (.t rfl) (wp_region_lit (run S (.mv rfl <| .fa underlying28 sizeOf3 0 rfl rfl rfl <| .ld gt3 0 rfl rfl rfl <| .z) fun a w S => Zh (Zm S underlying42 inf3 rfl rfl rfl (.t rfl) rfl rfl rfl fun g3 a w S => Zh (Zw S underlying42 inf3 rfl (k := 2) (j := 0) rfl (.t rfl) (.t rfl) rfl rfl rfl rfl (by first | omega | (simp only [List.length_append, List.length_cons, List.length_nil]; omega)) rfl rfl rfl fun A1 cap1 a w S => run S (.as rfl <| .z) fun a w S => Zb (Zg (Za (hK2 _ _ (wp_region_lit (run S (.ad (by unfold I64; omega) rfl <| .mv rfl <| .z) fun a w S => Zb (Za ?_)))))))))))))
     rw [← rw_a] at S
     exact ⟨(q + 1, A1, cap1, R, cR), by dsimp only; omega, by dsimp only; omega, by dsimp only; rw [hst1, hst2]; exact S.pk⟩
   · have rw_k := decide_eq_false hk
     rw [if_neg hk] at hst1 hst2
     rw [List.append_nil] at hst1
     refine wp_seq_k fun _ hK2 => ?_
     rw [rw_a] at S
     refine rg S (.lt (by omega) rfl rfl <| .z) hK2 fun a w S => wp_seq_k fun _ hK2 => Ze S (.t rfl) (wp_skip (Za (hK2 _ _ (wp_seq_k fun _ hK2 => wp_block (wp_seq_k fun _ hK3 => wp_region_lit (run S (.ix underlying22 sizeOf28 (by omega) rfl rfl <| .yy (Yh ⟨isAgg28, sizeOf28⟩ (.t rfl) (vs := [_, _, _]) rfl (fun _ => hc)) rfl <| .z) fun a w S => Zh (Zr S zeroValue28 (cs := _) rfl rfl fun g2 a w S => Zh (Yb S sizeOf28 (.t rfl) (.t rfl) (k := 0) rfl rfl rfl (by simp [Value.oneCell']) fun a w S => Zb (Za (hK3 _ _ (wp_seq_k fun _ hK3 => wp_region_lit (run S (.fa underlying28 sizeOf9 1 rfl rfl rfl <| .ld gt9 0 rfl rfl rfl <| .yy (ys_eqlStr (.t rfl) Ev.c) rfl <| .z) fun a w S => ?_))))))))))))
     rw [rw_k] at S
     refine Zb (Za (hK3 _ _ (Zf S (.t rfl) (wp_region_lit (run S (.mv rfl <| .la gt28 0 rfl rfl rfl <| .z) fun a w S => Zh (Zm S underlying22 inf28 rfl rfl rfl (.t rfl) rfl rfl rfl fun g3 a w S => Zh (Zw S underlying22 inf28 rfl (k := 3) (j := 0) rfl (.t rfl) (.t rfl) rfl rfl rfl rfl (by first | omega | (simp only [List.length_append, List.length_cons, List.length_nil]; omega)) rfl rfl rfl fun A1 cap1 a w S => run S (.as rfl <| .z) fun a w S => Zb (Zg (Za (hK2 _ _ (wp_region_lit (run S (.ad (by unfold I64; omega) rfl <| .mv rfl <| .z) fun a w S => Zb (Za ?_)))))))))))))
     rw [← rw_a] at S
     exact ⟨(q + 1, P, cP, A1, cap1), by dsimp only; omega, by dsimp only; omega, by dsimp only; rw [hst1, hst2]; exact S.pk⟩
 obtain rfl : q = sums.length := by omega
 rw [List.take_length] at S
 have hrs := rest_sums hs
 have hpl := pls_len sums
 have hrl := rest_len sums
 have hrl2 : T.length + (restS sums).length ≤ 1048576 := by omega
 have hpl2 : (placesS sums).length ≤ 1048576 := by omega
 have hmw : missW T sums = (missA T (restS sums) (placesS sums)).1 := rfl
 have hml := missA_len T (restS sums) (placesS sums)
 have hmk := miss_keys hT hrs.hash (placesS sums)
 have hm0 : (missA T (restS sums) (placesS sums)).2 ≠ 0 → missW T sums = [] := fun e => hmw.trans (miss_err e)
 generalize restS sums = H at *
 generalize placesS sums = G at *
 by_cases he : (missA T H G).2 = 0
 rotate_left
 · have rw_he : decide ((missA T H G).2 ≠ 0) = true := decide_eq_true he
   have rw_hn : (missA T H G).1 = [] := miss_err he
   have hq : keysQ T sums = .nil := if_pos (hm0 he)
   refine sg S (.ge (by omega) rfl rfl <| .z) fun a w S => wp_seq_k fun _ hK2 => Zf S (.t rfl) (wp_exit (Zc (Zc (Zn (Za (hK1 _ _ (wp_seq_k fun _ hK1 => wp_region_lit (run S (.fa underlying130 sizeOf24 1 rfl rfl rfl <| .ld gt24 2 rfl rfl rfl <| .mv rfl <| .mv rfl <| .z) fun a w S => ?_))))))))
   (refine Zh (Zq S call32 (.cons (.t rfl) (.cons (.t rfl) (.cons (.t rfl) .nil))) (c32 _ _ _ _ _ _ _ _ _ _ (by exact .old S.wd (by assumption)) (by assumption) (by exact Sl.of_own S.wd (k := 0) rfl (fun _ => rfl)) (by assumption) (by exact Sl.of_own S.wd (k := 1) rfl (fun _ => rfl)) (by assumption) (by assumption)) rfl ?_); clear S a w; rintro _ _ ⟨B1, c1, rfl, rfl⟩ a w S)
   rw [rw_hn] at S
   refine run S (.mv rfl <| .ex rfl rfl <| .ex rfl rfl <| .as rfl <| .as rfl <| .z) fun a w S => Zb (Za (hK1 _ _ (wp_seq_k fun _ hK1 => sg S (.mv rfl <| .yy (Ym (by omega) (Yn (.t rfl) Ev.c)) rfl <| .mv rfl <| .sk rfl rfl rfl <| .sk rfl rfl rfl <| .sk rfl rfl rfl <| .yy (Zu (.t rfl) Ev.c) rfl <| .z) fun a w S => Ze S (.t rfl) (sg S (.ac rfl <| .z) fun a w S => wp_ret (Zj (Zk S (results1 S results84 (Rv.tmp rfl)) ?_))))))
   rw [hq]
   replace S := (S.nil_ 28 3 Sm.enc none).nil_ 111 17 MV.enc none
   exact ⟨_, _, rfl, S.wd.pk, none, 0, none, 0, rfl, rfl⟩
 have rw_he := he
 by_cases hne : (missA T H G).1 = []
 · have rw_hn : (missA T H G).1 = [] := hne
   have hq : keysQ T sums = .nil := if_pos (hmw.trans hne)
   refine sg S (.ge (by omega) rfl rfl <| .z) fun a w S => wp_seq_k fun _ hK2 => Zf S (.t rfl) (wp_exit (Zc (Zc (Zn (Za (hK1 _ _ (wp_seq_k fun _ hK1 => wp_region_lit (run S (.fa underlying130 sizeOf24 1 rfl rfl rfl <| .ld gt24 2 rfl rfl rfl <| .mv rfl <| .mv rfl <| .z) fun a w S => ?_))))))))
   (refine Zh (Zq S call32 (.cons (.t rfl) (.cons (.t rfl) (.cons (.t rfl) .nil))) (c32 _ _ _ _ _ _ _ _ _ _ (by exact .old S.wd (by assumption)) (by assumption) (by exact Sl.of_own S.wd (k := 0) rfl (fun _ => rfl)) (by assumption) (by exact Sl.of_own S.wd (k := 1) rfl (fun _ => rfl)) (by assumption) (by assumption)) rfl ?_); clear S a w; rintro _ _ ⟨B1, c1, rfl, rfl⟩ a w S)
   rw [rw_he] at S
   rw [rw_hn] at S
   refine run S (.mv rfl <| .ex rfl rfl <| .ex rfl rfl <| .as rfl <| .as rfl <| .z) fun a w S => Zb (Za (hK1 _ _ (wp_seq_k fun _ hK1 => sg S (.mv rfl <| .yy (Yf (by omega) (Yn (.t rfl) Ev.c)) rfl <| .mv rfl <| .gy rfl rfl (Zd (.t rfl)) <| .gy rfl rfl (ys_lenS underlying61 (.t rfl)) <| .gy rfl rfl (Yt (.t rfl) Ev.c) <| .yy (Zs (.t rfl) (.t rfl)) rfl <| .z) fun a w S => Ze S (.t rfl) (sg S (.ac rfl <| .z) fun a w S => wp_ret (Zj (Zk S (results1 S results84 (Rv.tmp rfl)) ?_))))))
   rw [hq]
   replace S := (S.nil_ 28 3 Sm.enc none).nil_ 111 17 MV.enc none
   exact ⟨_, _, rfl, S.wd.pk, none, 0, none, 0, rfl, rfl⟩
 have hq : keysQ T sums = ⟨haveT T (missA T H G).1, some (6, (missA T H G).1.map keyS)⟩ := by unfold keysQ; rw [hmw, if_neg hne]
 obtain ⟨ks, rw_ks⟩ : ∃ ks, (missA T H G).1 = ks := ⟨_, rfl⟩
 rw [rw_ks] at hmk hml hne hq
 have hkl0 : ks.length ≠ 0 := fun e => hne (List.eq_nil_of_length_eq_zero e)
 have rw_0 : decide ((ks.length : Int) = 0) = false := decide_eq_false (by omega)
 refine sg S (.ge (by omega) rfl rfl <| .z) fun a w S => wp_seq_k fun _ hK2 => Zf S (.t rfl) (wp_exit (Zc (Zc (Zn (Za (hK1 _ _ (wp_seq_k fun _ hK1 => wp_region_lit (run S (.fa underlying130 sizeOf24 1 rfl rfl rfl <| .ld gt24 2 rfl rfl rfl <| .mv rfl <| .mv rfl <| .z) fun a w S => ?_))))))))
 (refine Zh (Zq S call32 (.cons (.t rfl) (.cons (.t rfl) (.cons (.t rfl) .nil))) (c32 _ _ _ _ _ _ _ _ _ _ (by exact .old S.wd (by assumption)) (by assumption) (by exact Sl.of_own S.wd (k := 0) rfl (fun _ => rfl)) (by assumption) (by exact Sl.of_own S.wd (k := 1) rfl (fun _ => rfl)) (by assumption) (by assumption)) rfl ?_); clear S a w; rintro _ _ ⟨B1, c1, rfl, rfl⟩ a w S)
 rw [rw_he] at S
 rw [rw_ks] at S
 refine run S (.mv rfl <| .ex rfl rfl <| .ex rfl rfl <| .as rfl <| .as rfl <| .z) fun a w S => Zb (Za (hK1 _ _ (wp_seq_k fun _ hK1 => sg S (.mv rfl <| .yy (Yf (by omega) (Yn (.t rfl) Ev.c)) rfl <| .mv rfl <| .gy rfl rfl (Zd (.t rfl)) <| .gy rfl rfl (ys_lenS underlying61 (.t rfl)) <| .gy rfl rfl (Yf (by omega) (Yt (.t rfl) Ev.c)) <| .yy (Zs (.t rfl) (.t rfl)) rfl <| .z) fun a w S => Zf S (.t rfl) (wp_skip (Za (hK1 _ _ (sg S (.ac rfl <| .z) fun a w S => wp_seq_k fun _ hK1 => sg S (.mv rfl <| .ln underlying61 rfl <| .mc rfl <| .z) fun a w S => wp_block ?_)))))))
 replace S := S.nil_ 28 3 Sm.enc none
 refine Ye S [9, 50] (X := Nat × Option Addr × Nat) (fun q => [(9, true, .slice q.2.1 ((ks.map keyS).take q.1).length q.2.2), (50, true, .int .i64 (q.1 : Int))])
   (fun q => [rowOf 28 3 Sm.enc q.2.1 q.2.2 ((ks.map keyS).take q.1), rowOf 9 1 encS' B1 c1 ks, .blk g1 (.cells (XV.enc self g m).toArray 130)]) (fun q => q.1 ≤ ks.length) (fun q => ks.length - q.1) (0, none, 0) (Nat.zero_le _) ?_
 clear S
 rintro ⟨q, Q, cQ⟩ a w hq2 S
 dsimp only at hq2 S
 by_cases hlt : q < ks.length
 · obtain ⟨gK, rfl⟩ := S.wd.row_at (k := 1) rfl (by have := (S.wd.room (k := 1) rfl).1; omega)
   obtain ⟨x, hx⟩ : ∃ x, ks[q]? = some x := ⟨_, List.getElem?_eq_getElem hlt⟩
   have hst : (ks.map keyS).take (q + 1) = (ks.map keyS).take q ++ [⟨0, x, 0⟩] := by rw [List.take_add_one, List.getElem?_map, hx]; rfl
   have hgl : ((ks.map keyS).take q).length ≤ q := List.length_take_le _ _
   generalize (ks.map keyS).take q = I at *
   refine sg S (.lt (by omega) rfl rfl <| .z) fun a w S => wp_seq_k fun _ hK3 => Ze S (.t rfl) (wp_skip (Za (hK3 _ _ (wp_seq_k fun _ hK3 => wp_block (sg S (.ix underlying61 sizeOf9 (by omega) rfl rfl <| .yy (ys_ldW0 ⟨isAgg9, sizeOf9⟩ (.t rfl) (k := 1) rfl hx (fun _ => rfl) rfl) rfl <| .as rfl <| .z) fun a w S => wp_region_lit (run S (.mv rfl <| .mv rfl <| .yy (Xc (ps := [(1, Go.Operand.tmp 55)]) (us := [_, _, _]) bld28 (.cons (.t rfl) .nil) rfl) rfl <| .z) fun a w S => Zh (Zm S underlying22 inf28 rfl rfl rfl (.t rfl) rfl rfl rfl fun g2 a w S => Zh (Zw S underlying22 inf28 rfl (k := 1) (j := 0) rfl (.t rfl) (.t rfl) rfl Go.Fw.Sm.mkEnc rfl rfl (by first | omega | (simp only [List.length_append, List.length_cons, List.length_nil]; omega)) rfl rfl rfl fun A1 cap1 a w S => run S (.as rfl <| .z) fun a w S => Zb (Zg (Za (hK3 _ _ (wp_region_lit (run S (.ad (by unfold I64; omega) rfl <| .mv rfl <| .z) fun a w S => Zb (Za ?_))))))))))))))
   exact ⟨(q + 1, A1, cap1), by dsimp only; omega, by dsimp only; omega, by dsimp only; rw [hst]; exact S.pk⟩
 obtain rfl : q = ks.length := by omega
 rw [List.take_of_length_le (by simp)] at S
 have hkm : (ks.map keyS).length ≤ 1048576 := by rw [List.length_map]; omega
 generalize ks.map keyS = I at *
 have hold_r := trivial
 have lr_nil := trivial
 have hkl1 : ks.length ≤ 1048576 := by omega
 have hgv : (giveT self m T ks).length ≤ 1048576 := by
   unfold giveT
   rw [List.length_map]
   have := haveT_len T ks
   omega
 refine sg S (.ge (by omega) rfl rfl <| .z) fun a w S => wp_seq_k fun _ hK3 => Zf S (.t rfl) (wp_exit (Zc (Zc (Zn (Za (hK1 _ _ (wp_seq_k fun _ hK1 => h_begin S (by kernel_rfl) [] fun a w S => hy 1 S rfl (Zd (.t rfl)) rfl fun a w S => hy 4 S rfl (Zd (.t rfl)) rfl fun a w S => ?_)))))))
 refine h_split (i := 0) (j := 3) (by kernel_rfl) rfl rfl ?_ ?_
 (refine op_y S (Yr.ys (ys_ldA ⟨isAgg130, sizeOf130⟩ (.t rfl) (k := 2) rfl rfl)) rfl ?_; clear S a w; intro a w S; refine Yw S ?_)
 refine h_split (i := 2) (j := 3) (by kernel_rfl) rfl rfl ?_ ?_
 (refine Zq S call104 (.cons (.t rfl) (.cons (.t rfl) .nil)) (c104 _ _ _ _ _ _ _ _ _ _ (by exact .old S.wd (by assumption)) (by assumption) (by assumption) (by exact Sl.of_own S.wd (k := 1) rfl (fun _ => rfl)) (by assumption) (by assumption)) rfl ?_; clear S a w; rintro _ _ ⟨B2, cB1, rfl, rfl⟩ a w S; refine Yw S ?_)
 refine h_q (i := 3) S (by repeat (first | exact List.Sublist.refl _ | exact List.nil_sublist _ | refine .cons_cons _ ?_ | refine .cons _ ?_)) rfl (by kernel_rfl) (Yr.ys (ys_ldA ⟨isAgg130, sizeOf130⟩ (.t rfl) (k := 3) rfl rfl)) rfl fun a w S => h_q (i := 5) S (by repeat (first | exact List.Sublist.refl _ | exact List.nil_sublist _ | refine .cons_cons _ ?_ | refine .cons _ ?_)) rfl (by kernel_rfl) (Zi call103 (.cons (.t rfl) (.cons Ev.c (.cons (.t rfl) .nil))) (fun hp w W => c103 _ _ _ _ _ _ _ _)) rfl fun a w S => ?_
 (refine h_m (i := 6) rfl (by kernel_rfl) (Zm S underlying114 inf111 rfl rfl rfl (.t rfl) rfl rfl rfl ?_); clear S a w; intro g2 a w S; refine Yw S ?_)
 (refine h_m (i := 7) rfl (by kernel_rfl) (Zw S underlying114 inf111 rfl (k := 1) (j := 0) rfl (.t rfl) (.t rfl) rfl rfl rfl rfl (by first | omega | (simp only [List.length_append, List.length_cons, List.length_nil]; omega)) rfl rfl rfl ?_); clear S a w; intro A1 cap1 a w S; refine Yw S ?_)
 refine hy 8 S rfl (Yp (.t rfl)) rfl fun a w S => Xe (by kernel_rfl) (Za (hK1 _ _ (wp_ret (Zk S (results1 S results84 (Rv.tmp rfl)) ?_))))
 rotate_left
 (refine op_y S (Yr.ys (ys_ldA ⟨isAgg130, sizeOf130⟩ (.t rfl) (k := 2) rfl rfl)) rfl ?_; clear S a w; intro a w S; refine Yw S ?_)
 (refine h_m (i := 2) rfl (by kernel_rfl) (Zq S call104 (.cons (.t rfl) (.cons (.t rfl) .nil)) (c104 _ _ _ _ _ _ _ _ _ _ (by exact .old S.wd (by assumption)) (by assumption) (by assumption) (by exact Sl.of_own S.wd (k := 1) rfl (fun _ => rfl)) (by assumption) (by assumption)) rfl ?_); clear S a w; rintro _ _ ⟨B2, cB1, rfl, rfl⟩ a w S; refine Yw S ?_)
 refine h_q (i := 5) S (by repeat (first | exact List.Sublist.refl _ | exact List.nil_sublist _ | refine .cons_cons _ ?_ | refine .cons _ ?_)) rfl (by kernel_rfl) (Zi call103 (.cons (.t rfl) (.cons Ev.c (.cons (.t rfl) .nil))) (fun hp w W => c103 _ _ _ _ _ _ _ _)) rfl fun a w S => ?_
 (refine h_m (i := 6) rfl (by kernel_rfl) (Zm S underlying114 inf111 rfl rfl rfl (.t rfl) rfl rfl rfl ?_); clear S a w; intro g2 a w S; refine Yw S ?_)
 (refine h_m (i := 7) rfl (by kernel_rfl) (Zw S underlying114 inf111 rfl (k := 1) (j := 0) rfl (.t rfl) (.t rfl) rfl rfl rfl rfl (by first | omega | (simp only [List.length_append, List.length_cons, List.length_nil]; omega)) rfl rfl rfl ?_); clear S a w; intro A1 cap1 a w S; refine Yw S ?_)
 refine hy 8 S rfl (Yp (.t rfl)) rfl fun a w S => Xe (by kernel_rfl) (Za (hK1 _ _ (wp_ret (Zk S (results1 S results84 (Rv.tmp rfl)) ?_))))
 rotate_left
 (refine op_y S (Yr.ys (ys_ldA ⟨isAgg130, sizeOf130⟩ (.t rfl) (k := 2) rfl rfl)) rfl ?_; clear S a w; intro a w S; refine Yw S ?_)
 refine h_q (i := 0) S (by repeat (first | exact List.Sublist.refl _ | exact List.nil_sublist _ | refine .cons_cons _ ?_ | refine .cons _ ?_)) rfl (by kernel_rfl) (Yr.ys (ys_ldA ⟨isAgg130, sizeOf130⟩ (.t rfl) (k := 2) rfl rfl)) rfl fun a w S => ?_
 (refine h_m (i := 2) rfl (by kernel_rfl) (Zq S call104 (.cons (.t rfl) (.cons (.t rfl) .nil)) (c104 _ _ _ _ _ _ _ _ _ _ (by exact .old S.wd (by assumption)) (by assumption) (by assumption) (by exact Sl.of_own S.wd (k := 1) rfl (fun _ => rfl)) (by assumption) (by assumption)) rfl ?_); clear S a w; rintro _ _ ⟨B2, cB1, rfl, rfl⟩ a w S; refine Yw S ?_)
 refine h_q (i := 5) S (by repeat (first | exact List.Sublist.refl _ | exact List.nil_sublist _ | refine .cons_cons _ ?_ | refine .cons _ ?_)) rfl (by kernel_rfl) (Zi call103 (.cons (.t rfl) (.cons Ev.c (.cons (.t rfl) .nil))) (fun hp w W => c103 _ _ _ _ _ _ _ _)) rfl fun a w S => ?_
 (refine h_m (i := 6) rfl (by kernel_rfl) (Zm S underlying114 inf111 rfl rfl rfl (.t rfl) rfl rfl rfl ?_); clear S a w; intro g2 a w S; refine Yw S ?_)
 (refine h_m (i := 7) rfl (by kernel_rfl) (Zw S underlying114 inf111 rfl (k := 1) (j := 0) rfl (.t rfl) (.t rfl) rfl rfl rfl rfl (by first | omega | (simp only [List.length_append, List.length_cons, List.length_nil]; omega)) rfl rfl rfl ?_); clear S a w; intro A1 cap1 a w S; refine Yw S ?_)
 refine hy 8 S rfl (Yp (.t rfl)) rfl fun a w S => Xe (by kernel_rfl) (Za (hK1 _ _ (wp_ret (Zk S (results1 S results84 (Rv.tmp rfl)) ?_))))
 rotate_left
 all_goals (rw [hq]; exact ⟨_, _, rfl, S.wd.pk, A1, cap1, Q, cQ, rfl, rfl⟩)
end Go.Proofs.Ytbijdmfilmecbaa
namespace Go.Fw
open Go.RowKit
theorem diff_comm (T U : List KH) (n : Nat) (p : Int) : diffT T U n p = diffT U T n p := decide_eq_decide.2 ⟨Ne.symm, Ne.symm⟩
theorem cand_comm (T U : List KH) : ∀ n, candT T U n = candT U T n
 | 0 => rfl
 | n + 1 => by
   rw [candT, candT, cand_comm T U n]
   congr 2
   funext p
   exact diff_comm T U n p
theorem unlike_cand (T U : List KH) (n : Nat) : unlikeT U (n : Int) (sumsT T (n : Int) (candT T U n)) = (candT T U n).filter (diffT T U n) := unlike_sums _
theorem leaves_cons (T : List KH) (p : Int) (r : List Int) : leavesT T (p :: r) = ⟨p, [], 0⟩ :: (keysT T [p] ++ leavesT T r) := by
 unfold leavesT
 rw [List.flatMap_cons]
 rfl
theorem keys_cons (T : List KH) (p : Int) (r : List Int) : keysT T (p :: r) = keysT T [p] ++ keysT T r := by
 unfold keysT
 rw [List.flatMap_cons, List.flatMap_cons, List.flatMap_nil, List.append_nil]
theorem keys_named {T : List KH} (hT : KhOk T) (l : List Int) : ∀ s ∈ keysT T l, s.key ≠ [] := fun s hs e => by
 obtain ⟨p, _, x, hx, rfl⟩ := keysT_mem.1 hs
 have := hT.name x (Zv.1 hx).1
 rw [show x.1 = [] from e] at this
 exact absurd this (by decide)
theorem places_app (l m : List Sm) : placesS (l ++ m) = placesS l ++ placesS m := by unfold placesS; rw [List.filter_append, List.map_append]
theorem rest_app (l m : List Sm) : restS (l ++ m) = restS l ++ restS m := by unfold restS; rw [List.filter_append]
theorem keys_split {T : List KH} (hT : KhOk T) (l : List Int) : placesS (keysT T l) = [] ∧ restS (keysT T l) = keysT T l := by
 have h := keys_named hT l
 unfold placesS restS
 constructor
 · rw [List.filter_eq_nil_iff.2 (fun s hs => by simpa using h s hs)]; rfl
 · exact List.filter_eq_self.2 fun s hs => by simpa using h s hs
theorem leaves_split {T : List KH} (hT : KhOk T) : ∀ u : List Int, placesS (leavesT T u) = u ∧ restS (leavesT T u) = keysT T u
 | [] => ⟨rfl, rfl⟩
 | p :: r => by
   obtain ⟨h1, h2⟩ := leaves_split hT r
   obtain ⟨k1, k2⟩ := keys_split hT [p]
   rw [leaves_cons, show (⟨p, [], 0⟩ : Sm) :: (keysT T [p] ++ leavesT T r) = [⟨p, [], 0⟩] ++ (keysT T [p] ++ leavesT T r) from rfl, places_app, places_app, rest_app, rest_app, h1, h2, k1, k2, keys_cons T p r]
   exact ⟨rfl, rfl⟩
end Go.Fw
namespace Go.Fw
open Go.RowKit
def rightB (acc : List Sm) (s : Sm) : Bool := nameB s.key && !acc.any fun x => decide (x.key = s.key)
def rightF (acc : List Sm) (s : Sm) : List Sm := if rightB acc s = true then acc ++ [⟨0, s.key, s.hash⟩] else acc
def rightL (l : List Sm) : List Sm := l.foldl rightF []
theorem right_snoc {l : List Sm} {i : Nat} {s : Sm} (h : l[i]? = some s) : rightL (l.take (i + 1)) = rightF (rightL (l.take i)) s := by
 unfold rightL
 rw [List.take_add_one, h, Option.toList_some, List.foldl_append]
 rfl
theorem right_len : ∀ (l acc : List Sm), (l.foldl rightF acc).length ≤ acc.length + l.length
 | [], acc => by simp
 | s :: r, acc => by
   have h := right_len r (rightF acc s)
   have h2 : (rightF acc s).length ≤ acc.length + 1 := by
     unfold rightF
     split
     · simp
     · omega
   rw [List.foldl_cons, List.length_cons]
   omega
end Go.Fw
namespace Go.Proofs.Ytbijdmfilmecbaa
open Go.Fw Go.Proofs Go.RowKit Go.Proofs.Try
theorem c64 (w0 : World) (x s : Sm) (g : Nat) (h : w0.cell? ⟨g, 1, none⟩ = some (.string (bs s.key))) :
   Calls Try.prog 64 #[.agg (Sm.enc x).toArray, .pointer (some ⟨g, 0, none⟩)] w0 fun e w' => e = .returned (.bool (decide (x.key = s.key))) ∧ Bel w0.heap.size w0 w' := by
 refine enter2 func64 rfl ntmps64 rfl fun a S => wp_seq_k fun _ hK1 => wp_region_lit (Zh (Xw S (.t rfl) rfl fun g1 a w S => run S (.ac rfl <| .z) fun a w S => Zb (Za (hK1 _ _ (sg S (.fa underlying28 sizeOf9 1 rfl rfl rfl <| .ld gt9 0 rfl rfl rfl <| .fa underlying28 sizeOf9 1 rfl rfl rfl <| .yy (Ya ⟨isAgg9, sizeOf9⟩ (.t rfl) (fun _ => h)) rfl <| .yy (ys_eqlStr (.t rfl) (.t rfl)) rfl <| .as rfl <| .z) fun a w S => wp_ret (Zk S (results1 S results64 (Rv.tmp rfl)) ?_))))))
 exact ⟨rfl, S.wd.below⟩
theorem c38 (w0 : World) (v : Value) (l : List Sm) (h : Sl Sm.enc 3 w0 w0.heap.size v l) (hs : Sums l) :
   Rets Try.prog 38 #[v] w0 fun u L => ∃ B c, u = .slice B (rightL l).length c ∧ L = [rowOf 28 3 Sm.enc B c (rightL l)] := by
 have hln := hs.len
 obtain ⟨A, cap, rfl, hl, hcap, hA⟩ := h
 unfold Go.Fw.Rets
 refine enter1 func38 rfl ntmps38 rfl fun a S => sg S (.ac rfl <| .z) fun a w S => sg S (.ac rfl <| .z) fun a w S => wp_seq_k fun _ hK1 => sg S (.mv rfl <| .ln underlying22 rfl <| .mc rfl <| .z) fun a w S => wp_block ?_
 replace S := S.nil_ 28 3 Sm.enc none
 refine Ye S [3, 8] (X := Nat × Option Addr × Nat) (fun q => [(3, true, .slice q.2.1 (rightL (l.take q.1)).length q.2.2), (8, true, .int .i64 (q.1 : Int))])
   (fun q => [rowOf 28 3 Sm.enc q.2.1 q.2.2 (rightL (l.take q.1))]) (fun q => q.1 ≤ l.length) (fun q => l.length - q.1) (0, none, 0) (Nat.zero_le _) ?_
 clear S
 rintro ⟨q, B, cB⟩ a w hq S
 dsimp only at hq S
 by_cases hlt : q < l.length
 · obtain ⟨gq, oq, s, rfl, hx, hd, hc⟩ := Yc hA hlt
   have hst := right_snoc hx
   have hrl := right_len (l.take q) []
   rw [List.length_nil, List.length_take] at hrl
   have hrl2 : (rightL (l.take q)).length ≤ q := by unfold rightL; omega
   have hky := hs.key s (List.mem_of_getElem? hx)
   generalize rightL (l.take q) = G at *
   unfold rightF rightB at hst
   have rw_s : #[Value.int .i64 0, .string (bs s.key), .int .u64 s.hash] = (Sm.enc ⟨0, s.key, s.hash⟩).toArray := rfl
   cases hn : nameB s.key with
   | false =>
     have rw_n := hn
     rw [hn, Bool.false_and, if_neg (by decide)] at hst
     refine sg S (.lt (by omega) rfl rfl <| .z) fun a w S => wp_seq_k fun _ hK2 => Ze S (.t rfl) (wp_skip (Za (hK2 _ _ (wp_seq_k fun _ hK2 => wp_block (wp_seq_k fun _ hK3 => wp_region_lit (run S (.ix underlying22 sizeOf28 (by omega) rfl rfl <| .yy (Yh ⟨isAgg28, sizeOf28⟩ (.t rfl) (vs := [_, _, _]) rfl (fun _ => hc)) rfl <| .z) fun a w S => Zh (Zr S zeroValue28 (cs := _) rfl rfl fun g1 a w S => Zh (Yb S sizeOf28 (.t rfl) (.t rfl) (k := 0) rfl rfl rfl (by simp [Value.oneCell']) fun a w S => Zb (Za (hK3 _ _ (wp_seq_k fun _ hK3 => wp_region_lit (run S (.fa underlying28 sizeOf9 1 rfl rfl rfl <| .ld gt9 0 rfl rfl rfl <| .xx (Zi call18 (.cons (.t rfl) .nil) (fun hp w W => c18 _ _ (by assumption))) rfl <| .z) fun a w S => ?_))))))))))))
     rw [rw_n] at S
     refine run S (.mv rfl <| .sk rfl rfl rfl <| .sk rfl rfl rfl <| .sk rfl rfl rfl <| .sk rfl rfl rfl <| .yy (Zs (.t rfl) Ev.c) rfl <| .z) fun a w S => Zb (Za (hK3 _ _ (Zf S (.t rfl) (wp_skip (Zg (Za (hK2 _ _ (wp_region_lit (run S (.ad (by unfold I64; omega) rfl <| .mv rfl <| .z) fun a w S => Zb (Za ?_))))))))))
     exact ⟨(q + 1, B, cB), by dsimp only; omega, by dsimp only; omega, by dsimp only; rw [hst]; exact S.pk⟩
   | true =>
     have rw_n := hn
     rw [hn, Bool.true_and] at hst
     refine sg S (.lt (by omega) rfl rfl <| .z) fun a w S => wp_seq_k fun _ hK2 => Ze S (.t rfl) (wp_skip (Za (hK2 _ _ (wp_seq_k fun _ hK2 => wp_block (wp_seq_k fun _ hK3 => wp_region_lit (run S (.ix underlying22 sizeOf28 (by omega) rfl rfl <| .yy (Yh ⟨isAgg28, sizeOf28⟩ (.t rfl) (vs := [_, _, _]) rfl (fun _ => hc)) rfl <| .z) fun a w S => Zh (Zr S zeroValue28 (cs := _) rfl rfl fun g1 a w S => Zh (Yb S sizeOf28 (.t rfl) (.t rfl) (k := 0) rfl rfl rfl (by simp [Value.oneCell']) fun a w S => Zb (Za (hK3 _ _ (wp_seq_k fun _ hK3 => wp_region_lit (run S (.fa underlying28 sizeOf9 1 rfl rfl rfl <| .ld gt9 0 rfl rfl rfl <| .xx (Zi call18 (.cons (.t rfl) .nil) (fun hp w W => c18 _ _ (by assumption))) rfl <| .z) fun a w S => ?_))))))))))))
     rw [rw_n] at S
     refine run S (.mv rfl <| .gy rfl rfl (Zd (.t rfl)) <| .gy rfl rfl (ys_mkFunc (.cons (.t rfl) .nil)) <| .z) fun a w S => ?_
     refine st_yt S rfl rfl (Zi call16 (.cons (.t rfl) (.cons (.t rfl) .nil)) (fun _ w' W' => x16 w' _ G 64 [.pointer (some ⟨g1, 0, none⟩)] (fun x => decide (x.key = s.key)) call64
       (fun w'' W'' y hy => c64 w'' y s g1 (Wd.cellOld W'' (Wd.cell W' (k := 0) rfl rfl))) (Sl.of_own W' (k := 1) rfl (fun _ => rfl)))) rfl ?_
     clear S a w
     intro a w S
     cases hany : G.any (fun x => decide (x.key = s.key)) with
     | true =>
       rw [hany] at S hst
       rw [Bool.not_true, if_neg (by decide)] at hst
       refine run S (.gy rfl rfl (ys_not (.t rfl)) <| .yy (Zu (.t rfl) (.t rfl)) rfl <| .z) fun a w S => Zb (Za (hK3 _ _ (Zf S (.t rfl) (wp_skip (Zg (Za (hK2 _ _ (wp_region_lit (run S (.ad (by unfold I64; omega) rfl <| .mv rfl <| .z) fun a w S => Zb (Za ?_))))))))))
       exact ⟨(q + 1, B, cB), by dsimp only; omega, by dsimp only; omega, by dsimp only; rw [hst]; exact S.pk⟩
     | false =>
       rw [hany] at S hst
       rw [Bool.not_false, if_pos rfl] at hst
       refine run S (.gy rfl rfl (ys_not (.t rfl)) <| .yy (Zu (.t rfl) (.t rfl)) rfl <| .z) fun a w S => Zb (Za (hK3 _ _ (Ze S (.t rfl) (wp_region_lit (run S (.mv rfl <| .fa underlying28 sizeOf9 1 rfl rfl rfl <| .ld gt9 0 rfl rfl rfl <| .fa underlying28 sizeOf23 2 rfl rfl rfl <| .ld gt23 0 rfl rfl rfl <| .yy (Xc (ps := [(1, Go.Operand.tmp 23), (2, Go.Operand.tmp 25)]) (us := [_, _, _]) bld28 (.cons (.t rfl) (.cons (.t rfl) .nil)) rfl) rfl <| .z) fun a w S => ?_)))))
       rw [rw_s] at S
       refine Zh (Zm S underlying22 inf28 rfl rfl rfl (.t rfl) rfl rfl rfl fun g2 a w S => ?_)
       rw [rw_s] at S
       refine Zh (Zw S underlying22 inf28 rfl (k := 2) (j := 0) rfl (.t rfl) (.t rfl) rfl rfl rfl rfl (by first | omega | (simp only [List.length_append, List.length_cons, List.length_nil]; omega)) rfl rfl rfl fun A1 cap1 a w S => ?_)
       rw [rw_s] at S
       refine run S (.as rfl <| .z) fun a w S => ?_
       rw [rw_s] at S
       refine Zb ?_
       rw [rw_s] at S
       refine Zg (Za (hK2 _ _ ?_))
       rw [rw_s] at S
       refine wp_region_lit ?_
       rw [rw_s] at S
       refine run S (.ad (by unfold I64; omega) rfl <| .z) fun a w S => ?_
       rw [rw_s] at S
       refine run S (.mv rfl <| .z) fun a w S => ?_
       rw [rw_s] at S
       refine Zb ?_
       rw [rw_s] at S
       refine Za ?_
       rw [rw_s] at S
       exact ⟨(q + 1, A1, cap1), by dsimp only; omega, by dsimp only; omega, by dsimp only; rw [hst]; exact S.pk⟩
 obtain rfl : q = l.length := by omega
 rw [List.take_length] at S
 refine sg S (.ge (by omega) rfl rfl <| .z) fun a w S => wp_seq_k fun _ hK2 => Zf S (.t rfl) (wp_exit (Zc (Zc (Zn (Za (hK1 _ _ (sg S (.mv rfl <| .as rfl <| .z) fun a w S => wp_ret (Zk S (results1 S results38 (Rv.tmp rfl)) ?_))))))))
 exact ⟨_, _, rfl, S.wd.picks (L' := [rowOf 28 3 Sm.enc B cB (rightL l)]) (by repeat (first | exact Picks.nil | (refine Picks.rest ?_; (repeat (first | exact List.Sublist.refl _ | refine List.Sublist.cons_cons _ ?_ | refine List.Sublist.cons _ ?_)); done) | refine Picks.take 0 rfl ?_ | refine Picks.take 1 rfl ?_ | refine Picks.take 2 rfl ?_ | refine Picks.take 3 rfl ?_ | refine Picks.take 4 rfl ?_ | refine Picks.take 5 rfl ?_ | refine Picks.take 6 rfl ?_ | refine Picks.take 7 rfl ?_ | refine Picks.take 8 rfl ?_ | refine Picks.take 9 rfl ?_ | refine Picks.take 10 rfl ?_ | refine Picks.take 11 rfl ?_)), B, cB, rfl, rfl⟩
end Go.Proofs.Ytbijdmfilmecbaa
namespace Go.Fw
open Go.RowKit
theorem named_pos {k : List UInt8} (h : nameB k = true) : 1 ≤ k.length := by
 cases k with
 | nil => exact absurd h (by decide)
 | cons a r => rw [List.length_cons]; omega
theorem right_weigh : ∀ (l acc : List Sm), 2 * (l.foldl rightF acc).length ≤ 2 * acc.length + (l.map fun s => s.key.length + 1).sum
 | [], acc => by simp
 | s :: r, acc => by
   have h := right_weigh r (rightF acc s)
   have h2 : 2 * (rightF acc s).length ≤ 2 * acc.length + (s.key.length + 1) := by
     unfold rightF
     split
     · rename_i hb
       unfold rightB at hb
       rw [Bool.and_eq_true] at hb
       have := named_pos hb.1
       rw [List.length_append, List.length_singleton]
       omega
     · omega
   rw [List.foldl_cons, List.map_cons, List.sum_cons]
   omega
end Go.Fw
namespace Go.Proofs.Ytbijdmfilmecbaa
open Go.Fw Go.Proofs Go.RowKit Go.ChangeShapes Go.WideShapes Go.ChangeAt Go.Deep Go.Joins Go.Proofs.Try
section
variable {H : Type} {enc : TypeId × Value → H} {P : Program} {w : World}
theorem bulk_sum : ∀ l : List (DataW H), (l.map Rows.uptoBulk).sum ≤ Rows.uptoBulkAll l
 | [] => Nat.zero_le _
 | x :: r => by
   have := bulk_sum r
   simp only [Rows.uptoBulkAll, List.map_cons, List.sum_cons]
   omega
theorem Rdr.sliceS {α : Type} {enc1 : α → List Value} {T : α → Nat → Prop} {t e : TypeId} {k : Nat} (ht : P.underlying t = some (.slice e)) (hC : P.cellsOf e = k) (hk : Nat.blt 0 k = true) (he : ∀ x, (enc1 x).length = k) (hr : Rdr enc P w e fun cs b => ∃ x, cs = enc1 x ∧ T x b) :
   Rdr enc P w t fun cs b => ∃ v l, cs = [v] ∧ Sl enc1 k w w.heap.size v l ∧ l.length + 1 ≤ b ∧ ∃ f : Nat → Nat, ((List.range l.length).map f).sum + 1 ≤ b ∧ ∀ i x, l[i]? = some x → T x (f i) := fun fuel cs x h => by
 have hk' : 0 < k := by simpa [Nat.blt_eq] using hk
 rcases open_slice ht h with ⟨rfl, rfl⟩ | ⟨a, len, cap, m, n, D, Pl, rfl, hb, hl, hm, hmm, rfl, hi⟩
 · exact ⟨_, [], rfl, Sl.nil_, bulk_one _, fun _ => 0, bulk_one _, fun i x hx => by simp at hx⟩
 · have hlm : len ≤ m := by rw [hmm]; split <;> omega
   have key : ∀ i, i < len → ∃ x : α, (∀ j u, (enc1 x)[j]? = some u → w.cell? (a.add (i * k + j)) = some u) ∧ T x (Rows.uptoBulk (D i)) := fun i hil => by
     obtain ⟨cs', hc, ht'⟩ := hi i (by omega)
     obtain ⟨x, rfl, hT⟩ := hr _ _ _ ht'
     rw [hC] at hc
     obtain ⟨_, hcl, hat⟩ := World.cells?_some hc
     refine ⟨x, fun j u hj => ?_, hT⟩
     have hjl : j < k := by rw [← he x]; exact (List.getElem?_eq_some_iff.1 hj).1
     have h1 := hat j hjl
     rw [Go.Deep.add_add, hj] at h1
     exact h1
   obtain ⟨l, rfl, hl2⟩ := list_of key
   refine ⟨_, l, rfl, ⟨some a, cap, rfl, hl, by simpa [maxLen] using hm, fun hp => ?_⟩, ?_, fun i => Rows.uptoBulk (D i), ?_, fun i x hx => ?_⟩
   · obtain ⟨b, off, spot⟩ := a
     have h0 : 0 < (enc1 (l[0]'(by omega))).length := by rw [he]; exact hk'
     have hc := (hl2 0 (l[0]'(by omega)) (by simp [hp])).1 0 ((enc1 (l[0]'(by omega)))[0]'h0) (List.getElem?_eq_getElem h0)
     have hspot : spot = none := by simpa [Addr.add] using World.cell?_spot hc
     subst hspot
     refine ⟨b, off, rfl, by simpa [Addr.add] using World.block_lt_of_cell? w _ hc, fun k x hx j u hu => ?_⟩
     have := (hl2 k x hx).1 j u hu
     rw [Addr.add_mid, ← Nat.add_assoc] at this
     exact this
   · have := bulk_slice ((List.range l.length).map D) ((List.range (m - l.length)).map fun j => D (l.length + j))
     simpa using this
   · have h3 := bulk_sum ((List.range l.length).map D)
     rw [List.map_map] at h3
     refine Nat.le_trans (Nat.succ_le_succ h3) ?_
     simp only [Rows.uptoBulk]
     omega
   · exact (hl2 i x hx).2
theorem mem_sum : ∀ {l : List Nat} {x : Nat}, x ∈ l → x ≤ l.sum
 | y :: r, x, h => by
   rw [List.sum_cons]
   rcases List.mem_cons.1 h with rfl | h
   · omega
   · have := mem_sum h; omega
theorem sum_range {α : Type} (g : α → Nat) : ∀ (l : List α) (f : Nat → Nat), (∀ i x, l[i]? = some x → g x ≤ f i) → (l.map g).sum ≤ ((List.range l.length).map f).sum
 | [], f, h => Nat.le_refl _
 | x :: r, f, h => by
   have h0 := h 0 x rfl
   have ih := sum_range g r (fun i => f (i + 1)) fun i y hy => h (i + 1) y (by simpa using hy)
   have e : List.map (f ∘ Nat.succ) (List.range r.length) = List.map (fun i => f (i + 1)) (List.range r.length) := rfl
   rw [List.length_cons, List.range_succ_eq_map, List.map_cons, List.map_cons, List.map_map, List.sum_cons, List.sum_cons, e]
   omega
end
section
variable {H : Type} {enc : TypeId × Value → H} {w : World}
theorem read_sumsN {v : Value} {d : DataW H} {p : List MemPlace} (hv : ∃ A len cap, v = .slice A len cap) (h : DataW.Trod enc Try.prog w 0 (fun _ => true) true 22 v d p) (hb : Rows.uptoBulk d ≤ 1048576) :
   ∃ l, Sl Sm.enc 3 w w.heap.size v l ∧ Sums l ∧ 2 * (rightL l).length + 1 ≤ Rows.uptoBulk d := by
 obtain ⟨v', l, hc, hs, hl, f, hf, hT⟩ := Rdr.top (Rdr.sliceS (k := 3) underlying22 (by kernel_rfl) rfl (fun _ => rfl) rdSum) h
 obtain ⟨A, n, c, rfl⟩ := hv
 simp only [Value.cells, List.cons.injEq, and_true] at hc
 subst hc
 have h1 := sum_range (fun x : Sm => x.key.length + 1) l f fun i x hx => (hT i x hx).2
 have h2 := right_weigh l []
 have hle : ∀ i, i < l.length → f i ≤ ((List.range l.length).map f).sum := fun i hi => mem_sum (List.mem_map.2 ⟨i, List.mem_range.2 hi, rfl⟩)
 refine ⟨l, hs, ⟨fun x hx => ?_, fun x hx => ?_, by omega⟩, ?_⟩
 · obtain ⟨i, hi, e⟩ := List.getElem_of_mem hx
   exact (hT i x (by rw [List.getElem?_eq_getElem hi, e])).1
 · obtain ⟨i, hi, e⟩ := List.getElem_of_mem hx
   have h3 := (hT i x (by rw [List.getElem?_eq_getElem hi, e])).2
   have := hle i hi
   omega
 · unfold rightL
   rw [List.length_nil] at h2
   omega
end
end Go.Proofs.Ytbijdmfilmecbaa
namespace Go.Fw
open Go.RowKit
theorem part_keys {T U : List KH} {q : Nat} (h : keysT T [(q : Int)] = keysT U [(q : Int)]) : partT T q = partT U q := by
 unfold keysT at h
 rw [List.flatMap_cons, List.flatMap_nil, List.append_nil, List.flatMap_cons, List.flatMap_nil, List.append_nil, Int.toNat_natCast] at h
 exact List.map_inj_right (fun a b e => by
   unfold smP at e
   simp only [Sm.mk.injEq, true_and] at e
   exact Prod.ext e.1 e.2) |>.1 h
theorem under_parts {T U : List KH} (hT : KhOk T) (hU : KhOk U) {n p : Nat} (h : ∀ q, q < 16 → q / 2 ^ (4 - n) = p → keysT T [(q : Int)] = keysT U [(q : Int)]) : underT T n p = underT U n p := by
 refine kh_ext (hT.sorted.filter _) (hU.sorted.filter _) fun x => ?_
 unfold underT
 rw [List.mem_filter, List.mem_filter, decide_eq_true_eq]
 constructor
 · rintro ⟨h1, h2⟩
   have h3 := part_keys (h (placeK x.1) (Xg x.1) h2)
   have h4 : x ∈ partT T (placeK x.1) := Zv.2 ⟨h1, rfl⟩
   rw [h3] at h4
   exact ⟨(Zv.1 h4).1, h2⟩
 · rintro ⟨h1, h2⟩
   have h3 := part_keys (h (placeK x.1) (Xg x.1) h2)
   have h4 : x ∈ partT U (placeK x.1) := Zv.2 ⟨h1, rfl⟩
   rw [← h3] at h4
   exact ⟨(Zv.1 h4).1, h2⟩
def sameQ (T U : List KH) (n p m : Nat) : Bool := (List.range m).all fun q => !decide (q / 2 ^ (4 - n) = p) || decide (keysT T [(q : Int)] = keysT U [(q : Int)])
def anyQ (T U : List KH) (n p m : Nat) : Bool := (List.range m).any fun q => decide (q / 2 ^ (4 - n) = p) && decide (0 < (keysT T [(q : Int)]).length + (keysT U [(q : Int)]).length)
def clashQ (T U : List KH) (n p : Nat) : Bool := !sameQ T U n p 16 && decide (hashT T (4 - n) p = hashT U (4 - n) p) && anyQ T U n p 16
theorem sameQ_succ (T U : List KH) (n p m : Nat) : sameQ T U n p (m + 1) = (sameQ T U n p m && (!decide (m / 2 ^ (4 - n) = p) || decide (keysT T [(m : Int)] = keysT U [(m : Int)]))) := by
 unfold sameQ
 rw [List.range_succ, List.all_append, List.all_cons, List.all_nil, Bool.and_true]
theorem anyQ_succ (T U : List KH) (n p m : Nat) : anyQ T U n p (m + 1) = (anyQ T U n p m || (decide (m / 2 ^ (4 - n) = p) && decide (0 < (keysT T [(m : Int)]).length + (keysT U [(m : Int)]).length))) := by
 unfold anyQ
 rw [List.range_succ, List.any_append, List.any_cons, List.any_nil, Bool.or_false]
theorem any_of_same {T U : List KH} {n p m : Nat} (h : sameQ T U n p m = false) : anyQ T U n p m = true := by
 unfold sameQ at h
 obtain ⟨q, hq, h1⟩ := List.all_eq_false.1 h
 unfold anyQ
 refine List.any_eq_true.2 ⟨q, hq, ?_⟩
 simp only [Bool.or_eq_true, Bool.not_eq_true', decide_eq_false_iff_not, decide_eq_true_eq, not_or, Decidable.not_not] at h1
 rw [Bool.and_eq_true, decide_eq_true_eq, decide_eq_true_eq]
 refine ⟨h1.1, ?_⟩
 by_cases h0 : (keysT T [(q : Int)]).length + (keysT U [(q : Int)]).length = 0
 · exact absurd ((List.eq_nil_of_length_eq_zero (by omega)).trans (List.eq_nil_of_length_eq_zero (l := keysT U [(q : Int)]) (by omega)).symm) h1.2
 · omega
theorem no_clashQ {T U : List KH} (hT : KhOk T) (hU : KhOk U) (h : ∀ n, n < 5 → ∀ p, p < 2 ^ n → clashQ T U n p = false) : NoClash T U := fun n hn p hp he => by
 refine under_parts hT hU fun q hq hqp => ?_
 have h1 := h n (by omega) p hp
 unfold clashQ at h1
 rw [decide_eq_true he, Bool.and_true] at h1
 cases hs : sameQ T U n p 16 with
 | false =>
   rw [hs, any_of_same hs] at h1
   cases h1
 | true =>
   unfold sameQ at hs
   have := List.all_eq_true.1 hs q (List.mem_range.2 hq)
   rw [decide_eq_true hqp] at this
   simpa using this
end Go.Fw
namespace Go.Fw
open Go.RowKit
structure SSl where
 a : Option Addr
 c : Nat
 l : List Sm
abbrev SSl.enc (x : SSl) : List Value := [.slice x.a x.l.length x.c]
theorem SSl.enc_len (x : SSl) : (SSl.enc x).length = 1 := rfl
theorem SSl.enc_one (x : SSl) : ∀ u ∈ SSl.enc x, u.oneCell' = true := fun u hu => by simp [SSl.enc] at hu; subst hu; rfl
theorem SSl.mkEnc {a : Option Addr} {c : Nat} {l : List Sm} : [Value.slice a l.length c] = SSl.enc ⟨a, c, l⟩ := rfl
def SslRd (w : World) (xs : List SSl) : Prop := ∀ x ∈ xs, Sl Sm.enc 3 w w.heap.size (.slice x.a x.l.length x.c) x.l
theorem SslRd.old {w0 w : World} {L : List Chunk} {xs : List SSl} (W : Wd w0 L w) (h : SslRd w0 xs) : SslRd w xs := fun x hx => Sl.old W (h x hx)
structure SslIn (w1 : World) (bs : List Nat) (v : Value) (xs : List SSl) : Prop where
 row : SlIn SSl.enc 1 w1 bs v xs
 rows : ∀ x ∈ xs, SlIn Sm.enc 3 w1 bs (.slice x.a x.l.length x.c) x.l
theorem SslIn.sl {w0 w w1 : World} {L : List Chunk} {k : Nat} {bs : List Nat} {v : Value} {xs : List SSl} (h : SslIn w1 bs v xs) (W : Wd w0 L w) (hk : L[k]? = some (.ice w1 bs)) : Sl SSl.enc 1 w w.heap.size v xs ∧ SslRd w xs :=
 ⟨h.row.sl W hk, fun x hx => (h.rows x hx).sl W hk⟩
theorem pow_le16 {n : Nat} (h : n < 5) : 2 ^ n ≤ 16 := by
 obtain rfl | rfl | rfl | rfl | rfl : n = 0 ∨ n = 1 ∨ n = 2 ∨ n = 3 ∨ n = 4 := by omega
 all_goals decide
end Go.Fw
namespace Go.Proofs.Ytbijdmfilmecbaa
open Go.Fw Go.Proofs Go.RowKit Go.Proofs.Try
end Go.Proofs.Ytbijdmfilmecbaa
namespace Go.Fw
open Go.RowKit
def clashL (T U : List KH) (n m : Nat) : Bool := (List.range m).any fun p => clashQ T U n p
def clashA (T U : List KH) (n : Nat) : Bool := (List.range n).any fun i => clashL T U i (2 ^ i)
theorem clashL_succ (T U : List KH) (n m : Nat) : clashL T U n (m + 1) = (clashL T U n m || clashQ T U n m) := by unfold clashL; rw [List.range_succ, List.any_append]; simp
theorem clashA_succ (T U : List KH) (n : Nat) : clashA T U (n + 1) = (clashA T U n || clashL T U n (2 ^ n)) := by unfold clashA; rw [List.range_succ, List.any_append]; simp
theorem clashL_true {T U : List KH} {n m p : Nat} (hp : p < m) (h : clashQ T U n p = true) : clashL T U n m = true := List.any_eq_true.2 ⟨p, List.mem_range.2 hp, h⟩
theorem clashA_true {T U : List KH} {n m : Nat} (hp : n < m) (h : clashL T U n (2 ^ n) = true) : clashA T U m = true := List.any_eq_true.2 ⟨n, List.mem_range.2 hp, h⟩
theorem no_clashA {T U : List KH} (hT : KhOk T) (hU : KhOk U) (h : clashA T U 5 = false) : NoClash T U := no_clashQ hT hU fun n hn p hp => by
 cases h1 : clashQ T U n p with
 | false => rfl
 | true =>
   have := clashA_true hn (clashL_true hp h1)
   rw [h] at this
   cases this
end Go.Fw
namespace Go.Proofs.Ytbijdmfilmecbaa
open Go.Fw Go.Proofs Go.RowKit Go.Proofs.Try
theorem c67 (w0 : World) (v1 : Value) (l : List Sm) (x : Sm) (h : Sl Sm.enc 3 w0 w0.heap.size v1 l) :
   Calls Try.prog 67 #[v1, .agg (Sm.enc x).toArray] w0 fun e w' => e = .returned (.int .i64 (idxG x 0 l)) ∧ Bel w0.heap.size w0 w' := by
 obtain ⟨A, cap, rfl, hl, hcap, hA⟩ := h
 refine enter2 func67 rfl ntmps67 rfl fun a S => wp_seq_k fun _ hK1 => wp_region_lit (Zh (Xw S (.t rfl) rfl fun g1 a w S => run S (.ac rfl <| .z) fun a w S => Zb (Za (hK1 _ _ (wp_seq_k fun _ hK1 => sg S (.mv rfl <| .ln underlying22 rfl <| .mc rfl <| .z) fun a w S => wp_block ?_)))))
 refine st_lpK S (X := Nat) (fun k => [(8, true, .int .i64 (k : Int))]) (fun _ L => L) (fun k => k ≤ l.length ∧ idxG x k (l.drop k) = idxG x 0 l) (fun k => l.length - k) 0 ⟨Nat.zero_le _, rfl⟩ ?_
 clear S
 intro k a w ⟨hk, hno⟩ S
 by_cases hlt : k < l.length
 · obtain ⟨g, o, m, rfl, hm, hd, hc⟩ := Yc hA hlt
   clear hA
   have hir := @sm_iff x m
   rw [← bs_inj] at hir
   refine sg S (.lt (by omega) rfl rfl <| .z) fun a w S => wp_seq_k fun _ hK2 => Ze S (.t rfl) (wp_skip (Za (hK2 _ _ (wp_seq_k fun _ hK2 => wp_block (sg S (.mv rfl <| .as rfl <| .z) fun a w S => wp_seq_k fun _ hK3 => Xk S (by kernel_rfl) (by kernel_rfl) fun a S => qrun S (.la gt28 0 rfl rfl rfl <| .mv rfl <| .mv rfl <| .ix underlying22 sizeOf28 (by omega) rfl rfl <| .yy (Yh ⟨isAgg28, sizeOf28⟩ (.t rfl) (vs := [_, _, _]) rfl (fun _ => hc)) rfl <| .yy (ys_eqA (.t rfl) (.t rfl) eq28) rfl <| .z) fun a S => ?_)))))
   (refine q_nil ?_; intro w W; replace S := St.mk S W; clear W)
   refine Za (hK3 _ _ ?_)
   refine st_if S (.t rfl) (fun h1 => ?_) (fun h1 => ?_)
   refine sg S (.mv rfl <| .as rfl <| .z) fun a w S => wp_ret (Yk (Zj (Zj (Yk (Zj (Zk S (results1 S results67 (Rv.tmp rfl)) ?_))))))
   rotate_left
   refine wp_skip (Zg (Za (hK2 _ _ (wp_region_lit (run S (.ad (by unfold I64; omega) rfl <| .mv rfl <| .z) fun a w S => Zb (Za ?_))))))
   rotate_left
   · refine ⟨?_, S.wd.below⟩
     rw [← hno, hd, idxG, if_pos (hir.2 h1).symm]
   · rw [hd, idxG, if_neg (fun e : m = x => h1 (hir.1 e.symm))] at hno
     exact ⟨k + 1, ⟨by omega, hno⟩, by omega, S.wk⟩
 · refine sg S (.ge (by omega) rfl rfl <| .z) fun a w S => wp_seq_k fun _ hK2 => Zf S (.t rfl) (wp_exit (Zc (Zc (Zn (Za (hK1 _ _ (sg S (.ac rfl <| .z) fun a w S => wp_ret (Zk S (results1 S results67 (Rv.tmp rfl)) ?_))))))))
   refine ⟨?_, S.wd.below⟩
   rw [← hno, List.drop_eq_nil_of_le (by omega)]; rfl
theorem c42 (w0 : World) (v1 : Value) (l : List Sm) (x : Sm) (h : Sl Sm.enc 3 w0 w0.heap.size v1 l) :
   Calls Try.prog 42 #[v1, .agg (Sm.enc x).toArray] w0 fun e w' => e = .returned (.bool (decide (x ∈ l))) ∧ Bel w0.heap.size w0 w' := by
 refine enter2 func42 rfl ntmps42 rfl fun a S => wp_seq_k fun _ hK1 => wp_region_lit (Zh (Xw S (.t rfl) rfl fun g1 a w S => run S (.ac rfl <| .z) fun a w S => Zb (Za (hK1 _ _ (sg S (.mv rfl <| .la gt28 0 rfl rfl rfl <| .xx (Zi call67 (.cons (.t rfl) (.cons (.t rfl) .nil)) (fun hp w W => c67 _ _ _ _ (by exact .old W (by assumption)))) rfl <| .yy (Yd (.t rfl) Ev.c) rfl <| .as rfl <| .z) fun a w S => wp_ret (Zk S (results1 S results42 (Rv.tmp rfl)) ?_))))))
 refine ⟨?_, S.wd.below⟩
 rw [idxG_mem]
theorem c41 (w0 : World) (v1 v2 : Value) (l m : List Sm) (h1 : Sl Sm.enc 3 w0 w0.heap.size v1 l) (s1 : Sums l) (h2 : Sl Sm.enc 3 w0 w0.heap.size v2 m) (s2 : Sums m) :
   Calls Try.prog 41 #[v1, v2] w0 fun e w' => e = .returned (.bool (clashA (setsT [] l) (setsT [] m) 5)) ∧ Bel w0.heap.size w0 w' := by
 have hT := s1.ok
 have hl1 := s1.len
 have hU := s2.ok
 have hl2 := s2.len
 have hTl2 := sets_len l []
 have hUl2 := sets_len m []
 rw [List.length_nil] at hTl2 hUl2
 refine enter2 func41 rfl ntmps41 rfl fun a S => sg S (.ac rfl <| .z) fun a w S => wp_seq_k fun _ hK1 => wp_region_lit (run S (.mv rfl <| .z) fun a w S => ?_)
 (refine Zh (Zq S call20 (.cons (.t rfl) .nil) (c20 _ _ _ (by exact .old S.wd (by assumption)) (by assumption)) rfl ?_); clear S a w; rintro _ _ ⟨g1, A1, cap1, rfl, rfl⟩ a w S)
 refine run S (.mv rfl <| .z) fun a w S => ?_
 (refine Zh (Zq S call20 (.cons (.t rfl) .nil) (c20 _ _ _ (by exact .old S.wd (by assumption)) (by assumption)) rfl ?_); clear S a w; rintro _ _ ⟨g2, A2, cap2, rfl, rfl⟩ a w S)
 refine run S (.as rfl <| .as rfl <| .z) fun a w S => Zb (Za (hK1 _ _ (wp_seq_k fun _ hK1 => sg S (.mc rfl <| .z) fun a w S => wp_block ?_)))
 generalize setsT [] l = T at *
 generalize setsT [] m = U at *
 refine Ye S [4, 20] (X := Nat) (fun q => [(4, true, .bool false), (20, true, .int .i64 (q : Int))]) (fun _ => docP g2 A2 cap2 U (docP g1 A1 cap1 T [])) (fun q => q ≤ 5 ∧ clashA T U q = false) (fun q => 5 - q) 0 ⟨Nat.zero_le _, rfl⟩ ?_
 clear S
 rintro i a w ⟨hi, hci⟩ S
 by_cases hlt : i < 5
 rotate_left
 · obtain rfl : i = 5 := by omega
   refine sg S (.yy (Yf (by omega) (Zy (.t rfl) Ev.c)) rfl <| .z) fun a w S => wp_seq_k fun _ hK2 => Zf S (.t rfl) (wp_exit (Zc (Zc (Zn (Za (hK1 _ _ (sg S (.ac rfl <| .z) fun a w S => wp_ret (Zk S (results1 S results41 (Rv.tmp rfl)) ?_))))))))
   exact ⟨by rw [hci], S.wd.below⟩
 obtain ⟨m, hm⟩ : ∃ m, 2 ^ i = m := ⟨_, rfl⟩
 have hm16 : m ≤ 16 := by rw [← hm]; exact pow_le16 hlt
 have rw_s : IntKind.i64.wrap (1 * 2 ^ i) = (m : Int) := by rw [pow_shl (by omega), ← hm]; simp
 have hsa := clashA_succ T U i
 rw [hci, hm, Bool.false_or] at hsa
 refine sg S (.yy (Ym (by omega) (Zy (.t rfl) Ev.c)) rfl <| .z) fun a w S => wp_seq_k fun _ hK2 => Ze S (.t rfl) (wp_skip (Za (hK2 _ _ (wp_seq_k fun _ hK2 => wp_block (sg S (.mv rfl <| .as rfl <| .z) fun a w S => wp_seq_k fun _ hK3 => wp_region_lit (run S (.mv rfl <| .yy (ys_shl Ev.c (.t rfl) (Nat.ble_eq_true_of_le (by show _ ≤ 64; omega))) rfl <| .z) fun a w S => ?_))))))
 rw [rw_s] at S
 refine run S (.mc rfl <| .z) fun a w S => Zb (Za (hK3 _ _ (wp_block ?_)))
 refine Ye S [4, 25] (X := Nat) (fun q => [(4, true, .bool false), (25, true, .int .i64 (q : Int))]) (fun _ => docP g2 A2 cap2 U (docP g1 A1 cap1 T [])) (fun q => q ≤ m ∧ clashL T U i q = false) (fun q => m - q) 0 ⟨Nat.zero_le _, rfl⟩ ?_
 clear S
 rintro p a w ⟨hp, hcp⟩ S
 by_cases hpm : p < m
 rotate_left
 · obtain rfl : p = m := by omega
   refine sg S (.ge (by omega) rfl rfl <| .z) fun a w S => wp_seq_k fun _ hK3 => Zf S (.t rfl) (wp_exit (Zc (Zc (Zn (Zg (Za (hK2 _ _ (wp_region_lit (run S (.ad (by unfold I64; omega) rfl <| .mv rfl <| .z) fun a w S => Zb (Za ?_))))))))))
   exact ⟨i + 1, ⟨by omega, by rw [hsa, hcp]⟩, by omega, S.pk⟩
 have hsl := clashL_succ T U i p
 rw [hcp, Bool.false_or] at hsl
 refine sg S (.lt (by omega) rfl rfl <| .z) fun a w S => wp_seq_k fun _ hK3 => Ze S (.t rfl) (wp_skip (Za (hK3 _ _ (wp_seq_k fun _ hK3 => wp_block (sg S (.mv rfl <| .as rfl <| .z) fun a w S => sg S (.ac rfl <| .z) fun a w S => sg S (.ac rfl <| .z) fun a w S => wp_seq_k fun _ hK4 => sg S (.mc rfl <| .z) fun a w S => wp_block ?_)))))
 refine Ye S [9, 10, 28] (X := Nat) (fun q => [(9, true, .bool (sameQ T U i p q)), (10, true, .bool (anyQ T U i p q)), (28, true, .int .i64 (q : Int))]) (fun _ => docP g2 A2 cap2 U (docP g1 A1 cap1 T [])) (fun q => q ≤ 16) (fun q => 16 - q) 0 (Nat.zero_le _) ?_
 clear S
 rintro q a w hq S
 by_cases hq16 : q < 16
 · have hss := sameQ_succ T U i p q
   have has := anyQ_succ T U i p q
   obtain ⟨d, hd4⟩ : ∃ d, 4 - i = d := ⟨_, rfl⟩
   rw [hd4] at hss has
   have rw_4 : (4 : Int) - (i : Int) = (d : Int) := by omega
   have rw_5 : IntKind.i64.wrap ((4 : Int) - (i : Int)) = (d : Int) := by rw [IntKind.wrap_i64]; omega
   have rw_q : Int.fdiv ((q : Nat) : Int) (2 ^ d) = ((q / 2 ^ d : Nat) : Int) := by rw [Int.fdiv_eq_ediv_of_nonneg _ (by have := Int.pow_pos (n := 2) (m := d) (by omega); omega)]; simp
   have hok : okP 4 4 [(q : Int)] = true := okP_iff.2 ⟨⟨by omega, by omega⟩, fun x hx => by
     rw [List.mem_singleton.1 hx]
     have e : (2 : Int) ^ (4 : Int).toNat = 16 := by decide
     omega⟩
   have rw_a1 : (keysA T [(q : Int)]).1 = keysT T [(q : Int)] := by unfold keysA; rw [if_pos hok]
   have rw_a2 : (keysA T [(q : Int)]).2 = 0 := by unfold keysA; rw [if_pos hok]
   have rw_b1 : (keysA U [(q : Int)]).1 = keysT U [(q : Int)] := by unfold keysA; rw [if_pos hok]
   have rw_b2 : (keysA U [(q : Int)]).2 = 0 := by unfold keysA; rw [if_pos hok]
   have hk1 := Xz T (q : Int)
   have hk2 := Xz U (q : Int)
   generalize q / 2 ^ d = z at *
   by_cases hz : z = p
   · have rw_z : decide ((z : Int) ≠ (p : Int)) = false := decide_eq_false (by omega)
     rw [decide_eq_true hz, Bool.not_true, Bool.false_or] at hss
     rw [decide_eq_true hz, Bool.true_and] at has
     generalize sameQ T U i p q = sq at *
     generalize anyQ T U i p q = aq at *
     generalize keysT T [(q : Int)] = kT at *
     generalize keysT U [(q : Int)] = kU at *
     have hda : decide ((0 : Int) < (kT.length : Int) + (kU.length : Int)) = decide (0 < kT.length + kU.length) := decide_eq_decide.2 (by omega)
     refine sg S (.yy (Ym (by omega) (Zy (.t rfl) Ev.c)) rfl <| .z) fun a w S => wp_seq_k fun _ hK5 => Ze S (.t rfl) (wp_skip (Za (hK5 _ _ (wp_seq_k fun _ hK5 => wp_block (sg S (.mv rfl <| .as rfl <| .z) fun a w S => wp_seq_k fun _ hK6 => wp_seq_k fun _ hK7 => wp_region_lit (run S (.mv rfl <| .mv rfl <| .yy (Xj Ev.c (.t rfl) (fun _ => by unfold I64; omega)) rfl <| .z) fun a w S => ?_))))))
     rw [rw_4] at S
     refine run S (.yy (ys_shr (.t rfl) (.t rfl) (Nat.ble_eq_true_of_le (by show _ ≤ 64; omega))) rfl <| .z) fun a w S => ?_
     rw [rw_q] at S
     refine run S (.mv rfl <| .yy (Yf (by omega) (Yn (.t rfl) (.t rfl))) rfl <| .z) fun a w S => Zb (Za (hK7 _ _ (Zf S (.t rfl) (wp_skip (Za (hK6 _ _ (wp_seq_k fun _ hK6 => wp_region_lit (run S (.mv rfl <| .mv rfl <| .z) fun a w S => Zh (Zm S underlying42 inf3 rfl rfl rfl (.t rfl) rfl rfl rfl fun g3 a w S => ?_)))))))))
     (refine Zh (Zq S call26 (.cons (.t rfl) (.cons (.t rfl) .nil)) (c26 _ _ _ _ _ _ _ (by exact sl_m2 S.wd (k := 3) rfl) (by assumption) (by omega) (by exact sl_i1 S.wd (k := 0) rfl) (by (simp; done))) rfl ?_); clear S a w; rintro _ _ ⟨B1, c1, rfl, rfl⟩ a w S)
     rw [rw_a2] at S
     rw [rw_a1] at S
     refine run S (.mv rfl <| .ex rfl rfl <| .ex rfl rfl <| .as rfl <| .as rfl <| .z) fun a w S => Zb (Za (hK6 _ _ (wp_seq_k fun _ hK6 => wp_region_lit (run S (.mv rfl <| .mv rfl <| .z) fun a w S => Zh (Zm S underlying42 inf3 rfl rfl rfl (.t rfl) rfl rfl rfl fun g4 a w S => ?_)))))
     (refine Zh (Zq S call26 (.cons (.t rfl) (.cons (.t rfl) .nil)) (c26 _ _ _ _ _ _ _ (by exact sl_m2 S.wd (k := 3) rfl) (by assumption) (by omega) (by exact sl_i1 S.wd (k := 0) rfl) (by (simp; done))) rfl ?_); clear S a w; rintro _ _ ⟨B2, c2, rfl, rfl⟩ a w S)
     rw [rw_b2] at S
     rw [rw_b1] at S
     refine run S (.mv rfl <| .ex rfl rfl <| .ex rfl rfl <| .as rfl <| .as rfl <| .z) fun a w S => Zb (Za (hK6 _ _ (wp_seq_k fun _ hK6 => wp_region_lit (run S (.mv rfl <| .mv rfl <| .z) fun a w S => Yq S rfl rfl (Yr.ys (Zd (.t rfl))) rfl fun a w S => Yq S rfl rfl (Yr.ys (Zd (.t rfl))) rfl fun a w S => Yq S rfl rfl (Zi call24 (.cons (Ev.g rfl) (.cons (Ev.g rfl) .nil)) (fun hp w W => c24 _ _ _ _ _ (by exact Sl.of_own W (k := 2) rfl (fun _ => rfl)) (by exact Sl.of_own W (k := 0) rfl (fun _ => rfl)))) rfl fun a w S => run S (.yy (Xs (.t rfl) (Ev.g rfl) Ev.c) rfl <| .as rfl <| .z) fun a w S => Zb (Za (hK6 _ _ (wp_region_lit (run S (.mv rfl <| .mv rfl <| .z) fun a w S => st_yf S rfl rfl (Yr.ys (Zd (.t rfl))) rfl fun a w S => st_yf S rfl rfl (Yr.ys (ys_lenS underlying22 (Ev.g rfl))) rfl fun a w S => st_yf S rfl rfl (Yr.ys (Zd (.t rfl))) rfl fun a w S => st_yf S rfl rfl (Yr.ys (ys_lenS underlying22 (Ev.g rfl))) rfl fun a w S => st_yf S rfl rfl (Yr.ys (ys_addI (Ev.g rfl) (Ev.g rfl) (fun _ => by unfold I64; omega))) rfl fun a w S => st_yf S rfl rfl (Yr.ys (Xf (Ev.g rfl) Ev.c)) rfl fun a w S => run S (.yy (ys_or (.t rfl) Ev.c (Ev.g rfl)) rfl <| .as rfl <| .z) fun a w S => Zb (Zg (Za (hK5 _ _ (wp_region_lit (run S (.ad (by unfold I64; omega) rfl <| .mv rfl <| .z) fun a w S => Zb (Za ?_))))))))))))))
     rw [hda] at S
     exact ⟨q + 1, by omega, by omega, by rw [hss, has]; exact S.pk⟩
   · have rw_z : decide ((z : Int) ≠ (p : Int)) = true := decide_eq_true (by omega)
     rw [decide_eq_false hz, Bool.not_false, Bool.true_or, Bool.and_true] at hss
     rw [decide_eq_false hz, Bool.false_and, Bool.or_false] at has
     refine sg S (.yy (Ym (by omega) (Zy (.t rfl) Ev.c)) rfl <| .z) fun a w S => wp_seq_k fun _ hK5 => Ze S (.t rfl) (wp_skip (Za (hK5 _ _ (wp_seq_k fun _ hK5 => wp_block (sg S (.mv rfl <| .as rfl <| .z) fun a w S => wp_seq_k fun _ hK6 => wp_seq_k fun _ hK7 => wp_region_lit (run S (.mv rfl <| .mv rfl <| .yy (Xj Ev.c (.t rfl) (fun _ => by unfold I64; omega)) rfl <| .z) fun a w S => ?_))))))
     rw [rw_4] at S
     refine run S (.yy (ys_shr (.t rfl) (.t rfl) (Nat.ble_eq_true_of_le (by show _ ≤ 64; omega))) rfl <| .z) fun a w S => ?_
     rw [rw_q] at S
     refine run S (.mv rfl <| .yy (Ym (by omega) (Yn (.t rfl) (.t rfl))) rfl <| .z) fun a w S => Zb (Za (hK7 _ _ (Ze S (.t rfl) (wp_exit (Zc (Zn (Za (hK5 _ _ (wp_region_lit (run S (.ad (by unfold I64; omega) rfl <| .mv rfl <| .z) fun a w S => Zb (Za ?_)))))))))))
     exact ⟨q + 1, by omega, by omega, by rw [hss, has]; exact S.pk⟩
 obtain rfl : q = 16 := by omega
 have hb : clashQ T U i p = (!sameQ T U i p 16 && decide (hashT T (4 - i) p = hashT U (4 - i) p) && anyQ T U i p 16) := rfl
 have h1 : (0 : Int) ≤ (i : Int) ∧ (i : Int) ≤ 4 := by omega
 have h2 : (0 : Int) ≤ (p : Int) ∧ (p : Int) < 2 ^ (i : Int).toNat := by
   refine ⟨by omega, ?_⟩
   rw [Int.toNat_natCast]
   have h3 : ((2 ^ i : Nat) : Int) = 2 ^ i := by simp
   rw [← h3, hm]; omega
 have rw_t : (4 - (i : Int)).toNat = 4 - i := by omega
 have rw_p : ((p : Int)).toNat = p := Int.toNat_natCast p
 obtain ⟨x, rw_x⟩ : ∃ y, hashT T (4 - i) p = y := ⟨_, rfl⟩
 obtain ⟨y, rw_y⟩ : ∃ y, hashT U (4 - i) p = y := ⟨_, rfl⟩
 rw [rw_x, rw_y] at hb
 cases hs : sameQ T U i p 16 with
 | true =>
   rw [hs] at S hb
   rw [Bool.not_true, Bool.false_and, Bool.false_and] at hb
   refine sg S (.yy (Yf (by omega) (Zy (.t rfl) Ev.c)) rfl <| .z) fun a w S => wp_seq_k fun _ hK5 => Zf S (.t rfl) (wp_exit (Zc (Zc (Zn (Za (hK4 _ _ (sg S (.mv rfl <| .nt rfl <| .mv rfl <| .sk rfl rfl rfl <| .sk rfl rfl rfl <| .sk rfl rfl rfl <| .sk rfl rfl rfl <| .sk rfl rfl rfl <| .sk rfl rfl rfl <| .sk rfl rfl rfl <| .sk rfl rfl rfl <| .sk rfl rfl rfl <| .yy (Zs (.t rfl) Ev.c) rfl <| .mv rfl <| .sk rfl rfl rfl <| .yy (Zs (.t rfl) Ev.c) rfl <| .z) fun a w S => Zf S (.t rfl) (wp_skip (Zg (Za (hK3 _ _ (wp_region_lit (run S (.ad (by unfold I64; omega) rfl <| .mv rfl <| .z) fun a w S => Zb (Za ?_))))))))))))))
   exact ⟨p + 1, ⟨by omega, by rw [hsl, hb]⟩, by omega, S.pk⟩
 | false =>
   rw [hs] at S hb
   rw [Bool.not_false, Bool.true_and] at hb
   generalize anyQ T U i p 16 = aq at *
   by_cases hxy : x = y
   · have rw_d := decide_eq_true hxy
     rw [rw_d, Bool.true_and] at hb
     cases aq with
     | true =>
       refine sg S (.yy (Yf (by omega) (Zy (.t rfl) Ev.c)) rfl <| .z) fun a w S => wp_seq_k fun _ hK5 => Zf S (.t rfl) (wp_exit (Zc (Zc (Zn (Za (hK4 _ _ (wp_seq_k fun _ hK4 => wp_region_lit (run S (.mv rfl <| .nt rfl <| .mv rfl <| .gy rfl rfl (Zd (.t rfl)) <| .gy rfl rfl (Zd (.t rfl)) <| .gy rfl rfl (Zd (.t rfl)) <| .gx rfl rfl (Zi call56 (.cons (.t rfl) (.cons (.t rfl) (.cons (.t rfl) .nil))) (fun hp w W => c56 _ _ _ _ _ _ _ (by exact sl_m2 W (k := 2) rfl) (by assumption) (by omega) (by assumption) (by assumption))) <| .z) fun a w S => ?_))))))))
       rw [rw_t] at S
       rw [rw_p] at S
       rw [rw_x] at S
       refine run S (.gy rfl rfl (Zd (.t rfl)) <| .gy rfl rfl (Zd (.t rfl)) <| .gy rfl rfl (Zd (.t rfl)) <| .gx rfl rfl (Zi call56 (.cons (.t rfl) (.cons (.t rfl) (.cons (.t rfl) .nil))) (fun hp w W => c56 _ _ _ _ _ _ _ (by exact sl_m2 W (k := 0) rfl) (by assumption) (by omega) (by assumption) (by assumption))) <| .z) fun a w S => ?_
       rw [rw_t] at S
       rw [rw_p] at S
       rw [rw_y] at S
       refine run S (.gy rfl rfl (Ym (by omega) (Yt (.t rfl) (.t rfl))) <| .yy (Zu (.t rfl) (.t rfl)) rfl <| .mv rfl <| .gy rfl rfl (Zd (.t rfl)) <| .yy (Zu (.t rfl) (.t rfl)) rfl <| .z) fun a w S => Zb (Za (hK4 _ _ (Ze S (.t rfl) (sg S (.ac rfl <| .z) fun a w S => wp_ret (Yk (Zj (Zj (Yk (Yk (Zj (Zj (Yk (Zj (Zk S (results1 S results41 (Rv.tmp rfl)) ?_))))))))))))))
       exact ⟨by rw [clashA_true hlt (by rw [hm]; exact clashL_true hpm hb)], S.wd.below⟩
     | false =>
       refine sg S (.yy (Yf (by omega) (Zy (.t rfl) Ev.c)) rfl <| .z) fun a w S => wp_seq_k fun _ hK5 => Zf S (.t rfl) (wp_exit (Zc (Zc (Zn (Za (hK4 _ _ (wp_seq_k fun _ hK4 => wp_region_lit (run S (.mv rfl <| .nt rfl <| .mv rfl <| .gy rfl rfl (Zd (.t rfl)) <| .gy rfl rfl (Zd (.t rfl)) <| .gy rfl rfl (Zd (.t rfl)) <| .gx rfl rfl (Zi call56 (.cons (.t rfl) (.cons (.t rfl) (.cons (.t rfl) .nil))) (fun hp w W => c56 _ _ _ _ _ _ _ (by exact sl_m2 W (k := 2) rfl) (by assumption) (by omega) (by assumption) (by assumption))) <| .z) fun a w S => ?_))))))))
       rw [rw_t] at S
       rw [rw_p] at S
       rw [rw_x] at S
       refine run S (.gy rfl rfl (Zd (.t rfl)) <| .gy rfl rfl (Zd (.t rfl)) <| .gy rfl rfl (Zd (.t rfl)) <| .gx rfl rfl (Zi call56 (.cons (.t rfl) (.cons (.t rfl) (.cons (.t rfl) .nil))) (fun hp w W => c56 _ _ _ _ _ _ _ (by exact sl_m2 W (k := 0) rfl) (by assumption) (by omega) (by assumption) (by assumption))) <| .z) fun a w S => ?_
       rw [rw_t] at S
       rw [rw_p] at S
       rw [rw_y] at S
       refine run S (.gy rfl rfl (Ym (by omega) (Yt (.t rfl) (.t rfl))) <| .yy (Zu (.t rfl) (.t rfl)) rfl <| .mv rfl <| .gy rfl rfl (Zd (.t rfl)) <| .yy (Zu (.t rfl) (.t rfl)) rfl <| .z) fun a w S => Zb (Za (hK4 _ _ (Zf S (.t rfl) (wp_skip (Zg (Za (hK3 _ _ (wp_region_lit (run S (.ad (by unfold I64; omega) rfl <| .mv rfl <| .z) fun a w S => Zb (Za ?_))))))))))
       exact ⟨p + 1, ⟨by omega, by rw [hsl, hb]⟩, by omega, S.pk⟩
   · have rw_d := decide_eq_false hxy
     rw [rw_d, Bool.false_and] at hb
     cases aq with
     | true =>
       refine sg S (.yy (Yf (by omega) (Zy (.t rfl) Ev.c)) rfl <| .z) fun a w S => wp_seq_k fun _ hK5 => Zf S (.t rfl) (wp_exit (Zc (Zc (Zn (Za (hK4 _ _ (wp_seq_k fun _ hK4 => wp_region_lit (run S (.mv rfl <| .nt rfl <| .mv rfl <| .gy rfl rfl (Zd (.t rfl)) <| .gy rfl rfl (Zd (.t rfl)) <| .gy rfl rfl (Zd (.t rfl)) <| .gx rfl rfl (Zi call56 (.cons (.t rfl) (.cons (.t rfl) (.cons (.t rfl) .nil))) (fun hp w W => c56 _ _ _ _ _ _ _ (by exact sl_m2 W (k := 2) rfl) (by assumption) (by omega) (by assumption) (by assumption))) <| .z) fun a w S => ?_))))))))
       rw [rw_t] at S
       rw [rw_p] at S
       rw [rw_x] at S
       refine run S (.gy rfl rfl (Zd (.t rfl)) <| .gy rfl rfl (Zd (.t rfl)) <| .gy rfl rfl (Zd (.t rfl)) <| .gx rfl rfl (Zi call56 (.cons (.t rfl) (.cons (.t rfl) (.cons (.t rfl) .nil))) (fun hp w W => c56 _ _ _ _ _ _ _ (by exact sl_m2 W (k := 0) rfl) (by assumption) (by omega) (by assumption) (by assumption))) <| .z) fun a w S => ?_
       rw [rw_t] at S
       rw [rw_p] at S
       rw [rw_y] at S
       refine run S (.gy rfl rfl (Yf (by omega) (Yt (.t rfl) (.t rfl))) <| .yy (Zu (.t rfl) (.t rfl)) rfl <| .mv rfl <| .sk rfl rfl rfl <| .yy (Zs (.t rfl) Ev.c) rfl <| .z) fun a w S => Zb (Za (hK4 _ _ (Zf S (.t rfl) (wp_skip (Zg (Za (hK3 _ _ (wp_region_lit (run S (.ad (by unfold I64; omega) rfl <| .mv rfl <| .z) fun a w S => Zb (Za ?_))))))))))
       exact ⟨p + 1, ⟨by omega, by rw [hsl, hb]⟩, by omega, S.pk⟩
     | false =>
       refine sg S (.yy (Yf (by omega) (Zy (.t rfl) Ev.c)) rfl <| .z) fun a w S => wp_seq_k fun _ hK5 => Zf S (.t rfl) (wp_exit (Zc (Zc (Zn (Za (hK4 _ _ (wp_seq_k fun _ hK4 => wp_region_lit (run S (.mv rfl <| .nt rfl <| .mv rfl <| .gy rfl rfl (Zd (.t rfl)) <| .gy rfl rfl (Zd (.t rfl)) <| .gy rfl rfl (Zd (.t rfl)) <| .gx rfl rfl (Zi call56 (.cons (.t rfl) (.cons (.t rfl) (.cons (.t rfl) .nil))) (fun hp w W => c56 _ _ _ _ _ _ _ (by exact sl_m2 W (k := 2) rfl) (by assumption) (by omega) (by assumption) (by assumption))) <| .z) fun a w S => ?_))))))))
       rw [rw_t] at S
       rw [rw_p] at S
       rw [rw_x] at S
       refine run S (.gy rfl rfl (Zd (.t rfl)) <| .gy rfl rfl (Zd (.t rfl)) <| .gy rfl rfl (Zd (.t rfl)) <| .gx rfl rfl (Zi call56 (.cons (.t rfl) (.cons (.t rfl) (.cons (.t rfl) .nil))) (fun hp w W => c56 _ _ _ _ _ _ _ (by exact sl_m2 W (k := 0) rfl) (by assumption) (by omega) (by assumption) (by assumption))) <| .z) fun a w S => ?_
       rw [rw_t] at S
       rw [rw_p] at S
       rw [rw_y] at S
       refine run S (.gy rfl rfl (Yf (by omega) (Yt (.t rfl) (.t rfl))) <| .yy (Zu (.t rfl) (.t rfl)) rfl <| .mv rfl <| .sk rfl rfl rfl <| .yy (Zs (.t rfl) Ev.c) rfl <| .z) fun a w S => Zb (Za (hK4 _ _ (Zf S (.t rfl) (wp_skip (Zg (Za (hK3 _ _ (wp_region_lit (run S (.ad (by unfold I64; omega) rfl <| .mv rfl <| .z) fun a w S => Zb (Za ?_))))))))))
       exact ⟨p + 1, ⟨by omega, by rw [hsl, hb]⟩, by omega, S.pk⟩
end Go.Proofs.Ytbijdmfilmecbaa
namespace Go.Fw
open Go.RowKit
structure Tl (size g j cap len : Nat) (A : Option Addr) : Prop where
 le : j ≤ len
 room : len ≤ cap
 pos : 0 < cap
 at_ : j < cap → A = some ⟨g, 0 + j * size, none⟩
theorem Tl.start {size g cap len : Nat} (h : len ≤ cap) (hp : 0 < cap) : Tl size g 0 cap len (some ⟨g, 0, none⟩) := ⟨Nat.zero_le _, h, hp, fun _ => by rw [Nat.zero_mul]⟩
theorem Tl.next {size g j cap len : Nat} {A : Option Addr} (h : Tl size g j cap len A) (hj : j < len) : Tl size g (j + 1) cap len (if cap - j = 1 then A else A.map (·.add (1 * size))) := by
 have hr := h.room
 refine ⟨hj, h.room, h.pos, fun hc => ?_⟩
 rw [if_neg (by omega), h.at_ (by omega), Option.map_some, Addr.add_mid, Nat.one_mul, Nat.succ_mul, Nat.add_assoc]
section
variable {P : Program} {n : Nat} {w0 : World} {K : KL} {L : List Chunk} {ty : TypeId} {pos : String} {aft : Array Edge} {gd : Option (Nat × Bool)} {a : Act} {w : World} {Z : Act → World → Prop} {Q : Exit → Act → World → Prop} {d : Nat}
theorem op_appT {α : Type} {enc : α → List Value} {l : List α} (ys : List α) {t t2 e bytes size cap k g j : Nat} {d2 : TypeDesc} {z : Value} {A : Option Addr} {s x : Operand} {xv : Value} (S : St n w0 K L a w) (ht : P.underlying t = some (.slice e)) (ht2 : P.underlying t2 = some d2) (hd2 : d2 = .string ∨ ∃ e2, d2 = .slice e2)
   (hi : InfoT P e z size bytes) (hzs : z.cells.size = size) (he : ∀ x, (enc x).length = size) (hk : L[k]? = some (rowOf e size enc (some ⟨g, 0, none⟩) cap l)) (hT : Tl size g j cap l.length A) (hs : Ev n true K s (.slice A (l.length - j) (cap - j))) (hx : Ev n true K x xv) (hsrc : Src P w size xv ys.length (ys.flatMap enc)) (hb : (l.length + ys.length) * bytes ≤ 200000000000000) (hb1 : Nat.blt 0 bytes = true) (hb2 : Nat.ble bytes 65536 = true) (hd : Nat.blt d n = true)
   (next : ∀ g' j' cap' l' A' a w, l'.drop j' = l.drop j ++ ys → l'.length ≤ l.length + ys.length → Tl size g' j' cap' l'.length A' → St n w0 ((d, true, .slice A' (l'.length - j') (cap' - j')) :: K) (L.set k (rowOf e size enc (some ⟨g', 0, none⟩) cap' l')) a w → Z a w) :
   Oper.wp P ⟨some d, .call ⟨.builtin .append, #[s, x], #[t, t2]⟩, ty, pos, aft, gd⟩ a w Z Q := by
 obtain ⟨i, hi1, hi2, hi3, hi4⟩ := hi.parts
 subst hi3; subst hi4
 have hb1 := Nat.le_of_ble_eq_true hb1
 have hb2 := Nat.le_of_ble_eq_true hb2
 obtain ⟨t1, t2', t3, t4⟩ := hT
 have hown := S.wd.get hk
 obtain ⟨m, hm⟩ : ∃ m, m = l.length - j := ⟨_, rfl⟩
 obtain ⟨c, hc⟩ : ∃ c, c = cap - j := ⟨_, rfl⟩
 rw [← hm, ← hc] at hs
 have hmq : (m + ys.length) * i.bytes ≤ 200000000000000 := Nat.le_trans (Nat.mul_le_mul_right _ (by omega)) hb
 have hnm : m + ys.length ≤ 200000000000000 := by
   have := Nat.le_mul_of_pos_right (m + ys.length) hb1
   omega
 have hlx := hsrc.len w
 have hfl := flat_len he l
 have hfd : (l.drop j).flatMap enc = (l.flatMap enc).drop (j * i.size) := (flat_drop he l j).symm
 have hld : ((l.drop j).flatMap enc).length = m * i.size := by rw [flat_len he, List.length_drop, hm]
 rcases hown.2 with ⟨_, h0⟩ | ⟨g', cur, hg', hp, hB, hg, hnc, hcm, hcs, htake⟩
 · omega
 simp only [Option.some.injEq, Addr.mk.injEq, and_true] at hg'
 subst hg'
 by_cases hroom : m + ys.length ≤ c
 · have hcl : cur.toList.length = cap * i.size := by simpa using hcs
   obtain ⟨w', hr, hh, hbt⟩ := Xh (P := P) (g := g) (t := e) (ys.flatMap enc) (l.length * i.size) 0 cur.toList w (by simpa using hg) (by
     rw [hsrc.length, hcl, Nat.add_zero, ← Nat.add_mul]; exact Nat.mul_le_mul_right _ (by omega)) hsrc.one
   have hrun : (Builtin.append_ #[t, t2] ty #[.slice A m c, xv]).run P w = .ok (.slice A (m + ys.length) c) w' := by
     have hh := hsrc.here
     by_cases hjc : j < cap
     · have hA := t4 hjc
       subst hA
       have ea : (⟨g, j * i.size + m * i.size, none⟩ : Addr) = ⟨g, l.length * i.size, none⟩ := by
         congr 1
         rw [← Nat.add_mul]
         congr 1
         omega
       have hr' : (storeCells ((⟨g, j * i.size, none⟩ : Addr).add (m * i.size)) (ys.flatMap enc) 0).run P w = .ok () w' := by rw [Addr.add_mid, ea]; exact hr
       rcases hd2 with rfl | ⟨e2, rfl⟩ <;> simp [Builtin.append_, run_underlying ht, run_underlying ht2, sizeOf, typeInfo, hi1, hlx, hh, hroom, hr']
     · have hy0 : ys = [] := List.eq_nil_of_length_eq_zero (by omega)
       subst hy0
       have hw : w' = w := by
         simp [storeCells] at hr
         exact hr.symm
       subst hw
       clear next
       simp only [List.flatMap_nil, List.length_nil, Nat.add_zero] at hh hlx hroom ⊢
       cases A with
       | none => rcases hd2 with rfl | ⟨e2, rfl⟩ <;> simp [Builtin.append_, run_underlying ht, run_underlying ht2, sizeOf, typeInfo, hi1, hlx, hh, hroom]
       | some a => rcases hd2 with rfl | ⟨e2, rfl⟩ <;> simp [Builtin.append_, run_underlying ht, run_underlying ht2, sizeOf, typeInfo, hi1, hlx, hh, hroom, storeCells]
   refine Xv (v := .slice A (m + ys.length) c) (w' := w') (by simp only [execOp, resolve, invoke, builtin, Sem.run_bind, Sem.run_pure, Result.andThen_ok, List.map_toArray, List.map_cons, List.map_nil, hs a rfl S.kn, hx a rfl S.kn, hrun]) (next g j cap (l ++ ys) A _ _ (List.drop_append_of_le_length t1) (by rw [List.length_append]; exact Nat.le_refl _) ⟨by rw [List.length_append]; omega, by rw [List.length_append]; omega, t3, t4⟩ ⟨?_, S.wd.change hk (hbt.mono (fun x hx => ⟨by omega, by simp [hx]⟩)) ?_ (fun _ h => .inl h)⟩)
   · have e1 : (l ++ ys).length - j = m + ys.length := by rw [List.length_append]; omega
     rw [e1, ← hc]
     exact S.kn.put hd _
   · have hkey : ∀ (vs cs : List Value) (i : Nat), i + vs.length ≤ cs.length → (lay cs i vs).take (i + vs.length) = cs.take i ++ vs := by
       intro vs
       induction vs with
       | nil => intro cs i h; simp [lay]
       | cons v vs ih =>
         intro cs i h
         simp at h
         rw [lay, show i + (v :: vs).length = i + 1 + vs.length by simp; omega, ih _ _ (by simp; omega)]
         have e : (cs.set i v).take (i + 1) = cs.take i ++ [v] := by
           rw [List.take_succ_eq_append_getElem (by simp; omega)]
           simp [List.take_set]
           exact List.set_eq_of_length_le (by simp; omega)
         rw [e]; simp
     have h2 := hkey (ys.flatMap enc) cur.toList (l.length * i.size) (by rw [hsrc.length, hcl, ← Nat.add_mul]; exact Nat.mul_le_mul_right _ (by omega))
     rw [hsrc.length, ← Nat.add_mul, htake] at h2
     show Owns _ _ _ _ _ _ _ _
     rw [List.length_append, List.flatMap_append]
     refine ⟨by rw [List.length_append, hsrc.length, hfl, Nat.add_mul], .inr ⟨g, _, rfl, t3, hB, hh, by omega, hcm, by simp [lay_len, hcs], ?_⟩⟩
     simpa using h2
 · have hy : 0 < ys.length := by omega
   have hmc : m ≤ c := by omega
   have h63 : ¬ (9223372036854775807 < ((m : Int) + (ys.length : Int))) := by omega
   have hncp := nextcap_le (need := m + ys.length) (old := c) (by omega)
   have hfit : Builtin.nextslicecap (m + ys.length) c * i.bytes ≤ 281474976710656 := by
     have h1 : Builtin.nextslicecap (m + ys.length) c * i.bytes ≤ (m + ys.length + (m + ys.length) / 4 + 512) * i.bytes := Nat.mul_le_mul_right _ hncp
     have h2 : (m + ys.length + (m + ys.length) / 4 + 512) * i.bytes = (m + ys.length) * i.bytes + (m + ys.length) / 4 * i.bytes + 512 * i.bytes := by rw [Nat.add_mul, Nat.add_mul]
     have h3 : (m + ys.length) / 4 * i.bytes * 4 ≤ (m + ys.length) * i.bytes := by
       rw [Nat.mul_right_comm]; exact Nat.mul_le_mul_right _ (Nat.div_mul_le_self _ _)
     omega
   have hfit' : ¬ (281474976710656 < Builtin.nextslicecap (m + ys.length) c * i.bytes) := by omega
   have hge := grownCap_ge w (m + ys.length) c e
   have hcm2 : grownCap w (m + ys.length) c e ≤ maxLen := grownCap_le_maxLen w (m + ys.length) c e (by simp only [maxLen]; omega)
   have holds : (Builtin.firstCells i.size m (.slice A m c)).run P w.drew = .ok ((l.drop j).flatMap enc).toArray w.drew := by
     by_cases hjc : j < cap
     · rw [t4 hjc]
       refine run_firstCells_some (P := P) w.drew i.size m ⟨g, 0 + j * i.size, none⟩ m c _ hld (fun q u hq => ?_)
       rw [Addr.add_mid, Nat.zero_add]
       have hc2 : w.cell? ⟨g, j * i.size + q, none⟩ = some u := Owns.cell hown (by rw [hfd, List.getElem?_drop] at hq; exact hq)
       simpa using hc2
     · have hm0 : m = 0 := by omega
       rw [hm0, Nat.zero_mul] at hld
       rw [List.eq_nil_of_length_eq_zero hld, hm0]
       cases A <;> simp [Builtin.firstCells, loadCells, loadCellsFrom]
   have hrun : (Builtin.append_ #[t, t2] ty #[.slice A m c, xv]).run P w = .ok (.slice (some ⟨w.heap.size, 0, none⟩) (m + ys.length) (grownCap w (m + ys.length) c e)) (w.drew.alloc (.cells (((l.drop j).flatMap enc).toArray ++ (ys.flatMap enc).toArray ++ Builtin.zeroCells z.cells (grownCap w (m + ys.length) c e - (m + ys.length))) e)) := by
     have hh := hsrc.drew
     have ea : ∀ (xs news : List Value) (Z : Array Value), xs.toArray ++ (news.toArray ++ Z) = (xs ++ news).toArray ++ Z := fun xs news Z => by rw [← List.append_toArray, Array.append_assoc]
     generalize (l.drop j).flatMap enc = xs at holds ⊢
     generalize ys.flatMap enc = news at hh ⊢
     rcases hd2 with rfl | ⟨e2, rfl⟩ <;> simp [Builtin.append_, run_underlying ht, run_underlying ht2, sizeOf, typeInfo, hi1, hi2, hlx, hh, hroom, h63, hfit', holds, zeroValue, Question.forced, newRow, grownCap] <;> rw [ea]
   have e1 : (l.drop j ++ ys).length = m + ys.length := by rw [List.length_append, List.length_drop, hm]
   refine Xv (v := .slice (some ⟨w.heap.size, 0, none⟩) (m + ys.length) (grownCap w (m + ys.length) c e)) (w' := (w.drew.alloc (.cells (((l.drop j).flatMap enc).toArray ++ (ys.flatMap enc).toArray ++ Builtin.zeroCells z.cells (grownCap w (m + ys.length) c e - (m + ys.length))) e))) (by simp only [execOp, resolve, invoke, builtin, Sem.run_bind, Sem.run_pure, Result.andThen_ok, List.map_toArray, List.map_cons, List.map_nil, hs a rfl S.kn, hx a rfl S.kn, hrun]) (next w.heap.size 0 (grownCap w (m + ys.length) c e) (l.drop j ++ ys) _ _ _ rfl (by rw [e1]; omega) (Tl.start (by rw [e1]; exact hge) (by omega)) ⟨by rw [Nat.sub_zero, Nat.sub_zero, e1]; exact S.kn.put hd _, S.wd.change hk ⟨rfl, rfl, rfl, by simp, fun k hk _ => Below.heap_alloc w.drew _ k hk, Dle.succ w.drawn⟩ ?_ ?_⟩)
   · show Owns _ _ _ _ _ _ _ _
     rw [e1, List.flatMap_append]
     have hlen : ((l.drop j).flatMap enc ++ ys.flatMap enc).length = (m + ys.length) * i.size := by rw [List.length_append, hld, hsrc.length, Nat.add_mul]
     refine ⟨hlen, .inr ⟨w.heap.size, _, rfl, by omega, S.wd.below.size, heap_alloc_new w.drew _, hge, hcm2, ?_, ?_⟩⟩
     · simp only [Array.size_append, List.size_toArray, size_zeroCells, hzs, hld, hsrc.length, ← Nat.add_mul]
       congr 1
       omega
     · simp only [Array.toList_append]
       rw [← hlen]
       exact List.take_left
   · intro b hb
     obtain ⟨_, hb⟩ := hb
     simp at hb
     right; omega
end
end Go.Fw
namespace Go.Fw
open Go.RowKit
def allP : List Int := (List.range 16).map fun i : Nat => (i : Int)
theorem allP_mem (k : List UInt8) : (placeK k : Int) ∈ allP := List.mem_map.2 ⟨placeK k, List.mem_range.2 (Xg k), rfl⟩
theorem smp_names {T : List KH} (hT : KhOk T) : namesOk (T.map (smP 0)) = true := by
 unfold namesOk
 rw [List.all_eq_true]
 intro s hs
 obtain ⟨x, hx, rfl⟩ := List.mem_map.1 hs
 exact hT.name x hx
def missU (T U : List KH) : List (List UInt8) := missT T (U.map (smP 0)) allP
theorem missU_mem {T U : List KH} (hT : KhOk T) (hU : KhOk U) {k : List UInt8} : k ∈ missU T U ↔ (∃ h, (k, h) ∈ T ∧ (k, h) ∉ U) ∨ ((∃ h, (k, h) ∈ U) ∧ ∀ h, (k, h) ∉ T) := by
 unfold missU
 rw [miss_mem hT (smp_ok hU) (smp_names hU), sets_self U hU]
 constructor
 · rintro ⟨_, ⟨h, h1, h2⟩ | h1⟩
   · exact .inl ⟨h, h1, fun e => h2 (getT_mem hU.sorted e)⟩
   · exact .inr h1
 · rintro (⟨h, h1, h2⟩ | h1)
   · exact ⟨allP_mem k, .inl ⟨h, h1, fun e => h2 (Xp e)⟩⟩
   · exact ⟨allP_mem k, .inr h1⟩
theorem hasT_iff {T : List KH} {k : List UInt8} : hasT T k = true ↔ ∃ h, (k, h) ∈ T := by
 unfold hasT
 rw [List.any_eq_true]
 constructor
 · rintro ⟨x, hx, e⟩
   rw [decide_eq_true_eq] at e
   exact ⟨x.2, by rw [← e]; exact hx⟩
 · rintro ⟨h, hx⟩
   exact ⟨(k, h), hx, decide_eq_true rfl⟩
theorem have_miss {T U : List KH} (hT : KhOk T) (hU : KhOk U) {k : List UInt8} : k ∈ haveT T (missU T U) ↔ ∃ h, (k, h) ∈ T ∧ (k, h) ∉ U := by
 unfold haveT
 rw [List.mem_filter, missU_mem hT hU, hasT_iff]
 constructor
 · rintro ⟨h1 | ⟨_, h1⟩, ⟨h, h2⟩⟩
   · exact h1
   · exact absurd h2 (h1 h)
 · rintro ⟨h, h1, h2⟩
   exact ⟨.inl ⟨h, h1, h2⟩, h, h1⟩
theorem have_miss2 {T U : List KH} (hT : KhOk T) (hU : KhOk U) {k : List UInt8} : k ∈ haveT U (missU T U) ↔ ∃ h, (k, h) ∈ U ∧ (k, h) ∉ T := by
 unfold haveT
 rw [List.mem_filter, missU_mem hT hU, hasT_iff]
 constructor
 · rintro ⟨⟨h, h1, h2⟩ | ⟨⟨h, h1⟩, h2⟩, h', h3⟩
   · refine ⟨h', h3, fun e => ?_⟩
     rw [key_inj hT.sorted e h1] at h3
     exact h2 h3
   · exact ⟨h, h1, h2 h⟩
 · rintro ⟨h, h1, h2⟩
   refine ⟨?_, h, h1⟩
   by_cases hk : ∃ h', (k, h') ∈ T
   · obtain ⟨h', h3⟩ := hk
     refine .inl ⟨h', h3, fun e => ?_⟩
     rw [key_inj hU.sorted e h1] at h3
     exact h2 h3
   · exact .inr ⟨⟨h, h1⟩, fun h' e => hk ⟨h', e⟩⟩
theorem missU_sorted {T U : List KH} (hT : KhOk T) (hU : KhOk U) : (missU T U).Pairwise fun a b => Op.bytesLess a b = true := by
 have h := miss_sorted (places := allP) hT (smp_ok hU)
 rw [List.pairwise_map] at h
 exact h
theorem miss_told {T U : List KH} (hT : KhOk T) (hU : KhOk U) (hc : NoClash T U) : missT T (keysT U ((candT T U 4).filter (diffT T U 4))) ((candT T U 4).filter (diffT T U 4)) = missU T U := by
 have h := found_all hU hT (T := U) (U := T) fun n hn p hp he => (hc n hn p hp he.symm).symm
 have e : (candT U T 4).filter (diffT U T 4) = (candT T U 4).filter (diffT T U 4) := by
   rw [cand_comm U T 4]
   congr 1
   funext p
   exact diff_comm U T 4 p
 rw [e] at h
 exact h
end Go.Fw
namespace Go.Fw
open Go.RowKit
structure RightOk (l : List Sm) : Prop where
 name : ∀ s ∈ l, nameB s.key = true
 place : ∀ s ∈ l, s.place = 0
 once : l.Pairwise fun a b => a.key ≠ b.key
 hash : hashOk l
theorem right_nil : RightOk [] := ⟨by simp, by simp, List.Pairwise.nil, fun x hx => by cases hx⟩
theorem right_step {acc : List Sm} {s : Sm} (h : RightOk acc) (hs : 0 ≤ s.hash ∧ s.hash ≤ 18446744073709551615) : RightOk (rightF acc s) := by
 unfold rightF
 split
 · rename_i hb
   unfold rightB at hb
   rw [Bool.and_eq_true, Bool.not_eq_true'] at hb
   refine ⟨fun x hx => ?_, fun x hx => ?_, ?_, fun x hx => ?_⟩
   · rcases List.mem_append.1 hx with h1 | h1
     · exact h.name x h1
     · rw [List.mem_singleton.1 h1]; exact hb.1
   · rcases List.mem_append.1 hx with h1 | h1
     · exact h.place x h1
     · rw [List.mem_singleton.1 h1]
   · rw [List.pairwise_append]
     refine ⟨h.once, List.pairwise_singleton _ _, fun a ha b hb2 => ?_⟩
     rw [List.mem_singleton.1 hb2]
     have := List.any_eq_false.1 hb.2 a ha
     simpa using this
   · rcases List.mem_append.1 hx with h1 | h1
     · exact h.hash x h1
     · rw [List.mem_singleton.1 h1]; exact hs
 · exact h
theorem right_ok : ∀ (l acc : List Sm), RightOk acc → hashOk l → RightOk (l.foldl rightF acc)
 | [], acc, h, _ => h
 | s :: r, acc, h, hs => right_ok r _ (right_step h (hs s (by simp))) fun x hx => hs x (by simp [hx])
theorem right_tree : ∀ {l : List Sm} {T : List KH}, RightOk l → KhOk T → (∀ s ∈ l, ∀ h, (s.key, h) ∉ T) → ∀ k h, ((k, h) ∈ setsT T l ↔ (k, h) ∈ T ∨ (⟨0, k, h⟩ : Sm) ∈ l)
 | [], T, hr, hT, hn, k, h => by simp [setsT]
 | s :: r, T, hr, hT, hn, k, h => by
   have hns := hr.name s (by simp)
   have e : setsT T (s :: r) = setsT (setT s.key s.hash T) r := by
     unfold setsT
     rw [List.foldl_cons, if_pos hns]
   obtain ⟨ho1, ho2⟩ := List.pairwise_cons.1 hr.once
   have hr2 : RightOk r := ⟨fun x hx => hr.name x (by simp [hx]), fun x hx => hr.place x (by simp [hx]), ho2, fun x hx => hr.hash x (by simp [hx])⟩
   have hT2 := setT_ok hT hns (hr.hash s (by simp))
   have hp := hr.place s (by simp)
   rw [e, right_tree hr2 hT2 (fun x hx u hu => by
     rcases (Xb hT.sorted).1 hu with h1 | h1
     · exact ho1 x hx (congrArg Prod.fst h1).symm
     · exact hn x (by simp [hx]) u h1.1) k h, Xb hT.sorted, List.mem_cons]
   have hs : s = ⟨0, s.key, s.hash⟩ := by rw [← hp]
   constructor
   · rintro ((h1 | h1) | h1)
     · refine .inr (.inl ?_)
       simp only [Prod.mk.injEq] at h1
       rw [hs, h1.1, h1.2]
     · exact .inl h1.1
     · exact .inr (.inr h1)
   · rintro (h1 | h1 | h1)
     · refine .inl (.inr ⟨h1, fun ek => ?_⟩)
       dsimp only at ek
       rw [ek] at h1
       exact hn s (by simp) h h1
     · rw [hs] at h1
       simp only [Sm.mk.injEq, true_and] at h1
       exact .inl (.inl (Prod.ext h1.1 h1.2))
     · exact .inr h1
theorem right_mem {l : List Sm} (h : RightOk l) (k : List UInt8) (u : Int) : (k, u) ∈ setsT [] l ↔ (⟨0, k, u⟩ : Sm) ∈ l := by
 rw [right_tree h kh_nil (fun s _ h => by simp) k u]
 simp
def wantK (l m : List Sm) : List (List UInt8) := (l.filter fun s => !decide (s ∈ m)).map (·.key)
theorem want_mem {l m : List Sm} (hl : RightOk l) (hm : RightOk m) {k : List UInt8} : k ∈ wantK l m ↔ ∃ u, (k, u) ∈ setsT [] l ∧ (k, u) ∉ setsT [] m := by
 unfold wantK
 rw [List.mem_map]
 constructor
 · rintro ⟨s, hs, rfl⟩
   rw [List.mem_filter, Bool.not_eq_true', decide_eq_false_iff_not] at hs
   have e : s = ⟨0, s.key, s.hash⟩ := by rw [← hl.place s hs.1]
   refine ⟨s.hash, (right_mem hl _ _).2 (by rw [← e]; exact hs.1), fun h => hs.2 ?_⟩
   rw [e]
   exact (right_mem hm _ _).1 h
 · rintro ⟨u, h1, h2⟩
   refine ⟨⟨0, k, u⟩, ?_, rfl⟩
   rw [List.mem_filter, Bool.not_eq_true', decide_eq_false_iff_not]
   exact ⟨(right_mem hl _ _).1 h1, fun h => h2 ((right_mem hm _ _).2 h)⟩
theorem want_once {l m : List Sm} (hl : RightOk l) : (wantK l m).Nodup := by
 unfold wantK
 exact List.pairwise_map.2 (hl.once.filter _)
end Go.Fw
namespace Go.Fw
open Go.RowKit
def filtT (T U : List KH) (n : Nat) : List Int := (candT T U n).filter (diffT T U n)
theorem sums_place (T : List KH) (n : Int) (l : List Int) : (sumsT T n l).map (·.place) = l := by
 unfold sumsT
 rw [List.map_map]
 exact List.map_id l
theorem on_level {T U : List KH} {n : Nat} (hn : n ≤ 4) : onA U (n : Int) (sumsT T (n : Int) (candT T U n)) = if filtT T U n = [] then .nil else if n = 4 then ⟨[], some (5, leavesT U (filtT T U n))⟩ else ⟨[], some ((n : Int) + 1, sumsT U ((n : Int) + 1) (candT T U (n + 1)))⟩ := by
 have hok : okP (n : Int) 4 ((sumsT T (n : Int) (candT T U n)).map (·.place)) = true := by rw [sums_place]; exact cand_okP hn
 have hu : unlikeT U (n : Int) (sumsT T (n : Int) (candT T U n)) = filtT T U n := unlike_cand T U n
 unfold onA
 rw [if_pos ⟨by omega, by omega⟩]
 unfold downT
 rw [hu]
 by_cases he : filtT T U n = []
 · rw [if_pos he, if_neg (fun h => h.2 he)]
 · rw [if_neg he, if_pos ⟨hok, he⟩]
   by_cases h4 : n = 4
   · subst h4
     rfl
   · rw [if_neg h4, if_neg (by omega)]
     rfl
theorem filt_ok {T U : List KH} : okP 4 4 (filtT T U 4) = true := filt_okP (n := 4) (d := 4) (Nat.le_refl _) (by decide)
theorem on_wanted (U : List KH) (ks : List (List UInt8)) : onA U 6 (ks.map keyS) = ⟨haveT U ks, none⟩ := by
 unfold onA
 rw [if_neg (by omega), if_neg (by omega), if_pos rfl, List.map_map]
 congr 2
 exact List.map_id ks
end Go.Fw
namespace Go.Fw
open Go.RowKit
abbrev MV.zero : MV := ⟨0, 0, 0, 0, [], .nil, .nil, .nil, 0, 0, 0, 0, 0, 0, .nil, .nil, .nil⟩
abbrev beginV (self to part : Int) (s : Sl1) : MV := ⟨8, self, to, 0, [], .nil, .nil, .nil, -1, part, 0, 0, 0, 0, .nil, .nil, s⟩
def nodeB (n : Int) : Bool := decide (0 ≤ n) && decide (n < 8)
def begB (self to part : Int) : Bool := nodeB self && nodeB to && decide (0 ≤ part) && decide (part < 64)
theorem begB_yes {self to part : Int} (h : begB self to part = true) : nodeB self = true ∧ nodeB to = true ∧ 0 ≤ part ∧ part < 64 := by
 unfold begB at h
 simp at h
 exact ⟨h.1.1.1, h.1.1.2, h.1.2, h.2⟩
end Go.Fw
namespace Go.Proofs.Ytbijdmfilmecbaa
open Go.Fw Go.Proofs Go.RowKit Go.Proofs.Try
theorem c81 (w0 : World) (n : Int) : Calls Try.prog 81 #[.int .i64 n] w0 fun e w' => e = .returned (.bool (nodeB n)) ∧ Bel w0.heap.size w0 w' := by
 refine enter1 func81 rfl ntmps81 rfl fun a S => sg S (.ac rfl <| .z) fun a w S => wp_seq_k fun _ hK1 => wp_region_lit (run S (.mv rfl <| .yy (Yd (.t rfl) Ev.c) rfl <| .mv rfl <| .z) fun a w S => Yq S rfl rfl (Yr.ys (Zd (.t rfl))) rfl fun a w S => Yq S rfl rfl (Yr.ys (Zy (Ev.g rfl) Ev.c)) rfl fun a w S => run S (.yy (Xs (.t rfl) (Ev.g rfl) Ev.c) rfl <| .as rfl <| .z) fun a w S => Zb (Za (hK1 _ _ (wp_ret (Zk S (results1 S results81 (Rv.tmp rfl)) ?_)))))
 exact ⟨rfl, S.wd.below⟩
theorem c65 (w0 : World) (self to part : Int) (g cap : Nat) (A : Option Addr) (gs : List Nat) (T : List KH) (h : TreeAt w0 g A cap gs T) (hT : KhOk T) (hl : T.length ≤ 1048576) (hb : begB self to part = true) :
   Rets Try.prog 65 #[.int .i64 self, .int .i64 to, .int .i64 part, .pointer (some ⟨g, 0, none⟩)] w0 fun u L => ∃ B c, u = .tuple #[.agg (MV.enc (beginV self to part ⟨B, (sumsT T 0 [0]).length, c⟩)).toArray, .int .i64 0] ∧ L = [rowOf 28 3 Sm.enc B c (sumsT T 0 [0])] := by
 obtain ⟨b1, b2, b3, b4⟩ := begB_yes hb
 have hl4 : T.length ≤ 4194304 := by omega
 have hok : okP 0 4 [0] = true := by decide
 have rw_1 : (sumsA T 0 [0]).2 = 0 := by unfold sumsA; rw [if_pos hok]
 have rw_2 : (sumsA T 0 [0]).1 = sumsT T 0 [0] := by unfold sumsA; rw [if_pos hok]
 have h00 : ([0] : List Int).length ≤ 4194304 := by decide
 have rw_3 := b1
 have rw_4 := b2
 have rw_5 : decide (part < 0) = false := decide_eq_false (by omega)
 have rw_6 : decide (64 ≤ part) = false := decide_eq_false (by omega)
 generalize sumsT T 0 [0] = st at *
 unfold Go.Fw.Rets
 refine enter4 func65 rfl ntmps65 rfl fun a S => wp_seq_k fun _ hK1 => wp_region_lit (Zh (Zr S zeroValue111 (cs := _) rfl rfl fun g1 a w S => run S (.ac rfl <| .z) fun a w S => Zb (Za (hK1 _ _ (wp_seq_k fun _ hK1 => wp_seq_k fun _ hK2 => wp_region_lit (run S (.mv rfl <| .xx (Zi call81 (.cons (.t rfl) .nil) (fun hp w W => c81 _ _)) rfl <| .z) fun a w S => ?_))))))
 rw [rw_3] at S
 refine run S (.nt rfl <| .mv rfl <| .gy rfl rfl (Zd (.t rfl)) <| .gx rfl rfl (Zi call81 (.cons (.t rfl) .nil) (fun hp w W => c81 _ _)) <| .z) fun a w S => ?_
 rw [rw_4] at S
 refine run S (.gy rfl rfl (ys_not (.t rfl)) <| .yy (Zs (.t rfl) (.t rfl)) rfl <| .mv rfl <| .gy rfl rfl (Zd (.t rfl)) <| .gy rfl rfl (Yf (by omega) (Zy (.t rfl) Ev.c)) <| .yy (Zs (.t rfl) (.t rfl)) rfl <| .mv rfl <| .gy rfl rfl (Zd (.t rfl)) <| .gy rfl rfl (Yf (by omega) (Yd (.t rfl) Ev.c)) <| .yy (Zs (.t rfl) (.t rfl)) rfl <| .z) fun a w S => Zb (Za (hK2 _ _ (Zf S (.t rfl) (wp_skip (Za (hK1 _ _ (wp_seq_k fun _ hK1 => wp_region_lit (run S (.mv rfl <| .z) fun a w S => Zh (Zm S underlying42 inf3 rfl rfl rfl Ev.c rfl rfl rfl fun g2 a w S => ?_)))))))))
 (refine Zh (Zq S call22 (.cons (.t rfl) (.cons Ev.c (.cons (.t rfl) .nil))) (c22 _ _ _ _ _ _ _ _ _ (by exact .old S.wd (by assumption)) (by assumption) (by assumption) (by exact sl_i1 S.wd (k := 0) rfl) (by assumption)) rfl ?_); clear S a w; rintro _ _ ⟨B1, c1, rfl, rfl⟩ a w S)
 rw [rw_1] at S
 rw [rw_2] at S
 refine run S (.mv rfl <| .ex rfl rfl <| .ex rfl rfl <| .as rfl <| .as rfl <| .z) fun a w S => Zb (Za (hK1 _ _ (wp_seq_k fun _ hK1 => sg S (.mv rfl <| .yy (Yf (by omega) (Yn (.t rfl) Ev.c)) rfl <| .z) fun a w S => Zf S (.t rfl) (wp_skip (Za (hK1 _ _ (wp_seq_k fun _ hK1 => wp_region_lit (run S (.mv rfl <| .mv rfl <| .mv rfl <| .mv rfl <| .yy (Xc (ps := [(0, _), (1, Go.Operand.tmp 38), (2, Go.Operand.tmp 39), (7, Go.Operand.tmp 40), (6, _), (11, Go.Operand.tmp 41)]) (us := [_, _, _, _, _, _, _, _, _, _, _, _, _, _, _, _, _]) bld111 (.cons Ev.c (.cons (.t rfl) (.cons (.t rfl) (.cons (.t rfl) (.cons Ev.c (.cons (.t rfl) .nil)))))) rfl) rfl <| .z) fun a w S => Zh (Yb S sizeOf111 (.t rfl) (.t rfl) (k := 2) rfl rfl rfl (by simp [Value.oneCell']) fun a w S => run S (.ac rfl <| .z) fun a w S => Zb (Za (hK1 _ _ (wp_ret (Zk S (results2 S results65 (Rv.cell (k := 2) ⟨isAgg111, sizeOf111⟩ rfl rfl rfl) (Rv.tmp rfl)) ?_)))))))))))))
 exact ⟨_, _, rfl, S.wd.picks (L' := [rowOf 28 3 Sm.enc B1 c1 st]) (by repeat (first | exact Picks.nil | (refine Picks.rest ?_; (repeat (first | exact List.Sublist.refl _ | refine List.Sublist.cons_cons _ ?_ | refine List.Sublist.cons _ ?_)); done) | refine Picks.take 0 rfl ?_ | refine Picks.take 1 rfl ?_ | refine Picks.take 2 rfl ?_ | refine Picks.take 3 rfl ?_ | refine Picks.take 4 rfl ?_ | refine Picks.take 5 rfl ?_ | refine Picks.take 6 rfl ?_ | refine Picks.take 7 rfl ?_ | refine Picks.take 8 rfl ?_ | refine Picks.take 9 rfl ?_ | refine Picks.take 10 rfl ?_ | refine Picks.take 11 rfl ?_)), B1, c1, rfl, rfl⟩
end Go.Proofs.Ytbijdmfilmecbaa
namespace Go.Fw
open Go.RowKit
def missX (T U : List KH) : List (List UInt8) := missW T (leavesT U (filtT T U 4))
theorem missX_eq {T U : List KH} (hT : KhOk T) (hU : KhOk U) (hc : NoClash T U) : missX T U = missU T U := by
 obtain ⟨h1, h2⟩ := leaves_split hU (filtT T U 4)
 unfold missX missW
 rw [h1, h2]
 unfold missA
 rw [if_pos filt_ok, if_pos (keysT_ok hU _).2.1]
 exact miss_told hT hU hc
theorem filt_comm (T U : List KH) (n : Nat) : filtT T U n = filtT U T n := by
 unfold filtT
 rw [cand_comm T U n]
 congr 1
 funext p
 exact diff_comm T U n p
theorem filt_succ {T U : List KH} {n : Nat} (h : filtT T U n = []) : filtT T U (n + 1) = [] := by
 unfold filtT at h ⊢
 rw [candT, h]
 rfl
theorem filt_up {T U : List KH} {n : Nat} (h : filtT T U n = []) : ∀ d, filtT T U (n + d) = []
 | 0 => h
 | d + 1 => filt_succ (filt_up h d)
theorem filt_nil4 {T U : List KH} {n : Nat} (hn : n ≤ 4) (h : filtT T U n = []) : filtT T U 4 = [] := by
 have := filt_up h (4 - n)
 rwa [show n + (4 - n) = 4 by omega] at this
theorem missX_nil {T U : List KH} (hT : KhOk T) (h : filtT T U 4 = []) : missX T U = [] := by
 unfold missX
 rw [h]
 have e : missW T (leavesT U []) = missT T [] [] := by
   show (missA T [] []).1 = _
   unfold missA
   rw [if_pos (by decide), if_pos (by decide)]
 rw [e]
 refine List.eq_nil_iff_forall_not_mem.2 fun k hk => ?_
 have := (miss_mem hT (sums := []) (fun x hx => by cases hx) (by decide)).1 hk
 cases this.1
theorem cand_few (T U : List KH) : ∀ n, (candT T U n).length ≤ 2 ^ n
 | 0 => by simp [candT]
 | n + 1 => by
   have ih := cand_few T U n
   have h1 := List.length_filter_le (diffT T U n) (candT T U n)
   rw [candT, below_len, Nat.pow_succ]
   omega
theorem filt_few (T U : List KH) : (filtT T U 4).Nodup ∧ (∀ p ∈ filtT T U 4, 0 ≤ p) ∧ (filtT T U 4).length ≤ 16 :=
 ⟨(cand_nodup T U 4).filter _, fun p hp => (cand_ok 4 p (List.mem_filter.1 hp).1).1, Nat.le_trans (List.length_filter_le _ _) (cand_few T U 4)⟩
theorem missX_len {T U : List KH} (hU : KhOk U) : (missX T U).length ≤ T.length + U.length := by
 obtain ⟨h1, h2⟩ := leaves_split hU (filtT T U 4)
 obtain ⟨f1, f2, _⟩ := filt_few T U
 unfold missX missW
 rw [h1, h2]
 have h3 := missA_len T (keysT U (filtT T U 4)) (filtT T U 4)
 have h4 := keysT_few U f1 f2
 omega
theorem missX_keys {T U : List KH} (hT : KhOk T) (hU : KhOk U) : ∀ k ∈ missX T U, k.length ≤ 1048576 := by
 obtain ⟨h1, h2⟩ := leaves_split hU (filtT T U 4)
 unfold missX missW
 rw [h1, h2]
 exact miss_keys hT (keysT_ok hU _).1 _
theorem leaves_few {U : List KH} : ∀ (u : List Int), (leavesT U u).length = u.length + (keysT U u).length
 | [] => rfl
 | p :: r => by
   rw [leaves_cons, keys_cons U p r, List.length_cons, List.length_append, List.length_append, leaves_few r, List.length_cons]
   omega
theorem leaves_mem {U : List KH} {u : List Int} {s : Sm} (h : s ∈ leavesT U u) : (∃ p ∈ u, s = ⟨p, [], 0⟩) ∨ s ∈ keysT U u := by
 unfold leavesT at h
 obtain ⟨p, hp, h1⟩ := List.mem_flatMap.1 h
 rcases List.mem_cons.1 h1 with h2 | h2
 · exact .inl ⟨p, hp, h2⟩
 · refine .inr (keysT_mem.2 ?_)
   obtain ⟨q, hq, x, hx, e⟩ := keysT_mem.1 h2
   rw [List.mem_singleton] at hq
   subst hq
   exact ⟨q, hp, x, hx, e⟩
structure Ex where
 gv : List (List UInt8)
 sd : Nat
 tr : Option (Int × List Sm)
 x0 : List (List UInt8)
 x1 : List (List UInt8)
 n : Nat
def sideT (T U : List KH) (k : Nat) : List KH := if k % 2 = 0 then T else U
inductive ExOk (T U : List KH) : Ex → Prop
 | lev (k : Nat) (hk : k ≤ 4) (h : 0 < k → filtT T U 0 ≠ []) : ExOk T U ⟨[], k % 2, some ((k : Int), sumsT (sideT T U k) (k : Int) (candT T U k)), [], [], k⟩
 | keys (h : filtT T U 0 ≠ []) : ExOk T U ⟨[], 1, some (5, leavesT U (filtT T U 4)), [], [], 5⟩
 | fst (i : Nat) (hi : i ≤ (haveT T (missX T U)).length) (h : filtT T U 0 ≠ []) : ExOk T U ⟨(haveT T (missX T U)).drop i, 0, some (6, (missX T U).map keyS), (haveT T (missX T U)).take i, [], 6⟩
 | snd (i : Nat) (hi : i ≤ (haveT U (missX T U)).length) (h : filtT T U 0 ≠ []) : ExOk T U ⟨(haveT U (missX T U)).drop i, 1, none, haveT T (missX T U), (haveT U (missX T U)).take i, 7⟩
 | fin (sd n : Nat) (hs : sd ≤ 1) (hM : missX T U = []) (hn : n ≤ 6) (h : filtT T U 0 = [] → n = 1) : ExOk T U ⟨[], sd, none, [], [], n⟩
def exMu (T U : List KH) (s : Ex) : Nat := (7 - s.n) * ((missX T U).length + 2) + s.gv.length
theorem ex_end {T U : List KH} {s : Ex} (h : ExOk T U s) (hg : s.gv = []) (ht : s.tr = none) : s.x0 = haveT T (missX T U) ∧ s.x1 = haveT U (missX T U) ∧ s.n ≤ 7 ∧ (filtT T U 0 = [] → s.n = 1) := by
 cases h with
 | lev k hk h => cases ht
 | keys h => cases ht
 | fst i hi h => cases ht
 | snd i hi h =>
   dsimp only at *
   exact ⟨rfl, List.take_of_length_le (List.drop_eq_nil_iff.1 hg), Nat.le_refl 7, fun e => absurd e h⟩
 | fin sd n hs hM hn h =>
   dsimp only at *
   rw [hM]
   exact ⟨rfl, rfl, by omega, h⟩
theorem drop_cons {α : Type} {l r : List α} {i : Nat} {x : α} (h : l.drop i = x :: r) : i < l.length ∧ l.drop (i + 1) = r ∧ l.take (i + 1) = l.take i ++ [x] ∧ x ∈ l := by
 have h1 : i < l.length := by
   refine Nat.lt_of_not_le fun hl => ?_
   rw [List.drop_eq_nil_of_le hl] at h
   cases h
 rw [List.drop_eq_getElem_cons h1, List.cons.injEq] at h
 refine ⟨h1, h.2, ?_, ?_⟩
 · rw [List.take_succ_eq_append_getElem h1, h.1]
 · rw [← h.1]; exact List.getElem_mem _
theorem ex_give {T U : List KH} (hT : KhOk T) (hU : KhOk U) {s : Ex} {k : List UInt8} {r : List (List UInt8)} (h : ExOk T U s) (hg : s.gv = k :: r) :
   ((s.sd = 0 ∧ ExOk T U ⟨r, s.sd, s.tr, s.x0 ++ [k], s.x1, s.n⟩) ∨ (s.sd = 1 ∧ ExOk T U ⟨r, s.sd, s.tr, s.x0, s.x1 ++ [k], s.n⟩)) ∧ exMu T U ⟨r, s.sd, s.tr, s.x0, s.x1, s.n⟩ < exMu T U s ∧ k.length ≤ 1048576 := by
 have hmu : exMu T U ⟨r, s.sd, s.tr, s.x0, s.x1, s.n⟩ < exMu T U s := by
   unfold exMu
   rw [hg, List.length_cons]
   dsimp only
   omega
 cases h with
 | lev k hk h => cases hg
 | keys h => cases hg
 | fst i hi h =>
   obtain ⟨h1, h2, h3, h4⟩ := drop_cons hg
   refine ⟨.inl ⟨rfl, ?_⟩, hmu, missX_keys hT hU k (List.mem_filter.1 h4).1⟩
   rw [← h2]
   dsimp only
   rw [← h3]
   exact .fst (i + 1) h1 h
 | snd i hi h =>
   obtain ⟨h1, h2, h3, h4⟩ := drop_cons hg
   refine ⟨.inr ⟨rfl, ?_⟩, hmu, missX_keys hT hU k (List.mem_filter.1 h4).1⟩
   rw [← h2]
   dsimp only
   rw [← h3]
   exact .snd (i + 1) h1 h
 | fin sd n hs hM hn h => cases hg
theorem on_lev {T U : List KH} {k : Nat} (hk : k ≤ 4) : onA (if k % 2 = 0 then U else T) (k : Int) (sumsT (sideT T U k) (k : Int) (candT T U k)) = if filtT T U k = [] then .nil else if k = 4 then ⟨[], some (5, leavesT U (filtT T U 4))⟩ else ⟨[], some ((k : Int) + 1, sumsT (sideT T U (k + 1)) ((k : Int) + 1) (candT T U (k + 1)))⟩ := by
 unfold sideT
 by_cases h2 : k % 2 = 0
 · rw [if_pos h2, if_pos h2, if_neg (show ¬ (k + 1) % 2 = 0 by omega), on_level hk]
   by_cases h4 : k = 4
   · subst h4; rfl
   · rw [if_neg h4, if_neg h4]
 · have h4 : k ≠ 4 := fun e => h2 (by rw [e])
   rw [if_neg h2, if_neg h2, if_pos (show (k + 1) % 2 = 0 by omega), cand_comm T U k, on_level hk, filt_comm U T k, if_neg h4, if_neg h4, cand_comm U T (k + 1)]
theorem on_keysX {T U : List KH} : onA T 5 (leavesT U (filtT T U 4)) = if missX T U = [] then .nil else ⟨haveT T (missX T U), some (6, (missX T U).map keyS)⟩ := by
 unfold onA
 rw [if_neg (by omega), if_pos rfl]
 rfl
theorem sums_good {T : List KH} {n : Int} {l : List Int} (hl : l.length ≤ 16) : Sums (sumsT T n l) := by
 refine ⟨fun x hx => ?_, fun x hx => ?_, by rw [sums_len']; omega⟩
 · unfold sumsT at hx
   obtain ⟨p, _, rfl⟩ := List.mem_map.1 hx
   exact hashT_range T _ _
 · unfold sumsT at hx
   obtain ⟨p, _, rfl⟩ := List.mem_map.1 hx
   exact Nat.zero_le _
theorem ex_tree {T U : List KH} (hT : KhOk T) (hU : KhOk U) (hl : T.length + U.length ≤ 524287) {s : Ex} {lv : Int} {sums : List Sm} (h : ExOk T U s) (hg : s.gv = []) (ht : s.tr = some (lv, sums)) (V : List KH) (hV : V = if s.sd = 0 then U else T) :
   ExOk T U ⟨(onA V lv sums).gives, 1 - s.sd, (onA V lv sums).tree, s.x0, s.x1, s.n + 1⟩ ∧ exMu T U ⟨(onA V lv sums).gives, 1 - s.sd, (onA V lv sums).tree, s.x0, s.x1, s.n + 1⟩ < exMu T U s ∧ s.sd ≤ 1 ∧ s.n ≤ 6 ∧ (onA V lv sums).gives.length ≤ 524287 ∧ Sums sums ∧ V.length + sums.length ≤ 1048576 := by
 have hML := missX_len (T := T) hU
 have hle : ∀ V, (haveT V (missX T U)).length ≤ (missX T U).length := fun V => haveT_len V _
 suffices hx : ExOk T U ⟨(onA V lv sums).gives, 1 - s.sd, (onA V lv sums).tree, s.x0, s.x1, s.n + 1⟩ ∧ (onA V lv sums).gives.length ≤ (missX T U).length ∧ s.sd ≤ 1 ∧ s.n ≤ 6 ∧ Sums sums ∧ V.length + sums.length ≤ 1048576 by
   obtain ⟨h1, h2, h3, h4, h5, h6⟩ := hx
   refine ⟨h1, ?_, h3, h4, by omega, h5, h6⟩
   unfold exMu
   rw [hg, List.length_nil, show 7 - s.n = (7 - (s.n + 1)) + 1 by omega, Nat.add_mul]
   dsimp only
   omega
 cases h with
 | lev k hk h =>
   simp only [Option.some.injEq, Prod.mk.injEq] at ht
   obtain ⟨rfl, rfl⟩ := ht
   dsimp only at *
   have hV2 : V = if k % 2 = 0 then U else T := hV
   have hcl := Nat.le_trans (cand_few T U k) (pow_le16 (n := k) (by omega))
   rw [hV2, on_lev hk]
   have hs : Sums (sumsT (sideT T U k) (k : Int) (candT T U k)) := sums_good hcl
   have hsl := sums_len' (sideT T U k) (k : Int) (candT T U k)
   refine ⟨?_, ?_, by omega, by omega, hs, ?_⟩
   · by_cases he : filtT T U k = []
     · rw [if_pos he]
       refine .fin _ _ (by omega) (missX_nil hT (filt_nil4 hk he)) (by omega) fun h0 => ?_
       rcases Nat.eq_zero_or_pos k with e | e
       · omega
       · exact absurd h0 (h e)
     · have h0 : filtT T U 0 ≠ [] := fun h0 => he (by have := filt_up h0 k; rwa [Nat.zero_add] at this)
       rw [if_neg he]
       by_cases h4 : k = 4
       · subst h4
         exact .keys h0
       · rw [if_neg h4]
         have := ExOk.lev (T := T) (U := U) (k + 1) (by omega) fun _ => h0
         rw [show (k + 1) % 2 = 1 - k % 2 by omega] at this
         exact this
   · split
     · exact Nat.zero_le _
     · split <;> exact Nat.zero_le _
   · rw [hsl]
     split <;> omega
 | keys h =>
   simp only [Option.some.injEq, Prod.mk.injEq] at ht
   obtain ⟨rfl, rfl⟩ := ht
   have hV2 : V = T := hV
   subst hV2
   dsimp only at *
   obtain ⟨f1, f2, f3⟩ := filt_few V U
   have hk := keysT_few U f1 f2
   have hL := leaves_few (U := U) (filtT V U 4)
   obtain ⟨z1, z2, z3⟩ := keysT_ok hU (filtT V U 4)
   rw [on_keysX]
   refine ⟨?_, ?_, by omega, by omega, ⟨fun x hx => ?_, fun x hx => ?_, by omega⟩, by omega⟩
   · by_cases he : missX V U = []
     · rw [if_pos he]
       exact .fin 0 6 (by omega) he (by omega) fun h0 => absurd h0 h
     · rw [if_neg he]
       have := ExOk.fst (T := V) (U := U) 0 (Nat.zero_le _) h
       rw [List.drop_zero, List.take_zero] at this
       dsimp only
       exact this
   · by_cases he : missX V U = []
     · rw [if_pos he]
       exact Nat.zero_le _
     · rw [if_neg he]
       dsimp only
       exact hle V
   · rcases leaves_mem hx with ⟨p, _, rfl⟩ | h1
     · exact ⟨Int.le_refl 0, (by decide : (0 : Int) ≤ 18446744073709551615)⟩
     · exact z1 x h1
   · rcases leaves_mem hx with ⟨p, _, rfl⟩ | h1
     · exact Nat.zero_le _
     · have h2 := name_short (hU.name _ (z3 x h1))
       exact Nat.le_trans h2 (by decide)
 | fst i hi h =>
   simp only [Option.some.injEq, Prod.mk.injEq] at ht
   obtain ⟨rfl, rfl⟩ := ht
   have hV2 : V = U := hV
   subst hV2
   dsimp only at *
   rw [on_wanted]
   have h1 : (haveT T (missX T V)).take i = haveT T (missX T V) := List.take_of_length_le (List.drop_eq_nil_iff.1 hg)
   refine ⟨?_, (by dsimp only; exact hle V), by omega, by omega, ⟨fun x hx => ?_, fun x hx => ?_, by rw [List.length_map]; omega⟩, by rw [List.length_map]; omega⟩
   · have := ExOk.snd (T := T) (U := V) 0 (Nat.zero_le _) h
     rw [List.drop_zero, List.take_zero] at this
     rw [h1]
     dsimp only
     exact this
   · obtain ⟨k, _, rfl⟩ := List.mem_map.1 hx
     exact ⟨Int.le_refl 0, (by decide : (0 : Int) ≤ 18446744073709551615)⟩
   · obtain ⟨k, hk, rfl⟩ := List.mem_map.1 hx
     exact missX_keys hT hU k hk
 | snd i hi h => cases ht
 | fin sd n hs hM hn h => cases ht
theorem ex_x0 {T U : List KH} (hU : KhOk U) (hl : T.length + U.length ≤ 524287) {s : Ex} (h : ExOk T U s) : s.x0.length ≤ 524287 ∧ s.x1.length ≤ 524287 ∧ s.gv.length ≤ 524287 := by
 have hML := missX_len (T := T) hU
 have hle : ∀ V, (haveT V (missX T U)).length ≤ (missX T U).length := fun V => haveT_len V _
 have h1 := hle T
 have h2 := hle U
 cases h with
 | lev k hk h => exact ⟨Nat.zero_le _, Nat.zero_le _, Nat.zero_le _⟩
 | keys h => exact ⟨Nat.zero_le _, Nat.zero_le _, Nat.zero_le _⟩
 | fst i hi h => exact ⟨by dsimp only; rw [List.length_take]; omega, Nat.zero_le _, by dsimp only; rw [List.length_drop]; omega⟩
 | snd i hi h => exact ⟨by dsimp only; omega, by dsimp only; rw [List.length_take]; omega, by dsimp only; rw [List.length_drop]; omega⟩
 | fin sd n hs hM hn h => exact ⟨Nat.zero_le _, Nat.zero_le _, Nat.zero_le _⟩
abbrev gvM (sd : Int) (k : List UInt8) : MV := ⟨9, sd, 1 - sd, 0, k, .nil, .nil, .nil, -1, 5, 0, 0, 0, 0, .nil, .nil, .nil⟩
abbrev trM (sd n : Int) (s : Sl1) : MV := ⟨8, sd, 1 - sd, 0, [], .nil, .nil, .nil, -1, 5, n, 0, 0, 0, .nil, .nil, s⟩
def treeM (sd : Int) (B : Option Addr) (cB : Nat) : Option (Int × List Sm) → List MV
 | some p => [trM sd p.1 ⟨B, p.2.length, cB⟩]
 | none => []
def pendM (s : Ex) (B : Option Addr) (cB : Nat) : List MV := s.gv.map (gvM (s.sd : Int)) ++ treeM (s.sd : Int) B cB s.tr
theorem treeM_len (sd : Int) (B : Option Addr) (cB : Nat) (t : Option (Int × List Sm)) : (treeM sd B cB t).length ≤ 1 := by cases t <;> simp [treeM]
theorem pendM_len (s : Ex) (B : Option Addr) (cB : Nat) : (pendM s B cB).length ≤ s.gv.length + 1 := by
 unfold pendM
 have := treeM_len (s.sd : Int) B cB s.tr
 rw [List.length_append, List.length_map]
 omega
theorem ans_pend (m : MV) (a : Ans) (sd sd' : Nat) (x0 x1 : List (List UInt8)) (n : Nat) (B : Option Addr) (cB : Nat) (hf : m.fr = (sd : Int)) (hp : m.pt = 5) (h1 : sd ≤ 1) (h2 : sd' = 1 - sd) : ansV (sd' : Int) m a B cB = pendM ⟨a.gives, sd', a.tree, x0, x1, n⟩ B cB := by
 subst h2
 have e : (1 : Int) - ((1 - sd : Nat) : Int) = (sd : Int) := by omega
 unfold ansV pendM
 dsimp only
 have e1 : giveV ((1 - sd : Nat) : Int) m = gvM ((1 - sd : Nat) : Int) := by
   funext k
   unfold giveV gvM
   rw [hf, hp, e]
 rw [e1]
 congr 1
 cases a.tree with
 | none => rfl
 | some p =>
   unfold treeM treeV trM
   dsimp only
   rw [hf, hp, e]
end Go.Fw
namespace Go.Proofs.Ytbijdmfilmecbaa
open Go.Fw Go.Proofs Go.RowKit Go.Proofs.Try
theorem c85 (w0 : World) (self : Int) (m : MV) (g cap : Nat) (A : Option Addr) (gs : List Nat) (T : List KH) (sums : List Sm) (h : TreeAt w0 g A cap gs T) (hT : KhOk T) (hl : T.length ≤ 1048576) (h2 : Sl Sm.enc 3 w0 w0.heap.size (.slice m.su.a m.su.n m.su.c) sums) (hs : Sums sums) :
   Rets Try.prog 85 #[.agg (XV.enc self g m).toArray] w0 fun u L => ∃ C cC, u = .slice C (giveT self m T (sums.map (·.key))).length cC ∧ L = [rowOf 111 17 MV.enc C cC (giveT self m T (sums.map (·.key)))] := by
 have hsl := hs.len
 obtain ⟨A', cap', e', hl', hcap', hA'⟩ := h2
 simp only [Value.slice.injEq] at e'
 obtain ⟨rfl, e2, rfl⟩ := e'
 have rw_b : ((m.su.n : Nat) : Int) = (sums.length : Int) := by rw [e2]
 unfold Go.Fw.Rets
 refine enter1 func85 rfl ntmps85 rfl fun a S => wp_seq_k fun _ hK1 => wp_region_lit (Zh (Xw S (.t rfl) rfl fun g1 a w S => run S (.ac rfl <| .z) fun a w S => Zb (Za (hK1 _ _ (sg S (.ac rfl <| .z) fun a w S => wp_seq_k fun _ hK1 => wp_seq_k fun _ hK2 => wp_region_lit (run S (.fa underlying130 sizeOf111 2 rfl rfl rfl <| .fa underlying111 sizeOf22 18 rfl rfl rfl <| .ld gt22 0 rfl rfl rfl <| .ln underlying22 rfl <| .z) fun a w S => ?_))))))
 rw [rw_b] at S
 refine run S (.mc rfl <| .z) fun a w S => Zb (Za (hK2 _ _ (wp_block ?_)))
 replace S := S.nil_ 9 1 encS' none
 refine Ye S [3, 10] (X := Nat × Option Addr × Nat) (fun q => [(3, true, .slice q.2.1 ((sums.map (·.key)).take q.1).length q.2.2), (10, true, .int .i64 (q.1 : Int))])
   (fun q => [rowOf 9 1 encS' q.2.1 q.2.2 ((sums.map (·.key)).take q.1), .blk g1 (.cells (XV.enc self g m).toArray 130)]) (fun q => q.1 ≤ sums.length) (fun q => sums.length - q.1) (0, none, 0) (Nat.zero_le _) ?_
 clear S
 rintro ⟨q, R, cR⟩ a w hq S
 dsimp only at hq S
 by_cases hlt : q < sums.length
 · obtain ⟨gq, oq, x, rw_a, hx, hd, hc⟩ := Yc hA' hlt
   have hst : (sums.map (·.key)).take (q + 1) = (sums.map (·.key)).take q ++ [x.key] := by rw [List.take_add_one, List.getElem?_map, hx]; rfl
   have hgl : ((sums.map (·.key)).take q).length ≤ q := List.length_take_le _ _
   generalize (sums.map (·.key)).take q = G at *
   refine wp_seq_k fun _ hK2 => ?_
   rw [rw_a] at S
   refine rg S (.lt (by omega) rfl rfl <| .z) hK2 fun a w S => wp_seq_k fun _ hK2 => Ze S (.t rfl) (wp_skip (Za (hK2 _ _ (wp_seq_k fun _ hK2 => wp_block (wp_seq_k fun _ hK3 => wp_region_lit (run S (.ix underlying22 sizeOf28 (by omega) rfl rfl <| .yy (Yh ⟨isAgg28, sizeOf28⟩ (.t rfl) (vs := [_, _, _]) rfl (fun _ => hc)) rfl <| .z) fun a w S => Zh (Zr S zeroValue28 (cs := _) rfl rfl fun g2 a w S => Zh (Yb S sizeOf28 (.t rfl) (.t rfl) (k := 0) rfl rfl rfl (by simp [Value.oneCell']) fun a w S => Zb (Za (hK3 _ _ (wp_region_lit (run S (.mv rfl <| .fa underlying28 sizeOf9 1 rfl rfl rfl <| .ld gt9 0 rfl rfl rfl <| .z) fun a w S => Zh (Zm S underlying61 inf9 rfl rfl rfl (.t rfl) rfl rfl rfl fun g3 a w S => Zh (Zw S underlying61 inf9 rfl (k := 2) (j := 0) rfl (.t rfl) (.t rfl) rfl rfl rfl rfl (by first | omega | (simp only [List.length_append, List.length_cons, List.length_nil]; omega)) rfl rfl rfl fun A1 cap1 a w S => run S (.as rfl <| .z) fun a w S => Zb (Zg (Za (hK2 _ _ (wp_region_lit (run S (.ad (by unfold I64; omega) rfl <| .mv rfl <| .z) fun a w S => Zb (Za ?_))))))))))))))))))))
   rw [← rw_a] at S
   exact ⟨(q + 1, A1, cap1), by dsimp only; omega, by dsimp only; omega, by dsimp only; rw [hst]; exact S.pk⟩
 obtain rfl : q = sums.length := by omega
 rw [List.take_of_length_le (by simp)] at S
 have hkl : (sums.map (·.key)).length ≤ 1048576 := by rw [List.length_map]; omega
 have hks : ∀ k ∈ sums.map (·.key), k.length ≤ 1048576 := fun k hk => by
   obtain ⟨s, hs1, rfl⟩ := List.mem_map.1 hk
   exact hs.key s hs1
 generalize sums.map (·.key) = ks at *
 refine sg S (.ge (by omega) rfl rfl <| .z) fun a w S => wp_seq_k fun _ hK2 => Zf S (.t rfl) (wp_exit (Zc (Zc (Zn (Za (hK1 _ _ (wp_seq_k fun _ hK1 => wp_region_lit (run S (.la gt130 1 rfl rfl rfl <| .mv rfl <| .z) fun a w S => ?_))))))))
 (refine Zh (Zq S call104 (.cons (.t rfl) (.cons (.t rfl) .nil)) (c104 _ _ _ _ _ _ _ _ _ _ (by exact .old S.wd (by assumption)) (by assumption) (by assumption) (by exact Sl.of_own S.wd (k := 0) rfl (fun _ => rfl)) (by assumption) (by assumption)) rfl ?_); clear S a w; rintro _ _ ⟨B1, cB1, rfl, rfl⟩ a w S)
 refine run S (.as rfl <| .z) fun a w S => Zb (Za (hK1 _ _ (wp_ret (Zk S (results1 S results85 (Rv.tmp rfl)) ?_))))
 exact ⟨_, _, rfl, S.wd.pk, _, _, rfl, rfl⟩
end Go.Proofs.Ytbijdmfilmecbaa
namespace Go.Fw
open Go.Proofs Go.RowKit
section
variable {P : Program} {n : Nat} {w0 : World} {K : KL} {L : List Chunk} {b : Bool} {dst : Option Nat} {ty : TypeId} {pos : String} {aft : Array Edge} {gd : Option (Nat × Bool)}
theorem ys_mkFuncB {f : Fn} {xs : List Operand} {vs : List Value} (hx : EvL n b K xs vs) : Yr P ⟨dst, .makeFunc f xs.toArray #[], ty, pos, aft, gd⟩ n K w0 L b (.func f vs.toArray #[]) := fun a w hb hk _ => by
 have e : (xs.toArray.map a.eval) = vs.toArray := by rw [List.map_toArray, hx a hb hk]
 simp only [execOp, e]
 simp [Instr.makeFunc]
end
section
variable {P : Program} {n : Nat} {w0 : World} {K : KL} {L : List Chunk} {ty : TypeId} {pos : String} {aft : Array Edge} {gd : Option (Nat × Bool)} {a : Act} {w : World} {Z : Act → World → Prop} {Q : Exit → Act → World → Prop} {d : Nat}
theorem op_callVB {f : FuncId} {x0 : Operand} {ts : Array TypeId} {us : List Value} {R : Value → List Chunk → Prop} (S : St n w0 K L a w) (h0 : Ev n true K x0 (.func (.func f) us.toArray #[])) (hf : ∀ args w, (callFunc f args).run P w = .ok (.enter f args) w)
   (hc : Rets P f us.toArray w R) (hd : Nat.blt d n = true) (next : ∀ v L', R v L' → ∀ a w', St n w0 ((d, true, v) :: K) (L' ++ L) a w' → Z a w') : Oper.wp P ⟨some d, .call ⟨.value x0, #[], ts⟩, ty, pos, aft, gd⟩ a w Z Q := by
 have hrun : (execOp a.eval ⟨some d, .call ⟨.value x0, #[], ts⟩, ty, pos, aft, gd⟩).run P w = .ok (.enter f us.toArray) w := by
   simp only [execOp, resolve, h0 a rfl S.kn]
   simp [Deferred.ofValue, invoke, hf]
 unfold Oper.wp
 rw [hrun]
 exact Calls.mono hc fun e w' ⟨v, L', he, hw, hr⟩ => by
   subst he
   exact next v L' hr _ _ ⟨S.kn.put hd v, S.wd.join hw⟩
end
end Go.Fw
namespace Go.Fw
open Go.RowKit
abbrev Rul.enc (p q : Int) (v : Value) : List Value := [.int .i64 p, .int .i64 q, v]
end Go.Fw
namespace Go.Proofs.Ytbijdmfilmecbaa
open Go.Fw Go.Proofs Go.RowKit Go.Proofs.Try
theorem z82 (w0 : World) (n : Int) (g : Nat) (x : Value) (R : Value → List Chunk → Prop) (c0 : ∀ (j : Nat) (u : Value), (Rul.enc 0 4 (.func (.func 83) #[x] #[]))[j]? = some u → w0.cell? ⟨g, 0 + 0 * 3 + j, none⟩ = some u)
   (c1 : ∀ (j : Nat) (u : Value), (Rul.enc 5 5 (.func (.func 84) #[x] #[]))[j]? = some u → w0.cell? ⟨g, 0 + 1 * 3 + j, none⟩ = some u)
   (c2 : ∀ (j : Nat) (u : Value), (Rul.enc 6 6 (.func (.func 85) #[x] #[]))[j]? = some u → w0.cell? ⟨g, 0 + 2 * 3 + j, none⟩ = some u)
   (hD : 0 ≤ n ∧ n ≤ 4 → ∀ w', Wd w0 [] w' → Rets Try.prog 83 #[x] w' R) (hQ : n = 5 → ∀ w', Wd w0 [] w' → Rets Try.prog 84 #[x] w' R) (hW : n = 6 → ∀ w', Wd w0 [] w' → Rets Try.prog 85 #[x] w' R)
   (hN : n < 0 ∨ 6 < n → ∀ w', Wd w0 [] w' → ∃ L, Wd w0 L w' ∧ R (.slice none 0 0) L) :
   Rets Try.prog 82 #[.int .i64 n, .slice (some ⟨g, 0, none⟩) 3 3] w0 R := by
 have rw_1 : (0 : Int) + 1 = ((1 : Nat) : Int) := rfl
 have rw_2 : ((1 : Nat) : Int) + 1 = ((2 : Nat) : Int) := rfl
 have rw_3 : ((2 : Nat) : Int) + 1 = ((3 : Nat) : Int) := rfl
 unfold Go.Fw.Rets
 refine enter2 func82 rfl ntmps82 rfl fun a S => sg S (.ac rfl <| .z) fun a w S => wp_seq_k fun _ hK1 => sg S (.mv rfl <| .ln underlying152 rfl <| .mc rfl <| .z) fun a w S => wp_block (st_rounds 4 (Zt ?_))
 by_cases h1 : 0 ≤ n ∧ n ≤ 4
 · have rw_a : decide (0 ≤ n) = true := decide_eq_true h1.1
   have rw_b : decide (n ≤ 4) = true := decide_eq_true h1.2
   refine sg S (.lt (by omega) rfl rfl <| .z) fun a w S => wp_seq_k fun _ hK2 => Ze S (.t rfl) (wp_skip (Za (hK2 _ _ (wp_seq_k fun _ hK2 => wp_block (wp_seq_k fun _ hK3 => wp_region_lit (run S (.yy (Yi (j := 0) underlying152 sizeOf134 (.t rfl) (.t rfl) (fun _ => by omega)) rfl <| .yy (Yh ⟨isAgg134, sizeOf134⟩ (.t rfl) (vs := [_, _, _]) rfl (fun _ => c0)) rfl <| .z) fun a w S => Zh (Zr S zeroValue134 (cs := _) rfl rfl fun g1 a w S => Zh (Yb S sizeOf134 (.t rfl) (.t rfl) (k := 0) rfl rfl rfl (by simp [Value.oneCell']) fun a w S => Zb (Za (hK3 _ _ (sg S (.mv rfl <| .fa underlying134 sizeOf3 0 rfl rfl rfl <| .ld gt3 0 rfl rfl rfl <| .yy (Ym (by omega) (Yd (.t rfl) (.t rfl))) rfl <| .mv rfl <| .gy rfl rfl (Zd (.t rfl)) <| .gy rfl rfl (Zp (FieldT.mk underlying134 rfl sizeOf3 rfl) (.t rfl) (i' := 1) rfl) <| .gy rfl rfl (Yg ⟨isAgg3, sizeOf3⟩ (.t rfl) (k := 0) rfl rfl) <| .gy rfl rfl (Ym (by omega) (Xq (.t rfl) (.t rfl))) <| .yy (Zu (.t rfl) (.t rfl)) rfl <| .z) fun a w S => Ze S (.t rfl) (wp_seq_k fun _ hK3 => wp_region_lit (run S (.fa underlying134 sizeOf132 2 rfl rfl rfl <| .ld gt132 0 rfl rfl rfl <| .z) fun a w S => ?_)))))))))))))
   refine Zh (op_callVB (us := [x]) S (.t rfl) call83 (hD h1 _ (S.wd.sub (List.nil_sublist _))) rfl ?_)
   clear S
   intro v L' hR a w S
   refine run S (.as rfl <| .z) fun a w S => Zb (Za (hK3 _ _ (wp_ret (Yk (Zj (Zj (Yk (Zj (Zk S (results1 S results82 (Rv.tmp rfl)) ?_)))))))))
   exact ⟨_, L', rfl, S.wd.sub (List.sublist_append_left _ _), hR⟩
 by_cases h2 : n = 5
 · have rw_a : decide (0 ≤ n) = true := decide_eq_true (by omega)
   have rw_b : decide (n ≤ 4) = false := decide_eq_false (by omega)
   have rw_c : decide (5 ≤ n) = true := decide_eq_true (by omega)
   have rw_d : decide (n ≤ 5) = true := decide_eq_true (by omega)
   refine sg S (.lt (by omega) rfl rfl <| .z) fun a w S => wp_seq_k fun _ hK2 => Ze S (.t rfl) (wp_skip (Za (hK2 _ _ (wp_seq_k fun _ hK2 => wp_block (wp_seq_k fun _ hK3 => wp_region_lit (run S (.yy (Yi (j := 0) underlying152 sizeOf134 (.t rfl) (.t rfl) (fun _ => by omega)) rfl <| .yy (Yh ⟨isAgg134, sizeOf134⟩ (.t rfl) (vs := [_, _, _]) rfl (fun _ => c0)) rfl <| .z) fun a w S => Zh (Zr S zeroValue134 (cs := _) rfl rfl fun g1 a w S => Zh (Yb S sizeOf134 (.t rfl) (.t rfl) (k := 0) rfl rfl rfl (by simp [Value.oneCell']) fun a w S => Zb (Za (hK3 _ _ (sg S (.mv rfl <| .fa underlying134 sizeOf3 0 rfl rfl rfl <| .ld gt3 0 rfl rfl rfl <| .yy (Ym (by omega) (Yd (.t rfl) (.t rfl))) rfl <| .mv rfl <| .gy rfl rfl (Zd (.t rfl)) <| .gy rfl rfl (Zp (FieldT.mk underlying134 rfl sizeOf3 rfl) (.t rfl) (i' := 1) rfl) <| .gy rfl rfl (Yg ⟨isAgg3, sizeOf3⟩ (.t rfl) (k := 0) rfl rfl) <| .gy rfl rfl (Yf (by omega) (Xq (.t rfl) (.t rfl))) <| .yy (Zu (.t rfl) (.t rfl)) rfl <| .z) fun a w S => Zf S (.t rfl) (wp_skip (Zg (Za (hK2 _ _ (wp_region_lit (run S (.ad (by unfold I64; omega) rfl <| .z) fun a w S => ?_)))))))))))))))))
   rw [rw_1] at S
   refine run S (.mv rfl <| .z) fun a w S => Zb (Za (Zt (sg S (.lt (by omega) rfl rfl <| .z) fun a w S => wp_seq_k fun _ hK2 => Ze S (.t rfl) (wp_skip (Za (hK2 _ _ (wp_seq_k fun _ hK2 => wp_block (wp_seq_k fun _ hK3 => wp_region_lit (run S (.yy (Yi (j := 1) underlying152 sizeOf134 (.t rfl) (.t rfl) (fun _ => by omega)) rfl <| .yy (Yh ⟨isAgg134, sizeOf134⟩ (.t rfl) (vs := [_, _, _]) rfl (fun _ => c1)) rfl <| .z) fun a w S => Zh (Zr S zeroValue134 (cs := _) rfl rfl fun g2 a w S => Zh (Yb S sizeOf134 (.t rfl) (.t rfl) (k := 0) rfl rfl rfl (by simp [Value.oneCell']) fun a w S => Zb (Za (hK3 _ _ (sg S (.mv rfl <| .fa underlying134 sizeOf3 0 rfl rfl rfl <| .ld gt3 0 rfl rfl rfl <| .yy (Ym (by omega) (Yd (.t rfl) (.t rfl))) rfl <| .mv rfl <| .gy rfl rfl (Zd (.t rfl)) <| .gy rfl rfl (Zp (FieldT.mk underlying134 rfl sizeOf3 rfl) (.t rfl) (i' := 1) rfl) <| .gy rfl rfl (Yg ⟨isAgg3, sizeOf3⟩ (.t rfl) (k := 0) rfl rfl) <| .gy rfl rfl (Ym (by omega) (Xq (.t rfl) (.t rfl))) <| .yy (Zu (.t rfl) (.t rfl)) rfl <| .z) fun a w S => Ze S (.t rfl) (wp_seq_k fun _ hK3 => wp_region_lit ?_)))))))))))))))
   refine run S (.fa underlying134 sizeOf132 2 rfl rfl rfl <| .ld gt132 0 rfl rfl rfl <| .z) fun a w S => Zh (op_callVB (us := [x]) S (.t rfl) call84 (hQ h2 _ (S.wd.sub (List.nil_sublist _))) rfl ?_)
   clear S
   intro v L' hR a w S
   refine run S (.as rfl <| .z) fun a w S => Zb (Za (hK3 _ _ (wp_ret (Yk (Zj (Zj (Yk (Zj (Zk S (results1 S results82 (Rv.tmp rfl)) ?_)))))))))
   exact ⟨_, L', rfl, S.wd.sub (List.sublist_append_left _ _), hR⟩
 by_cases h3 : n = 6
 · have rw_a : decide (0 ≤ n) = true := decide_eq_true (by omega)
   have rw_b : decide (n ≤ 4) = false := decide_eq_false (by omega)
   have rw_c : decide (5 ≤ n) = true := decide_eq_true (by omega)
   have rw_d : decide (n ≤ 5) = false := decide_eq_false (by omega)
   have rw_e : decide (6 ≤ n) = true := decide_eq_true (by omega)
   have rw_f : decide (n ≤ 6) = true := decide_eq_true (by omega)
   refine sg S (.lt (by omega) rfl rfl <| .z) fun a w S => wp_seq_k fun _ hK2 => Ze S (.t rfl) (wp_skip (Za (hK2 _ _ (wp_seq_k fun _ hK2 => wp_block (wp_seq_k fun _ hK3 => wp_region_lit (run S (.yy (Yi (j := 0) underlying152 sizeOf134 (.t rfl) (.t rfl) (fun _ => by omega)) rfl <| .yy (Yh ⟨isAgg134, sizeOf134⟩ (.t rfl) (vs := [_, _, _]) rfl (fun _ => c0)) rfl <| .z) fun a w S => Zh (Zr S zeroValue134 (cs := _) rfl rfl fun g1 a w S => Zh (Yb S sizeOf134 (.t rfl) (.t rfl) (k := 0) rfl rfl rfl (by simp [Value.oneCell']) fun a w S => Zb (Za (hK3 _ _ (sg S (.mv rfl <| .fa underlying134 sizeOf3 0 rfl rfl rfl <| .ld gt3 0 rfl rfl rfl <| .yy (Ym (by omega) (Yd (.t rfl) (.t rfl))) rfl <| .mv rfl <| .gy rfl rfl (Zd (.t rfl)) <| .gy rfl rfl (Zp (FieldT.mk underlying134 rfl sizeOf3 rfl) (.t rfl) (i' := 1) rfl) <| .gy rfl rfl (Yg ⟨isAgg3, sizeOf3⟩ (.t rfl) (k := 0) rfl rfl) <| .gy rfl rfl (Yf (by omega) (Xq (.t rfl) (.t rfl))) <| .yy (Zu (.t rfl) (.t rfl)) rfl <| .z) fun a w S => Zf S (.t rfl) (wp_skip (Zg (Za (hK2 _ _ (wp_region_lit (run S (.ad (by unfold I64; omega) rfl <| .z) fun a w S => ?_)))))))))))))))))
   rw [rw_1] at S
   refine run S (.mv rfl <| .z) fun a w S => Zb (Za (Zt (sg S (.lt (by omega) rfl rfl <| .z) fun a w S => wp_seq_k fun _ hK2 => Ze S (.t rfl) (wp_skip (Za (hK2 _ _ (wp_seq_k fun _ hK2 => wp_block (wp_seq_k fun _ hK3 => wp_region_lit (run S (.yy (Yi (j := 1) underlying152 sizeOf134 (.t rfl) (.t rfl) (fun _ => by omega)) rfl <| .yy (Yh ⟨isAgg134, sizeOf134⟩ (.t rfl) (vs := [_, _, _]) rfl (fun _ => c1)) rfl <| .z) fun a w S => Zh (Zr S zeroValue134 (cs := _) rfl rfl fun g2 a w S => Zh (Yb S sizeOf134 (.t rfl) (.t rfl) (k := 0) rfl rfl rfl (by simp [Value.oneCell']) fun a w S => Zb (Za (hK3 _ _ (sg S (.mv rfl <| .fa underlying134 sizeOf3 0 rfl rfl rfl <| .ld gt3 0 rfl rfl rfl <| .yy (Ym (by omega) (Yd (.t rfl) (.t rfl))) rfl <| .mv rfl <| .gy rfl rfl (Zd (.t rfl)) <| .gy rfl rfl (Zp (FieldT.mk underlying134 rfl sizeOf3 rfl) (.t rfl) (i' := 1) rfl) <| .gy rfl rfl (Yg ⟨isAgg3, sizeOf3⟩ (.t rfl) (k := 0) rfl rfl) <| .gy rfl rfl (Yf (by omega) (Xq (.t rfl) (.t rfl))) <| .yy (Zu (.t rfl) (.t rfl)) rfl <| .z) fun a w S => Zf S (.t rfl) (wp_skip (Zg (Za (hK2 _ _ (wp_region_lit ?_)))))))))))))))))))
   refine run S (.ad (by unfold I64; omega) rfl <| .z) fun a w S => ?_
   rw [rw_2] at S
   refine run S (.mv rfl <| .z) fun a w S => Zb (Za (Zt (sg S (.lt (by omega) rfl rfl <| .z) fun a w S => wp_seq_k fun _ hK2 => Ze S (.t rfl) (wp_skip (Za (hK2 _ _ (wp_seq_k fun _ hK2 => wp_block (wp_seq_k fun _ hK3 => wp_region_lit (run S (.yy (Yi (j := 2) underlying152 sizeOf134 (.t rfl) (.t rfl) (fun _ => by omega)) rfl <| .yy (Yh ⟨isAgg134, sizeOf134⟩ (.t rfl) (vs := [_, _, _]) rfl (fun _ => c2)) rfl <| .z) fun a w S => Zh (Zr S zeroValue134 (cs := _) rfl rfl fun g3 a w S => Zh (Yb S sizeOf134 (.t rfl) (.t rfl) (k := 0) rfl rfl rfl (by simp [Value.oneCell']) fun a w S => Zb (Za (hK3 _ _ (sg S (.mv rfl <| .fa underlying134 sizeOf3 0 rfl rfl rfl <| .ld gt3 0 rfl rfl rfl <| .yy (Ym (by omega) (Yd (.t rfl) (.t rfl))) rfl <| .mv rfl <| .gy rfl rfl (Zd (.t rfl)) <| .gy rfl rfl (Zp (FieldT.mk underlying134 rfl sizeOf3 rfl) (.t rfl) (i' := 1) rfl) <| .gy rfl rfl (Yg ⟨isAgg3, sizeOf3⟩ (.t rfl) (k := 0) rfl rfl) <| .gy rfl rfl (Ym (by omega) (Xq (.t rfl) (.t rfl))) <| .yy (Zu (.t rfl) (.t rfl)) rfl <| .z) fun a w S => Ze S (.t rfl) (wp_seq_k fun _ hK3 => wp_region_lit ?_)))))))))))))))
   refine run S (.fa underlying134 sizeOf132 2 rfl rfl rfl <| .ld gt132 0 rfl rfl rfl <| .z) fun a w S => Zh (op_callVB (us := [x]) S (.t rfl) call85 (hW h3 _ (S.wd.sub (List.nil_sublist _))) rfl ?_)
   clear S
   intro v L' hR a w S
   refine run S (.as rfl <| .z) fun a w S => Zb (Za (hK3 _ _ (wp_ret (Yk (Zj (Zj (Yk (Zj (Zk S (results1 S results82 (Rv.tmp rfl)) ?_)))))))))
   exact ⟨_, L', rfl, S.wd.sub (List.sublist_append_left _ _), hR⟩
 by_cases h4 : 0 ≤ n
 · have hR := hN (.inr (by omega))
   have rw_a : decide (0 ≤ n) = true := decide_eq_true (by omega)
   have rw_b : decide (n ≤ 4) = false := decide_eq_false (by omega)
   have rw_c : decide (5 ≤ n) = true := decide_eq_true (by omega)
   have rw_d : decide (n ≤ 5) = false := decide_eq_false (by omega)
   have rw_e : decide (6 ≤ n) = true := decide_eq_true (by omega)
   have rw_f : decide (n ≤ 6) = false := decide_eq_false (by omega)
   refine sg S (.lt (by omega) rfl rfl <| .z) fun a w S => wp_seq_k fun _ hK2 => Ze S (.t rfl) (wp_skip (Za (hK2 _ _ (wp_seq_k fun _ hK2 => wp_block (wp_seq_k fun _ hK3 => wp_region_lit (run S (.yy (Yi (j := 0) underlying152 sizeOf134 (.t rfl) (.t rfl) (fun _ => by omega)) rfl <| .yy (Yh ⟨isAgg134, sizeOf134⟩ (.t rfl) (vs := [_, _, _]) rfl (fun _ => c0)) rfl <| .z) fun a w S => Zh (Zr S zeroValue134 (cs := _) rfl rfl fun g1 a w S => Zh (Yb S sizeOf134 (.t rfl) (.t rfl) (k := 0) rfl rfl rfl (by simp [Value.oneCell']) fun a w S => Zb (Za (hK3 _ _ (sg S (.mv rfl <| .fa underlying134 sizeOf3 0 rfl rfl rfl <| .ld gt3 0 rfl rfl rfl <| .yy (Ym (by omega) (Yd (.t rfl) (.t rfl))) rfl <| .mv rfl <| .gy rfl rfl (Zd (.t rfl)) <| .gy rfl rfl (Zp (FieldT.mk underlying134 rfl sizeOf3 rfl) (.t rfl) (i' := 1) rfl) <| .gy rfl rfl (Yg ⟨isAgg3, sizeOf3⟩ (.t rfl) (k := 0) rfl rfl) <| .gy rfl rfl (Yf (by omega) (Xq (.t rfl) (.t rfl))) <| .yy (Zu (.t rfl) (.t rfl)) rfl <| .z) fun a w S => Zf S (.t rfl) (wp_skip (Zg (Za (hK2 _ _ (wp_region_lit (run S (.ad (by unfold I64; omega) rfl <| .z) fun a w S => ?_)))))))))))))))))
   rw [rw_1] at S
   refine run S (.mv rfl <| .z) fun a w S => Zb (Za (Zt (sg S (.lt (by omega) rfl rfl <| .z) fun a w S => wp_seq_k fun _ hK2 => Ze S (.t rfl) (wp_skip (Za (hK2 _ _ (wp_seq_k fun _ hK2 => wp_block (wp_seq_k fun _ hK3 => wp_region_lit (run S (.yy (Yi (j := 1) underlying152 sizeOf134 (.t rfl) (.t rfl) (fun _ => by omega)) rfl <| .yy (Yh ⟨isAgg134, sizeOf134⟩ (.t rfl) (vs := [_, _, _]) rfl (fun _ => c1)) rfl <| .z) fun a w S => Zh (Zr S zeroValue134 (cs := _) rfl rfl fun g2 a w S => Zh (Yb S sizeOf134 (.t rfl) (.t rfl) (k := 0) rfl rfl rfl (by simp [Value.oneCell']) fun a w S => Zb (Za (hK3 _ _ (sg S (.mv rfl <| .fa underlying134 sizeOf3 0 rfl rfl rfl <| .ld gt3 0 rfl rfl rfl <| .yy (Ym (by omega) (Yd (.t rfl) (.t rfl))) rfl <| .mv rfl <| .gy rfl rfl (Zd (.t rfl)) <| .gy rfl rfl (Zp (FieldT.mk underlying134 rfl sizeOf3 rfl) (.t rfl) (i' := 1) rfl) <| .gy rfl rfl (Yg ⟨isAgg3, sizeOf3⟩ (.t rfl) (k := 0) rfl rfl) <| .gy rfl rfl (Yf (by omega) (Xq (.t rfl) (.t rfl))) <| .yy (Zu (.t rfl) (.t rfl)) rfl <| .z) fun a w S => Zf S (.t rfl) (wp_skip (Zg (Za (hK2 _ _ (wp_region_lit ?_)))))))))))))))))))
   refine run S (.ad (by unfold I64; omega) rfl <| .z) fun a w S => ?_
   rw [rw_2] at S
   refine run S (.mv rfl <| .z) fun a w S => Zb (Za (Zt (sg S (.lt (by omega) rfl rfl <| .z) fun a w S => wp_seq_k fun _ hK2 => Ze S (.t rfl) (wp_skip (Za (hK2 _ _ (wp_seq_k fun _ hK2 => wp_block (wp_seq_k fun _ hK3 => wp_region_lit (run S (.yy (Yi (j := 2) underlying152 sizeOf134 (.t rfl) (.t rfl) (fun _ => by omega)) rfl <| .yy (Yh ⟨isAgg134, sizeOf134⟩ (.t rfl) (vs := [_, _, _]) rfl (fun _ => c2)) rfl <| .z) fun a w S => Zh (Zr S zeroValue134 (cs := _) rfl rfl fun g3 a w S => Zh (Yb S sizeOf134 (.t rfl) (.t rfl) (k := 0) rfl rfl rfl (by simp [Value.oneCell']) fun a w S => Zb (Za (hK3 _ _ (sg S (.mv rfl <| .fa underlying134 sizeOf3 0 rfl rfl rfl <| .ld gt3 0 rfl rfl rfl <| .yy (Ym (by omega) (Yd (.t rfl) (.t rfl))) rfl <| .mv rfl <| .gy rfl rfl (Zd (.t rfl)) <| .gy rfl rfl (Zp (FieldT.mk underlying134 rfl sizeOf3 rfl) (.t rfl) (i' := 1) rfl) <| .gy rfl rfl (Yg ⟨isAgg3, sizeOf3⟩ (.t rfl) (k := 0) rfl rfl) <| .gy rfl rfl (Yf (by omega) (Xq (.t rfl) (.t rfl))) <| .yy (Zu (.t rfl) (.t rfl)) rfl <| .z) fun a w S => Zf S (.t rfl) (wp_skip (Zg (Za (hK2 _ _ (wp_region_lit ?_)))))))))))))))))))
   refine run S (.ad (by unfold I64; omega) rfl <| .z) fun a w S => ?_
   rw [rw_3] at S
   refine run S (.mv rfl <| .z) fun a w S => Zb (Za (Zt (sg S (.ge (by omega) rfl rfl <| .z) fun a w S => wp_seq_k fun _ hK2 => Zf S (.t rfl) (wp_exit (Zc (Zc (Zn (Za (hK1 _ _ (sg S (.ac rfl <| .z) fun a w S => wp_ret (Zk S (results1 S results82 (Rv.tmp rfl)) ?_)))))))))))
   obtain ⟨L', W', hR⟩ := hR w (S.wd.sub (List.nil_sublist _))
   exact ⟨_, L', rfl, W', hR⟩
 · have hR := hN (.inl (by omega))
   have rw_a : decide (0 ≤ n) = false := decide_eq_false (by omega)
   have rw_c : decide (5 ≤ n) = false := decide_eq_false (by omega)
   have rw_e : decide (6 ≤ n) = false := decide_eq_false (by omega)
   refine sg S (.lt (by omega) rfl rfl <| .z) fun a w S => wp_seq_k fun _ hK2 => Ze S (.t rfl) (wp_skip (Za (hK2 _ _ (wp_seq_k fun _ hK2 => wp_block (wp_seq_k fun _ hK3 => wp_region_lit (run S (.yy (Yi (j := 0) underlying152 sizeOf134 (.t rfl) (.t rfl) (fun _ => by omega)) rfl <| .yy (Yh ⟨isAgg134, sizeOf134⟩ (.t rfl) (vs := [_, _, _]) rfl (fun _ => c0)) rfl <| .z) fun a w S => Zh (Zr S zeroValue134 (cs := _) rfl rfl fun g1 a w S => Zh (Yb S sizeOf134 (.t rfl) (.t rfl) (k := 0) rfl rfl rfl (by simp [Value.oneCell']) fun a w S => Zb (Za (hK3 _ _ (sg S (.mv rfl <| .fa underlying134 sizeOf3 0 rfl rfl rfl <| .ld gt3 0 rfl rfl rfl <| .yy (Yf (by omega) (Yd (.t rfl) (.t rfl))) rfl <| .mv rfl <| .sk rfl rfl rfl <| .sk rfl rfl rfl <| .sk rfl rfl rfl <| .sk rfl rfl rfl <| .yy (Zs (.t rfl) Ev.c) rfl <| .z) fun a w S => Zf S (.t rfl) (wp_skip (Zg (Za (hK2 _ _ (wp_region_lit (run S (.ad (by unfold I64; omega) rfl <| .z) fun a w S => ?_)))))))))))))))))
   rw [rw_1] at S
   refine run S (.mv rfl <| .z) fun a w S => Zb (Za (Zt (sg S (.lt (by omega) rfl rfl <| .z) fun a w S => wp_seq_k fun _ hK2 => Ze S (.t rfl) (wp_skip (Za (hK2 _ _ (wp_seq_k fun _ hK2 => wp_block (wp_seq_k fun _ hK3 => wp_region_lit (run S (.yy (Yi (j := 1) underlying152 sizeOf134 (.t rfl) (.t rfl) (fun _ => by omega)) rfl <| .yy (Yh ⟨isAgg134, sizeOf134⟩ (.t rfl) (vs := [_, _, _]) rfl (fun _ => c1)) rfl <| .z) fun a w S => Zh (Zr S zeroValue134 (cs := _) rfl rfl fun g2 a w S => Zh (Yb S sizeOf134 (.t rfl) (.t rfl) (k := 0) rfl rfl rfl (by simp [Value.oneCell']) fun a w S => Zb (Za (hK3 _ _ (sg S (.mv rfl <| .fa underlying134 sizeOf3 0 rfl rfl rfl <| .ld gt3 0 rfl rfl rfl <| .yy (Yf (by omega) (Yd (.t rfl) (.t rfl))) rfl <| .mv rfl <| .sk rfl rfl rfl <| .sk rfl rfl rfl <| .sk rfl rfl rfl <| .sk rfl rfl rfl <| .yy (Zs (.t rfl) Ev.c) rfl <| .z) fun a w S => Zf S (.t rfl) (wp_skip (Zg (Za (hK2 _ _ (wp_region_lit (run S (.ad (by unfold I64; omega) rfl <| .z) fun a w S => ?_))))))))))))))))))))
   rw [rw_2] at S
   refine run S (.mv rfl <| .z) fun a w S => Zb (Za (Zt (sg S (.lt (by omega) rfl rfl <| .z) fun a w S => wp_seq_k fun _ hK2 => Ze S (.t rfl) (wp_skip (Za (hK2 _ _ (wp_seq_k fun _ hK2 => wp_block (wp_seq_k fun _ hK3 => wp_region_lit (run S (.yy (Yi (j := 2) underlying152 sizeOf134 (.t rfl) (.t rfl) (fun _ => by omega)) rfl <| .yy (Yh ⟨isAgg134, sizeOf134⟩ (.t rfl) (vs := [_, _, _]) rfl (fun _ => c2)) rfl <| .z) fun a w S => Zh (Zr S zeroValue134 (cs := _) rfl rfl fun g3 a w S => Zh (Yb S sizeOf134 (.t rfl) (.t rfl) (k := 0) rfl rfl rfl (by simp [Value.oneCell']) fun a w S => Zb (Za (hK3 _ _ (sg S (.mv rfl <| .fa underlying134 sizeOf3 0 rfl rfl rfl <| .ld gt3 0 rfl rfl rfl <| .yy (Yf (by omega) (Yd (.t rfl) (.t rfl))) rfl <| .mv rfl <| .sk rfl rfl rfl <| .sk rfl rfl rfl <| .sk rfl rfl rfl <| .sk rfl rfl rfl <| .yy (Zs (.t rfl) Ev.c) rfl <| .z) fun a w S => Zf S (.t rfl) (wp_skip (Zg (Za (hK2 _ _ (wp_region_lit (run S (.ad (by unfold I64; omega) rfl <| .z) fun a w S => ?_))))))))))))))))))))
   rw [rw_3] at S
   refine run S (.mv rfl <| .z) fun a w S => Zb (Za (Zt (sg S (.ge (by omega) rfl rfl <| .z) fun a w S => wp_seq_k fun _ hK2 => Zf S (.t rfl) (wp_exit (Zc (Zc (Zn (Za (hK1 _ _ (sg S (.ac rfl <| .z) fun a w S => wp_ret (Zk S (results1 S results82 (Rv.tmp rfl)) ?_)))))))))))
   obtain ⟨L', W', hR⟩ := hR w (S.wd.sub (List.nil_sublist _))
   exact ⟨_, L', rfl, W', hR⟩
end Go.Proofs.Ytbijdmfilmecbaa
namespace Go.Fw
open Go.RowKit
theorem ansV_gives (self : Int) (m : MV) (T : List KH) (l : List (List UInt8)) : ansV self m ⟨haveT T l, none⟩ none 0 = giveT self m T l := by unfold ansV giveT; simp
end Go.Fw
namespace Go.Proofs.Ytbijdmfilmecbaa
open Go.Fw Go.Proofs Go.RowKit Go.Proofs.Try
theorem bld130 : BuildT Try.prog 130 [Value.int .i64 0, Value.pointer none, Value.int .i64 0, Value.int .i64 0, Value.int .i64 0, Value.int .i64 0, Value.string ⟨#[]⟩, Value.slice none 0 0, Value.slice none 0 0, Value.slice none 0 0, Value.int .i64 0, Value.int .i64 0, Value.int .i64 0, Value.int .i64 0, Value.int .i64 0, Value.int .i64 0, Value.slice none 0 0, Value.slice none 0 0, Value.slice none 0 0] [(0, 1), (1, 1), (2, 17)] := ⟨⟨_, zeroValue130, rfl⟩, _, underlying130, fun w => by simp [sizeOf3, sizeOf24, sizeOf111]⟩
def OnR (self : Int) (m : MV) (a : Ans) (u : Value) (L : List Chunk) : Prop := ∃ C cC B cB, u = .slice C (ansV self m a B cB).length cC ∧ L = [rowOf 111 17 MV.enc C cC (ansV self m a B cB), rowOf 28 3 Sm.enc B cB (Ans.sums a)]
theorem c66 (w0 : World) (self : Int) (m : MV) (g cap : Nat) (A : Option Addr) (gs : List Nat) (T : List KH) (sums : List Sm) (h : TreeAt w0 g A cap gs T) (hT : KhOk T) (hl : T.length ≤ 1048576) (h2 : Sl Sm.enc 3 w0 w0.heap.size (.slice m.su.a m.su.n m.su.c) sums) (hs : Sums sums) (hTs : T.length + sums.length ≤ 1048576) (hk : m.kind = 8) :
   Rets Try.prog 66 #[.int .i64 self, .pointer (some ⟨g, 0, none⟩), .agg (MV.enc m).toArray] w0 (OnR self m (onA T m.nn sums)) := by
 have hl4 : T.length ≤ 4194304 := by omega
 have hok : okP 0 4 [] = true := by decide
 have rw_1 : (sumsA T 0 []).2 = 0 := by unfold sumsA; rw [if_pos hok]
 have rw_2 : (sumsA T 0 []).1 = [] := by unfold sumsA; rw [if_pos hok]; rfl
 have h00 : ([] : List Int).length ≤ 4194304 := by decide
 have rw_k : decide (m.kind ≠ 8) = false := decide_eq_false (fun e => e hk)
 unfold Go.Fw.Rets
 refine enter3 func66 rfl ntmps66 rfl fun a S => wp_seq_k fun _ hK1 => wp_region_lit (Zh (Xw S (.t rfl) rfl fun g1 a w S => run S (.ac rfl <| .z) fun a w S => Zb (Za (hK1 _ _ (wp_seq_k fun _ hK1 => wp_region_lit (run S (.mv rfl <| .z) fun a w S => ?_))))))
 (refine Zh (Zq S call22 (.cons (.t rfl) (.cons Ev.c (.cons Ev.c .nil))) (c22 _ _ _ _ _ _ _ _ _ (by exact .old S.wd (by assumption)) (by assumption) (by assumption) (by exact Sl.nil_) (by assumption)) rfl ?_); clear S a w; rintro _ _ ⟨B1, c1, rfl, rfl⟩ a w S)
 rw [rw_1] at S
 rw [rw_2] at S
 refine run S (.mv rfl <| .ex rfl rfl <| .ex rfl rfl <| .as rfl <| .as rfl <| .z) fun a w S => Zb (Za (hK1 _ _ (wp_seq_k fun _ hK1 => sg S (.fa underlying111 sizeOf3 0 rfl rfl rfl <| .ld gt3 1 rfl rfl rfl <| .yy (Yf (by omega) (Yn (.t rfl) Ev.c)) rfl <| .mv rfl <| .gy rfl rfl (Zd (.t rfl)) <| .gy rfl rfl (Yf (by omega) (Yn (.t rfl) Ev.c)) <| .yy (Zs (.t rfl) (.t rfl)) rfl <| .z) fun a w S => Zf S (.t rfl) (wp_skip (Za (hK1 _ _ (wp_seq_k fun _ hK1 => wp_region_lit (run S (.mv rfl <| .mv rfl <| .z) fun a w S => st_y S (Yr.ys (ys_ldA ⟨isAgg111, sizeOf111⟩ (.t rfl) (k := 1) rfl rfl)) rfl ?_))))))))
 clear S a w
 intro a w S
 refine st_y S (Yr.ys (Xc (ps := [(0, Go.Operand.tmp 22), (1, Go.Operand.tmp 23), (2, Go.Operand.tmp 24)]) (us := XV.enc self g m) bld130 (.cons (.t rfl) (.cons (.t rfl) (.cons (.t rfl) .nil))) (by kernel_rfl))) rfl ?_
 clear S a w
 intro a w S
 refine Zh (Zr S zeroValue130 (cs := _) rfl rfl fun g2 a w S => Zh (Yb S sizeOf130 (.t rfl) (.t rfl) (k := 0) rfl rfl rfl (by simp [Value.oneCell']) fun a w S => Zb (Za (hK1 _ _ (wp_seq_k fun _ hK1 => wp_region_lit (run S (.fa underlying111 sizeOf3 10 rfl rfl rfl <| .ld gt3 2 rfl rfl rfl <| .z) fun a w S => ?_))))))
 obtain ⟨xv, hxv⟩ : ∃ xv, xv = Value.agg (XV.enc self g m).toArray := ⟨_, rfl⟩
 refine st_y S (Yr.ys (ys_ldA ⟨isAgg130, sizeOf130⟩ (.t rfl) (k := 0) rfl rfl)) rfl ?_
 clear S a w
 intro a w S
 rw [← hxv] at S
 refine st_y S (Yr.ys (ys_mkFuncB (.cons (.t rfl) .nil))) rfl ?_
 clear S a w
 intro a w S
 refine st_y S (Yr.ys (Xc (ps := [(0, _), (1, _), (2, Go.Operand.tmp 29)]) (us := [_, _, _]) bld134 (.cons Ev.c (.cons Ev.c (.cons (.t rfl) .nil))) rfl)) rfl ?_
 clear S a w
 intro a w S
 refine st_y S (Yr.ys (ys_ldA ⟨isAgg130, sizeOf130⟩ (.t rfl) (k := 0) rfl rfl)) rfl ?_
 clear S a w
 intro a w S
 rw [← hxv] at S
 refine st_y S (Yr.ys (ys_mkFuncB (.cons (.t rfl) .nil))) rfl ?_
 clear S a w
 intro a w S
 refine st_y S (Yr.ys (Xc (ps := [(0, _), (1, _), (2, Go.Operand.tmp 32)]) (us := [_, _, _]) bld134 (.cons Ev.c (.cons Ev.c (.cons (.t rfl) .nil))) rfl)) rfl ?_
 clear S a w
 intro a w S
 refine st_y S (Yr.ys (ys_ldA ⟨isAgg130, sizeOf130⟩ (.t rfl) (k := 0) rfl rfl)) rfl ?_
 clear S a w
 intro a w S
 rw [← hxv] at S
 refine st_y S (Yr.ys (ys_mkFuncB (.cons (.t rfl) .nil))) rfl ?_
 clear S a w
 intro a w S
 refine st_y S (Yr.ys (Xc (ps := [(0, _), (1, _), (2, Go.Operand.tmp 35)]) (us := [_, _, _]) bld134 (.cons Ev.c (.cons Ev.c (.cons (.t rfl) .nil))) rfl)) rfl ?_
 clear S a w
 intro a w S
 refine Zh (op_bsliceZ (ps := [(0, Go.Operand.tmp 30), (1, Go.Operand.tmp 33), (2, Go.Operand.tmp 36)]) (us := [_, _, _, _, _, _, _, _, _]) S underlying152 sizeOf134 zeroValue134 rfl rfl (.cons (.t rfl) (.cons (.t rfl) (.cons (.t rfl) .nil))) rfl rfl fun g3 a w S => ?_)
 have hc : ∀ (i : Nat) (u : Value), nth [Value.int .i64 0, .int .i64 4, .func (.func 83) #[xv] #[], .int .i64 5, .int .i64 5, .func (.func 84) #[xv] #[], .int .i64 6, .int .i64 6, .func (.func 85) #[xv] #[]] i = some u → w.cell? ⟨g3, i, none⟩ = some u := fun i u hu => Wd.cell S.wd (k := 0) rfl hu
 have hR0 : ∀ w', Wd w [] w' → ∃ L, Wd w L w' ∧ OnR self m .nil (.slice none 0 0) L := fun w' W' => ⟨_, (W'.bare (c := rowOf 28 3 Sm.enc none 0 []) ⟨by simp, .inl ⟨rfl, rfl⟩⟩ (fun b h => h.1 rfl)).bare (c := rowOf 111 17 MV.enc none 0 []) ⟨by simp, .inl ⟨rfl, rfl⟩⟩ (fun b h => h.1 rfl), none, 0, none, 0, rfl, rfl⟩
 refine Zh (Zq S call82 (.cons (.t rfl) (.cons (.t rfl) .nil)) (z82 _ m.nn g3 xv (OnR self m (onA T m.nn sums))
   (fun j u hj => by
     rcases j with _ | _ | _ | j
     · exact hc 0 u hj
     · exact hc 1 u hj
     · exact hc 2 u hj
     · simp at hj)
   (fun j u hj => by
     rcases j with _ | _ | _ | j
     · exact hc 3 u hj
     · exact hc 4 u hj
     · exact hc 5 u hj
     · simp at hj)
   (fun j u hj => by
     rcases j with _ | _ | _ | j
     · exact hc 6 u hj
     · exact hc 7 u hj
     · exact hc 8 u hj
     · simp at hj)
   (fun hn w' W' => by
     rw [hxv, show onA T m.nn sums = ⟨[], downT T m.nn sums⟩ from if_pos hn]
     exact c83 w' self m g cap A gs T sums ((h.old S.wd).old W') hT hl (.old W' (.old S.wd h2)) hs)
   (fun hn w' W' => by
     rw [hxv, show onA T m.nn sums = keysQ T sums from by unfold onA; rw [if_neg (by omega), if_pos hn]]
     exact c84 w' self m g cap A gs T sums ((h.old S.wd).old W') hT hl (.old W' (.old S.wd h2)) hs hTs)
   (fun hn w' W' => by
     rw [hxv, show onA T m.nn sums = ⟨haveT T (sums.map (·.key)), none⟩ from by unfold onA; rw [if_neg (by omega), if_neg (by omega), if_pos hn]]
     refine Calls.mono (c85 w' self m g cap A gs T sums ((h.old S.wd).old W') hT hl (.old W' (.old S.wd h2)) hs) fun e w'' ⟨v, L, he, hw, C, cC, hv, hL⟩ => ?_
     subst hL
     have hw2 := (hw.bare (c := rowOf 28 3 Sm.enc none 0 []) ⟨by simp, .inl ⟨rfl, rfl⟩⟩ (fun b h => h.1 rfl)).perm (List.Perm.swap _ _ _)
     exact ⟨v, _, he, hw2, C, cC, none, 0, by rw [ansV_gives]; exact hv, by rw [ansV_gives]; rfl⟩)
   (fun hn => by
     rw [show onA T m.nn sums = .nil from by unfold onA; rw [if_neg (by omega), if_neg (by omega), if_neg (by omega)]]
     exact hR0)) rfl ?_)
 clear S
 intro v L' hR a w S
 refine run S (.as rfl <| .z) fun a w S => Zb (Za (hK1 _ _ (wp_ret (Zk S (results1 S results66 (Rv.tmp rfl)) ?_))))
 exact ⟨_, L', rfl, S.wd.sub (List.sublist_append_left _ _), hR⟩
end Go.Proofs.Ytbijdmfilmecbaa
namespace Go.Fw
open Go.RowKit
structure XS where
 s : Ex
 q : List MV
 j : Nat
 gq : Nat
 cq : Nat
 A : Option Addr
 B : Option Addr
 cB : Nat
 sm : List Sm
 m : MV
 D0 : Option Addr
 c0 : Nat
 D1 : Option Addr
 c1 : Nat
structure XOk (T U : List KH) (x : XS) : Prop where
 ok : ExOk T U x.s
 tl : Tl 17 x.gq x.j x.cq x.q.length x.A
 pend : x.q.drop x.j = pendM x.s x.B x.cB
 sums : ∀ p, x.s.tr = some p → x.sm = p.2
 len : x.q.length ≤ 524288 * (x.s.n + 1)
theorem drop_head {α : Type} {l r : List α} {j : Nat} {x : α} (h : l.drop j = x :: r) : j < l.length ∧ l[j]? = some x ∧ l.drop (j + 1) = r := by
 obtain ⟨h1, h2, _, _⟩ := drop_cons h
 refine ⟨h1, ?_, h2⟩
 rw [List.drop_eq_getElem_cons h1, List.cons.injEq] at h
 rw [List.getElem?_eq_getElem h1, h.1]
end Go.Fw
namespace Go.Proofs.Ytbijdmfilmecbaa
open Go.Fw Go.Proofs Go.RowKit Go.Proofs.Try
theorem c39 (w0 : World) (g cap g' cap' : Nat) (A A' : Option Addr) (gs gs' : List Nat) (T U : List KH) (h : TreeAt w0 g A cap gs T) (h' : TreeAt w0 g' A' cap' gs' U) (hT : KhOk T) (hU : KhOk U) (hl : T.length + U.length ≤ 524287) :
   Rets Try.prog 39 #[.pointer (some ⟨g, 0, none⟩), .pointer (some ⟨g', 0, none⟩)] w0 fun u L => ∃ (n : Nat) (B : Option Addr) (c : Nat) (B' : Option Addr) (c' : Nat), u = .tuple #[.agg #[.slice B (haveT T (missX T U)).length c, .slice B' (haveT U (missX T U)).length c'], .int .i64 (n : Int), .bool true] ∧ L = [rowOf 9 1 encS' B c (haveT T (missX T U)), rowOf 9 1 encS' B' c' (haveT U (missX T U))] ∧ n ≤ 7 ∧ (filtT T U 0 = [] → n = 1) := by
 have hb : begB 0 1 5 = true := by decide
 have hlT : T.length ≤ 1048576 := by omega
 have hst : sumsT T 0 [0] = sumsT (sideT T U 0) ((0 : Nat) : Int) (candT T U 0) := rfl
 have hex := ExOk.lev (T := T) (U := U) 0 (by omega) (by omega)
 rw [← hst] at hex
 obtain ⟨ss, rw_ss⟩ : ∃ ss, sumsT T 0 [0] = ss := ⟨_, rfl⟩
 rw [rw_ss] at hex
 unfold Go.Fw.Rets
 refine enter2 func39 rfl ntmps39 rfl fun a S => wp_seq_k fun _ hK1 => wp_region_lit (Zh (Zr S zeroValue71 (cs := _) rfl rfl fun g1 a w S => run S (.ac rfl <| .ac rfl <| .z) fun a w S => Zb (Za (hK1 _ _ (wp_seq_k fun _ hK1 => wp_region_lit (Zh (Zr S zeroValue71 (cs := _) rfl rfl fun g2 a w S => Zb (Za (hK1 _ _ (wp_seq_k fun _ hK1 => wp_region_lit (run S (.mv rfl <| .z) fun a w S => ?_)))))))))))
 (refine Zh (Zq S call65 (.cons Ev.c (.cons Ev.c (.cons Ev.c (.cons (.t rfl) .nil)))) (c65 _ _ _ _ _ _ _ _ _ (by exact .old S.wd (by assumption)) (by assumption) (by assumption) (by assumption)) rfl ?_); clear S a w; rintro _ _ ⟨B1, c1, rfl, rfl⟩ a w S)
 rw [rw_ss] at S
 refine run S (.mv rfl <| .ex rfl rfl <| .ex rfl rfl <| .z) fun a w S => Zh (Zr S zeroValue111 (cs := _) rfl rfl fun g3 a w S => Zh (Yb S sizeOf111 (.t rfl) (.t rfl) (k := 0) rfl rfl rfl (by simp [Value.oneCell']) fun a w S => run S (.as rfl <| .z) fun a w S => Zb (Za (hK1 _ _ (wp_seq_k fun _ hK1 => sg S (.mv rfl <| .yy (Yf (by omega) (Yn (.t rfl) Ev.c)) rfl <| .z) fun a w S => Zf S (.t rfl) (wp_skip (Za (hK1 _ _ (wp_seq_k fun _ hK1 => wp_region_lit (run S (.la gt111 0 rfl rfl rfl <| .z) fun a w S => Zh (Zm S underlying114 inf111 rfl rfl rfl (.t rfl) rfl rfl rfl fun g4 a w S => run S (.as rfl <| .z) fun a w S => Zb (Za (hK1 _ _ (sg S (.ac rfl <| .z) fun a w S => wp_seq_k fun _ hK1 => wp_block ?_))))))))))))))
 obtain ⟨m0, hm0⟩ : ∃ m0, m0 = beginV 0 1 5 ⟨B1, ss.length, c1⟩ := ⟨_, rfl⟩
 have W1 := S.wd.picks (L' := [.blk g4 (.cells (MV.enc (beginV 0 1 5 ⟨B1, ss.length, c1⟩)).toArray 111), .blk g1 (.cells #[.slice none 0 0, .slice none 0 0] 71), .blk g2 (.cells #[.slice none 0 0, .slice none 0 0] 71), .blk g3 (.cells (MV.enc (beginV 0 1 5 ⟨B1, ss.length, c1⟩)).toArray 111), rowOf 28 3 Sm.enc B1 c1 ss]) (by repeat (first | exact Picks.nil | (refine Picks.rest ?_; (repeat (first | exact List.Sublist.refl _ | refine List.Sublist.cons_cons _ ?_ | refine List.Sublist.cons _ ?_)); done) | refine Picks.take 0 rfl ?_ | refine Picks.take 1 rfl ?_ | refine Picks.take 2 rfl ?_ | refine Picks.take 3 rfl ?_ | refine Picks.take 4 rfl ?_ | refine Picks.take 5 rfl ?_ | refine Picks.take 6 rfl ?_ | refine Picks.take 7 rfl ?_ | refine Picks.take 8 rfl ?_ | refine Picks.take 9 rfl ?_ | refine Picks.take 10 rfl ?_ | refine Picks.take 11 rfl ?_))
 have hpd0 : [beginV 0 1 5 ⟨B1, ss.length, c1⟩].drop 0 = pendM ⟨[], 0 % 2, some (((0 : Nat) : Int), ss), [], [], 0⟩ B1 c1 := rfl
 rw [← hm0] at W1 hpd0
 have W2 := W1.close_row (k := 0) rfl (size := 17) 1 1 ([m0].flatMap MV.enc) (by decide) rfl (Nat.le_refl 1) (by decide) rfl
 replace S := ((St.mk S.kn W2).nil_ 9 1 encS' none).nil_ 9 1 encS' none
 clear W1 W2
 refine Ye S [5, 6, 10, 11] (X := XS) (fun x => [(5, true, .int .i64 0), (6, true, .bool false), (10, true, .slice x.A (x.q.length - x.j) (x.cq - x.j)), (11, true, .int .i64 (x.s.n : Int))])
   (fun x => [.blk g1 (.cells #[.slice none 0 0, .slice none 0 0] 71), .blk g2 (.cells #[.slice x.D0 x.s.x0.length x.c0, .slice x.D1 x.s.x1.length x.c1] 71), .blk g3 (.cells (MV.enc x.m).toArray 111), rowOf 111 17 MV.enc (some ⟨x.gq, 0, none⟩) x.cq x.q, rowOf 28 3 Sm.enc x.B x.cB x.sm, rowOf 9 1 encS' x.D0 x.c0 x.s.x0, rowOf 9 1 encS' x.D1 x.c1 x.s.x1])
   (fun x => XOk T U x) (fun x => exMu T U x.s) ⟨⟨[], 0 % 2, some (((0 : Nat) : Int), ss), [], [], 0⟩, [m0], 0, g4, 1, some ⟨g4, 0, none⟩, B1, c1, ss, m0, none, 0, none, 0⟩ ⟨hex, Tl.start (Nat.le_refl 1) Nat.one_pos, hpd0, fun p hp => by cases hp; rfl, (show 1 ≤ 524288 * (0 + 1) by decide)⟩ ?_
 clear S
 rintro ⟨s, q, j, gq, cq, A2, B, cB, sm, m, D0, c0, D1, c1'⟩ a w ⟨hok, htl, hpd, hsm, hql⟩ S
 dsimp only at hok htl hpd hsm hql S
 obtain ⟨hx0, hx1, hgl⟩ := ex_x0 hU hl hok
 cases hg : s.gv with
 | nil =>
   cases ht : s.tr with
   | none =>
     have hp0 : q.drop j = [] := by rw [hpd]; unfold pendM; rw [hg, ht]; rfl
     have hz : q.length - j = 0 := by have := List.drop_eq_nil_iff.1 hp0; omega
     rw [hz] at S
     obtain ⟨e0, e1, e2, e3⟩ := ex_end hok hg ht
     refine wp_seq_k fun _ hK2 => sg S (.mv rfl <| .ln underlying114 rfl <| .yy (Yf (by omega) (Xf (.t rfl) Ev.c)) rfl <| .z) fun a w S => Zf S (.t rfl) (wp_exit (Zc (Zc (Zn (Za (hK1 _ _ (wp_seq_k fun _ hK1 => wp_region_lit (run S (.la gt71 1 rfl rfl rfl <| .mv rfl <| .z) fun a w S => Zh (Yb S sizeOf71 (.t rfl) (.t rfl) (k := 0) rfl rfl rfl (by simp [Value.oneCell']) fun a w S => run S (.as rfl <| .ac rfl <| .z) fun a w S => Zb (Za (hK1 _ _ (wp_ret (Zk S (results3 S results39 (Rv.cell (k := 0) ⟨isAgg71, sizeOf71⟩ rfl rfl rfl) (Rv.tmp rfl) (Rv.tmp rfl)) ?_)))))))))))))
     exact ⟨_, _, rfl, S.wd.picks (L' := [rowOf 9 1 encS' D0 c0 s.x0, rowOf 9 1 encS' D1 c1' s.x1]) (by repeat (first | exact Picks.nil | (refine Picks.rest ?_; (repeat (first | exact List.Sublist.refl _ | refine List.Sublist.cons_cons _ ?_ | refine List.Sublist.cons _ ?_)); done) | refine Picks.take 0 rfl ?_ | refine Picks.take 1 rfl ?_ | refine Picks.take 2 rfl ?_ | refine Picks.take 3 rfl ?_ | refine Picks.take 4 rfl ?_ | refine Picks.take 5 rfl ?_ | refine Picks.take 6 rfl ?_ | refine Picks.take 7 rfl ?_ | refine Picks.take 8 rfl ?_ | refine Picks.take 9 rfl ?_ | refine Picks.take 10 rfl ?_ | refine Picks.take 11 rfl ?_)), s.n, D0, c0, D1, c1', by rw [e0, e1], by rw [e0, e1], e2, e3⟩
   | some p =>
     obtain ⟨lv, sums⟩ := p
     obtain rfl : sm = sums := hsm _ ht
     have hpd2 : q.drop j = trM (s.sd : Int) lv ⟨B, sm.length, cB⟩ :: [] := by rw [hpd]; unfold pendM; rw [hg, ht]; rfl
     obtain ⟨hj, hm, hr⟩ := drop_head hpd2
     have hAt := htl.at_ (by have := htl.room; omega)
     subst hAt
     have hnext := htl.next hj
     have hroom := htl.room
     obtain ⟨m1, hm1⟩ : ∃ m1, m1 = trM (s.sd : Int) lv ⟨B, sm.length, cB⟩ := ⟨_, rfl⟩
     rw [← hm1] at hm
     have rw_t : 0 + j * 17 + 0 * 17 = 0 + j * 17 := rfl
     have rw_k : decide (m1.kind = 9) = false := by rw [hm1]; rfl
     have rw_p : decide (m1.pt ≠ 5) = false := by rw [hm1]; rfl
     have hsd : s.sd ≤ 1 := (ex_tree hT hU hl hok hg ht _ rfl).2.2.1
     have hn6 : s.n ≤ 6 := (ex_tree hT hU hl hok hg ht _ rfl).2.2.2.1
     have hto : m1.to = 1 - (s.sd : Int) := by rw [hm1]
     have hfr : m1.fr = (s.sd : Int) := by rw [hm1]
     have rw_o : decide (m1.to < 0) = false := decide_eq_false (by omega)
     have rw_o1 : decide (1 < m1.to) = false := decide_eq_false (by omega)
     have rw_w : 1 - m1.to = m1.fr := by omega
     have rw_w2 : IntKind.i64.wrap (1 - m1.to) = m1.fr := by rw [rw_w, IntKind.wrap_i64]; omega
     have rw_w3 : decide (m1.fr ≠ m1.fr) = false := decide_eq_false (fun e => e rfl)
     have rw_n : (s.n : Int) + 1 = ((s.n + 1 : Nat) : Int) := rfl
     have hnn : m1.nn = lv := by rw [hm1]
     have hpt : m1.pt = 5 := by rw [hm1]
     have hto' : m1.to = ((1 - s.sd : Nat) : Int) := by omega
     by_cases h0 : s.sd = 0
     · have rw_b : decide (m1.to = 1) = true := decide_eq_true (by omega)
       refine wp_seq_k fun _ hK2 => sg S (.mv rfl <| .ln underlying114 rfl <| .yy (Ym (by omega) (Xf (.t rfl) Ev.c)) rfl <| .z) fun a w S => Ze S (.t rfl) (wp_skip (Za (hK2 _ _ (wp_block (wp_seq_k fun _ hK2 => wp_region_lit (run S (.mv rfl <| .yy (Yi (j := 0) underlying114 sizeOf111 (.t rfl) Ev.c (fun _ => by omega)) rfl <| .z) fun a w S => ?_))))))
       rw [rw_t] at S
       refine run S (.yy (Xn ⟨isAgg111, sizeOf111⟩ (.t rfl) (k := 3) rfl hm (fun _ => rfl)) rfl <| .z) fun a w S => Zh (Yb S sizeOf111 (.t rfl) (.t rfl) (k := 2) rfl rfl rfl (by simp [Value.oneCell']) fun a w S => Zb (Za (hK2 _ _ (sg S (.mv rfl <| .yy (ys_slLo underlying114 sizeOf111 (.t rfl) Ev.c (fun _ => by first | omega | (simp; done) | (simp; omega))) rfl <| .as rfl <| .z) fun a w S => wp_seq_k fun _ hK2 => wp_seq_k fun _ hK3 => wp_region_lit (run S (.fa underlying111 sizeOf3 0 rfl rfl rfl <| .ld gt3 2 rfl rfl rfl <| .yy (Yt (.t rfl) Ev.c) rfl <| .z) fun a w S => ?_)))))
       rw [rw_k] at S
       refine Zb (Za (hK3 _ _ (Zf S (.t rfl) (wp_skip (Za (hK2 _ _ (wp_seq_k fun _ hK2 => wp_region_lit (run S (.mv rfl <| .ad (by unfold I64; omega) rfl <| .z) fun a w S => ?_))))))))
       rw [rw_n] at S
       refine run S (.as rfl <| .z) fun a w S => Zb (Za (hK2 _ _ (wp_seq_k fun _ hK2 => wp_seq_k fun _ hK3 => wp_region_lit ?_)))
       refine run S (.mv rfl <| .yy (Yf (by omega) (Xf (.t rfl) Ev.c)) rfl <| .mv rfl <| .gy rfl rfl (Zp (FieldT.mk underlying111 rfl sizeOf3 rfl) (.t rfl) (i' := 9) rfl) <| .gy rfl rfl (Yg ⟨isAgg3, sizeOf3⟩ (.t rfl) (k := 2) rfl rfl) <| .gy rfl rfl (Yf (by omega) (Yn (.t rfl) Ev.c)) <| .yy (Zs (.t rfl) (.t rfl)) rfl <| .mv rfl <| .gy rfl rfl (Zp (FieldT.mk underlying111 rfl sizeOf3 rfl) (.t rfl) (i' := 2) rfl) <| .gy rfl rfl (Yg ⟨isAgg3, sizeOf3⟩ (.t rfl) (k := 2) rfl rfl) <| .gy rfl rfl (Yf (by omega) (Zy (.t rfl) Ev.c)) <| .yy (Zs (.t rfl) (.t rfl)) rfl <| .mv rfl <| .gy rfl rfl (Zp (FieldT.mk underlying111 rfl sizeOf3 rfl) (.t rfl) (i' := 2) rfl) <| .gy rfl rfl (Yg ⟨isAgg3, sizeOf3⟩ (.t rfl) (k := 2) rfl rfl) <| .gy rfl rfl (Yf (by omega) (Xf (.t rfl) Ev.c)) <| .yy (Zs (.t rfl) (.t rfl)) rfl <| .mv rfl <| .gy rfl rfl (Zp (FieldT.mk underlying111 rfl sizeOf3 rfl) (.t rfl) (i' := 1) rfl) <| .gy rfl rfl (Yg ⟨isAgg3, sizeOf3⟩ (.t rfl) (k := 2) rfl rfl) <| .gy rfl rfl (Zp (FieldT.mk underlying111 rfl sizeOf3 rfl) (.t rfl) (i' := 2) rfl) <| .gy rfl rfl (Yg ⟨isAgg3, sizeOf3⟩ (.t rfl) (k := 2) rfl rfl) <| .gy rfl rfl (Xj Ev.c (.t rfl) (fun _ => by unfold I64; omega)) <| .z) fun a w S => ?_
       rw [rw_w] at S
       refine run S (.gy rfl rfl (Yf (by omega) (Yn (.t rfl) (.t rfl))) <| .yy (Zs (.t rfl) (.t rfl)) rfl <| .z) fun a w S => Zb (Za (hK3 _ _ (Zf S (.t rfl) (wp_skip (Za (hK2 _ _ (sg S (.mv rfl <| .as rfl <| .z) fun a w S => wp_seq_k fun _ hK2 => sg S (.fa underlying111 sizeOf3 2 rfl rfl rfl <| .ld gt3 2 rfl rfl rfl <| .yy (Ym (by omega) (Yt (.t rfl) Ev.c)) rfl <| .z) fun a w S => Ze S (.t rfl) (rg S (.mv rfl <| .as rfl <| .z) hK2 fun a w S => wp_region_lit (run S (.mv rfl <| .fa underlying111 sizeOf3 2 rfl rfl rfl <| .ld gt3 2 rfl rfl rfl <| .mv rfl <| .la gt111 2 rfl rfl rfl <| .z) fun a w S => ?_)))))))))
       obtain ⟨hex2, hmu2, _, _, hgv, hsm2, hUs⟩ := ex_tree hT hU hl hok hg ht U (by rw [if_pos h0])
       have hsl : Sl Sm.enc 3 w w.heap.size (.slice m1.su.a m1.su.n m1.su.c) sm := by rw [hm1]; exact Sl.of_own S.wd (k := 4) rfl Sm.enc_len
       refine Zh (Zq S call66 (vs := [.int .i64 m1.to, .pointer (some ⟨g', 0, none⟩), .agg (MV.enc m1).toArray]) (.cons (.t rfl) (.cons (.t rfl) (.cons (.t rfl) .nil))) (c66 w m1.to m1 g' cap' A' gs' U sm (h'.old S.wd) hU (by omega) hsl hsm2 hUs (by rw [hm1])) rfl ?_)
       clear S
       rintro v L' ⟨C, cC, B2, cB2, rfl, rfl⟩ a w S
       rw [hnn, hto', ans_pend m1 (onA U lv sm) s.sd (1 - s.sd) s.x0 s.x1 (s.n + 1) B2 cB2 hfr hpt hsd rfl] at S
       have hal := pendM_len ⟨(onA U lv sm).gives, 1 - s.sd, (onA U lv sm).tree, s.x0, s.x1, s.n + 1⟩ B2 cB2
       have hsu : ∀ p, (onA U lv sm).tree = some p → Ans.sums (onA U lv sm) = p.2 := fun p hp => by unfold Ans.sums; rw [hp]
       dsimp only at hal
       generalize Ans.sums (onA U lv sm) = su2 at *
       generalize hE : (⟨(onA U lv sm).gives, 1 - s.sd, (onA U lv sm).tree, s.x0, s.x1, s.n + 1⟩ : Ex) = E at *
       generalize hP : pendM E B2 cB2 = an at *
       refine Zh (op_appT (enc := MV.enc) (size := 17) an S underlying114 underlying114 (.inr ⟨_, rfl⟩) inf111 rfl MV.enc_len (k := 5) rfl hnext (.t rfl) (.t rfl) (Src.row S.wd (k := 0) rfl (fun u hu => by obtain ⟨x, _, hx⟩ := List.mem_flatMap.1 hu; exact MV.enc_one x u hx)) (by omega) rfl rfl rfl ?_)
       clear S
       intro g6 j6 cap6 q6 A6 a w hd6 hl6 ht6 S
       simp only [List.set_cons_succ, List.set_cons_zero, List.cons_append, List.nil_append] at S
       refine run S (.as rfl <| .z) fun a w S => Zb (Zg (Za ?_))
       rw [hr, List.nil_append] at hd6
       subst hE
       exact ⟨⟨⟨(onA U lv sm).gives, 1 - s.sd, (onA U lv sm).tree, s.x0, s.x1, s.n + 1⟩, q6, j6, g6, cap6, A6, B2, cB2, su2, m1, D0, c0, D1, c1'⟩, ⟨hex2, ht6, by rw [hd6, ← hP], hsu, by dsimp only; omega⟩, hmu2, S.pk⟩
     · have rw_b : decide (m1.to = 1) = false := decide_eq_false (by omega)
       refine wp_seq_k fun _ hK2 => sg S (.mv rfl <| .ln underlying114 rfl <| .yy (Ym (by omega) (Xf (.t rfl) Ev.c)) rfl <| .z) fun a w S => Ze S (.t rfl) (wp_skip (Za (hK2 _ _ (wp_block (wp_seq_k fun _ hK2 => wp_region_lit (run S (.mv rfl <| .yy (Yi (j := 0) underlying114 sizeOf111 (.t rfl) Ev.c (fun _ => by omega)) rfl <| .z) fun a w S => ?_))))))
       rw [rw_t] at S
       refine run S (.yy (Xn ⟨isAgg111, sizeOf111⟩ (.t rfl) (k := 3) rfl hm (fun _ => rfl)) rfl <| .z) fun a w S => Zh (Yb S sizeOf111 (.t rfl) (.t rfl) (k := 2) rfl rfl rfl (by simp [Value.oneCell']) fun a w S => Zb (Za (hK2 _ _ (sg S (.mv rfl <| .yy (ys_slLo underlying114 sizeOf111 (.t rfl) Ev.c (fun _ => by first | omega | (simp; done) | (simp; omega))) rfl <| .as rfl <| .z) fun a w S => wp_seq_k fun _ hK2 => wp_seq_k fun _ hK3 => wp_region_lit (run S (.fa underlying111 sizeOf3 0 rfl rfl rfl <| .ld gt3 2 rfl rfl rfl <| .yy (Yt (.t rfl) Ev.c) rfl <| .z) fun a w S => ?_)))))
       rw [rw_k] at S
       refine Zb (Za (hK3 _ _ (Zf S (.t rfl) (wp_skip (Za (hK2 _ _ (wp_seq_k fun _ hK2 => wp_region_lit (run S (.mv rfl <| .ad (by unfold I64; omega) rfl <| .z) fun a w S => ?_))))))))
       rw [rw_n] at S
       refine run S (.as rfl <| .z) fun a w S => Zb (Za (hK2 _ _ (wp_seq_k fun _ hK2 => wp_seq_k fun _ hK3 => wp_region_lit ?_)))
       refine run S (.mv rfl <| .yy (Yf (by omega) (Xf (.t rfl) Ev.c)) rfl <| .mv rfl <| .gy rfl rfl (Zp (FieldT.mk underlying111 rfl sizeOf3 rfl) (.t rfl) (i' := 9) rfl) <| .gy rfl rfl (Yg ⟨isAgg3, sizeOf3⟩ (.t rfl) (k := 2) rfl rfl) <| .gy rfl rfl (Yf (by omega) (Yn (.t rfl) Ev.c)) <| .yy (Zs (.t rfl) (.t rfl)) rfl <| .mv rfl <| .gy rfl rfl (Zp (FieldT.mk underlying111 rfl sizeOf3 rfl) (.t rfl) (i' := 2) rfl) <| .gy rfl rfl (Yg ⟨isAgg3, sizeOf3⟩ (.t rfl) (k := 2) rfl rfl) <| .gy rfl rfl (Yf (by omega) (Zy (.t rfl) Ev.c)) <| .yy (Zs (.t rfl) (.t rfl)) rfl <| .mv rfl <| .gy rfl rfl (Zp (FieldT.mk underlying111 rfl sizeOf3 rfl) (.t rfl) (i' := 2) rfl) <| .gy rfl rfl (Yg ⟨isAgg3, sizeOf3⟩ (.t rfl) (k := 2) rfl rfl) <| .gy rfl rfl (Yf (by omega) (Xf (.t rfl) Ev.c)) <| .yy (Zs (.t rfl) (.t rfl)) rfl <| .mv rfl <| .gy rfl rfl (Zp (FieldT.mk underlying111 rfl sizeOf3 rfl) (.t rfl) (i' := 1) rfl) <| .gy rfl rfl (Yg ⟨isAgg3, sizeOf3⟩ (.t rfl) (k := 2) rfl rfl) <| .gy rfl rfl (Zp (FieldT.mk underlying111 rfl sizeOf3 rfl) (.t rfl) (i' := 2) rfl) <| .gy rfl rfl (Yg ⟨isAgg3, sizeOf3⟩ (.t rfl) (k := 2) rfl rfl) <| .gy rfl rfl (Xj Ev.c (.t rfl) (fun _ => by unfold I64; omega)) <| .z) fun a w S => ?_
       rw [rw_w] at S
       refine run S (.gy rfl rfl (Yf (by omega) (Yn (.t rfl) (.t rfl))) <| .yy (Zs (.t rfl) (.t rfl)) rfl <| .z) fun a w S => Zb (Za (hK3 _ _ (Zf S (.t rfl) (wp_skip (Za (hK2 _ _ (sg S (.mv rfl <| .as rfl <| .z) fun a w S => wp_seq_k fun _ hK2 => sg S (.fa underlying111 sizeOf3 2 rfl rfl rfl <| .ld gt3 2 rfl rfl rfl <| .yy (Yf (by omega) (Yt (.t rfl) Ev.c)) rfl <| .z) fun a w S => Zf S (.t rfl) (wp_skip (Za (hK2 _ _ (wp_region_lit (run S (.mv rfl <| .fa underlying111 sizeOf3 2 rfl rfl rfl <| .ld gt3 2 rfl rfl rfl <| .mv rfl <| .la gt111 2 rfl rfl rfl <| .z) fun a w S => ?_))))))))))))
       obtain ⟨hex2, hmu2, _, _, hgv, hsm2, hUs⟩ := ex_tree hT hU hl hok hg ht T (by rw [if_neg h0])
       have hsl : Sl Sm.enc 3 w w.heap.size (.slice m1.su.a m1.su.n m1.su.c) sm := by rw [hm1]; exact Sl.of_own S.wd (k := 4) rfl Sm.enc_len
       refine Zh (Zq S call66 (vs := [.int .i64 m1.to, .pointer (some ⟨g, 0, none⟩), .agg (MV.enc m1).toArray]) (.cons (.t rfl) (.cons (.t rfl) (.cons (.t rfl) .nil))) (c66 w m1.to m1 g cap A gs T sm (h.old S.wd) hT (by omega) hsl hsm2 hUs (by rw [hm1])) rfl ?_)
       clear S
       rintro v L' ⟨C, cC, B2, cB2, rfl, rfl⟩ a w S
       rw [hnn, hto', ans_pend m1 (onA T lv sm) s.sd (1 - s.sd) s.x0 s.x1 (s.n + 1) B2 cB2 hfr hpt hsd rfl] at S
       have hal := pendM_len ⟨(onA T lv sm).gives, 1 - s.sd, (onA T lv sm).tree, s.x0, s.x1, s.n + 1⟩ B2 cB2
       have hsu : ∀ p, (onA T lv sm).tree = some p → Ans.sums (onA T lv sm) = p.2 := fun p hp => by unfold Ans.sums; rw [hp]
       dsimp only at hal
       generalize Ans.sums (onA T lv sm) = su2 at *
       generalize hE : (⟨(onA T lv sm).gives, 1 - s.sd, (onA T lv sm).tree, s.x0, s.x1, s.n + 1⟩ : Ex) = E at *
       generalize hP : pendM E B2 cB2 = an at *
       refine Zh (op_appT (enc := MV.enc) (size := 17) an S underlying114 underlying114 (.inr ⟨_, rfl⟩) inf111 rfl MV.enc_len (k := 5) rfl hnext (.t rfl) (.t rfl) (Src.row S.wd (k := 0) rfl (fun u hu => by obtain ⟨x, _, hx⟩ := List.mem_flatMap.1 hu; exact MV.enc_one x u hx)) (by omega) rfl rfl rfl ?_)
       clear S
       intro g6 j6 cap6 q6 A6 a w hd6 hl6 ht6 S
       simp only [List.set_cons_succ, List.set_cons_zero, List.cons_append, List.nil_append] at S
       refine run S (.as rfl <| .z) fun a w S => Zb (Zg (Za ?_))
       rw [hr, List.nil_append] at hd6
       subst hE
       exact ⟨⟨⟨(onA T lv sm).gives, 1 - s.sd, (onA T lv sm).tree, s.x0, s.x1, s.n + 1⟩, q6, j6, g6, cap6, A6, B2, cB2, su2, m1, D0, c0, D1, c1'⟩, ⟨hex2, ht6, by rw [hd6, ← hP], hsu, by dsimp only; omega⟩, hmu2, S.pk⟩
 | cons k r =>
   obtain ⟨hside, hmu, hkl⟩ := ex_give hT hU hok hg
   have hpd2 : q.drop j = gvM (s.sd : Int) k :: pendM ⟨r, s.sd, s.tr, s.x0, s.x1, s.n⟩ B cB := by rw [hpd]; unfold pendM; rw [hg]; rfl
   obtain ⟨hj, hm, hr⟩ := drop_head hpd2
   have hAt := htl.at_ (by have := htl.room; omega)
   subst hAt
   have hnext := htl.next hj
   have hroom := htl.room
   obtain ⟨m1, hm1⟩ : ∃ m1, m1 = gvM (s.sd : Int) k := ⟨_, rfl⟩
   rw [← hm1] at hm
   have rw_k : decide (m1.kind = 9) = true := by rw [hm1]; rfl
   have rw_key : m1.key = k := by rw [hm1]
   have rw_t : 0 + j * 17 + 0 * 17 = 0 + j * 17 := rfl
   rcases hside with ⟨hsd, hok2⟩ | ⟨hsd, hok2⟩
   · have rw_f : m1.fr = ((0 : Nat) : Int) := by rw [hm1, hsd]
     have halt_d := trivial
     refine wp_seq_k fun _ hK2 => sg S (.mv rfl <| .ln underlying114 rfl <| .yy (Ym (by omega) (Xf (.t rfl) Ev.c)) rfl <| .z) fun a w S => Ze S (.t rfl) (wp_skip (Za (hK2 _ _ (wp_block (wp_seq_k fun _ hK2 => wp_region_lit (run S (.mv rfl <| .yy (Yi (j := 0) underlying114 sizeOf111 (.t rfl) Ev.c (fun _ => by omega)) rfl <| .z) fun a w S => ?_))))))
     rw [rw_t] at S
     refine run S (.yy (Xn ⟨isAgg111, sizeOf111⟩ (.t rfl) (k := 3) rfl hm (fun _ => rfl)) rfl <| .z) fun a w S => Zh (Yb S sizeOf111 (.t rfl) (.t rfl) (k := 2) rfl rfl rfl (by simp [Value.oneCell']) fun a w S => Zb (Za (hK2 _ _ (sg S (.mv rfl <| .yy (ys_slLo underlying114 sizeOf111 (.t rfl) Ev.c (fun _ => by first | omega | (simp; done) | (simp; omega))) rfl <| .as rfl <| .z) fun a w S => wp_seq_k fun _ hK2 => wp_seq_k fun _ hK3 => wp_region_lit (run S (.fa underlying111 sizeOf3 0 rfl rfl rfl <| .ld gt3 2 rfl rfl rfl <| .yy (Yt (.t rfl) Ev.c) rfl <| .z) fun a w S => ?_)))))
     rw [rw_k] at S
     refine Zb (Za (hK3 _ _ (Ze S (.t rfl) (wp_seq_k fun _ hK3 => ?_))))
     clear halt_d
     refine h_begin S (by kernel_rfl) [.blk g1 (.cells #[.slice none 0 0, .slice none 0 0] 71), .blk g3 (.cells (MV.enc m1).toArray 111), rowOf 111 17 MV.enc (some ⟨gq, 0, none⟩) cq q, rowOf 28 3 Sm.enc B cB sm, rowOf 9 1 encS' D1 c1' s.x1] ?_
     clear S a w
     intro a w S
     refine hy 0 S rfl (Zp (FieldT.mk underlying111 rfl sizeOf3 rfl) (.t rfl) (i' := 1) rfl) rfl fun a w S => hy 1 S rfl (Yg ⟨isAgg3, sizeOf3⟩ (.t rfl) (k := 1) rfl rfl) rfl fun a w S => ?_
     rw [rw_f] at S
     refine hy 2 S rfl (Zp (FieldT.mk underlying111 rfl sizeOf3 rfl) (.t rfl) (i' := 1) rfl) rfl fun a w S => hy 3 S rfl (Yg ⟨isAgg3, sizeOf3⟩ (.t rfl) (k := 1) rfl rfl) rfl fun a w S => ?_
     rw [rw_f] at S
     refine hy 4 S rfl (Yj underlying71 sizeOf61 (.t rfl) (.t rfl) (fun _ => by omega)) rfl fun a w S => hy 6 S rfl (Zp (FieldT.mk underlying111 rfl sizeOf9 rfl) (.t rfl) (i' := 4) rfl) rfl fun a w S => hy 7 S rfl (Yg ⟨isAgg9, sizeOf9⟩ (.t rfl) (k := 1) rfl rfl) rfl fun a w S => ?_
     rw [rw_key] at S
     refine h_split (i := 5) (j := 8) (by kernel_rfl) rfl rfl ?_ ?_
     (refine op_y S (Yr.ys (Yg ⟨isAgg61, sizeOf61⟩ (.t rfl) (k := 1) rfl rfl)) rfl ?_; clear S a w; intro a w S; refine Yw S ?_)
     (refine h_m (i := 8) rfl (by kernel_rfl) (Zm S underlying61 inf9 rfl rfl rfl (.t rfl) rfl rfl rfl ?_); clear S a w; intro g5 a w S; refine Yw S ?_)
     (refine h_m (i := 9) rfl (by kernel_rfl) (Zw S underlying61 inf9 rfl (k := 6) (j := 0) rfl (.t rfl) (.t rfl) rfl rfl rfl rfl (by first | omega | (simp only [List.length_append, List.length_cons, List.length_nil]; omega)) rfl rfl rfl ?_); clear S a w; intro A1 cap1 a w S; refine Yw S ?_)
     refine hy 10 S rfl (Yj underlying71 sizeOf61 (.t rfl) (.t rfl) (fun _ => by omega)) rfl fun a w S => ?_
     (refine h_m0 (i := 11) rfl (by kernel_rfl) (Xy S sizeOf61 (.t rfl) (.t rfl) (k := 2) rfl rfl (by simp) ?_); clear S a w; intro a w S; refine Yw S ?_)
     refine Xe (by kernel_rfl) (Za (hK3 _ _ (wp_exit (Zc (Zn (Za ?_))))))
     rotate_left
     (refine Zm S underlying61 inf9 rfl rfl rfl (.t rfl) rfl rfl rfl ?_; clear S a w; intro g5 a w S; refine Yw S ?_)
     refine h_q (i := 5) S (by repeat (first | exact List.Sublist.refl _ | exact List.nil_sublist _ | refine .cons_cons _ ?_ | refine .cons _ ?_)) rfl (by kernel_rfl) (Yr.ys (Yg ⟨isAgg61, sizeOf61⟩ (.t rfl) (k := 2) rfl rfl)) rfl fun a w S => ?_
     (refine h_m (i := 9) rfl (by kernel_rfl) (Zw S underlying61 inf9 rfl (k := 6) (j := 0) rfl (.t rfl) (.t rfl) rfl rfl rfl rfl (by first | omega | (simp only [List.length_append, List.length_cons, List.length_nil]; omega)) rfl rfl rfl ?_); clear S a w; intro A1 cap1 a w S; refine Yw S ?_)
     refine hy 10 S rfl (Yj underlying71 sizeOf61 (.t rfl) (.t rfl) (fun _ => by omega)) rfl fun a w S => ?_
     (refine h_m0 (i := 11) rfl (by kernel_rfl) (Xy S sizeOf61 (.t rfl) (.t rfl) (k := 2) rfl rfl (by simp) ?_); clear S a w; intro a w S; refine Yw S ?_)
     refine Xe (by kernel_rfl) (Za (hK3 _ _ (wp_exit (Zc (Zn (Za ?_))))))
     rotate_left
     · have e1 : q.length - j - 1 = q.length - (j + 1) := rfl
       have e2 : cq - j - 1 = cq - (j + 1) := rfl
       rw [e1, e2] at S
       have e3 : exMu T U ⟨r, s.sd, s.tr, s.x0 ++ [k], s.x1, s.n⟩ < exMu T U s := hmu
       have e4 : q.drop (j + 1) = pendM ⟨r, s.sd, s.tr, s.x0 ++ [k], s.x1, s.n⟩ B cB := hr
       exact ⟨⟨⟨r, s.sd, s.tr, s.x0 ++ [k], s.x1, s.n⟩, q, j + 1, gq, cq, _, B, cB, sm, m1, A1, cap1, D1, c1'⟩, ⟨hok2, hnext, e4, hsm, hql⟩, e3, S.pk⟩
     · have e1 : q.length - j - 1 = q.length - (j + 1) := rfl
       have e2 : cq - j - 1 = cq - (j + 1) := rfl
       rw [e1, e2] at S
       have e3 : exMu T U ⟨r, s.sd, s.tr, s.x0 ++ [k], s.x1, s.n⟩ < exMu T U s := hmu
       have e4 : q.drop (j + 1) = pendM ⟨r, s.sd, s.tr, s.x0 ++ [k], s.x1, s.n⟩ B cB := hr
       exact ⟨⟨⟨r, s.sd, s.tr, s.x0 ++ [k], s.x1, s.n⟩, q, j + 1, gq, cq, _, B, cB, sm, m1, A1, cap1, D1, c1'⟩, ⟨hok2, hnext, e4, hsm, hql⟩, e3, S.pk⟩
   · have rw_f : m1.fr = ((1 : Nat) : Int) := by rw [hm1, hsd]
     have halt_d := trivial
     refine wp_seq_k fun _ hK2 => sg S (.mv rfl <| .ln underlying114 rfl <| .yy (Ym (by omega) (Xf (.t rfl) Ev.c)) rfl <| .z) fun a w S => Ze S (.t rfl) (wp_skip (Za (hK2 _ _ (wp_block (wp_seq_k fun _ hK2 => wp_region_lit (run S (.mv rfl <| .yy (Yi (j := 0) underlying114 sizeOf111 (.t rfl) Ev.c (fun _ => by omega)) rfl <| .z) fun a w S => ?_))))))
     rw [rw_t] at S
     refine run S (.yy (Xn ⟨isAgg111, sizeOf111⟩ (.t rfl) (k := 3) rfl hm (fun _ => rfl)) rfl <| .z) fun a w S => Zh (Yb S sizeOf111 (.t rfl) (.t rfl) (k := 2) rfl rfl rfl (by simp [Value.oneCell']) fun a w S => Zb (Za (hK2 _ _ (sg S (.mv rfl <| .yy (ys_slLo underlying114 sizeOf111 (.t rfl) Ev.c (fun _ => by first | omega | (simp; done) | (simp; omega))) rfl <| .as rfl <| .z) fun a w S => wp_seq_k fun _ hK2 => wp_seq_k fun _ hK3 => wp_region_lit (run S (.fa underlying111 sizeOf3 0 rfl rfl rfl <| .ld gt3 2 rfl rfl rfl <| .yy (Yt (.t rfl) Ev.c) rfl <| .z) fun a w S => ?_)))))
     rw [rw_k] at S
     refine Zb (Za (hK3 _ _ (Ze S (.t rfl) (wp_seq_k fun _ hK3 => ?_))))
     clear halt_d
     refine h_begin S (by kernel_rfl) [.blk g1 (.cells #[.slice none 0 0, .slice none 0 0] 71), .blk g3 (.cells (MV.enc m1).toArray 111), rowOf 111 17 MV.enc (some ⟨gq, 0, none⟩) cq q, rowOf 28 3 Sm.enc B cB sm, rowOf 9 1 encS' D0 c0 s.x0] ?_
     clear S a w
     intro a w S
     refine hy 0 S rfl (Zp (FieldT.mk underlying111 rfl sizeOf3 rfl) (.t rfl) (i' := 1) rfl) rfl fun a w S => hy 1 S rfl (Yg ⟨isAgg3, sizeOf3⟩ (.t rfl) (k := 1) rfl rfl) rfl fun a w S => ?_
     rw [rw_f] at S
     refine hy 2 S rfl (Zp (FieldT.mk underlying111 rfl sizeOf3 rfl) (.t rfl) (i' := 1) rfl) rfl fun a w S => hy 3 S rfl (Yg ⟨isAgg3, sizeOf3⟩ (.t rfl) (k := 1) rfl rfl) rfl fun a w S => ?_
     rw [rw_f] at S
     refine hy 4 S rfl (Yj underlying71 sizeOf61 (.t rfl) (.t rfl) (fun _ => by omega)) rfl fun a w S => hy 6 S rfl (Zp (FieldT.mk underlying111 rfl sizeOf9 rfl) (.t rfl) (i' := 4) rfl) rfl fun a w S => hy 7 S rfl (Yg ⟨isAgg9, sizeOf9⟩ (.t rfl) (k := 1) rfl rfl) rfl fun a w S => ?_
     rw [rw_key] at S
     refine h_split (i := 5) (j := 8) (by kernel_rfl) rfl rfl ?_ ?_
     (refine op_y S (Yr.ys (Yg ⟨isAgg61, sizeOf61⟩ (.t rfl) (k := 1) rfl rfl)) rfl ?_; clear S a w; intro a w S; refine Yw S ?_)
     (refine h_m (i := 8) rfl (by kernel_rfl) (Zm S underlying61 inf9 rfl rfl rfl (.t rfl) rfl rfl rfl ?_); clear S a w; intro g5 a w S; refine Yw S ?_)
     (refine h_m (i := 9) rfl (by kernel_rfl) (Zw S underlying61 inf9 rfl (k := 7) (j := 0) rfl (.t rfl) (.t rfl) rfl rfl rfl rfl (by first | omega | (simp only [List.length_append, List.length_cons, List.length_nil]; omega)) rfl rfl rfl ?_); clear S a w; intro A1 cap1 a w S; refine Yw S ?_)
     refine hy 10 S rfl (Yj underlying71 sizeOf61 (.t rfl) (.t rfl) (fun _ => by omega)) rfl fun a w S => ?_
     (refine h_m0 (i := 11) rfl (by kernel_rfl) (Xy S sizeOf61 (.t rfl) (.t rfl) (k := 2) rfl rfl (by simp) ?_); clear S a w; intro a w S; refine Yw S ?_)
     refine Xe (by kernel_rfl) (Za (hK3 _ _ (wp_exit (Zc (Zn (Za ?_))))))
     rotate_left
     (refine Zm S underlying61 inf9 rfl rfl rfl (.t rfl) rfl rfl rfl ?_; clear S a w; intro g5 a w S; refine Yw S ?_)
     refine h_q (i := 5) S (by repeat (first | exact List.Sublist.refl _ | exact List.nil_sublist _ | refine .cons_cons _ ?_ | refine .cons _ ?_)) rfl (by kernel_rfl) (Yr.ys (Yg ⟨isAgg61, sizeOf61⟩ (.t rfl) (k := 2) rfl rfl)) rfl fun a w S => ?_
     (refine h_m (i := 9) rfl (by kernel_rfl) (Zw S underlying61 inf9 rfl (k := 7) (j := 0) rfl (.t rfl) (.t rfl) rfl rfl rfl rfl (by first | omega | (simp only [List.length_append, List.length_cons, List.length_nil]; omega)) rfl rfl rfl ?_); clear S a w; intro A1 cap1 a w S; refine Yw S ?_)
     refine hy 10 S rfl (Yj underlying71 sizeOf61 (.t rfl) (.t rfl) (fun _ => by omega)) rfl fun a w S => ?_
     (refine h_m0 (i := 11) rfl (by kernel_rfl) (Xy S sizeOf61 (.t rfl) (.t rfl) (k := 2) rfl rfl (by simp) ?_); clear S a w; intro a w S; refine Yw S ?_)
     refine Xe (by kernel_rfl) (Za (hK3 _ _ (wp_exit (Zc (Zn (Za ?_))))))
     rotate_left
     · have e1 : q.length - j - 1 = q.length - (j + 1) := rfl
       have e2 : cq - j - 1 = cq - (j + 1) := rfl
       rw [e1, e2] at S
       have e3 : exMu T U ⟨r, s.sd, s.tr, s.x0, s.x1 ++ [k], s.n⟩ < exMu T U s := hmu
       have e4 : q.drop (j + 1) = pendM ⟨r, s.sd, s.tr, s.x0, s.x1 ++ [k], s.n⟩ B cB := hr
       exact ⟨⟨⟨r, s.sd, s.tr, s.x0, s.x1 ++ [k], s.n⟩, q, j + 1, gq, cq, _, B, cB, sm, m1, D0, c0, A1, cap1⟩, ⟨hok2, hnext, e4, hsm, hql⟩, e3, S.pk⟩
     · have e1 : q.length - j - 1 = q.length - (j + 1) := rfl
       have e2 : cq - j - 1 = cq - (j + 1) := rfl
       rw [e1, e2] at S
       have e3 : exMu T U ⟨r, s.sd, s.tr, s.x0, s.x1 ++ [k], s.n⟩ < exMu T U s := hmu
       have e4 : q.drop (j + 1) = pendM ⟨r, s.sd, s.tr, s.x0, s.x1 ++ [k], s.n⟩ B cB := hr
       exact ⟨⟨⟨r, s.sd, s.tr, s.x0, s.x1 ++ [k], s.n⟩, q, j + 1, gq, cq, _, B, cB, sm, m1, D0, c0, A1, cap1⟩, ⟨hok2, hnext, e4, hsm, hql⟩, e3, S.pk⟩
end Go.Proofs.Ytbijdmfilmecbaa
namespace Go.Fw
open Go.RowKit
def sortS (l : List (List UInt8)) : List (List UInt8) := l.mergeSort fun x y => decide (x ≤ y)
theorem sortS_perm (l : List (List UInt8)) : (sortS l).Perm l := List.mergeSort_perm _ _
theorem sortS_len (l : List (List UInt8)) : (sortS l).length = l.length := (sortS_perm l).length_eq
theorem sortS_rise {l : List (List UInt8)} (h : l.Nodup) : (sortS l).Pairwise (fun a b => Op.bytesLess a b = true) := by
 have h1 : (sortS l).Pairwise (fun a b => decide (a ≤ b) = true) := List.pairwise_mergeSort (fun a b c h1 h2 => by
   rw [decide_eq_true_eq] at *
   exact List.le_trans h1 h2) (fun a b => by
   rw [Bool.or_eq_true, decide_eq_true_eq, decide_eq_true_eq]
   exact List.le_total a b) l
 have h2 : (sortS l).Nodup := (sortS_perm l).nodup_iff.2 h
 exact (h1.and h2).imp fun {a b} ⟨h4, h5⟩ => by
   rw [decide_eq_true_eq, le_less] at h4
   exact (Xt h5).resolve_right (by rw [h4]; simp)
theorem sortS_eq {l m : List (List UInt8)} (hl : l.Nodup) (hm : m.Nodup) (h : ∀ k, k ∈ l ↔ k ∈ m) : sortS l = sortS m :=
 Xm (R := fun a b => Op.bytesLess a b = true) (fun a => by rw [Xi]; simp) (fun a b h => by rw [Xd h]; simp) (sortS_rise hl) (sortS_rise hm) fun x => by
   rw [(sortS_perm l).mem_iff, (sortS_perm m).mem_iff]
   exact h x
theorem wantK_snoc {l m : List Sm} {i : Nat} {s : Sm} (h : l[i]? = some s) : wantK (l.take (i + 1)) m = if s ∈ m then wantK (l.take i) m else wantK (l.take i) m ++ [s.key] := by
 unfold wantK
 rw [List.take_add_one, h, Option.toList_some, List.filter_append, List.map_append]
 by_cases hs : s ∈ m
 · rw [if_pos hs, List.filter_cons_of_neg (by simpa using hs)]
   simp
 · rw [if_neg hs, List.filter_cons_of_pos (by simpa using hs)]
   simp
theorem wantK_len (l m : List Sm) : (wantK l m).length ≤ l.length := by
 unfold wantK
 rw [List.length_map]
 exact List.length_filter_le _ _
theorem right_sums {l : List Sm} (h : RightOk l) (hl : l.length ≤ 1048576) : Sums l := ⟨h.hash, fun x hx => Nat.le_trans (name_short (h.name x hx)) (by decide), hl⟩
theorem have_nodup {T U V : List KH} (hT : KhOk T) (hU : KhOk U) : (haveT V (missU T U)).Nodup := by
 unfold haveT
 exact (List.Pairwise.imp (fun h => less_ne h) (missU_sorted hT hU)).filter _
theorem given_want {l m : List Sm} (hl : RightOk l) (hm : RightOk m) (hT : KhOk (setsT [] l)) (hU : KhOk (setsT [] m)) : sortS (wantK l m) = sortS (haveT (setsT [] l) (missU (setsT [] l) (setsT [] m))) :=
 sortS_eq (want_once hl) (have_nodup hT hU) fun k => (want_mem hl hm).trans (have_miss hT hU).symm
theorem given_want2 {l m : List Sm} (hl : RightOk l) (hm : RightOk m) (hT : KhOk (setsT [] l)) (hU : KhOk (setsT [] m)) : sortS (wantK m l) = sortS (haveT (setsT [] m) (missU (setsT [] l) (setsT [] m))) :=
 sortS_eq (want_once hm) (have_nodup hT hU) fun k => (want_mem hm hl).trans (have_miss2 hT hU).symm
theorem none_want {l m : List Sm} (hl : RightOk l) (hm : RightOk m) (hT : KhOk (setsT [] l)) (hU : KhOk (setsT [] m)) (h1 : wantK l m = []) (h2 : wantK m l = []) : filtT (setsT [] l) (setsT [] m) 0 = [] := by
 have e : setsT [] l = setsT [] m := by
   refine kh_ext hT.sorted hU.sorted fun x => ?_
   obtain ⟨k, u⟩ := x
   constructor
   · intro hx
     refine Decidable.byContradiction fun hn => ?_
     have := (want_mem hl hm).2 ⟨u, hx, hn⟩
     rw [h1] at this
     cases this
   · intro hx
     refine Decidable.byContradiction fun hn => ?_
     have := (want_mem hm hl).2 ⟨u, hx, hn⟩
     rw [h2] at this
     cases this
 rw [e]
 unfold filtT
 refine List.filter_eq_nil_iff.2 fun p _ => ?_
 unfold diffT
 simp
end Go.Fw
namespace Go.Fw
open Go.RowKit Go.Sort Go.Proofs
theorem flatS (l : List (List UInt8)) : l.flatMap encS' = l.map encStr := by
 induction l with
 | nil => rfl
 | cons a r ih => rw [List.flatMap_cons, ih]; rfl
theorem holdsS_of {w0 w : World} {L : List Chunk} (W : Wd w0 L w) {k e cap g : Nat} {l : List (List UInt8)} (hk : L[k]? = some (rowOf e 1 encS' (some ⟨g, 0, none⟩) cap l)) (hc : cap ≠ 0) : Holds encStr w g 0 l.toArray ∧ g < w.heap.size := by
 have h := W.get hk
 refine ⟨fun j hj => ?_, (h.lt (b := g) ⟨hc, rfl⟩).2⟩
 rcases h.2 with ⟨_, h0⟩ | ⟨g', cur, hA, hp, hB, hg, hn, hm, hcs, ht⟩
 · exact absurd h0 hc
 · simp only [Option.some.injEq, Addr.mk.injEq, and_true] at hA
   subst hA
   have hj' : j < l.length := by simpa using hj
   refine ⟨?_, frozen_of_row w g _ _ e hg⟩
   rw [cell_of_row w g (0 + j) cur e (0, 0) hg, Nat.zero_add]
   have e1 : cur[j]? = (l.map encStr)[j]? := by
     rw [← Array.getElem?_toList, ← flatS, ← ht, List.getElem?_take, if_pos (by omega)]
   rw [e1, List.getElem?_map, List.getElem?_eq_getElem hj', getElem!_pos _ j hj]
   simp
theorem Wd.sortS {w0 w : World} {L : List Chunk} (W : Wd w0 L w) {k e cap g : Nat} {l l' : List (List UInt8)} (hk : L[k]? = some (rowOf e 1 encS' (some ⟨g, 0, none⟩) cap l)) (hc : cap ≠ 0) (hl : l'.length = l.length) (m : Nat) (os : Array Obj) :
   Wd w0 (L.set k (rowOf e 1 encS' (some ⟨g, 0, none⟩) cap l')) (grow (putRow encStr (Go.Sort.ahead w m) g 0 l'.toArray) os) := by
 have h := W.get hk
 have hlt := (h.lt (b := g) ⟨hc, rfl⟩).2
 rcases h.2 with ⟨_, h0⟩ | ⟨g', cur, hA, hp, hB, hg, hn, hm, hcs, ht⟩
 · exact absurd h0 hc
 · simp only [Option.some.injEq, Addr.mk.injEq, and_true] at hA
   subst hA
   have hheap : ∀ j, j < w.heap.size → (grow (putRow encStr (Go.Sort.ahead w m) g 0 l'.toArray) os).heap[j]? = if g = j then some (.cells (putCells encStr 0 l'.toArray cur) e (0, 0)) else w.heap[j]? := fun j hj => by
     unfold putRow mapBlock grow Go.Sort.ahead
     simp only
     rw [Array.getElem?_append_left (by simpa using hj), Array.getElem?_modify]
     split
     · rename_i e1
       subst e1
       rw [hg]
       rfl
     · rfl
   refine W.change hk ⟨rfl, rfl, rfl, by simp [putRow, mapBlock, grow, Go.Sort.ahead], fun j hj hne => ?_, by simp [putRow, mapBlock, grow, Go.Sort.ahead]⟩ ⟨by rw [flatS, List.length_map, Nat.mul_one], .inr ⟨g, _, rfl, hp, hB, by rw [hheap g hlt, if_pos rfl], by rw [hl]; exact hn, hm, by simp [putCells, hcs], ?_⟩⟩ fun b hb => .inl hb
   · rw [hheap j hj, if_neg (fun e1 => hne ⟨hc, by simp [e1]⟩)]
   · have hle : l'.length ≤ cur.size := by rw [hcs, hl]; omega
     rw [flatS, Nat.mul_one]
     apply List.ext_getElem?
     intro i
     rw [List.getElem?_take]
     split
     · rename_i hi
       rw [Array.getElem?_toList, putCells, Array.getElem?_mapIdx, Array.getElem?_eq_getElem (by omega)]
       have hsz : i < l'.toArray.size := by simpa using hi
       simp only [Option.map_some, Nat.zero_le, Nat.zero_add, true_and, Nat.sub_zero]
       rw [if_pos hsz, getElem!_pos _ i hsz, List.getElem?_map, List.getElem?_eq_getElem hi]
       simp
     · rename_i hi
       rw [List.getElem?_eq_none (by rw [List.length_map]; omega)]
end Go.Fw
namespace Go.Proofs.Ytbijdmfilmecbaa
open Go.Fw Go.Proofs Go.RowKit Go.Sort Go.Proofs.Try
theorem so43 {w0 w : World} {L : List Chunk} {A : Option Addr} {cap : Nat} {l : List (List UInt8)} (W : Wd w0 (rowOf 9 1 encS' A cap l :: L) w) (hn : l.length ≤ 4194304) :
   RetsO Try.prog 43 #[.slice A l.length cap] w0 w fun v L' => v = .tuple #[] ∧ L' = rowOf 9 1 encS' A cap (l.mergeSort fun x y => decide (x ≤ y)) :: L := by
 obtain ⟨hlc, hcm⟩ := W.room (k := 0) rfl
 by_cases hc : cap = 0
 · have : l = [] := List.eq_nil_of_length_eq_zero (by omega)
   subst this
   refine Calls.mono (AnyM.slices_Sort_string_none Try.sortS A cap w) fun e' w' ⟨he, hw⟩ => ?_
   subst hw
   exact ⟨_, _, he, W, rfl, by simp⟩
 · obtain ⟨ga, rfl⟩ := W.row_at (k := 0) rfl hc
   obtain ⟨hH, hlt⟩ := holdsS_of W (k := 0) rfl hc
   refine Calls.mono (AnyM.slices_Sort_string Try.sortS ga 0 cap l w hH hlt (by omega)) fun e' w' ⟨he, n, os, hw⟩ => ?_
   subst hw
   have hW := W.sortS (k := 0) rfl hc (l' := l.mergeSort fun x y => decide (x ≤ y)) (List.mergeSort_perm _ _).length_eq n os
   exact ⟨_, _, he, hW, rfl, rfl⟩
end Go.Proofs.Ytbijdmfilmecbaa
namespace Go.Proofs.Ytbijdmfilmecbaa
open Go.Fw Go.Proofs Go.RowKit Go.Proofs.Try
theorem c37 (w0 : World) (v v' : Value) (l l' : List (List UInt8)) (h : Sl encS' 1 w0 w0.heap.size v l) (h' : Sl encS' 1 w0 w0.heap.size v' l') :
   Calls Try.prog 37 #[v, v'] w0 fun e w' => e = .returned (.bool (decide (l = l'))) ∧ Bel w0.heap.size w0 w' := by
 obtain ⟨A, cap, rfl, hl, hcap, hA⟩ := h
 obtain ⟨A', cap', rfl, hl', hcap', hA'⟩ := h'
 refine enter2 func37 rfl ntmps37 rfl fun a S => sg S (.ac rfl <| .z) fun a w S => wp_seq_k fun _ hK1 => sg S (.mv rfl <| .ln underlying61 rfl <| .mv rfl <| .ln underlying61 rfl <| .yy (Yn (.t rfl) (.t rfl)) rfl <| .z) fun a w S => ?_
 refine st_if S (.t rfl) (fun h1 => ?_) (fun h1 => ?_)
 refine sg S (.ac rfl <| .z) fun a w S => wp_ret (Zj (Zk S (results1 S results37 (Rv.tmp rfl)) ?_))
 rotate_left
 refine wp_skip (Za (hK1 _ _ (wp_seq_k fun _ hK1 => sg S (.mv rfl <| .ln underlying61 rfl <| .mc rfl <| .z) fun a w S => wp_block ?_)))
 rotate_left
 · refine ⟨?_, S.wd.below⟩
   rw [decide_eq_false (fun e => h1 (by rw [e]))]
 · refine st_lpK S (X := Nat) (fun k => [(13, true, .int .i64 (k : Int))]) (fun _ L => L) (fun k => k ≤ l.length ∧ l.take k = l'.take k) (fun k => l.length - k) 0 ⟨Nat.zero_le _, rfl⟩ ?_
   clear S
   intro k a w ⟨hk, hno⟩ S
   by_cases hlt : k < l.length
   · obtain ⟨g, o, m, rfl, hmm, hd, hc⟩ := Yc hA hlt
     obtain ⟨g', o', m', rfl, hmm', hd', hc'⟩ := Yc hA' (show k < l'.length by omega)
     clear hA hA'
     by_cases he : m = m'
     · have rw_e : decide (m ≠ m') = false := decide_eq_false (fun h => h he)
       refine sg S (.lt (by omega) rfl rfl <| .z) fun a w S => wp_seq_k fun _ hK2 => Ze S (.t rfl) (wp_skip (Za (hK2 _ _ (wp_seq_k fun _ hK2 => wp_block (sg S (.mv rfl <| .as rfl <| .z) fun a w S => wp_seq_k fun _ hK3 => Xk S (by kernel_rfl) (by kernel_rfl) fun a S => qrun S (.mv rfl <| .mv rfl <| .ix underlying61 sizeOf9 (by omega) rfl rfl <| .yy (Ya ⟨isAgg9, sizeOf9⟩ (.t rfl) (fun _ => hc 0 _ rfl)) rfl <| .mv rfl <| .mv rfl <| .ix underlying61 sizeOf9 (by omega) rfl rfl <| .yy (Ya ⟨isAgg9, sizeOf9⟩ (.t rfl) (fun _ => hc' 0 _ rfl)) rfl <| .yy (ys_neqStr (.t rfl) (.t rfl)) rfl <| .z) fun a S => ?_)))))
       rw [rw_e] at S
       (refine q_nil ?_; intro w W; replace S := St.mk S W; clear W)
       refine Za (hK3 _ _ (Zf S (.t rfl) (wp_skip (Zg (Za (hK2 _ _ (wp_region_lit (run S (.ad (by unfold I64; omega) rfl <| .mv rfl <| .z) fun a w S => Zb (Za ?_)))))))))
       exact ⟨k + 1, ⟨by omega, at_step hno hmm hmm' he⟩, by omega, S.wk⟩
     · have rw_e : decide (m ≠ m') = true := decide_eq_true he
       refine sg S (.lt (by omega) rfl rfl <| .z) fun a w S => wp_seq_k fun _ hK2 => Ze S (.t rfl) (wp_skip (Za (hK2 _ _ (wp_seq_k fun _ hK2 => wp_block (sg S (.mv rfl <| .as rfl <| .z) fun a w S => wp_seq_k fun _ hK3 => Xk S (by kernel_rfl) (by kernel_rfl) fun a S => qrun S (.mv rfl <| .mv rfl <| .ix underlying61 sizeOf9 (by omega) rfl rfl <| .yy (Ya ⟨isAgg9, sizeOf9⟩ (.t rfl) (fun _ => hc 0 _ rfl)) rfl <| .mv rfl <| .mv rfl <| .ix underlying61 sizeOf9 (by omega) rfl rfl <| .yy (Ya ⟨isAgg9, sizeOf9⟩ (.t rfl) (fun _ => hc' 0 _ rfl)) rfl <| .yy (ys_neqStr (.t rfl) (.t rfl)) rfl <| .z) fun a S => ?_)))))
       rw [rw_e] at S
       (refine q_nil ?_; intro w W; replace S := St.mk S W; clear W)
       refine Za (hK3 _ _ (Ze S (.t rfl) (sg S (.ac rfl <| .z) fun a w S => wp_ret (Yk (Zj (Zj (Yk (Zj (Zk S (results1 S results37 (Rv.tmp rfl)) ?_)))))))))
       exact ⟨by rw [at_ne hmm hmm' he], S.wd.below⟩
   · refine sg S (.ge (by omega) rfl rfl <| .z) fun a w S => wp_seq_k fun _ hK2 => Zf S (.t rfl) (wp_exit (Zc (Zc (Zn (Za (hK1 _ _ (sg S (.ac rfl <| .z) fun a w S => wp_ret (Zk S (results1 S results37 (Rv.tmp rfl)) ?_))))))))
     refine ⟨?_, S.wd.below⟩
     rw [decide_eq_true]
     rw [List.take_of_length_le (by omega), List.take_of_length_le (by omega)] at hno
     exact hno
end Go.Proofs.Ytbijdmfilmecbaa
namespace Go.Proofs.Ytbijdmfilmecbaa
open Go.Fw Go.Proofs Go.RowKit Go.Proofs.Try
theorem c40 (w0 : World) : Calls Try.prog 40 #[] w0 fun e w' => e = .returned (.int .i64 8) ∧ Bel w0.heap.size w0 w' := by
 refine enter0 func40 rfl ntmps40 rfl fun a S => sg S (.ac rfl <| .z) fun a w S => sg S (.ac rfl <| .z) fun a w S => wp_ret (Zk S (results1 S results40 (Rv.tmp rfl)) ?_)
 exact ⟨rfl, S.wd.below⟩
theorem c8 (w0 : World) (v1 v2 : Value) (l m : List Sm) (h1 : Sl Sm.enc 3 w0 w0.heap.size v1 l) (s1 : Sums l) (h2 : Sl Sm.enc 3 w0 w0.heap.size v2 m) (s2 : Sums m) (hlm : (rightL l).length + (rightL m).length ≤ 524287) :
   Calls Try.prog 8 #[v1, v2] w0 fun e w' => e = .returned (.bool true) ∧ Bel w0.heap.size w0 w' := by
 have o1 : RightOk (rightL l) := right_ok l [] right_nil s1.hash
 have o2 : RightOk (rightL m) := right_ok m [] right_nil s2.hash
 obtain ⟨R1, rw_r1⟩ : ∃ R, rightL l = R := ⟨_, rfl⟩
 obtain ⟨R2, rw_r2⟩ : ∃ R, rightL m = R := ⟨_, rfl⟩
 rw [rw_r1] at o1 hlm
 rw [rw_r2] at o2 hlm
 have t1 := right_sums o1 (by omega)
 have t2 := right_sums o2 (by omega)
 have hT := t1.ok
 have hU := t2.ok
 have hTl := sets_len R1 []
 have hUl := sets_len R2 []
 rw [List.length_nil] at hTl hUl
 have q1 := given_want o1 o2 hT hU
 have q2 := given_want2 o1 o2 hT hU
 have q3 := none_want o1 o2 hT hU
 have hX : clashA (setsT [] R1) (setsT [] R2) 5 = false → missX (setsT [] R1) (setsT [] R2) = missU (setsT [] R1) (setsT [] R2) := fun h => missX_eq hT hU (no_clashA hT hU h)
 have hTU0 : (setsT [] R1).length + (setsT [] R2).length ≤ 524287 := by omega
 obtain ⟨cb, hcl⟩ : ∃ cb, clashA (setsT [] R1) (setsT [] R2) 5 = cb := ⟨_, rfl⟩
 cases cb with
 | true =>
   have rw_c := hcl
   refine enter2 func8 rfl ntmps8 rfl fun a S => sg S (.ac rfl <| .z) fun a w S => wp_seq_k fun _ hK1 => wp_region_lit (run S (.mv rfl <| .z) fun a w S => ?_)
   (refine Zh (Zq S call38 (.cons (.t rfl) .nil) (c38 _ _ _ (by exact .old S.wd (by assumption)) (by assumption)) rfl ?_); clear S a w; rintro _ _ ⟨B1, c1, rfl, rfl⟩ a w S)
   rw [rw_r1] at S
   refine run S (.mv rfl <| .z) fun a w S => ?_
   (refine Zh (Zq S call38 (.cons (.t rfl) .nil) (c38 _ _ _ (by exact .old S.wd (by assumption)) (by assumption)) rfl ?_); clear S a w; rintro _ _ ⟨B2, c2, rfl, rfl⟩ a w S)
   rw [rw_r2] at S
   refine run S (.as rfl <| .as rfl <| .z) fun a w S => Zb (Za (hK1 _ _ (wp_seq_k fun _ hK1 => wp_region_lit (run S (.mv rfl <| .z) fun a w S => ?_))))
   (refine Zh (Zq S call9 (.cons (.t rfl) .nil) (c9 _ _ _ (by exact Sl.of_own S.wd (k := 1) rfl (fun _ => rfl)) (by assumption)) rfl ?_); clear S a w; rintro _ _ ⟨g1, A1, cap1, gs1, w11, bs1, rfl, rfl, hr11⟩ a w S)
   refine run S (.mv rfl <| .z) fun a w S => ?_
   (refine Zh (Zq S call9 (.cons (.t rfl) .nil) (c9 _ _ _ (by exact Sl.of_own S.wd (k := 3) rfl (fun _ => rfl)) (by assumption)) rfl ?_); clear S a w; rintro _ _ ⟨g2, A2, cap2, gs2, w12, bs2, rfl, rfl, hr12⟩ a w S)
   refine run S (.as rfl <| .as rfl <| .z) fun a w S => Zb (Za (hK1 _ _ (wp_seq_k fun _ hK1 => wp_region_lit (run S (.mv rfl <| .mv rfl <| .z) fun a w S => ?_))))
   (refine Zh (Zq S call39 (.cons (.t rfl) (.cons (.t rfl) .nil)) (c39 _ _ _ _ _ _ _ _ _ _ _ (by exact sl_m1 S.wd (k := 3) rfl) (by exact sl_m1 S.wd (k := 0) rfl) (by assumption) (by assumption) (by assumption)) rfl ?_); clear S a w; rintro _ _ ⟨n1, B3, c3, B'1, c'1, rfl, rfl, hr13, hr21⟩ a w S)
   refine run S (.mv rfl <| .ex rfl rfl <| .ex rfl rfl <| .ex rfl rfl <| .z) fun a w S => Zh (Zr S zeroValue71 (cs := _) rfl rfl fun g3 a w S => Zh (Yb S sizeOf71 (.t rfl) (.t rfl) (k := 0) rfl rfl rfl (by simp [Value.oneCell']) fun a w S => run S (.as rfl <| .as rfl <| .z) fun a w S => Zb (Za (hK1 _ _ (wp_seq_k fun _ hK1 => sg S (.mv rfl <| .nt rfl <| .mv rfl <| .gy rfl rfl (Zd (.t rfl)) <| .gx rfl rfl (Zi call40 .nil (fun hp w W => c40 _)) <| .gy rfl rfl (Yf (by omega) (Xf (.t rfl) (.t rfl))) <| .yy (Zs (.t rfl) (.t rfl)) rfl <| .z) fun a w S => Zf S (.t rfl) (wp_skip (Za (hK1 _ _ (wp_seq_k fun _ hK1 => wp_seq_k fun _ hK2 => wp_region_lit (run S (.mv rfl <| .mv rfl <| .xx (Zi call41 (.cons (.t rfl) (.cons (.t rfl) .nil)) (fun hp w W => c41 _ _ _ _ _ (by exact Sl.of_own W (k := 10) rfl (fun _ => rfl)) (by assumption) (by exact Sl.of_own W (k := 9) rfl (fun _ => rfl)) (by assumption))) rfl <| .z) fun a w S => ?_))))))))))
   rw [rw_c] at S
   refine Zb (Za (hK2 _ _ (Ze S (.t rfl) (sg S (.ac rfl <| .z) fun a w S => wp_ret (Zj (Zk S (results1 S results8 (Rv.tmp rfl)) ?_))))))
   exact ⟨rfl, S.wd.below⟩
 | false =>
   have rw_c := hcl
   have hM := hX hcl
   clear hX
   have rw_0 : (0 : Int) + 1 = ((1 : Nat) : Int) := rfl
   have rw_1 : ((1 : Nat) : Int) + 1 = ((2 : Nat) : Int) := rfl
   refine enter2 func8 rfl ntmps8 rfl fun a S => sg S (.ac rfl <| .z) fun a w S => wp_seq_k fun _ hK1 => wp_region_lit (run S (.mv rfl <| .z) fun a w S => ?_)
   (refine Zh (Zq S call38 (.cons (.t rfl) .nil) (c38 _ _ _ (by exact .old S.wd (by assumption)) (by assumption)) rfl ?_); clear S a w; rintro _ _ ⟨B1, c1, rfl, rfl⟩ a w S)
   rw [rw_r1] at S
   refine run S (.mv rfl <| .z) fun a w S => ?_
   (refine Zh (Zq S call38 (.cons (.t rfl) .nil) (c38 _ _ _ (by exact .old S.wd (by assumption)) (by assumption)) rfl ?_); clear S a w; rintro _ _ ⟨B2, c2, rfl, rfl⟩ a w S)
   rw [rw_r2] at S
   refine run S (.as rfl <| .as rfl <| .z) fun a w S => Zb (Za (hK1 _ _ (wp_seq_k fun _ hK1 => wp_region_lit (run S (.mv rfl <| .z) fun a w S => ?_))))
   (refine Zh (Zq S call9 (.cons (.t rfl) .nil) (c9 _ _ _ (by exact Sl.of_own S.wd (k := 1) rfl (fun _ => rfl)) (by assumption)) rfl ?_); clear S a w; rintro _ _ ⟨g1, A1, cap1, gs1, w11, bs1, rfl, rfl, hr11⟩ a w S)
   refine run S (.mv rfl <| .z) fun a w S => ?_
   (refine Zh (Zq S call9 (.cons (.t rfl) .nil) (c9 _ _ _ (by exact Sl.of_own S.wd (k := 3) rfl (fun _ => rfl)) (by assumption)) rfl ?_); clear S a w; rintro _ _ ⟨g2, A2, cap2, gs2, w12, bs2, rfl, rfl, hr12⟩ a w S)
   refine run S (.as rfl <| .as rfl <| .z) fun a w S => Zb (Za (hK1 _ _ (wp_seq_k fun _ hK1 => wp_region_lit (run S (.mv rfl <| .mv rfl <| .z) fun a w S => ?_))))
   (refine Zh (Zq S call39 (.cons (.t rfl) (.cons (.t rfl) .nil)) (c39 _ _ _ _ _ _ _ _ _ _ _ (by exact sl_m1 S.wd (k := 3) rfl) (by exact sl_m1 S.wd (k := 0) rfl) (by assumption) (by assumption) (by assumption)) rfl ?_); clear S a w; rintro _ _ ⟨n1, B3, c3, B'1, c'1, rfl, rfl, hr13, hr21⟩ a w S)
   refine run S (.mv rfl <| .ex rfl rfl <| .ex rfl rfl <| .ex rfl rfl <| .z) fun a w S => Zh (Zr S zeroValue71 (cs := _) rfl rfl fun g3 a w S => Zh (Yb S sizeOf71 (.t rfl) (.t rfl) (k := 0) rfl rfl rfl (by simp [Value.oneCell']) fun a w S => run S (.as rfl <| .as rfl <| .z) fun a w S => Zb (Za (hK1 _ _ (wp_seq_k fun _ hK1 => sg S (.mv rfl <| .nt rfl <| .mv rfl <| .gy rfl rfl (Zd (.t rfl)) <| .gx rfl rfl (Zi call40 .nil (fun hp w W => c40 _)) <| .gy rfl rfl (Yf (by omega) (Xf (.t rfl) (.t rfl))) <| .yy (Zs (.t rfl) (.t rfl)) rfl <| .z) fun a w S => Zf S (.t rfl) (wp_skip (Za (hK1 _ _ (wp_seq_k fun _ hK1 => wp_seq_k fun _ hK2 => wp_region_lit (run S (.mv rfl <| .mv rfl <| .xx (Zi call41 (.cons (.t rfl) (.cons (.t rfl) .nil)) (fun hp w W => c41 _ _ _ _ _ (by exact Sl.of_own W (k := 10) rfl (fun _ => rfl)) (by assumption) (by exact Sl.of_own W (k := 9) rfl (fun _ => rfl)) (by assumption))) rfl <| .z) fun a w S => ?_))))))))))
   rw [rw_c] at S
   refine Zb (Za (hK2 _ _ (Zf S (.t rfl) (wp_skip (Za (hK1 _ _ (wp_seq_k fun _ hK1 => wp_region_lit (Zh (Zr S zeroValue71 (cs := _) rfl rfl fun g4 a w S => Zb (Za (hK1 _ _ (wp_seq_k fun _ hK1 => wp_seq_k fun _ hK2 => wp_region_lit (run S (.mv rfl <| .mv rfl <| .yy (ys_bldA (ps := [(0, Go.Operand.tmp 41), (1, Go.Operand.tmp 42)]) (us := [_, _]) ⟨⟨_, zeroValue75, rfl⟩, _, _, underlying75, sizeOf22⟩ (.cons (.t rfl) (.cons (.t rfl) .nil)) rfl) rfl <| .mv rfl <| .mv rfl <| .yy (ys_bldA (ps := [(0, Go.Operand.tmp 44), (1, Go.Operand.tmp 45)]) (us := [_, _]) ⟨⟨_, zeroValue75, rfl⟩, _, _, underlying75, sizeOf22⟩ (.cons (.t rfl) (.cons (.t rfl) .nil)) rfl) rfl <| .z) fun a w S => Zh (op_bsliceZ (ps := [(0, Go.Operand.tmp 43), (1, Go.Operand.tmp 46)]) (us := [_, _, _, _]) S underlying76 sizeOf75 zeroValue75 rfl rfl (.cons (.t rfl) (.cons (.t rfl) .nil)) rfl rfl fun g5 a w S => run S (.ln underlying76 rfl <| .mc rfl <| .z) fun a w S => Zb (Za (hK2 _ _ (wp_block ?_)))))))))))))))))
   have hTU : (missX (setsT [] R1) (setsT [] R2)).length ≤ 524287 := Nat.le_trans (missX_len hU) hTU0
   rw [hM] at S hTU
   have hg0 := Nat.le_trans (haveT_len (setsT [] R1) (missU (setsT [] R1) (setsT [] R2))) hTU
   have hg1 := Nat.le_trans (haveT_len (setsT [] R2) (missU (setsT [] R1) (setsT [] R2))) hTU
   generalize haveT (setsT [] R1) (missU (setsT [] R1) (setsT [] R2)) = G0 at *
   generalize haveT (setsT [] R2) (missU (setsT [] R1) (setsT [] R2)) = G1 at *
   have W1 := S.wd.picks (L' := [.blk g5 (.cells #[.slice B1 R1.length c1, .slice B2 R2.length c2, .slice B2 R2.length c2, .slice B1 R1.length c1] 75), .blk g4 (.cells #[.slice none 0 0, .slice none 0 0] 71), .blk g3 (.cells #[.slice B3 G0.length c3, .slice B'1 G1.length c'1] 71), rowOf 9 1 encS' B3 c3 G0, rowOf 9 1 encS' B'1 c'1 G1, rowOf 28 3 Sm.enc B2 c2 R2, rowOf 28 3 Sm.enc B1 c1 R1]) (by repeat (first | exact Picks.nil | (refine Picks.rest ?_; (repeat (first | exact List.Sublist.refl _ | refine List.Sublist.cons_cons _ ?_ | refine List.Sublist.cons _ ?_)); done) | refine Picks.take 0 rfl ?_ | refine Picks.take 1 rfl ?_ | refine Picks.take 2 rfl ?_ | refine Picks.take 3 rfl ?_ | refine Picks.take 4 rfl ?_ | refine Picks.take 5 rfl ?_ | refine Picks.take 6 rfl ?_ | refine Picks.take 7 rfl ?_ | refine Picks.take 8 rfl ?_ | refine Picks.take 9 rfl ?_ | refine Picks.take 10 rfl ?_ | refine Picks.take 11 rfl ?_))
   replace S := ((St.mk S.kn W1).nil_ 9 1 encS' none).nil_ 9 1 encS' none
   clear W1
   refine st_rounds 3 (Zt (sg S (.lt (by omega) rfl rfl <| .z) fun a w S => wp_seq_k fun _ hK2 => Ze S (.t rfl) (wp_skip (Za (hK2 _ _ (wp_seq_k fun _ hK2 => wp_block (wp_seq_k fun _ hK3 => wp_region_lit (run S (.mv rfl <| .yy (Yi (j := 0) underlying76 sizeOf75 (.t rfl) (.t rfl) (fun _ => by omega)) rfl <| .la gt75 2 rfl rfl rfl <| .z) fun a w S => Zh (Zr S zeroValue75 (cs := _) rfl rfl fun g6 a w S => run S (.as rfl <| .z) fun a w S => Zh (Yb S sizeOf75 (.t rfl) (.t rfl) (k := 0) rfl rfl rfl (by simp [Value.oneCell']) fun a w S => Zb (Za (hK3 _ _ (sg S (.yy (Yj (j := 0) underlying75 sizeOf22 (.t rfl) Ev.c (fun _ => by decide)) rfl <| .ld gt22 0 rfl rfl rfl <| .ln underlying22 rfl <| .mc rfl <| .z) fun a w S => wp_block ?_)))))))))))))
   refine Ye S [57] (X := Nat × Option Addr × Nat) (fun q => [(57, true, .int .i64 (q.1 : Int))])
     (fun q => [.blk g6 (.cells #[.slice B1 R1.length c1, .slice B2 R2.length c2] 75), rowOf 9 1 encS' q.2.1 q.2.2 (wantK (R1.take q.1) R2), rowOf 9 1 encS' none 0 [], .blk g5 (.cells #[.slice B1 R1.length c1, .slice B2 R2.length c2, .slice B2 R2.length c2, .slice B1 R1.length c1] 75), .blk g4 (.cells #[.slice q.2.1 (wantK (R1.take q.1) R2).length q.2.2, .slice none 0 0] 71), .blk g3 (.cells #[.slice B3 G0.length c3, .slice B'1 G1.length c'1] 71), rowOf 9 1 encS' B3 c3 G0, rowOf 9 1 encS' B'1 c'1 G1, rowOf 28 3 Sm.enc B2 c2 R2, rowOf 28 3 Sm.enc B1 c1 R1]) (fun q => q.1 ≤ R1.length) (fun q => R1.length - q.1) (0, none, 0) (Nat.zero_le _) ?_
   clear S a w
   rintro ⟨k, A, cA⟩ a w hk S
   dsimp only at hk S
   by_cases hlt : k < R1.length
   · have hrm := (S.wd.room (k := 9) rfl).1
     obtain ⟨ga, rfl⟩ := S.wd.row_at (k := 9) rfl (by omega)
     obtain ⟨x, hx⟩ : ∃ x, R1[k]? = some x := ⟨_, List.getElem?_eq_getElem hlt⟩
     have hst := wantK_snoc (m := R2) hx
     have hwl := wantK_len (R1.take k) R2
     rw [List.length_take] at hwl
     generalize wantK (R1.take k) R2 = G at *
     by_cases hin : x ∈ R2
     · have rw_in := decide_eq_true hin
       rw [if_pos hin] at hst
       refine sg S (.lt (by omega) rfl rfl <| .z) fun a w S => wp_seq_k fun _ hK3 => Ze S (.t rfl) (wp_skip (Za (hK3 _ _ (wp_seq_k fun _ hK3 => wp_block (wp_seq_k fun _ hK4 => wp_region_lit (run S (.ix underlying22 sizeOf28 (by omega) rfl rfl <| .yy (Xn ⟨isAgg28, sizeOf28⟩ (.t rfl) (k := 9) rfl hx (fun _ => rfl)) rfl <| .z) fun a w S => Zh (Zr S zeroValue28 (cs := _) rfl rfl fun g7 a w S => Zh (Yb S sizeOf28 (.t rfl) (.t rfl) (k := 0) rfl rfl rfl (by simp [Value.oneCell']) fun a w S => Zb (Za (hK4 _ _ (wp_seq_k fun _ hK4 => wp_region_lit (run S (.yy (Yj (j := 1) underlying75 sizeOf22 (.t rfl) Ev.c (fun _ => by decide)) rfl <| .ld gt22 1 rfl rfl rfl <| .la gt28 0 rfl rfl rfl <| .xx (Zi call42 (.cons (.t rfl) (.cons (.t rfl) .nil)) (fun hp w W => c42 _ _ _ _ (by exact Sl.of_own W (k := 9) rfl (fun _ => rfl)))) rfl <| .z) fun a w S => ?_))))))))))))
       rw [rw_in] at S
       refine run S (.nt rfl <| .z) fun a w S => Zb (Za (hK4 _ _ (Zf S (.t rfl) (wp_skip (Zg (Za (hK3 _ _ (wp_region_lit (run S (.ad (by unfold I64; omega) rfl <| .mv rfl <| .z) fun a w S => Zb (Za ?_))))))))))
       exact ⟨(k + 1, A, cA), by dsimp only; omega, by dsimp only; omega, by dsimp only; rw [hst]; exact S.pk⟩
     · have rw_in := decide_eq_false hin
       rw [if_neg hin] at hst
       have halt_d := trivial
       refine sg S (.lt (by omega) rfl rfl <| .z) fun a w S => wp_seq_k fun _ hK3 => Ze S (.t rfl) (wp_skip (Za (hK3 _ _ (wp_seq_k fun _ hK3 => wp_block (wp_seq_k fun _ hK4 => wp_region_lit (run S (.ix underlying22 sizeOf28 (by omega) rfl rfl <| .yy (Xn ⟨isAgg28, sizeOf28⟩ (.t rfl) (k := 9) rfl hx (fun _ => rfl)) rfl <| .z) fun a w S => Zh (Zr S zeroValue28 (cs := _) rfl rfl fun g7 a w S => Zh (Yb S sizeOf28 (.t rfl) (.t rfl) (k := 0) rfl rfl rfl (by simp [Value.oneCell']) fun a w S => Zb (Za (hK4 _ _ (wp_seq_k fun _ hK4 => wp_region_lit (run S (.yy (Yj (j := 1) underlying75 sizeOf22 (.t rfl) Ev.c (fun _ => by decide)) rfl <| .ld gt22 1 rfl rfl rfl <| .la gt28 0 rfl rfl rfl <| .xx (Zi call42 (.cons (.t rfl) (.cons (.t rfl) .nil)) (fun hp w W => c42 _ _ _ _ (by exact Sl.of_own W (k := 9) rfl (fun _ => rfl)))) rfl <| .z) fun a w S => ?_))))))))))))
       rw [rw_in] at S
       refine run S (.nt rfl <| .z) fun a w S => Zb (Za (hK4 _ _ (Ze S (.t rfl) ?_)))
       clear halt_d
       refine h_begin S (by kernel_rfl) [.blk g7 (.cells (Sm.enc x).toArray 28), .blk g6 (.cells #[.slice (some ⟨ga, 0, none⟩) R1.length c1, .slice B2 R2.length c2] 75), rowOf 9 1 encS' none 0 [], .blk g5 (.cells #[.slice (some ⟨ga, 0, none⟩) R1.length c1, .slice B2 R2.length c2, .slice B2 R2.length c2, .slice (some ⟨ga, 0, none⟩) R1.length c1] 75), .blk g3 (.cells #[.slice B3 G0.length c3, .slice B'1 G1.length c'1] 71), rowOf 9 1 encS' B3 c3 G0, rowOf 9 1 encS' B'1 c'1 G1, rowOf 28 3 Sm.enc B2 c2 R2, rowOf 28 3 Sm.enc (some ⟨ga, 0, none⟩) c1 R1] ?_
       clear S a w
       intro a w S
       refine hy 0 S rfl (Zd (.t rfl)) rfl fun a w S => hy 1 S rfl (Zd (.t rfl)) rfl fun a w S => hy 2 S rfl (Yj (j := 0) underlying71 sizeOf61 (.t rfl) (.t rfl) (fun _ => by decide)) rfl fun a w S => hy 4 S rfl (Zp (FieldT.mk underlying28 rfl sizeOf9 rfl) (.t rfl) (i' := 1) rfl) rfl fun a w S => hy 5 S rfl (Yg ⟨isAgg9, sizeOf9⟩ (.t rfl) (k := 0) rfl rfl) rfl fun a w S => ?_
       refine h_split (i := 3) (j := 6) (by kernel_rfl) rfl rfl ?_ ?_
       (refine op_y S (Yr.ys (Yg ⟨isAgg61, sizeOf61⟩ (.t rfl) (k := 5) rfl rfl)) rfl ?_; clear S a w; intro a w S; refine Yw S ?_)
       (refine h_m (i := 6) rfl (by kernel_rfl) (Zm S underlying61 inf9 rfl rfl rfl (.t rfl) rfl rfl rfl ?_); clear S a w; intro g8 a w S; refine Yw S ?_)
       (refine h_m (i := 7) rfl (by kernel_rfl) (Zw S underlying61 inf9 rfl (k := 3) (j := 0) rfl (.t rfl) (.t rfl) rfl rfl rfl rfl (by first | omega | (simp only [List.length_append, List.length_cons, List.length_nil]; omega)) rfl rfl rfl ?_); clear S a w; intro A3 cap3 a w S; refine Yw S ?_)
       refine hy 8 S rfl (Yj (j := 0) underlying71 sizeOf61 (.t rfl) (.t rfl) (fun _ => by decide)) rfl fun a w S => ?_
       (refine h_m0 (i := 9) rfl (by kernel_rfl) (Xy S sizeOf61 (.t rfl) (.t rfl) (k := 6) rfl rfl (by simp) ?_); clear S a w; intro a w S; refine Yw S ?_)
       refine Xe (by kernel_rfl) (Zg (Za (hK3 _ _ (wp_region_lit (run S (.ad (by unfold I64; omega) rfl <| .mv rfl <| .z) fun a w S => Zb (Za ?_))))))
       rotate_left
       (refine Zm S underlying61 inf9 rfl rfl rfl (.t rfl) rfl rfl rfl ?_; clear S a w; intro g8 a w S; refine Yw S ?_)
       refine h_q (i := 3) S (by repeat (first | exact List.Sublist.refl _ | exact List.nil_sublist _ | refine .cons_cons _ ?_ | refine .cons _ ?_)) rfl (by kernel_rfl) (Yr.ys (Yg ⟨isAgg61, sizeOf61⟩ (.t rfl) (k := 6) rfl rfl)) rfl fun a w S => ?_
       (refine h_m (i := 7) rfl (by kernel_rfl) (Zw S underlying61 inf9 rfl (k := 3) (j := 0) rfl (.t rfl) (.t rfl) rfl rfl rfl rfl (by first | omega | (simp only [List.length_append, List.length_cons, List.length_nil]; omega)) rfl rfl rfl ?_); clear S a w; intro A3 cap3 a w S; refine Yw S ?_)
       refine hy 8 S rfl (Yj (j := 0) underlying71 sizeOf61 (.t rfl) (.t rfl) (fun _ => by decide)) rfl fun a w S => ?_
       (refine h_m0 (i := 9) rfl (by kernel_rfl) (Xy S sizeOf61 (.t rfl) (.t rfl) (k := 6) rfl rfl (by simp) ?_); clear S a w; intro a w S; refine Yw S ?_)
       refine Xe (by kernel_rfl) (Zg (Za (hK3 _ _ (wp_region_lit (run S (.ad (by unfold I64; omega) rfl <| .mv rfl <| .z) fun a w S => Zb (Za ?_))))))
       rotate_left
       · exact ⟨(k + 1, A3, cap3), by dsimp only; omega, by dsimp only; omega, by dsimp only; rw [hst]; exact S.pk⟩
       · exact ⟨(k + 1, A3, cap3), by dsimp only; omega, by dsimp only; omega, by dsimp only; rw [hst]; exact S.pk⟩
   obtain rfl : k = R1.length := by omega
   rw [List.take_length] at S
   have hw0 := wantK_len R1 R2
   generalize wantK R1 R2 = X0 at *
   refine sg S (.ge (by omega) rfl rfl <| .z) fun a w S => wp_seq_k fun _ hK3 => Zf S (.t rfl) (wp_exit (Zc (Zc (Zn (Zg (Za (hK2 _ _ (wp_region_lit (run S (.ad (by unfold I64; omega) rfl <| .z) fun a w S => ?_)))))))))
   rw [rw_0] at S
   refine run S (.mv rfl <| .z) fun a w S => Zb (Za (Zt (sg S (.lt (by omega) rfl rfl <| .z) fun a w S => wp_seq_k fun _ hK2 => Ze S (.t rfl) (wp_skip (Za (hK2 _ _ (wp_seq_k fun _ hK2 => wp_block (wp_seq_k fun _ hK4 => wp_region_lit (run S (.mv rfl <| .yy (Yi (j := 1) underlying76 sizeOf75 (.t rfl) (.t rfl) (fun _ => by omega)) rfl <| .la gt75 3 rfl rfl rfl <| .z) fun a w S => Zh (Zr S zeroValue75 (cs := _) rfl rfl fun g7 a w S => run S (.as rfl <| .z) fun a w S => Zh (Yb S sizeOf75 (.t rfl) (.t rfl) (k := 0) rfl rfl rfl (by simp [Value.oneCell']) fun a w S => Zb (Za (hK4 _ _ (sg S (.yy (Yj (j := 0) underlying75 sizeOf22 (.t rfl) Ev.c (fun _ => by decide)) rfl <| .ld gt22 0 rfl rfl rfl <| .ln underlying22 rfl <| .mc rfl <| .z) fun a w S => wp_block ?_))))))))))))))
   refine Ye S [57, 58] (X := Nat × Option Addr × Nat) (fun q => [(57, true, .int .i64 (q.1 : Int))])
     (fun q => [.blk g7 (.cells #[.slice B2 R2.length c2, .slice B1 R1.length c1] 75), rowOf 9 1 encS' A cA X0, rowOf 9 1 encS' q.2.1 q.2.2 (wantK (R2.take q.1) R1), .blk g5 (.cells #[.slice B1 R1.length c1, .slice B2 R2.length c2, .slice B2 R2.length c2, .slice B1 R1.length c1] 75), .blk g4 (.cells #[.slice A X0.length cA, .slice q.2.1 (wantK (R2.take q.1) R1).length q.2.2] 71), .blk g3 (.cells #[.slice B3 G0.length c3, .slice B'1 G1.length c'1] 71), rowOf 9 1 encS' B3 c3 G0, rowOf 9 1 encS' B'1 c'1 G1, rowOf 28 3 Sm.enc B2 c2 R2, rowOf 28 3 Sm.enc B1 c1 R1]) (fun q => q.1 ≤ R2.length) (fun q => R2.length - q.1) (0, none, 0) (Nat.zero_le _) ?_
   clear S a w
   rintro ⟨k, D, cD⟩ a w hk S
   dsimp only at hk S
   by_cases hlt : k < R2.length
   · have hrm := (S.wd.room (k := 8) rfl).1
     obtain ⟨ga, rfl⟩ := S.wd.row_at (k := 8) rfl (by omega)
     obtain ⟨x, hx⟩ : ∃ x, R2[k]? = some x := ⟨_, List.getElem?_eq_getElem hlt⟩
     have hst := wantK_snoc (m := R1) hx
     have hwl := wantK_len (R2.take k) R1
     rw [List.length_take] at hwl
     generalize wantK (R2.take k) R1 = G at *
     by_cases hin : x ∈ R1
     · have rw_in := decide_eq_true hin
       rw [if_pos hin] at hst
       refine sg S (.lt (by omega) rfl rfl <| .z) fun a w S => wp_seq_k fun _ hK4 => Ze S (.t rfl) (wp_skip (Za (hK4 _ _ (wp_seq_k fun _ hK4 => wp_block (wp_seq_k fun _ hK5 => wp_region_lit (run S (.ix underlying22 sizeOf28 (by omega) rfl rfl <| .yy (Xn ⟨isAgg28, sizeOf28⟩ (.t rfl) (k := 8) rfl hx (fun _ => rfl)) rfl <| .z) fun a w S => Zh (Zr S zeroValue28 (cs := _) rfl rfl fun g8 a w S => Zh (Yb S sizeOf28 (.t rfl) (.t rfl) (k := 0) rfl rfl rfl (by simp [Value.oneCell']) fun a w S => Zb (Za (hK5 _ _ (wp_seq_k fun _ hK5 => wp_region_lit (run S (.yy (Yj (j := 1) underlying75 sizeOf22 (.t rfl) Ev.c (fun _ => by decide)) rfl <| .ld gt22 1 rfl rfl rfl <| .la gt28 0 rfl rfl rfl <| .xx (Zi call42 (.cons (.t rfl) (.cons (.t rfl) .nil)) (fun hp w W => c42 _ _ _ _ (by exact Sl.of_own W (k := 10) rfl (fun _ => rfl)))) rfl <| .z) fun a w S => ?_))))))))))))
       rw [rw_in] at S
       refine run S (.nt rfl <| .z) fun a w S => Zb (Za (hK5 _ _ (Zf S (.t rfl) (wp_skip (Zg (Za (hK4 _ _ (wp_region_lit (run S (.ad (by unfold I64; omega) rfl <| .mv rfl <| .z) fun a w S => Zb (Za ?_))))))))))
       exact ⟨(k + 1, D, cD), by dsimp only; omega, by dsimp only; omega, by dsimp only; rw [hst]; exact S.pk⟩
     · have rw_in := decide_eq_false hin
       rw [if_neg hin] at hst
       have halt_d := trivial
       refine sg S (.lt (by omega) rfl rfl <| .z) fun a w S => wp_seq_k fun _ hK4 => Ze S (.t rfl) (wp_skip (Za (hK4 _ _ (wp_seq_k fun _ hK4 => wp_block (wp_seq_k fun _ hK5 => wp_region_lit (run S (.ix underlying22 sizeOf28 (by omega) rfl rfl <| .yy (Xn ⟨isAgg28, sizeOf28⟩ (.t rfl) (k := 8) rfl hx (fun _ => rfl)) rfl <| .z) fun a w S => Zh (Zr S zeroValue28 (cs := _) rfl rfl fun g8 a w S => Zh (Yb S sizeOf28 (.t rfl) (.t rfl) (k := 0) rfl rfl rfl (by simp [Value.oneCell']) fun a w S => Zb (Za (hK5 _ _ (wp_seq_k fun _ hK5 => wp_region_lit (run S (.yy (Yj (j := 1) underlying75 sizeOf22 (.t rfl) Ev.c (fun _ => by decide)) rfl <| .ld gt22 1 rfl rfl rfl <| .la gt28 0 rfl rfl rfl <| .xx (Zi call42 (.cons (.t rfl) (.cons (.t rfl) .nil)) (fun hp w W => c42 _ _ _ _ (by exact Sl.of_own W (k := 10) rfl (fun _ => rfl)))) rfl <| .z) fun a w S => ?_))))))))))))
       rw [rw_in] at S
       refine run S (.nt rfl <| .z) fun a w S => Zb (Za (hK5 _ _ (Ze S (.t rfl) ?_)))
       clear halt_d
       refine h_begin S (by kernel_rfl) [.blk g8 (.cells (Sm.enc x).toArray 28), .blk g7 (.cells #[.slice (some ⟨ga, 0, none⟩) R2.length c2, .slice B1 R1.length c1] 75), rowOf 9 1 encS' A cA X0, .blk g5 (.cells #[.slice B1 R1.length c1, .slice (some ⟨ga, 0, none⟩) R2.length c2, .slice (some ⟨ga, 0, none⟩) R2.length c2, .slice B1 R1.length c1] 75), .blk g3 (.cells #[.slice B3 G0.length c3, .slice B'1 G1.length c'1] 71), rowOf 9 1 encS' B3 c3 G0, rowOf 9 1 encS' B'1 c'1 G1, rowOf 28 3 Sm.enc (some ⟨ga, 0, none⟩) c2 R2, rowOf 28 3 Sm.enc B1 c1 R1] ?_
       clear S a w
       intro a w S
       refine hy 0 S rfl (Zd (.t rfl)) rfl fun a w S => hy 1 S rfl (Zd (.t rfl)) rfl fun a w S => hy 2 S rfl (Yj underlying71 sizeOf61 (.t rfl) (.t rfl) (fun _ => by omega)) rfl fun a w S => hy 4 S rfl (Zp (FieldT.mk underlying28 rfl sizeOf9 rfl) (.t rfl) (i' := 1) rfl) rfl fun a w S => hy 5 S rfl (Yg ⟨isAgg9, sizeOf9⟩ (.t rfl) (k := 0) rfl rfl) rfl fun a w S => ?_
       refine h_split (i := 3) (j := 6) (by kernel_rfl) rfl rfl ?_ ?_
       (refine op_y S (Yr.ys (Yg ⟨isAgg61, sizeOf61⟩ (.t rfl) (k := 5) rfl rfl)) rfl ?_; clear S a w; intro a w S; refine Yw S ?_)
       (refine h_m (i := 6) rfl (by kernel_rfl) (Zm S underlying61 inf9 rfl rfl rfl (.t rfl) rfl rfl rfl ?_); clear S a w; intro g9 a w S; refine Yw S ?_)
       (refine h_m (i := 7) rfl (by kernel_rfl) (Zw S underlying61 inf9 rfl (k := 4) (j := 0) rfl (.t rfl) (.t rfl) rfl rfl rfl rfl (by first | omega | (simp only [List.length_append, List.length_cons, List.length_nil]; omega)) rfl rfl rfl ?_); clear S a w; intro A3 cap3 a w S; refine Yw S ?_)
       refine hy 8 S rfl (Yj underlying71 sizeOf61 (.t rfl) (.t rfl) (fun _ => by omega)) rfl fun a w S => ?_
       (refine h_m0 (i := 9) rfl (by kernel_rfl) (Xy S sizeOf61 (.t rfl) (.t rfl) (k := 6) rfl rfl (by simp) ?_); clear S a w; intro a w S; refine Yw S ?_)
       refine Xe (by kernel_rfl) (Zg (Za (hK4 _ _ (wp_region_lit (run S (.ad (by unfold I64; omega) rfl <| .mv rfl <| .z) fun a w S => Zb (Za ?_))))))
       rotate_left
       (refine Zm S underlying61 inf9 rfl rfl rfl (.t rfl) rfl rfl rfl ?_; clear S a w; intro g9 a w S; refine Yw S ?_)
       refine h_q (i := 3) S (by repeat (first | exact List.Sublist.refl _ | exact List.nil_sublist _ | refine .cons_cons _ ?_ | refine .cons _ ?_)) rfl (by kernel_rfl) (Yr.ys (Yg ⟨isAgg61, sizeOf61⟩ (.t rfl) (k := 6) rfl rfl)) rfl fun a w S => ?_
       (refine h_m (i := 7) rfl (by kernel_rfl) (Zw S underlying61 inf9 rfl (k := 4) (j := 0) rfl (.t rfl) (.t rfl) rfl rfl rfl rfl (by first | omega | (simp only [List.length_append, List.length_cons, List.length_nil]; omega)) rfl rfl rfl ?_); clear S a w; intro A3 cap3 a w S; refine Yw S ?_)
       refine hy 8 S rfl (Yj underlying71 sizeOf61 (.t rfl) (.t rfl) (fun _ => by omega)) rfl fun a w S => ?_
       (refine h_m0 (i := 9) rfl (by kernel_rfl) (Xy S sizeOf61 (.t rfl) (.t rfl) (k := 6) rfl rfl (by simp) ?_); clear S a w; intro a w S; refine Yw S ?_)
       refine Xe (by kernel_rfl) (Zg (Za (hK4 _ _ (wp_region_lit (run S (.ad (by unfold I64; omega) rfl <| .mv rfl <| .z) fun a w S => Zb (Za ?_))))))
       rotate_left
       · exact ⟨(k + 1, A3, cap3), by dsimp only; omega, by dsimp only; omega, by dsimp only; rw [hst]; exact S.pk⟩
       · exact ⟨(k + 1, A3, cap3), by dsimp only; omega, by dsimp only; omega, by dsimp only; rw [hst]; exact S.pk⟩
   obtain rfl : k = R2.length := by omega
   rw [List.take_length] at S
   have hw1 := wantK_len R2 R1
   generalize wantK R2 R1 = X1 at *
   refine sg S (.ge (by omega) rfl rfl <| .z) fun a w S => wp_seq_k fun _ hK4 => Zf S (.t rfl) (wp_exit (Zc (Zc (Zn (Zg (Za (hK2 _ _ (wp_region_lit (run S (.ad (by unfold I64; omega) rfl <| .z) fun a w S => ?_)))))))))
   rw [rw_1] at S
   refine run S (.mv rfl <| .z) fun a w S => Zb (Za (Zt (sg S (.ge (by omega) rfl rfl <| .z) fun a w S => wp_seq_k fun _ hK2 => Zf S (.t rfl) (wp_exit (Zc (Zc (Zn (Za (hK1 _ _ (wp_seq_k fun _ hK1 => sg S (.mc rfl <| .z) fun a w S => wp_block ?_))))))))))
   have W1 := S.wd.picks (L' := [rowOf 9 1 encS' A cA X0, rowOf 9 1 encS' D cD X1, .blk g4 (.cells #[.slice A X0.length cA, .slice D X1.length cD] 71), .blk g3 (.cells #[.slice B3 G0.length c3, .slice B'1 G1.length c'1] 71), rowOf 9 1 encS' B3 c3 G0, rowOf 9 1 encS' B'1 c'1 G1]) (by repeat (first | exact Picks.nil | (refine Picks.rest ?_; (repeat (first | exact List.Sublist.refl _ | refine List.Sublist.cons_cons _ ?_ | refine List.Sublist.cons _ ?_)); done) | refine Picks.take 0 rfl ?_ | refine Picks.take 1 rfl ?_ | refine Picks.take 2 rfl ?_ | refine Picks.take 3 rfl ?_ | refine Picks.take 4 rfl ?_ | refine Picks.take 5 rfl ?_ | refine Picks.take 6 rfl ?_ | refine Picks.take 7 rfl ?_ | refine Picks.take 8 rfl ?_ | refine Picks.take 9 rfl ?_ | refine Picks.take 10 rfl ?_ | refine Picks.take 11 rfl ?_))
   replace S := St.mk S.kn W1
   clear W1
   have hn1 : filtT (setsT [] R1) (setsT [] R2) 0 = [] → n1 = 1 := by assumption
   refine st_rounds 3 (Zt (sg S (.yy (Ym (by omega) (Zy (.t rfl) Ev.c)) rfl <| .z) fun a w S => wp_seq_k fun _ hK5 => Ze S (.t rfl) (wp_skip (Za (hK5 _ _ (wp_seq_k fun _ hK5 => wp_block (sg S (.mv rfl <| .as rfl <| .z) fun a w S => wp_seq_k fun _ hK6 => wp_region_lit (run S (.mv rfl <| .yy (Yj (j := 0) underlying71 sizeOf61 (.t rfl) (.t rfl) (fun _ => by decide)) rfl <| .ld gt61 2 rfl rfl rfl <| .z) fun a w S => ?_))))))))
   (replace S := S.pull 0 rfl; try simp only [List.set_cons_zero, List.set_cons_succ, List.eraseIdx_cons_succ, List.eraseIdx_cons_zero] at S)
   refine Zh (op_callO S call43 (.cons (.t rfl) .nil) (so43 S.wd (by omega)) rfl ?_)
   clear S a w
   rintro _ _ ⟨rfl, rfl⟩ a w S
   obtain ⟨Y0, eY0⟩ : ∃ Y, Y = (X0.mergeSort fun x y => decide (x ≤ y)) := ⟨_, rfl⟩
   rw [← eY0] at S
   have lY0 : Y0.length = X0.length := by rw [eY0]; exact sortS_len X0
   rw [← lY0] at S
   refine Zb (Za (hK6 _ _ (wp_seq_k fun _ hK6 => wp_region_lit (run S (.mv rfl <| .yy (Yj (j := 0) underlying71 sizeOf61 (.t rfl) (.t rfl) (fun _ => by decide)) rfl <| .ld gt61 3 rfl rfl rfl <| .z) fun a w S => ?_))))
   (replace S := S.pull 4 rfl; try simp only [List.set_cons_zero, List.set_cons_succ, List.eraseIdx_cons_succ, List.eraseIdx_cons_zero] at S)
   refine Zh (op_callO S call43 (.cons (.t rfl) .nil) (so43 S.wd (by omega)) rfl ?_)
   clear S a w
   rintro _ _ ⟨rfl, rfl⟩ a w S
   obtain ⟨Z0, eZ0⟩ : ∃ Y, Y = (G0.mergeSort fun x y => decide (x ≤ y)) := ⟨_, rfl⟩
   rw [← eZ0] at S
   have lZ0 : Z0.length = G0.length := by rw [eZ0]; exact sortS_len G0
   rw [← lZ0] at S
   have rw_e0 : decide (Y0 = Z0) = true := decide_eq_true (by rw [eY0, eZ0]; exact q1)
   refine Zb (Za (hK6 _ _ (wp_seq_k fun _ hK6 => Xk S (by kernel_rfl) (by kernel_rfl) fun a S => qrun S (.mv rfl <| .yy (Yj (j := 0) underlying71 sizeOf61 (.t rfl) (.t rfl) (fun _ => by decide)) rfl <| .ld gt61 3 rfl rfl rfl <| .mv rfl <| .yy (Yj (j := 0) underlying71 sizeOf61 (.t rfl) (.t rfl) (fun _ => by decide)) rfl <| .ld gt61 4 rfl rfl rfl <| .xx (Zi call37 (.cons (.t rfl) (.cons (.t rfl) .nil)) (fun hp w W => c37 _ _ _ _ _ (by exact Sl.of_own W (k := 1) rfl (fun _ => rfl)) (by exact Sl.of_own W (k := 0) rfl (fun _ => rfl)))) rfl <| .z) fun a S => ?_)))
   rw [rw_e0] at S
   refine qrun S (.nt rfl <| .z) fun a S => ?_
   (refine q_nil ?_; intro w W; replace S := St.mk S W; clear W)
   refine Za (hK6 _ _ (Zf S (.t rfl) (wp_skip (Zg (Za (hK5 _ _ (wp_region_lit (run S (.ad (by unfold I64; omega) rfl <| .z) fun a w S => ?_))))))))
   rw [rw_0] at S
   refine run S (.mv rfl <| .z) fun a w S => Zb (Za (Zt (sg S (.yy (Ym (by omega) (Zy (.t rfl) Ev.c)) rfl <| .z) fun a w S => wp_seq_k fun _ hK5 => Ze S (.t rfl) (wp_skip (Za (hK5 _ _ (wp_seq_k fun _ hK5 => wp_block (sg S (.mv rfl <| .as rfl <| .z) fun a w S => wp_seq_k fun _ hK6 => wp_region_lit (run S (.mv rfl <| .yy (Yj underlying71 sizeOf61 (.t rfl) (.t rfl) (fun _ => by omega)) rfl <| .ld gt61 3 rfl rfl rfl <| .z) fun a w S => ?_)))))))))
   (replace S := S.pull 2 rfl; try simp only [List.set_cons_zero, List.set_cons_succ, List.eraseIdx_cons_succ, List.eraseIdx_cons_zero] at S)
   refine Zh (op_callO S call43 (.cons (.t rfl) .nil) (so43 S.wd (by omega)) rfl ?_)
   clear S a w
   rintro _ _ ⟨rfl, rfl⟩ a w S
   obtain ⟨Y1, eY1⟩ : ∃ Y, Y = (X1.mergeSort fun x y => decide (x ≤ y)) := ⟨_, rfl⟩
   rw [← eY1] at S
   have lY1 : Y1.length = X1.length := by rw [eY1]; exact sortS_len X1
   rw [← lY1] at S
   refine Zb (Za (hK6 _ _ (wp_seq_k fun _ hK6 => wp_region_lit (run S (.mv rfl <| .yy (Yj underlying71 sizeOf61 (.t rfl) (.t rfl) (fun _ => by omega)) rfl <| .ld gt61 4 rfl rfl rfl <| .z) fun a w S => ?_))))
   (replace S := S.pull 5 rfl; try simp only [List.set_cons_zero, List.set_cons_succ, List.eraseIdx_cons_succ, List.eraseIdx_cons_zero] at S)
   refine Zh (op_callO S call43 (.cons (.t rfl) .nil) (so43 S.wd (by omega)) rfl ?_)
   clear S a w
   rintro _ _ ⟨rfl, rfl⟩ a w S
   obtain ⟨Z1, eZ1⟩ : ∃ Y, Y = (G1.mergeSort fun x y => decide (x ≤ y)) := ⟨_, rfl⟩
   rw [← eZ1] at S
   have lZ1 : Z1.length = G1.length := by rw [eZ1]; exact sortS_len G1
   rw [← lZ1] at S
   have rw_e1 : decide (Y1 = Z1) = true := decide_eq_true (by rw [eY1, eZ1]; exact q2)
   refine Zb (Za (hK6 _ _ (wp_seq_k fun _ hK6 => Xk S (by kernel_rfl) (by kernel_rfl) fun a S => qrun S (.mv rfl <| .yy (Yj underlying71 sizeOf61 (.t rfl) (.t rfl) (fun _ => by omega)) rfl <| .ld gt61 4 rfl rfl rfl <| .mv rfl <| .yy (Yj underlying71 sizeOf61 (.t rfl) (.t rfl) (fun _ => by omega)) rfl <| .ld gt61 5 rfl rfl rfl <| .xx (Zi call37 (.cons (.t rfl) (.cons (.t rfl) .nil)) (fun hp w W => c37 _ _ _ _ _ (by exact Sl.of_own W (k := 1) rfl (fun _ => rfl)) (by exact Sl.of_own W (k := 0) rfl (fun _ => rfl)))) rfl <| .z) fun a S => ?_)))
   rw [rw_e1] at S
   refine qrun S (.nt rfl <| .z) fun a S => ?_
   (refine q_nil ?_; intro w W; replace S := St.mk S W; clear W)
   refine Za (hK6 _ _ (Zf S (.t rfl) (wp_skip (Zg (Za (hK5 _ _ (wp_region_lit (run S (.ad (by unfold I64; omega) rfl <| .z) fun a w S => ?_))))))))
   rw [rw_1] at S
   refine run S (.mv rfl <| .z) fun a w S => Zb (Za (Zt ?_))
   by_cases hz : X0.length + X1.length = 0
   · have hn : n1 = 1 := hn1 (q3 (List.eq_nil_of_length_eq_zero (by omega)) (List.eq_nil_of_length_eq_zero (by omega)))
     have rw_z : decide ((0 : Int) < (Y0.length : Int) + (Y1.length : Int)) = false := decide_eq_false (by omega)
     have rw_n1 : decide ((n1 : Int) = 1) = true := decide_eq_true (by omega)
     refine sg S (.yy (Yf (by omega) (Zy (.t rfl) Ev.c)) rfl <| .z) fun a w S => wp_seq_k fun _ hK5 => Zf S (.t rfl) (wp_exit (Zc (Zc (Zn (Za (hK1 _ _ (sg S (.yy (Yj (j := 0) underlying71 sizeOf61 (.t rfl) Ev.c (fun _ => by decide)) rfl <| .ld gt61 4 rfl rfl rfl <| .ln underlying61 rfl <| .yy (Yj (j := 1) underlying71 sizeOf61 (.t rfl) Ev.c (fun _ => by decide)) rfl <| .ld gt61 4 rfl rfl rfl <| .ln underlying61 rfl <| .yy (ys_addI (.t rfl) (.t rfl) (fun _ => by unfold I64; omega)) rfl <| .yy (Yf (by omega) (Xf (.t rfl) Ev.c)) rfl <| .mv rfl <| .gy rfl rfl (Zd (.t rfl)) <| .gy rfl rfl (Ym (by omega) (Yt (.t rfl) Ev.c)) <| .yy (Zs (.t rfl) (.t rfl)) rfl <| .as rfl <| .z) fun a w S => wp_ret (Zk S (results1 S results8 (Rv.tmp rfl)) ?_))))))))
     exact ⟨rfl, S.wd.below⟩
   · have rw_z : decide ((0 : Int) < (Y0.length : Int) + (Y1.length : Int)) = true := decide_eq_true (by omega)
     refine sg S (.yy (Yf (by omega) (Zy (.t rfl) Ev.c)) rfl <| .z) fun a w S => wp_seq_k fun _ hK5 => Zf S (.t rfl) (wp_exit (Zc (Zc (Zn (Za (hK1 _ _ (sg S (.yy (Yj (j := 0) underlying71 sizeOf61 (.t rfl) Ev.c (fun _ => by decide)) rfl <| .ld gt61 4 rfl rfl rfl <| .ln underlying61 rfl <| .yy (Yj (j := 1) underlying71 sizeOf61 (.t rfl) Ev.c (fun _ => by decide)) rfl <| .ld gt61 4 rfl rfl rfl <| .ln underlying61 rfl <| .yy (ys_addI (.t rfl) (.t rfl) (fun _ => by unfold I64; omega)) rfl <| .yy (Ym (by omega) (Xf (.t rfl) Ev.c)) rfl <| .mv rfl <| .sk rfl rfl rfl <| .sk rfl rfl rfl <| .yy (Zu (.t rfl) Ev.c) rfl <| .as rfl <| .z) fun a w S => wp_ret (Zk S (results1 S results8 (Rv.tmp rfl)) ?_))))))))
     exact ⟨rfl, S.wd.below⟩
end Go.Proofs.Ytbijdmfilmecbaa
