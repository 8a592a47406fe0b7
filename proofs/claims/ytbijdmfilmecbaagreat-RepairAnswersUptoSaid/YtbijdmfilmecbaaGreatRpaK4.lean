/- Contracts and laws that the statement Rpa leans on, part 4. -/
import Derived.Test.YtbijdmfilmecbaaGreatRpaK3
set_option linter.unusedVariables false
set_option linter.unusedSimpArgs false
set_option maxRecDepth 100000
set_option maxHeartbeats 4000000
namespace Go.Fw
open Go.RowKit
theorem split_snoc {l : List Sm} {q : Nat} {x : Sm} (h : l[q]? = some x) : placesS (l.take (q + 1)) = placesS (l.take q) ++ (if x.key = [] then [x.place] else []) ∧ restS (l.take (q + 1)) = restS (l.take q) ++ (if x.key = [] then [] else [x]) := by
 unfold placesS restS
 rw [List.take_add_one, h, Option.toList_some, List.filter_append, List.filter_append, List.map_append]
 by_cases e : x.key = []
 · rw [if_pos e, if_pos e, List.filter_cons_of_pos (by simpa using e), List.filter_cons_of_neg (by simpa using e)]
   exact ⟨rfl, rfl⟩
 · rw [if_neg e, if_neg e, List.filter_cons_of_neg (by simpa using e), List.filter_cons_of_pos (by simpa using e)]
   exact ⟨rfl, rfl⟩
theorem pls_len (l : List Sm) : (placesS l).length ≤ l.length := by
 unfold placesS
 rw [List.length_map]
 exact List.length_filter_le _ _
theorem rest_len (l : List Sm) : (restS l).length ≤ l.length := List.length_filter_le _ _
theorem rest_sums {l : List Sm} (h : Sums l) : Sums (restS l) := ⟨fun x hx => h.hash x (List.mem_filter.1 hx).1, fun x hx => h.key x (List.mem_filter.1 hx).1, by have := rest_len l; have := h.len; omega⟩
theorem missA_len (T : List KH) (sums : List Sm) (places : List Int) : (missA T sums places).1.length ≤ T.length + sums.length := by
 unfold missA
 have := miss_len T sums places
 split
 · split
   · exact this
   · simp
 · simp
theorem name_short {s : List UInt8} (h : nameB s = true) : s.length ≤ 32 := by
 unfold nameB at h
 rw [Bool.and_eq_true, Bool.and_eq_true, decide_eq_true_eq, decide_eq_true_eq] at h
 exact h.1.2
theorem miss_keys {T : List KH} (hT : KhOk T) {sums : List Sm} (hs : hashOk sums) (places : List Int) : ∀ k ∈ (missA T sums places).1, k.length ≤ 1048576 := by
 intro k hk
 unfold missA at hk
 split at hk
 · split at hk
   · unfold missT at hk
     obtain ⟨x, hx, rfl⟩ := List.mem_map.1 hk
     have := name_short ((both_ok hT hs).name x (List.mem_filter.1 hx).1)
     omega
   · cases hk
 · cases hk
theorem miss_err {T : List KH} {sums : List Sm} {places : List Int} (h : (missA T sums places).2 ≠ 0) : (missA T sums places).1 = [] := by
 unfold missA at h ⊢
 split at h
 · split at h
   · exact absurd rfl h
   · rename_i h1 h2; rw [if_pos h1, if_neg h2]
 · rename_i h1; rw [if_neg h1]
end Go.Fw
namespace Go.Proofs.YtbijdmfilmecbaaGreat
open Go.Fw Go.Proofs Go.RowKit Go.Proofs.Tryz
theorem c40 (w0 : World) (self : Int) (m : MV) (g cap : Nat) (A : Option Addr) (gs : List Nat) (T : List KH) (sums : List Sm) (h : TreeAt w0 g A cap gs T) (hT : KhOk T) (hl : T.length ≤ 1048576) (h2 : Sl Sm.enc 3 w0 w0.heap.size (.slice m.su.a m.su.n m.su.c) sums) (hs : Sums sums) (hTs : T.length + sums.length ≤ 1048576) :
   Rets Tryz.prog 40 #[.agg (XV.enc self g m).toArray] w0 fun u L => ∃ C cC B cB, u = .slice C (ansV self m (keysQ T sums) B cB).length cC ∧ L = [rowOf 35 17 MV.enc C cC (ansV self m (keysQ T sums) B cB), rowOf 77 3 Sm.enc B cB (Ans.sums (keysQ T sums))] := by
 have hsl := hs.len
 have hsl4 : sums.length ≤ 4194304 := by omega
 obtain ⟨A', cap', e', hl', hcap', hA'⟩ := h2
 simp only [Value.slice.injEq] at e'
 obtain ⟨rfl, e2, rfl⟩ := e'
 have rw_b : ((m.su.n : Nat) : Int) = (sums.length : Int) := by rw [e2]
 unfold Go.Fw.Rets
 refine enter1 func40 rfl ntmps40 rfl fun a S => wp_seq_k fun _ hK1 => wp_region_lit (Zi (Ym S (.t rfl) rfl fun g1 a w S => run S (.ac rfl <| .z) fun a w S => Zb (Za (hK1 _ _ (sg S (.ac rfl <| .z) fun a w S => sg S (.ac rfl <| .z) fun a w S => wp_seq_k fun _ hK1 => wp_seq_k fun _ hK2 => wp_region_lit (run S (.fa underlying91 sizeOf35 2 rfl rfl rfl <| .fa underlying35 sizeOf22 18 rfl rfl rfl <| .ld gt22 0 rfl rfl rfl <| .ln underlying22 rfl <| .z) fun a w S => ?_))))))
 rw [rw_b] at S
 refine run S (.mc rfl <| .z) fun a w S => Zb (Za (hK2 _ _ (wp_block ?_)))
 replace S := (S.nil_ 77 3 Sm.enc none).nil_ 3 1 encI none
 refine Yg S [3, 4, 16] (X := Nat × Option Addr × Nat × Option Addr × Nat) (fun q => [(3, true, .slice q.2.1 (placesS (sums.take q.1)).length q.2.2.1), (4, true, .slice q.2.2.2.1 (restS (sums.take q.1)).length q.2.2.2.2), (16, true, .int .i64 (q.1 : Int))])
   (fun q => [rowOf 3 1 encI q.2.1 q.2.2.1 (placesS (sums.take q.1)), rowOf 77 3 Sm.enc q.2.2.2.1 q.2.2.2.2 (restS (sums.take q.1)), .blk g1 (.cells (XV.enc self g m).toArray 91)]) (fun q => q.1 ≤ sums.length) (fun q => sums.length - q.1) (0, none, 0, none, 0) (Nat.zero_le _) ?_
 clear S
 rintro ⟨q, P, cP, R, cR⟩ a w hq S
 dsimp only at hq S
 by_cases hlt : q < sums.length
 · obtain ⟨gq, oq, x, rw_a, hx, hd, hc⟩ := Zv hA' hlt
   obtain ⟨hst1, hst2⟩ := split_snoc hx
   have hpl := pls_len (sums.take q)
   have hrl := rest_len (sums.take q)
   rw [List.length_take] at hpl hrl
   generalize placesS (sums.take q) = G at *
   generalize restS (sums.take q) = H at *
   by_cases hk : x.key = []
   · have rw_k := decide_eq_true hk
     rw [if_pos hk] at hst1 hst2
     rw [List.append_nil] at hst2
     refine wp_seq_k fun _ hK2 => ?_
     rw [rw_a] at S
     refine rg S (.lt (by omega) rfl rfl <| .z) hK2 fun a w S => wp_seq_k fun _ hK2 => Zd S (.t rfl) (wp_skip (Za (hK2 _ _ (wp_seq_k fun _ hK2 => wp_block (wp_seq_k fun _ hK3 => wp_region_lit (run S (.ix underlying22 sizeOf77 (by omega) rfl rfl <| .yy (Ye ⟨isAgg77, sizeOf77⟩ (.t rfl) (vs := [_, _, _]) rfl (fun _ => hc)) rfl <| .z) fun a w S => Zi (Zt S zeroValue77 (cs := _) rfl rfl fun g2 a w S => Zi (Ya S sizeOf77 (.t rfl) (.t rfl) (k := 0) rfl rfl rfl (by simp [Value.oneCell']) fun a w S => Zb (Za (hK3 _ _ (wp_seq_k fun _ hK3 => wp_region_lit (run S (.fa underlying77 sizeOf9 1 rfl rfl rfl <| .ld gt9 0 rfl rfl rfl <| .yy (Xq (.t rfl) Ev.c) rfl <| .z) fun a w S => ?_))))))))))))
     rw [rw_k] at S
     refine Zb (Za (hK3 _ _ (Zd S (.t rfl) (wp_region_lit (run S (.mv rfl <| .fa underlying77 sizeOf3 0 rfl rfl rfl <| .ld gt3 0 rfl rfl rfl <| .z) fun a w S => Zi (Zp S underlying82 inf3 rfl rfl rfl (.t rfl) rfl rfl rfl fun g3 a w S => Zi (Yc S underlying82 inf3 rfl (k := 2) (j := 0) rfl (.t rfl) (.t rfl) rfl rfl rfl rfl (by first | omega | (simp only [List.length_append, List.length_cons, List.length_nil]; omega)) rfl rfl rfl fun A1 cap1 a w S => run S (.as rfl <| .z) fun a w S => Zb (Zj (Za (hK2 _ _ (wp_region_lit (run S (.ad (by unfold I64; omega) rfl <| .mv rfl <| .z) fun a w S => Zb (Za ?_)))))))))))))
     rw [← rw_a] at S
     exact ⟨(q + 1, A1, cap1, R, cR), by dsimp only; omega, by dsimp only; omega, by dsimp only; rw [hst1, hst2]; exact S.pk⟩
   · have rw_k := decide_eq_false hk
     rw [if_neg hk] at hst1 hst2
     rw [List.append_nil] at hst1
     refine wp_seq_k fun _ hK2 => ?_
     rw [rw_a] at S
     refine rg S (.lt (by omega) rfl rfl <| .z) hK2 fun a w S => wp_seq_k fun _ hK2 => Zd S (.t rfl) (wp_skip (Za (hK2 _ _ (wp_seq_k fun _ hK2 => wp_block (wp_seq_k fun _ hK3 => wp_region_lit (run S (.ix underlying22 sizeOf77 (by omega) rfl rfl <| .yy (Ye ⟨isAgg77, sizeOf77⟩ (.t rfl) (vs := [_, _, _]) rfl (fun _ => hc)) rfl <| .z) fun a w S => Zi (Zt S zeroValue77 (cs := _) rfl rfl fun g2 a w S => Zi (Ya S sizeOf77 (.t rfl) (.t rfl) (k := 0) rfl rfl rfl (by simp [Value.oneCell']) fun a w S => Zb (Za (hK3 _ _ (wp_seq_k fun _ hK3 => wp_region_lit (run S (.fa underlying77 sizeOf9 1 rfl rfl rfl <| .ld gt9 0 rfl rfl rfl <| .yy (Xq (.t rfl) Ev.c) rfl <| .z) fun a w S => ?_))))))))))))
     rw [rw_k] at S
     refine Zb (Za (hK3 _ _ (Zf S (.t rfl) (wp_region_lit (run S (.mv rfl <| .la gt77 0 rfl rfl rfl <| .z) fun a w S => Zi (Zp S underlying22 inf77 rfl rfl rfl (.t rfl) rfl rfl rfl fun g3 a w S => Zi (Yc S underlying22 inf77 rfl (k := 3) (j := 0) rfl (.t rfl) (.t rfl) rfl rfl rfl rfl (by first | omega | (simp only [List.length_append, List.length_cons, List.length_nil]; omega)) rfl rfl rfl fun A1 cap1 a w S => run S (.as rfl <| .z) fun a w S => Zb (Zj (Za (hK2 _ _ (wp_region_lit (run S (.ad (by unfold I64; omega) rfl <| .mv rfl <| .z) fun a w S => Zb (Za ?_)))))))))))))
     rw [← rw_a] at S
     exact ⟨(q + 1, P, cP, A1, cap1), by dsimp only; omega, by dsimp only; omega, by dsimp only; rw [hst1, hst2]; exact S.pk⟩
 obtain rfl : q = sums.length := by omega
 rw [List.take_length] at S
 have hrs := rest_sums hs
 have hpl := pls_len sums
 have hrl := rest_len sums
 have hrl2 : T.length + (restS sums).length ≤ 1048576 := by omega
 have hpl2 : (placesS sums).length ≤ 1048576 := by omega
 have hmw : missW T sums = (missA T (restS sums) (placesS sums)).1 := rfl
 have hml := missA_len T (restS sums) (placesS sums)
 have hmk := miss_keys hT hrs.hash (placesS sums)
 have hm0 : (missA T (restS sums) (placesS sums)).2 ≠ 0 → missW T sums = [] := fun e => hmw.trans (miss_err e)
 generalize restS sums = H at *
 generalize placesS sums = G at *
 by_cases he : (missA T H G).2 = 0
 rotate_left
 · have rw_he : decide ((missA T H G).2 ≠ 0) = true := decide_eq_true he
   have rw_hn : (missA T H G).1 = [] := miss_err he
   have hq : keysQ T sums = .nil := if_pos (hm0 he)
   refine sg S (.ge (by omega) rfl rfl <| .z) fun a w S => wp_seq_k fun _ hK2 => Zf S (.t rfl) (wp_exit (Zc (Zc (Zs (Za (hK1 _ _ (wp_seq_k fun _ hK1 => wp_region_lit (run S (.fa underlying91 sizeOf36 1 rfl rfl rfl <| .ld gt36 2 rfl rfl rfl <| .mv rfl <| .mv rfl <| .z) fun a w S => ?_))))))))
   (refine Zi (Zq S call71 (.cons (.t rfl) (.cons (.t rfl) (.cons (.t rfl) .nil))) (c71 _ _ _ _ _ _ _ _ _ _ (by exact .old S.wd (by assumption)) (by assumption) (by exact Sl.of_own S.wd (k := 0) rfl (fun _ => rfl)) (by assumption) (by exact Sl.of_own S.wd (k := 1) rfl (fun _ => rfl)) (by assumption) (by assumption)) rfl ?_); clear S a w; rintro _ _ ⟨B1, c1, rfl, rfl⟩ a w S)
   rw [rw_hn] at S
   refine run S (.mv rfl <| .ex rfl rfl <| .ex rfl rfl <| .as rfl <| .as rfl <| .z) fun a w S => Zb (Za (hK1 _ _ (wp_seq_k fun _ hK1 => sg S (.mv rfl <| .yy (Yk (by omega) (Zu (.t rfl) Ev.c)) rfl <| .mv rfl <| .sk rfl rfl rfl <| .sk rfl rfl rfl <| .sk rfl rfl rfl <| .yy (Zr (.t rfl) Ev.c) rfl <| .z) fun a w S => Zd S (.t rfl) (sg S (.ac rfl <| .z) fun a w S => wp_ret (Zh (Zk S (results1 S results40 (Rv.tmp rfl)) ?_))))))
   rw [hq]
   replace S := (S.nil_ 77 3 Sm.enc none).nil_ 35 17 MV.enc none
   exact ⟨_, _, rfl, S.wd.pk, none, 0, none, 0, rfl, rfl⟩
 have rw_he := he
 by_cases hne : (missA T H G).1 = []
 · have rw_hn : (missA T H G).1 = [] := hne
   have hq : keysQ T sums = .nil := if_pos (hmw.trans hne)
   refine sg S (.ge (by omega) rfl rfl <| .z) fun a w S => wp_seq_k fun _ hK2 => Zf S (.t rfl) (wp_exit (Zc (Zc (Zs (Za (hK1 _ _ (wp_seq_k fun _ hK1 => wp_region_lit (run S (.fa underlying91 sizeOf36 1 rfl rfl rfl <| .ld gt36 2 rfl rfl rfl <| .mv rfl <| .mv rfl <| .z) fun a w S => ?_))))))))
   (refine Zi (Zq S call71 (.cons (.t rfl) (.cons (.t rfl) (.cons (.t rfl) .nil))) (c71 _ _ _ _ _ _ _ _ _ _ (by exact .old S.wd (by assumption)) (by assumption) (by exact Sl.of_own S.wd (k := 0) rfl (fun _ => rfl)) (by assumption) (by exact Sl.of_own S.wd (k := 1) rfl (fun _ => rfl)) (by assumption) (by assumption)) rfl ?_); clear S a w; rintro _ _ ⟨B1, c1, rfl, rfl⟩ a w S)
   rw [rw_he] at S
   rw [rw_hn] at S
   refine run S (.mv rfl <| .ex rfl rfl <| .ex rfl rfl <| .as rfl <| .as rfl <| .z) fun a w S => Zb (Za (hK1 _ _ (wp_seq_k fun _ hK1 => sg S (.mv rfl <| .yy (Yf (by omega) (Zu (.t rfl) Ev.c)) rfl <| .mv rfl <| .gy rfl rfl (Ze (.t rfl)) <| .gy rfl rfl (Xc underlying58 (.t rfl)) <| .gy rfl rfl (Yi (.t rfl) Ev.c) <| .yy (Zn (.t rfl) (.t rfl)) rfl <| .z) fun a w S => Zd S (.t rfl) (sg S (.ac rfl <| .z) fun a w S => wp_ret (Zh (Zk S (results1 S results40 (Rv.tmp rfl)) ?_))))))
   rw [hq]
   replace S := (S.nil_ 77 3 Sm.enc none).nil_ 35 17 MV.enc none
   exact ⟨_, _, rfl, S.wd.pk, none, 0, none, 0, rfl, rfl⟩
 have hq : keysQ T sums = ⟨haveT T (missA T H G).1, some (6, (missA T H G).1.map keyS)⟩ := by unfold keysQ; rw [hmw, if_neg hne]
 obtain ⟨ks, rw_ks⟩ : ∃ ks, (missA T H G).1 = ks := ⟨_, rfl⟩
 rw [rw_ks] at hmk hml hne hq
 have hkl0 : ks.length ≠ 0 := fun e => hne (List.eq_nil_of_length_eq_zero e)
 have rw_0 : decide ((ks.length : Int) = 0) = false := decide_eq_false (by omega)
 refine sg S (.ge (by omega) rfl rfl <| .z) fun a w S => wp_seq_k fun _ hK2 => Zf S (.t rfl) (wp_exit (Zc (Zc (Zs (Za (hK1 _ _ (wp_seq_k fun _ hK1 => wp_region_lit (run S (.fa underlying91 sizeOf36 1 rfl rfl rfl <| .ld gt36 2 rfl rfl rfl <| .mv rfl <| .mv rfl <| .z) fun a w S => ?_))))))))
 (refine Zi (Zq S call71 (.cons (.t rfl) (.cons (.t rfl) (.cons (.t rfl) .nil))) (c71 _ _ _ _ _ _ _ _ _ _ (by exact .old S.wd (by assumption)) (by assumption) (by exact Sl.of_own S.wd (k := 0) rfl (fun _ => rfl)) (by assumption) (by exact Sl.of_own S.wd (k := 1) rfl (fun _ => rfl)) (by assumption) (by assumption)) rfl ?_); clear S a w; rintro _ _ ⟨B1, c1, rfl, rfl⟩ a w S)
 rw [rw_he] at S
 rw [rw_ks] at S
 refine run S (.mv rfl <| .ex rfl rfl <| .ex rfl rfl <| .as rfl <| .as rfl <| .z) fun a w S => Zb (Za (hK1 _ _ (wp_seq_k fun _ hK1 => sg S (.mv rfl <| .yy (Yf (by omega) (Zu (.t rfl) Ev.c)) rfl <| .mv rfl <| .gy rfl rfl (Ze (.t rfl)) <| .gy rfl rfl (Xc underlying58 (.t rfl)) <| .gy rfl rfl (Yf (by omega) (Yi (.t rfl) Ev.c)) <| .yy (Zn (.t rfl) (.t rfl)) rfl <| .z) fun a w S => Zf S (.t rfl) (wp_skip (Za (hK1 _ _ (sg S (.ac rfl <| .z) fun a w S => wp_seq_k fun _ hK1 => sg S (.mv rfl <| .ln underlying58 rfl <| .mc rfl <| .z) fun a w S => wp_block ?_)))))))
 replace S := S.nil_ 77 3 Sm.enc none
 refine Yg S [9, 50] (X := Nat × Option Addr × Nat) (fun q => [(9, true, .slice q.2.1 ((ks.map keyS).take q.1).length q.2.2), (50, true, .int .i64 (q.1 : Int))])
   (fun q => [rowOf 77 3 Sm.enc q.2.1 q.2.2 ((ks.map keyS).take q.1), rowOf 9 1 encS' B1 c1 ks, .blk g1 (.cells (XV.enc self g m).toArray 91)]) (fun q => q.1 ≤ ks.length) (fun q => ks.length - q.1) (0, none, 0) (Nat.zero_le _) ?_
 clear S
 rintro ⟨q, Q, cQ⟩ a w hq2 S
 dsimp only at hq2 S
 by_cases hlt : q < ks.length
 · obtain ⟨gK, rfl⟩ := S.wd.row_at (k := 1) rfl (by have := (S.wd.room (k := 1) rfl).1; omega)
   obtain ⟨x, hx⟩ : ∃ x, ks[q]? = some x := ⟨_, List.getElem?_eq_getElem hlt⟩
   have hst : (ks.map keyS).take (q + 1) = (ks.map keyS).take q ++ [⟨0, x, 0⟩] := by rw [List.take_add_one, List.getElem?_map, hx]; rfl
   have hgl : ((ks.map keyS).take q).length ≤ q := List.length_take_le _ _
   generalize (ks.map keyS).take q = I at *
   refine sg S (.lt (by omega) rfl rfl <| .z) fun a w S => wp_seq_k fun _ hK3 => Zd S (.t rfl) (wp_skip (Za (hK3 _ _ (wp_seq_k fun _ hK3 => wp_block (sg S (.ix underlying58 sizeOf9 (by omega) rfl rfl <| .yy (ys_ldW0 ⟨isAgg9, sizeOf9⟩ (.t rfl) (k := 1) rfl hx (fun _ => rfl) rfl) rfl <| .as rfl <| .z) fun a w S => wp_region_lit (run S (.mv rfl <| .mv rfl <| .yy (Yj (ps := [(1, Go.Operand.tmp 55)]) (us := [_, _, _]) bld77 (.cons (.t rfl) .nil) rfl) rfl <| .z) fun a w S => Zi (Zp S underlying22 inf77 rfl rfl rfl (.t rfl) rfl rfl rfl fun g2 a w S => Zi (Yc S underlying22 inf77 rfl (k := 1) (j := 0) rfl (.t rfl) (.t rfl) rfl Go.Fw.Sm.mkEnc rfl rfl (by first | omega | (simp only [List.length_append, List.length_cons, List.length_nil]; omega)) rfl rfl rfl fun A1 cap1 a w S => run S (.as rfl <| .z) fun a w S => Zb (Zj (Za (hK3 _ _ (wp_region_lit (run S (.ad (by unfold I64; omega) rfl <| .mv rfl <| .z) fun a w S => Zb (Za ?_))))))))))))))
   exact ⟨(q + 1, A1, cap1), by dsimp only; omega, by dsimp only; omega, by dsimp only; rw [hst]; exact S.pk⟩
 obtain rfl : q = ks.length := by omega
 rw [List.take_of_length_le (by simp)] at S
 have hkm : (ks.map keyS).length ≤ 1048576 := by rw [List.length_map]; omega
 generalize ks.map keyS = I at *
 have hold_r := trivial
 have lr_nil := trivial
 have hkl1 : ks.length ≤ 1048576 := by omega
 have hgv : (giveT self m T ks).length ≤ 1048576 := by
   unfold giveT
   rw [List.length_map]
   have := haveT_len T ks
   omega
 refine sg S (.ge (by omega) rfl rfl <| .z) fun a w S => wp_seq_k fun _ hK3 => Zf S (.t rfl) (wp_exit (Zc (Zc (Zs (Za (hK1 _ _ (wp_seq_k fun _ hK1 => h_begin S (by kernel_rfl) [] fun a w S => hy 1 S rfl (Ze (.t rfl)) rfl fun a w S => hy 4 S rfl (Ze (.t rfl)) rfl fun a w S => ?_)))))))
 refine h_split (i := 0) (j := 3) (by kernel_rfl) rfl rfl ?_ ?_
 (refine op_y S (Yr.ys (Yn ⟨isAgg91, sizeOf91⟩ (.t rfl) (k := 2) rfl rfl)) rfl ?_; clear S a w; intro a w S; refine Yw S ?_)
 refine h_split (i := 2) (j := 3) (by kernel_rfl) rfl rfl ?_ ?_
 (refine Zq S call72 (.cons (.t rfl) (.cons (.t rfl) .nil)) (c72 _ _ _ _ _ _ _ _ _ _ (by exact .old S.wd (by assumption)) (by assumption) (by assumption) (by exact Sl.of_own S.wd (k := 1) rfl (fun _ => rfl)) (by assumption) (by assumption)) rfl ?_; clear S a w; rintro _ _ ⟨B2, cB1, rfl, rfl⟩ a w S; refine Yw S ?_)
 refine h_q (i := 3) S (by repeat (first | exact List.Sublist.refl _ | exact List.nil_sublist _ | refine .cons_cons _ ?_ | refine .cons _ ?_)) rfl (by kernel_rfl) (Yr.ys (Yn ⟨isAgg91, sizeOf91⟩ (.t rfl) (k := 3) rfl rfl)) rfl fun a w S => h_q (i := 5) S (by repeat (first | exact List.Sublist.refl _ | exact List.nil_sublist _ | refine .cons_cons _ ?_ | refine .cons _ ?_)) rfl (by kernel_rfl) (Zg call69 (.cons (.t rfl) (.cons Ev.c (.cons (.t rfl) .nil))) (fun hp w W => c69 _ _ _ _ _ _ _ _)) rfl fun a w S => ?_
 (refine h_m (i := 6) rfl (by kernel_rfl) (Zp S underlying46 inf35 rfl rfl rfl (.t rfl) rfl rfl rfl ?_); clear S a w; intro g2 a w S; refine Yw S ?_)
 (refine h_m (i := 7) rfl (by kernel_rfl) (Yc S underlying46 inf35 rfl (k := 1) (j := 0) rfl (.t rfl) (.t rfl) rfl rfl rfl rfl (by first | omega | (simp only [List.length_append, List.length_cons, List.length_nil]; omega)) rfl rfl rfl ?_); clear S a w; intro A1 cap1 a w S; refine Yw S ?_)
 refine hy 8 S rfl (Yu (.t rfl)) rfl fun a w S => Xg (by kernel_rfl) (Za (hK1 _ _ (wp_ret (Zk S (results1 S results40 (Rv.tmp rfl)) ?_))))
 rotate_left
 (refine op_y S (Yr.ys (Yn ⟨isAgg91, sizeOf91⟩ (.t rfl) (k := 2) rfl rfl)) rfl ?_; clear S a w; intro a w S; refine Yw S ?_)
 (refine h_m (i := 2) rfl (by kernel_rfl) (Zq S call72 (.cons (.t rfl) (.cons (.t rfl) .nil)) (c72 _ _ _ _ _ _ _ _ _ _ (by exact .old S.wd (by assumption)) (by assumption) (by assumption) (by exact Sl.of_own S.wd (k := 1) rfl (fun _ => rfl)) (by assumption) (by assumption)) rfl ?_); clear S a w; rintro _ _ ⟨B2, cB1, rfl, rfl⟩ a w S; refine Yw S ?_)
 refine h_q (i := 5) S (by repeat (first | exact List.Sublist.refl _ | exact List.nil_sublist _ | refine .cons_cons _ ?_ | refine .cons _ ?_)) rfl (by kernel_rfl) (Zg call69 (.cons (.t rfl) (.cons Ev.c (.cons (.t rfl) .nil))) (fun hp w W => c69 _ _ _ _ _ _ _ _)) rfl fun a w S => ?_
 (refine h_m (i := 6) rfl (by kernel_rfl) (Zp S underlying46 inf35 rfl rfl rfl (.t rfl) rfl rfl rfl ?_); clear S a w; intro g2 a w S; refine Yw S ?_)
 (refine h_m (i := 7) rfl (by kernel_rfl) (Yc S underlying46 inf35 rfl (k := 1) (j := 0) rfl (.t rfl) (.t rfl) rfl rfl rfl rfl (by first | omega | (simp only [List.length_append, List.length_cons, List.length_nil]; omega)) rfl rfl rfl ?_); clear S a w; intro A1 cap1 a w S; refine Yw S ?_)
 refine hy 8 S rfl (Yu (.t rfl)) rfl fun a w S => Xg (by kernel_rfl) (Za (hK1 _ _ (wp_ret (Zk S (results1 S results40 (Rv.tmp rfl)) ?_))))
 rotate_left
 (refine op_y S (Yr.ys (Yn ⟨isAgg91, sizeOf91⟩ (.t rfl) (k := 2) rfl rfl)) rfl ?_; clear S a w; intro a w S; refine Yw S ?_)
 refine h_q (i := 0) S (by repeat (first | exact List.Sublist.refl _ | exact List.nil_sublist _ | refine .cons_cons _ ?_ | refine .cons _ ?_)) rfl (by kernel_rfl) (Yr.ys (Yn ⟨isAgg91, sizeOf91⟩ (.t rfl) (k := 2) rfl rfl)) rfl fun a w S => ?_
 (refine h_m (i := 2) rfl (by kernel_rfl) (Zq S call72 (.cons (.t rfl) (.cons (.t rfl) .nil)) (c72 _ _ _ _ _ _ _ _ _ _ (by exact .old S.wd (by assumption)) (by assumption) (by assumption) (by exact Sl.of_own S.wd (k := 1) rfl (fun _ => rfl)) (by assumption) (by assumption)) rfl ?_); clear S a w; rintro _ _ ⟨B2, cB1, rfl, rfl⟩ a w S; refine Yw S ?_)
 refine h_q (i := 5) S (by repeat (first | exact List.Sublist.refl _ | exact List.nil_sublist _ | refine .cons_cons _ ?_ | refine .cons _ ?_)) rfl (by kernel_rfl) (Zg call69 (.cons (.t rfl) (.cons Ev.c (.cons (.t rfl) .nil))) (fun hp w W => c69 _ _ _ _ _ _ _ _)) rfl fun a w S => ?_
 (refine h_m (i := 6) rfl (by kernel_rfl) (Zp S underlying46 inf35 rfl rfl rfl (.t rfl) rfl rfl rfl ?_); clear S a w; intro g2 a w S; refine Yw S ?_)
 (refine h_m (i := 7) rfl (by kernel_rfl) (Yc S underlying46 inf35 rfl (k := 1) (j := 0) rfl (.t rfl) (.t rfl) rfl rfl rfl rfl (by first | omega | (simp only [List.length_append, List.length_cons, List.length_nil]; omega)) rfl rfl rfl ?_); clear S a w; intro A1 cap1 a w S; refine Yw S ?_)
 refine hy 8 S rfl (Yu (.t rfl)) rfl fun a w S => Xg (by kernel_rfl) (Za (hK1 _ _ (wp_ret (Zk S (results1 S results40 (Rv.tmp rfl)) ?_))))
 rotate_left
 all_goals (rw [hq]; exact ⟨_, _, rfl, S.wd.pk, A1, cap1, Q, cQ, rfl, rfl⟩)
end Go.Proofs.YtbijdmfilmecbaaGreat
namespace Go.Proofs.YtbijdmfilmecbaaGreat
open Go.Fw Go.Proofs Go.RowKit Go.Proofs.Tryz
theorem c41 (w0 : World) (self : Int) (m : MV) (g cap : Nat) (A : Option Addr) (gs : List Nat) (T : List KH) (sums : List Sm) (h : TreeAt w0 g A cap gs T) (hT : KhOk T) (hl : T.length ≤ 1048576) (h2 : Sl Sm.enc 3 w0 w0.heap.size (.slice m.su.a m.su.n m.su.c) sums) (hs : Sums sums) :
   Rets Tryz.prog 41 #[.agg (XV.enc self g m).toArray] w0 fun u L => ∃ C cC, u = .slice C (giveT self m T (sums.map (·.key))).length cC ∧ L = [rowOf 35 17 MV.enc C cC (giveT self m T (sums.map (·.key)))] := by
 have hsl := hs.len
 obtain ⟨A', cap', e', hl', hcap', hA'⟩ := h2
 simp only [Value.slice.injEq] at e'
 obtain ⟨rfl, e2, rfl⟩ := e'
 have rw_b : ((m.su.n : Nat) : Int) = (sums.length : Int) := by rw [e2]
 unfold Go.Fw.Rets
 refine enter1 func41 rfl ntmps41 rfl fun a S => wp_seq_k fun _ hK1 => wp_region_lit (Zi (Ym S (.t rfl) rfl fun g1 a w S => run S (.ac rfl <| .z) fun a w S => Zb (Za (hK1 _ _ (sg S (.ac rfl <| .z) fun a w S => wp_seq_k fun _ hK1 => wp_seq_k fun _ hK2 => wp_region_lit (run S (.fa underlying91 sizeOf35 2 rfl rfl rfl <| .fa underlying35 sizeOf22 18 rfl rfl rfl <| .ld gt22 0 rfl rfl rfl <| .ln underlying22 rfl <| .z) fun a w S => ?_))))))
 rw [rw_b] at S
 refine run S (.mc rfl <| .z) fun a w S => Zb (Za (hK2 _ _ (wp_block ?_)))
 replace S := S.nil_ 9 1 encS' none
 refine Yg S [3, 10] (X := Nat × Option Addr × Nat) (fun q => [(3, true, .slice q.2.1 ((sums.map (·.key)).take q.1).length q.2.2), (10, true, .int .i64 (q.1 : Int))])
   (fun q => [rowOf 9 1 encS' q.2.1 q.2.2 ((sums.map (·.key)).take q.1), .blk g1 (.cells (XV.enc self g m).toArray 91)]) (fun q => q.1 ≤ sums.length) (fun q => sums.length - q.1) (0, none, 0) (Nat.zero_le _) ?_
 clear S
 rintro ⟨q, R, cR⟩ a w hq S
 dsimp only at hq S
 by_cases hlt : q < sums.length
 · obtain ⟨gq, oq, x, rw_a, hx, hd, hc⟩ := Zv hA' hlt
   have hst : (sums.map (·.key)).take (q + 1) = (sums.map (·.key)).take q ++ [x.key] := by rw [List.take_add_one, List.getElem?_map, hx]; rfl
   have hgl : ((sums.map (·.key)).take q).length ≤ q := List.length_take_le _ _
   generalize (sums.map (·.key)).take q = G at *
   refine wp_seq_k fun _ hK2 => ?_
   rw [rw_a] at S
   refine rg S (.lt (by omega) rfl rfl <| .z) hK2 fun a w S => wp_seq_k fun _ hK2 => Zd S (.t rfl) (wp_skip (Za (hK2 _ _ (wp_seq_k fun _ hK2 => wp_block (wp_seq_k fun _ hK3 => wp_region_lit (run S (.ix underlying22 sizeOf77 (by omega) rfl rfl <| .yy (Ye ⟨isAgg77, sizeOf77⟩ (.t rfl) (vs := [_, _, _]) rfl (fun _ => hc)) rfl <| .z) fun a w S => Zi (Zt S zeroValue77 (cs := _) rfl rfl fun g2 a w S => Zi (Ya S sizeOf77 (.t rfl) (.t rfl) (k := 0) rfl rfl rfl (by simp [Value.oneCell']) fun a w S => Zb (Za (hK3 _ _ (wp_region_lit (run S (.mv rfl <| .fa underlying77 sizeOf9 1 rfl rfl rfl <| .ld gt9 0 rfl rfl rfl <| .z) fun a w S => Zi (Zp S underlying58 inf9 rfl rfl rfl (.t rfl) rfl rfl rfl fun g3 a w S => Zi (Yc S underlying58 inf9 rfl (k := 2) (j := 0) rfl (.t rfl) (.t rfl) rfl rfl rfl rfl (by first | omega | (simp only [List.length_append, List.length_cons, List.length_nil]; omega)) rfl rfl rfl fun A1 cap1 a w S => run S (.as rfl <| .z) fun a w S => Zb (Zj (Za (hK2 _ _ (wp_region_lit (run S (.ad (by unfold I64; omega) rfl <| .mv rfl <| .z) fun a w S => Zb (Za ?_))))))))))))))))))))
   rw [← rw_a] at S
   exact ⟨(q + 1, A1, cap1), by dsimp only; omega, by dsimp only; omega, by dsimp only; rw [hst]; exact S.pk⟩
 obtain rfl : q = sums.length := by omega
 rw [List.take_of_length_le (by simp)] at S
 have hkl : (sums.map (·.key)).length ≤ 1048576 := by rw [List.length_map]; omega
 have hks : ∀ k ∈ sums.map (·.key), k.length ≤ 1048576 := fun k hk => by
   obtain ⟨s, hs1, rfl⟩ := List.mem_map.1 hk
   exact hs.key s hs1
 generalize sums.map (·.key) = ks at *
 refine sg S (.ge (by omega) rfl rfl <| .z) fun a w S => wp_seq_k fun _ hK2 => Zf S (.t rfl) (wp_exit (Zc (Zc (Zs (Za (hK1 _ _ (wp_seq_k fun _ hK1 => wp_region_lit (run S (.la gt91 1 rfl rfl rfl <| .mv rfl <| .z) fun a w S => ?_))))))))
 (refine Zi (Zq S call72 (.cons (.t rfl) (.cons (.t rfl) .nil)) (c72 _ _ _ _ _ _ _ _ _ _ (by exact .old S.wd (by assumption)) (by assumption) (by assumption) (by exact Sl.of_own S.wd (k := 0) rfl (fun _ => rfl)) (by assumption) (by assumption)) rfl ?_); clear S a w; rintro _ _ ⟨B1, cB1, rfl, rfl⟩ a w S)
 refine run S (.as rfl <| .z) fun a w S => Zb (Za (hK1 _ _ (wp_ret (Zk S (results1 S results41 (Rv.tmp rfl)) ?_))))
 exact ⟨_, _, rfl, S.wd.pk, _, _, rfl, rfl⟩
end Go.Proofs.YtbijdmfilmecbaaGreat
namespace Go.Fw
open Go.Proofs Go.RowKit
section
variable {P : Program} {n : Nat} {w0 : World} {K : KL} {L : List Chunk} {b : Bool} {dst : Option Nat} {ty : TypeId} {pos : String} {aft : Array Edge} {gd : Option (Nat × Bool)}
theorem ys_mkFuncB {f : Fn} {xs : List Operand} {vs : List Value} (hx : EvL n b K xs vs) : Yr P ⟨dst, .makeFunc f xs.toArray #[], ty, pos, aft, gd⟩ n K w0 L b (.func f vs.toArray #[]) := fun a w hb hk _ => by
 have e : (xs.toArray.map a.eval) = vs.toArray := by rw [List.map_toArray, hx a hb hk]
 simp only [execOp, e]
 simp [Instr.makeFunc]
end
section
variable {P : Program} {n : Nat} {w0 : World} {K : KL} {L : List Chunk} {ty : TypeId} {pos : String} {aft : Array Edge} {gd : Option (Nat × Bool)} {a : Act} {w : World} {Z : Act → World → Prop} {Q : Exit → Act → World → Prop} {d : Nat}
theorem op_callVB {f : FuncId} {x0 : Operand} {ts : Array TypeId} {us : List Value} {R : Value → List Chunk → Prop} (S : St n w0 K L a w) (h0 : Ev n true K x0 (.func (.func f) us.toArray #[])) (hf : ∀ args w, (callFunc f args).run P w = .ok (.enter f args) w)
   (hc : Rets P f us.toArray w R) (hd : Nat.blt d n = true) (next : ∀ v L', R v L' → ∀ a w', St n w0 ((d, true, v) :: K) (L' ++ L) a w' → Z a w') : Oper.wp P ⟨some d, .call ⟨.value x0, #[], ts⟩, ty, pos, aft, gd⟩ a w Z Q := by
 have hrun : (execOp a.eval ⟨some d, .call ⟨.value x0, #[], ts⟩, ty, pos, aft, gd⟩).run P w = .ok (.enter f us.toArray) w := by
   simp only [execOp, resolve, h0 a rfl S.kn]
   simp [Deferred.ofValue, invoke, hf]
 unfold Oper.wp
 rw [hrun]
 exact Calls.mono hc fun e w' ⟨v, L', he, hw, hr⟩ => by
   subst he
   exact next v L' hr _ _ ⟨S.kn.put hd v, S.wd.join hw⟩
end
end Go.Fw
namespace Go.Fw
open Go.RowKit
abbrev Rul.enc (p q : Int) (v : Value) : List Value := [.int .i64 p, .int .i64 q, v]
end Go.Fw
namespace Go.Proofs.YtbijdmfilmecbaaGreat
open Go.Fw Go.Proofs Go.RowKit Go.Proofs.Tryz
theorem z38 (w0 : World) (n : Int) (g : Nat) (x : Value) (R : Value → List Chunk → Prop) (c0 : ∀ (j : Nat) (u : Value), (Rul.enc 0 4 (.func (.func 39) #[x] #[]))[j]? = some u → w0.cell? ⟨g, 0 + 0 * 3 + j, none⟩ = some u)
   (c1 : ∀ (j : Nat) (u : Value), (Rul.enc 5 5 (.func (.func 40) #[x] #[]))[j]? = some u → w0.cell? ⟨g, 0 + 1 * 3 + j, none⟩ = some u)
   (c2 : ∀ (j : Nat) (u : Value), (Rul.enc 6 6 (.func (.func 41) #[x] #[]))[j]? = some u → w0.cell? ⟨g, 0 + 2 * 3 + j, none⟩ = some u)
   (hD : 0 ≤ n ∧ n ≤ 4 → ∀ w', Wd w0 [] w' → Rets Tryz.prog 39 #[x] w' R) (hQ : n = 5 → ∀ w', Wd w0 [] w' → Rets Tryz.prog 40 #[x] w' R) (hW : n = 6 → ∀ w', Wd w0 [] w' → Rets Tryz.prog 41 #[x] w' R)
   (hN : n < 0 ∨ 6 < n → ∀ w', Wd w0 [] w' → ∃ L, Wd w0 L w' ∧ R (.slice none 0 0) L) :
   Rets Tryz.prog 38 #[.int .i64 n, .slice (some ⟨g, 0, none⟩) 3 3] w0 R := by
 have rw_1 : (0 : Int) + 1 = ((1 : Nat) : Int) := rfl
 have rw_2 : ((1 : Nat) : Int) + 1 = ((2 : Nat) : Int) := rfl
 have rw_3 : ((2 : Nat) : Int) + 1 = ((3 : Nat) : Int) := rfl
 unfold Go.Fw.Rets
 refine enter2 func38 rfl ntmps38 rfl fun a S => sg S (.ac rfl <| .z) fun a w S => wp_seq_k fun _ hK1 => sg S (.mv rfl <| .ln underlying129 rfl <| .mc rfl <| .z) fun a w S => wp_block (Xf 4 (Yb ?_))
 by_cases h1 : 0 ≤ n ∧ n ≤ 4
 · have rw_a : decide (0 ≤ n) = true := decide_eq_true h1.1
   have rw_b : decide (n ≤ 4) = true := decide_eq_true h1.2
   refine sg S (.lt (by omega) rfl rfl <| .z) fun a w S => wp_seq_k fun _ hK2 => Zd S (.t rfl) (wp_skip (Za (hK2 _ _ (wp_seq_k fun _ hK2 => wp_block (wp_seq_k fun _ hK3 => wp_region_lit (run S (.yy (Yv (j := 0) underlying129 sizeOf95 (.t rfl) (.t rfl) (fun _ => by omega)) rfl <| .yy (Ye ⟨isAgg95, sizeOf95⟩ (.t rfl) (vs := [_, _, _]) rfl (fun _ => c0)) rfl <| .z) fun a w S => Zi (Zt S zeroValue95 (cs := _) rfl rfl fun g1 a w S => Zi (Ya S sizeOf95 (.t rfl) (.t rfl) (k := 0) rfl rfl rfl (by simp [Value.oneCell']) fun a w S => Zb (Za (hK3 _ _ (sg S (.mv rfl <| .fa underlying95 sizeOf3 0 rfl rfl rfl <| .ld gt3 0 rfl rfl rfl <| .yy (Yk (by omega) (Yp (.t rfl) (.t rfl))) rfl <| .mv rfl <| .gy rfl rfl (Ze (.t rfl)) <| .gy rfl rfl (Zm (FieldT.mk underlying95 rfl sizeOf3 rfl) (.t rfl) (i' := 1) rfl) <| .gy rfl rfl (Yd ⟨isAgg3, sizeOf3⟩ (.t rfl) (k := 0) rfl rfl) <| .gy rfl rfl (Yk (by omega) (Xh (.t rfl) (.t rfl))) <| .yy (Zr (.t rfl) (.t rfl)) rfl <| .z) fun a w S => Zd S (.t rfl) (wp_seq_k fun _ hK3 => wp_region_lit (run S (.fa underlying95 sizeOf93 2 rfl rfl rfl <| .ld gt93 0 rfl rfl rfl <| .z) fun a w S => ?_)))))))))))))
   refine Zi (op_callVB (us := [x]) S (.t rfl) call39 (hD h1 _ (S.wd.sub (List.nil_sublist _))) rfl ?_)
   clear S
   intro v L' hR a w S
   refine run S (.as rfl <| .z) fun a w S => Zb (Za (hK3 _ _ (wp_ret (Yq (Zh (Zh (Yq (Zh (Zk S (results1 S results38 (Rv.tmp rfl)) ?_)))))))))
   exact ⟨_, L', rfl, S.wd.sub (List.sublist_append_left _ _), hR⟩
 by_cases h2 : n = 5
 · have rw_a : decide (0 ≤ n) = true := decide_eq_true (by omega)
   have rw_b : decide (n ≤ 4) = false := decide_eq_false (by omega)
   have rw_c : decide (5 ≤ n) = true := decide_eq_true (by omega)
   have rw_d : decide (n ≤ 5) = true := decide_eq_true (by omega)
   refine sg S (.lt (by omega) rfl rfl <| .z) fun a w S => wp_seq_k fun _ hK2 => Zd S (.t rfl) (wp_skip (Za (hK2 _ _ (wp_seq_k fun _ hK2 => wp_block (wp_seq_k fun _ hK3 => wp_region_lit (run S (.yy (Yv (j := 0) underlying129 sizeOf95 (.t rfl) (.t rfl) (fun _ => by omega)) rfl <| .yy (Ye ⟨isAgg95, sizeOf95⟩ (.t rfl) (vs := [_, _, _]) rfl (fun _ => c0)) rfl <| .z) fun a w S => Zi (Zt S zeroValue95 (cs := _) rfl rfl fun g1 a w S => Zi (Ya S sizeOf95 (.t rfl) (.t rfl) (k := 0) rfl rfl rfl (by simp [Value.oneCell']) fun a w S => Zb (Za (hK3 _ _ (sg S (.mv rfl <| .fa underlying95 sizeOf3 0 rfl rfl rfl <| .ld gt3 0 rfl rfl rfl <| .yy (Yk (by omega) (Yp (.t rfl) (.t rfl))) rfl <| .mv rfl <| .gy rfl rfl (Ze (.t rfl)) <| .gy rfl rfl (Zm (FieldT.mk underlying95 rfl sizeOf3 rfl) (.t rfl) (i' := 1) rfl) <| .gy rfl rfl (Yd ⟨isAgg3, sizeOf3⟩ (.t rfl) (k := 0) rfl rfl) <| .gy rfl rfl (Yf (by omega) (Xh (.t rfl) (.t rfl))) <| .yy (Zr (.t rfl) (.t rfl)) rfl <| .z) fun a w S => Zf S (.t rfl) (wp_skip (Zj (Za (hK2 _ _ (wp_region_lit (run S (.ad (by unfold I64; omega) rfl <| .z) fun a w S => ?_)))))))))))))))))
   rw [rw_1] at S
   refine run S (.mv rfl <| .z) fun a w S => Zb (Za (Yb (sg S (.lt (by omega) rfl rfl <| .z) fun a w S => wp_seq_k fun _ hK2 => Zd S (.t rfl) (wp_skip (Za (hK2 _ _ (wp_seq_k fun _ hK2 => wp_block (wp_seq_k fun _ hK3 => wp_region_lit (run S (.yy (Yv (j := 1) underlying129 sizeOf95 (.t rfl) (.t rfl) (fun _ => by omega)) rfl <| .yy (Ye ⟨isAgg95, sizeOf95⟩ (.t rfl) (vs := [_, _, _]) rfl (fun _ => c1)) rfl <| .z) fun a w S => Zi (Zt S zeroValue95 (cs := _) rfl rfl fun g2 a w S => Zi (Ya S sizeOf95 (.t rfl) (.t rfl) (k := 0) rfl rfl rfl (by simp [Value.oneCell']) fun a w S => Zb (Za (hK3 _ _ (sg S (.mv rfl <| .fa underlying95 sizeOf3 0 rfl rfl rfl <| .ld gt3 0 rfl rfl rfl <| .yy (Yk (by omega) (Yp (.t rfl) (.t rfl))) rfl <| .mv rfl <| .gy rfl rfl (Ze (.t rfl)) <| .gy rfl rfl (Zm (FieldT.mk underlying95 rfl sizeOf3 rfl) (.t rfl) (i' := 1) rfl) <| .gy rfl rfl (Yd ⟨isAgg3, sizeOf3⟩ (.t rfl) (k := 0) rfl rfl) <| .gy rfl rfl (Yk (by omega) (Xh (.t rfl) (.t rfl))) <| .yy (Zr (.t rfl) (.t rfl)) rfl <| .z) fun a w S => Zd S (.t rfl) (wp_seq_k fun _ hK3 => wp_region_lit ?_)))))))))))))))
   refine run S (.fa underlying95 sizeOf93 2 rfl rfl rfl <| .ld gt93 0 rfl rfl rfl <| .z) fun a w S => Zi (op_callVB (us := [x]) S (.t rfl) call40 (hQ h2 _ (S.wd.sub (List.nil_sublist _))) rfl ?_)
   clear S
   intro v L' hR a w S
   refine run S (.as rfl <| .z) fun a w S => Zb (Za (hK3 _ _ (wp_ret (Yq (Zh (Zh (Yq (Zh (Zk S (results1 S results38 (Rv.tmp rfl)) ?_)))))))))
   exact ⟨_, L', rfl, S.wd.sub (List.sublist_append_left _ _), hR⟩
 by_cases h3 : n = 6
 · have rw_a : decide (0 ≤ n) = true := decide_eq_true (by omega)
   have rw_b : decide (n ≤ 4) = false := decide_eq_false (by omega)
   have rw_c : decide (5 ≤ n) = true := decide_eq_true (by omega)
   have rw_d : decide (n ≤ 5) = false := decide_eq_false (by omega)
   have rw_e : decide (6 ≤ n) = true := decide_eq_true (by omega)
   have rw_f : decide (n ≤ 6) = true := decide_eq_true (by omega)
   refine sg S (.lt (by omega) rfl rfl <| .z) fun a w S => wp_seq_k fun _ hK2 => Zd S (.t rfl) (wp_skip (Za (hK2 _ _ (wp_seq_k fun _ hK2 => wp_block (wp_seq_k fun _ hK3 => wp_region_lit (run S (.yy (Yv (j := 0) underlying129 sizeOf95 (.t rfl) (.t rfl) (fun _ => by omega)) rfl <| .yy (Ye ⟨isAgg95, sizeOf95⟩ (.t rfl) (vs := [_, _, _]) rfl (fun _ => c0)) rfl <| .z) fun a w S => Zi (Zt S zeroValue95 (cs := _) rfl rfl fun g1 a w S => Zi (Ya S sizeOf95 (.t rfl) (.t rfl) (k := 0) rfl rfl rfl (by simp [Value.oneCell']) fun a w S => Zb (Za (hK3 _ _ (sg S (.mv rfl <| .fa underlying95 sizeOf3 0 rfl rfl rfl <| .ld gt3 0 rfl rfl rfl <| .yy (Yk (by omega) (Yp (.t rfl) (.t rfl))) rfl <| .mv rfl <| .gy rfl rfl (Ze (.t rfl)) <| .gy rfl rfl (Zm (FieldT.mk underlying95 rfl sizeOf3 rfl) (.t rfl) (i' := 1) rfl) <| .gy rfl rfl (Yd ⟨isAgg3, sizeOf3⟩ (.t rfl) (k := 0) rfl rfl) <| .gy rfl rfl (Yf (by omega) (Xh (.t rfl) (.t rfl))) <| .yy (Zr (.t rfl) (.t rfl)) rfl <| .z) fun a w S => Zf S (.t rfl) (wp_skip (Zj (Za (hK2 _ _ (wp_region_lit (run S (.ad (by unfold I64; omega) rfl <| .z) fun a w S => ?_)))))))))))))))))
   rw [rw_1] at S
   refine run S (.mv rfl <| .z) fun a w S => Zb (Za (Yb (sg S (.lt (by omega) rfl rfl <| .z) fun a w S => wp_seq_k fun _ hK2 => Zd S (.t rfl) (wp_skip (Za (hK2 _ _ (wp_seq_k fun _ hK2 => wp_block (wp_seq_k fun _ hK3 => wp_region_lit (run S (.yy (Yv (j := 1) underlying129 sizeOf95 (.t rfl) (.t rfl) (fun _ => by omega)) rfl <| .yy (Ye ⟨isAgg95, sizeOf95⟩ (.t rfl) (vs := [_, _, _]) rfl (fun _ => c1)) rfl <| .z) fun a w S => Zi (Zt S zeroValue95 (cs := _) rfl rfl fun g2 a w S => Zi (Ya S sizeOf95 (.t rfl) (.t rfl) (k := 0) rfl rfl rfl (by simp [Value.oneCell']) fun a w S => Zb (Za (hK3 _ _ (sg S (.mv rfl <| .fa underlying95 sizeOf3 0 rfl rfl rfl <| .ld gt3 0 rfl rfl rfl <| .yy (Yk (by omega) (Yp (.t rfl) (.t rfl))) rfl <| .mv rfl <| .gy rfl rfl (Ze (.t rfl)) <| .gy rfl rfl (Zm (FieldT.mk underlying95 rfl sizeOf3 rfl) (.t rfl) (i' := 1) rfl) <| .gy rfl rfl (Yd ⟨isAgg3, sizeOf3⟩ (.t rfl) (k := 0) rfl rfl) <| .gy rfl rfl (Yf (by omega) (Xh (.t rfl) (.t rfl))) <| .yy (Zr (.t rfl) (.t rfl)) rfl <| .z) fun a w S => Zf S (.t rfl) (wp_skip (Zj (Za (hK2 _ _ (wp_region_lit ?_)))))))))))))))))))
   refine run S (.ad (by unfold I64; omega) rfl <| .z) fun a w S => ?_
   rw [rw_2] at S
   refine run S (.mv rfl <| .z) fun a w S => Zb (Za (Yb (sg S (.lt (by omega) rfl rfl <| .z) fun a w S => wp_seq_k fun _ hK2 => Zd S (.t rfl) (wp_skip (Za (hK2 _ _ (wp_seq_k fun _ hK2 => wp_block (wp_seq_k fun _ hK3 => wp_region_lit (run S (.yy (Yv (j := 2) underlying129 sizeOf95 (.t rfl) (.t rfl) (fun _ => by omega)) rfl <| .yy (Ye ⟨isAgg95, sizeOf95⟩ (.t rfl) (vs := [_, _, _]) rfl (fun _ => c2)) rfl <| .z) fun a w S => Zi (Zt S zeroValue95 (cs := _) rfl rfl fun g3 a w S => Zi (Ya S sizeOf95 (.t rfl) (.t rfl) (k := 0) rfl rfl rfl (by simp [Value.oneCell']) fun a w S => Zb (Za (hK3 _ _ (sg S (.mv rfl <| .fa underlying95 sizeOf3 0 rfl rfl rfl <| .ld gt3 0 rfl rfl rfl <| .yy (Yk (by omega) (Yp (.t rfl) (.t rfl))) rfl <| .mv rfl <| .gy rfl rfl (Ze (.t rfl)) <| .gy rfl rfl (Zm (FieldT.mk underlying95 rfl sizeOf3 rfl) (.t rfl) (i' := 1) rfl) <| .gy rfl rfl (Yd ⟨isAgg3, sizeOf3⟩ (.t rfl) (k := 0) rfl rfl) <| .gy rfl rfl (Yk (by omega) (Xh (.t rfl) (.t rfl))) <| .yy (Zr (.t rfl) (.t rfl)) rfl <| .z) fun a w S => Zd S (.t rfl) (wp_seq_k fun _ hK3 => wp_region_lit ?_)))))))))))))))
   refine run S (.fa underlying95 sizeOf93 2 rfl rfl rfl <| .ld gt93 0 rfl rfl rfl <| .z) fun a w S => Zi (op_callVB (us := [x]) S (.t rfl) call41 (hW h3 _ (S.wd.sub (List.nil_sublist _))) rfl ?_)
   clear S
   intro v L' hR a w S
   refine run S (.as rfl <| .z) fun a w S => Zb (Za (hK3 _ _ (wp_ret (Yq (Zh (Zh (Yq (Zh (Zk S (results1 S results38 (Rv.tmp rfl)) ?_)))))))))
   exact ⟨_, L', rfl, S.wd.sub (List.sublist_append_left _ _), hR⟩
 by_cases h4 : 0 ≤ n
 · have hR := hN (.inr (by omega))
   have rw_a : decide (0 ≤ n) = true := decide_eq_true (by omega)
   have rw_b : decide (n ≤ 4) = false := decide_eq_false (by omega)
   have rw_c : decide (5 ≤ n) = true := decide_eq_true (by omega)
   have rw_d : decide (n ≤ 5) = false := decide_eq_false (by omega)
   have rw_e : decide (6 ≤ n) = true := decide_eq_true (by omega)
   have rw_f : decide (n ≤ 6) = false := decide_eq_false (by omega)
   refine sg S (.lt (by omega) rfl rfl <| .z) fun a w S => wp_seq_k fun _ hK2 => Zd S (.t rfl) (wp_skip (Za (hK2 _ _ (wp_seq_k fun _ hK2 => wp_block (wp_seq_k fun _ hK3 => wp_region_lit (run S (.yy (Yv (j := 0) underlying129 sizeOf95 (.t rfl) (.t rfl) (fun _ => by omega)) rfl <| .yy (Ye ⟨isAgg95, sizeOf95⟩ (.t rfl) (vs := [_, _, _]) rfl (fun _ => c0)) rfl <| .z) fun a w S => Zi (Zt S zeroValue95 (cs := _) rfl rfl fun g1 a w S => Zi (Ya S sizeOf95 (.t rfl) (.t rfl) (k := 0) rfl rfl rfl (by simp [Value.oneCell']) fun a w S => Zb (Za (hK3 _ _ (sg S (.mv rfl <| .fa underlying95 sizeOf3 0 rfl rfl rfl <| .ld gt3 0 rfl rfl rfl <| .yy (Yk (by omega) (Yp (.t rfl) (.t rfl))) rfl <| .mv rfl <| .gy rfl rfl (Ze (.t rfl)) <| .gy rfl rfl (Zm (FieldT.mk underlying95 rfl sizeOf3 rfl) (.t rfl) (i' := 1) rfl) <| .gy rfl rfl (Yd ⟨isAgg3, sizeOf3⟩ (.t rfl) (k := 0) rfl rfl) <| .gy rfl rfl (Yf (by omega) (Xh (.t rfl) (.t rfl))) <| .yy (Zr (.t rfl) (.t rfl)) rfl <| .z) fun a w S => Zf S (.t rfl) (wp_skip (Zj (Za (hK2 _ _ (wp_region_lit (run S (.ad (by unfold I64; omega) rfl <| .z) fun a w S => ?_)))))))))))))))))
   rw [rw_1] at S
   refine run S (.mv rfl <| .z) fun a w S => Zb (Za (Yb (sg S (.lt (by omega) rfl rfl <| .z) fun a w S => wp_seq_k fun _ hK2 => Zd S (.t rfl) (wp_skip (Za (hK2 _ _ (wp_seq_k fun _ hK2 => wp_block (wp_seq_k fun _ hK3 => wp_region_lit (run S (.yy (Yv (j := 1) underlying129 sizeOf95 (.t rfl) (.t rfl) (fun _ => by omega)) rfl <| .yy (Ye ⟨isAgg95, sizeOf95⟩ (.t rfl) (vs := [_, _, _]) rfl (fun _ => c1)) rfl <| .z) fun a w S => Zi (Zt S zeroValue95 (cs := _) rfl rfl fun g2 a w S => Zi (Ya S sizeOf95 (.t rfl) (.t rfl) (k := 0) rfl rfl rfl (by simp [Value.oneCell']) fun a w S => Zb (Za (hK3 _ _ (sg S (.mv rfl <| .fa underlying95 sizeOf3 0 rfl rfl rfl <| .ld gt3 0 rfl rfl rfl <| .yy (Yk (by omega) (Yp (.t rfl) (.t rfl))) rfl <| .mv rfl <| .gy rfl rfl (Ze (.t rfl)) <| .gy rfl rfl (Zm (FieldT.mk underlying95 rfl sizeOf3 rfl) (.t rfl) (i' := 1) rfl) <| .gy rfl rfl (Yd ⟨isAgg3, sizeOf3⟩ (.t rfl) (k := 0) rfl rfl) <| .gy rfl rfl (Yf (by omega) (Xh (.t rfl) (.t rfl))) <| .yy (Zr (.t rfl) (.t rfl)) rfl <| .z) fun a w S => Zf S (.t rfl) (wp_skip (Zj (Za (hK2 _ _ (wp_region_lit ?_)))))))))))))))))))
   refine run S (.ad (by unfold I64; omega) rfl <| .z) fun a w S => ?_
   rw [rw_2] at S
   refine run S (.mv rfl <| .z) fun a w S => Zb (Za (Yb (sg S (.lt (by omega) rfl rfl <| .z) fun a w S => wp_seq_k fun _ hK2 => Zd S (.t rfl) (wp_skip (Za (hK2 _ _ (wp_seq_k fun _ hK2 => wp_block (wp_seq_k fun _ hK3 => wp_region_lit (run S (.yy (Yv (j := 2) underlying129 sizeOf95 (.t rfl) (.t rfl) (fun _ => by omega)) rfl <| .yy (Ye ⟨isAgg95, sizeOf95⟩ (.t rfl) (vs := [_, _, _]) rfl (fun _ => c2)) rfl <| .z) fun a w S => Zi (Zt S zeroValue95 (cs := _) rfl rfl fun g3 a w S => Zi (Ya S sizeOf95 (.t rfl) (.t rfl) (k := 0) rfl rfl rfl (by simp [Value.oneCell']) fun a w S => Zb (Za (hK3 _ _ (sg S (.mv rfl <| .fa underlying95 sizeOf3 0 rfl rfl rfl <| .ld gt3 0 rfl rfl rfl <| .yy (Yk (by omega) (Yp (.t rfl) (.t rfl))) rfl <| .mv rfl <| .gy rfl rfl (Ze (.t rfl)) <| .gy rfl rfl (Zm (FieldT.mk underlying95 rfl sizeOf3 rfl) (.t rfl) (i' := 1) rfl) <| .gy rfl rfl (Yd ⟨isAgg3, sizeOf3⟩ (.t rfl) (k := 0) rfl rfl) <| .gy rfl rfl (Yf (by omega) (Xh (.t rfl) (.t rfl))) <| .yy (Zr (.t rfl) (.t rfl)) rfl <| .z) fun a w S => Zf S (.t rfl) (wp_skip (Zj (Za (hK2 _ _ (wp_region_lit ?_)))))))))))))))))))
   refine run S (.ad (by unfold I64; omega) rfl <| .z) fun a w S => ?_
   rw [rw_3] at S
   refine run S (.mv rfl <| .z) fun a w S => Zb (Za (Yb (sg S (.ge (by omega) rfl rfl <| .z) fun a w S => wp_seq_k fun _ hK2 => Zf S (.t rfl) (wp_exit (Zc (Zc (Zs (Za (hK1 _ _ (sg S (.ac rfl <| .z) fun a w S => wp_ret (Zk S (results1 S results38 (Rv.tmp rfl)) ?_)))))))))))
   obtain ⟨L', W', hR⟩ := hR w (S.wd.sub (List.nil_sublist _))
   exact ⟨_, L', rfl, W', hR⟩
 · have hR := hN (.inl (by omega))
   have rw_a : decide (0 ≤ n) = false := decide_eq_false (by omega)
   have rw_c : decide (5 ≤ n) = false := decide_eq_false (by omega)
   have rw_e : decide (6 ≤ n) = false := decide_eq_false (by omega)
   refine sg S (.lt (by omega) rfl rfl <| .z) fun a w S => wp_seq_k fun _ hK2 => Zd S (.t rfl) (wp_skip (Za (hK2 _ _ (wp_seq_k fun _ hK2 => wp_block (wp_seq_k fun _ hK3 => wp_region_lit (run S (.yy (Yv (j := 0) underlying129 sizeOf95 (.t rfl) (.t rfl) (fun _ => by omega)) rfl <| .yy (Ye ⟨isAgg95, sizeOf95⟩ (.t rfl) (vs := [_, _, _]) rfl (fun _ => c0)) rfl <| .z) fun a w S => Zi (Zt S zeroValue95 (cs := _) rfl rfl fun g1 a w S => Zi (Ya S sizeOf95 (.t rfl) (.t rfl) (k := 0) rfl rfl rfl (by simp [Value.oneCell']) fun a w S => Zb (Za (hK3 _ _ (sg S (.mv rfl <| .fa underlying95 sizeOf3 0 rfl rfl rfl <| .ld gt3 0 rfl rfl rfl <| .yy (Yf (by omega) (Yp (.t rfl) (.t rfl))) rfl <| .mv rfl <| .sk rfl rfl rfl <| .sk rfl rfl rfl <| .sk rfl rfl rfl <| .sk rfl rfl rfl <| .yy (Zn (.t rfl) Ev.c) rfl <| .z) fun a w S => Zf S (.t rfl) (wp_skip (Zj (Za (hK2 _ _ (wp_region_lit (run S (.ad (by unfold I64; omega) rfl <| .z) fun a w S => ?_)))))))))))))))))
   rw [rw_1] at S
   refine run S (.mv rfl <| .z) fun a w S => Zb (Za (Yb (sg S (.lt (by omega) rfl rfl <| .z) fun a w S => wp_seq_k fun _ hK2 => Zd S (.t rfl) (wp_skip (Za (hK2 _ _ (wp_seq_k fun _ hK2 => wp_block (wp_seq_k fun _ hK3 => wp_region_lit (run S (.yy (Yv (j := 1) underlying129 sizeOf95 (.t rfl) (.t rfl) (fun _ => by omega)) rfl <| .yy (Ye ⟨isAgg95, sizeOf95⟩ (.t rfl) (vs := [_, _, _]) rfl (fun _ => c1)) rfl <| .z) fun a w S => Zi (Zt S zeroValue95 (cs := _) rfl rfl fun g2 a w S => Zi (Ya S sizeOf95 (.t rfl) (.t rfl) (k := 0) rfl rfl rfl (by simp [Value.oneCell']) fun a w S => Zb (Za (hK3 _ _ (sg S (.mv rfl <| .fa underlying95 sizeOf3 0 rfl rfl rfl <| .ld gt3 0 rfl rfl rfl <| .yy (Yf (by omega) (Yp (.t rfl) (.t rfl))) rfl <| .mv rfl <| .sk rfl rfl rfl <| .sk rfl rfl rfl <| .sk rfl rfl rfl <| .sk rfl rfl rfl <| .yy (Zn (.t rfl) Ev.c) rfl <| .z) fun a w S => Zf S (.t rfl) (wp_skip (Zj (Za (hK2 _ _ (wp_region_lit (run S (.ad (by unfold I64; omega) rfl <| .z) fun a w S => ?_))))))))))))))))))))
   rw [rw_2] at S
   refine run S (.mv rfl <| .z) fun a w S => Zb (Za (Yb (sg S (.lt (by omega) rfl rfl <| .z) fun a w S => wp_seq_k fun _ hK2 => Zd S (.t rfl) (wp_skip (Za (hK2 _ _ (wp_seq_k fun _ hK2 => wp_block (wp_seq_k fun _ hK3 => wp_region_lit (run S (.yy (Yv (j := 2) underlying129 sizeOf95 (.t rfl) (.t rfl) (fun _ => by omega)) rfl <| .yy (Ye ⟨isAgg95, sizeOf95⟩ (.t rfl) (vs := [_, _, _]) rfl (fun _ => c2)) rfl <| .z) fun a w S => Zi (Zt S zeroValue95 (cs := _) rfl rfl fun g3 a w S => Zi (Ya S sizeOf95 (.t rfl) (.t rfl) (k := 0) rfl rfl rfl (by simp [Value.oneCell']) fun a w S => Zb (Za (hK3 _ _ (sg S (.mv rfl <| .fa underlying95 sizeOf3 0 rfl rfl rfl <| .ld gt3 0 rfl rfl rfl <| .yy (Yf (by omega) (Yp (.t rfl) (.t rfl))) rfl <| .mv rfl <| .sk rfl rfl rfl <| .sk rfl rfl rfl <| .sk rfl rfl rfl <| .sk rfl rfl rfl <| .yy (Zn (.t rfl) Ev.c) rfl <| .z) fun a w S => Zf S (.t rfl) (wp_skip (Zj (Za (hK2 _ _ (wp_region_lit (run S (.ad (by unfold I64; omega) rfl <| .z) fun a w S => ?_))))))))))))))))))))
   rw [rw_3] at S
   refine run S (.mv rfl <| .z) fun a w S => Zb (Za (Yb (sg S (.ge (by omega) rfl rfl <| .z) fun a w S => wp_seq_k fun _ hK2 => Zf S (.t rfl) (wp_exit (Zc (Zc (Zs (Za (hK1 _ _ (sg S (.ac rfl <| .z) fun a w S => wp_ret (Zk S (results1 S results38 (Rv.tmp rfl)) ?_)))))))))))
   obtain ⟨L', W', hR⟩ := hR w (S.wd.sub (List.nil_sublist _))
   exact ⟨_, L', rfl, W', hR⟩
end Go.Proofs.YtbijdmfilmecbaaGreat
namespace Go.Fw
open Go.RowKit
theorem ansV_gives (self : Int) (m : MV) (T : List KH) (l : List (List UInt8)) : ansV self m ⟨haveT T l, none⟩ none 0 = giveT self m T l := by unfold ansV giveT; simp
end Go.Fw
namespace Go.Proofs.YtbijdmfilmecbaaGreat
open Go.Fw Go.Proofs Go.RowKit Go.Proofs.Tryz
theorem bld91 : BuildT Tryz.prog 91 [Value.int .i64 0, Value.pointer none, Value.int .i64 0, Value.int .i64 0, Value.int .i64 0, Value.int .i64 0, Value.string ⟨#[]⟩, Value.slice none 0 0, Value.slice none 0 0, Value.slice none 0 0, Value.int .i64 0, Value.int .i64 0, Value.int .i64 0, Value.int .i64 0, Value.int .i64 0, Value.int .i64 0, Value.slice none 0 0, Value.slice none 0 0, Value.slice none 0 0] [(0, 1), (1, 1), (2, 17)] := ⟨⟨_, zeroValue91, rfl⟩, _, underlying91, fun w => by simp [sizeOf3, sizeOf36, sizeOf35]⟩
def OnR (self : Int) (m : MV) (a : Ans) (u : Value) (L : List Chunk) : Prop := ∃ C cC B cB, u = .slice C (ansV self m a B cB).length cC ∧ L = [rowOf 35 17 MV.enc C cC (ansV self m a B cB), rowOf 77 3 Sm.enc B cB (Ans.sums a)]
theorem c10 (w0 : World) (self : Int) (m : MV) (g cap : Nat) (A : Option Addr) (gs : List Nat) (T : List KH) (sums : List Sm) (h : TreeAt w0 g A cap gs T) (hT : KhOk T) (hl : T.length ≤ 1048576) (h2 : Sl Sm.enc 3 w0 w0.heap.size (.slice m.su.a m.su.n m.su.c) sums) (hs : Sums sums) (hTs : T.length + sums.length ≤ 1048576) (hk : m.kind = 8) :
   Rets Tryz.prog 10 #[.int .i64 self, .pointer (some ⟨g, 0, none⟩), .agg (MV.enc m).toArray] w0 (OnR self m (onA T m.nn sums)) := by
 have hl4 : T.length ≤ 4194304 := by omega
 have hok : okP 0 4 [] = true := by decide
 have rw_1 : (sumsA T 0 []).2 = 0 := by unfold sumsA; rw [if_pos hok]
 have rw_2 : (sumsA T 0 []).1 = [] := by unfold sumsA; rw [if_pos hok]; rfl
 have h00 : ([] : List Int).length ≤ 4194304 := by decide
 have rw_k : decide (m.kind ≠ 8) = false := decide_eq_false (fun e => e hk)
 unfold Go.Fw.Rets
 refine enter3 func10 rfl ntmps10 rfl fun a S => wp_seq_k fun _ hK1 => wp_region_lit (Zi (Ym S (.t rfl) rfl fun g1 a w S => run S (.ac rfl <| .z) fun a w S => Zb (Za (hK1 _ _ (wp_seq_k fun _ hK1 => wp_region_lit (run S (.mv rfl <| .z) fun a w S => ?_))))))
 (refine Zi (Zq S call30 (.cons (.t rfl) (.cons Ev.c (.cons Ev.c .nil))) (c30 _ _ _ _ _ _ _ _ _ (by exact .old S.wd (by assumption)) (by assumption) (by assumption) (by exact Sl.nil_) (by assumption)) rfl ?_); clear S a w; rintro _ _ ⟨B1, c1, rfl, rfl⟩ a w S)
 rw [rw_1] at S
 rw [rw_2] at S
 refine run S (.mv rfl <| .ex rfl rfl <| .ex rfl rfl <| .as rfl <| .as rfl <| .z) fun a w S => Zb (Za (hK1 _ _ (wp_seq_k fun _ hK1 => sg S (.fa underlying35 sizeOf3 0 rfl rfl rfl <| .ld gt3 1 rfl rfl rfl <| .yy (Yf (by omega) (Zu (.t rfl) Ev.c)) rfl <| .mv rfl <| .gy rfl rfl (Ze (.t rfl)) <| .gy rfl rfl (Yf (by omega) (Zu (.t rfl) Ev.c)) <| .yy (Zn (.t rfl) (.t rfl)) rfl <| .z) fun a w S => Zf S (.t rfl) (wp_skip (Za (hK1 _ _ (wp_seq_k fun _ hK1 => wp_region_lit (run S (.mv rfl <| .mv rfl <| .z) fun a w S => Xy S (Yr.ys (Yn ⟨isAgg35, sizeOf35⟩ (.t rfl) (k := 1) rfl rfl)) rfl ?_))))))))
 clear S a w
 intro a w S
 refine Xy S (Yr.ys (Yj (ps := [(0, Go.Operand.tmp 22), (1, Go.Operand.tmp 23), (2, Go.Operand.tmp 24)]) (us := XV.enc self g m) bld91 (.cons (.t rfl) (.cons (.t rfl) (.cons (.t rfl) .nil))) (by kernel_rfl))) rfl ?_
 clear S a w
 intro a w S
 refine Zi (Zt S zeroValue91 (cs := _) rfl rfl fun g2 a w S => Zi (Ya S sizeOf91 (.t rfl) (.t rfl) (k := 0) rfl rfl rfl (by simp [Value.oneCell']) fun a w S => Zb (Za (hK1 _ _ (wp_seq_k fun _ hK1 => wp_region_lit (run S (.fa underlying35 sizeOf3 10 rfl rfl rfl <| .ld gt3 2 rfl rfl rfl <| .z) fun a w S => ?_))))))
 obtain ⟨xv, hxv⟩ : ∃ xv, xv = Value.agg (XV.enc self g m).toArray := ⟨_, rfl⟩
 refine Xy S (Yr.ys (Yn ⟨isAgg91, sizeOf91⟩ (.t rfl) (k := 0) rfl rfl)) rfl ?_
 clear S a w
 intro a w S
 rw [← hxv] at S
 refine Xy S (Yr.ys (ys_mkFuncB (.cons (.t rfl) .nil))) rfl ?_
 clear S a w
 intro a w S
 refine Xy S (Yr.ys (Yj (ps := [(0, _), (1, _), (2, Go.Operand.tmp 29)]) (us := [_, _, _]) bld95 (.cons Ev.c (.cons Ev.c (.cons (.t rfl) .nil))) rfl)) rfl ?_
 clear S a w
 intro a w S
 refine Xy S (Yr.ys (Yn ⟨isAgg91, sizeOf91⟩ (.t rfl) (k := 0) rfl rfl)) rfl ?_
 clear S a w
 intro a w S
 rw [← hxv] at S
 refine Xy S (Yr.ys (ys_mkFuncB (.cons (.t rfl) .nil))) rfl ?_
 clear S a w
 intro a w S
 refine Xy S (Yr.ys (Yj (ps := [(0, _), (1, _), (2, Go.Operand.tmp 32)]) (us := [_, _, _]) bld95 (.cons Ev.c (.cons Ev.c (.cons (.t rfl) .nil))) rfl)) rfl ?_
 clear S a w
 intro a w S
 refine Xy S (Yr.ys (Yn ⟨isAgg91, sizeOf91⟩ (.t rfl) (k := 0) rfl rfl)) rfl ?_
 clear S a w
 intro a w S
 rw [← hxv] at S
 refine Xy S (Yr.ys (ys_mkFuncB (.cons (.t rfl) .nil))) rfl ?_
 clear S a w
 intro a w S
 refine Xy S (Yr.ys (Yj (ps := [(0, _), (1, _), (2, Go.Operand.tmp 35)]) (us := [_, _, _]) bld95 (.cons Ev.c (.cons Ev.c (.cons (.t rfl) .nil))) rfl)) rfl ?_
 clear S a w
 intro a w S
 refine Zi (op_bsliceZ (ps := [(0, Go.Operand.tmp 30), (1, Go.Operand.tmp 33), (2, Go.Operand.tmp 36)]) (us := [_, _, _, _, _, _, _, _, _]) S underlying129 sizeOf95 zeroValue95 rfl rfl (.cons (.t rfl) (.cons (.t rfl) (.cons (.t rfl) .nil))) rfl rfl fun g3 a w S => ?_)
 have hc : ∀ (i : Nat) (u : Value), nth [Value.int .i64 0, .int .i64 4, .func (.func 39) #[xv] #[], .int .i64 5, .int .i64 5, .func (.func 40) #[xv] #[], .int .i64 6, .int .i64 6, .func (.func 41) #[xv] #[]] i = some u → w.cell? ⟨g3, i, none⟩ = some u := fun i u hu => Wd.cell S.wd (k := 0) rfl hu
 have hR0 : ∀ w', Wd w [] w' → ∃ L, Wd w L w' ∧ OnR self m .nil (.slice none 0 0) L := fun w' W' => ⟨_, (W'.bare (c := rowOf 77 3 Sm.enc none 0 []) ⟨by simp, .inl ⟨rfl, rfl⟩⟩ (fun b h => h.1 rfl)).bare (c := rowOf 35 17 MV.enc none 0 []) ⟨by simp, .inl ⟨rfl, rfl⟩⟩ (fun b h => h.1 rfl), none, 0, none, 0, rfl, rfl⟩
 refine Zi (Zq S call38 (.cons (.t rfl) (.cons (.t rfl) .nil)) (z38 _ m.nn g3 xv (OnR self m (onA T m.nn sums))
   (fun j u hj => by
     rcases j with _ | _ | _ | j
     · exact hc 0 u hj
     · exact hc 1 u hj
     · exact hc 2 u hj
     · simp at hj)
   (fun j u hj => by
     rcases j with _ | _ | _ | j
     · exact hc 3 u hj
     · exact hc 4 u hj
     · exact hc 5 u hj
     · simp at hj)
   (fun j u hj => by
     rcases j with _ | _ | _ | j
     · exact hc 6 u hj
     · exact hc 7 u hj
     · exact hc 8 u hj
     · simp at hj)
   (fun hn w' W' => by
     rw [hxv, show onA T m.nn sums = ⟨[], downT T m.nn sums⟩ from if_pos hn]
     exact c39 w' self m g cap A gs T sums ((h.old S.wd).old W') hT hl (.old W' (.old S.wd h2)) hs)
   (fun hn w' W' => by
     rw [hxv, show onA T m.nn sums = keysQ T sums from by unfold onA; rw [if_neg (by omega), if_pos hn]]
     exact c40 w' self m g cap A gs T sums ((h.old S.wd).old W') hT hl (.old W' (.old S.wd h2)) hs hTs)
   (fun hn w' W' => by
     rw [hxv, show onA T m.nn sums = ⟨haveT T (sums.map (·.key)), none⟩ from by unfold onA; rw [if_neg (by omega), if_neg (by omega), if_pos hn]]
     refine Calls.mono (c41 w' self m g cap A gs T sums ((h.old S.wd).old W') hT hl (.old W' (.old S.wd h2)) hs) fun e w'' ⟨v, L, he, hw, C, cC, hv, hL⟩ => ?_
     subst hL
     have hw2 := (hw.bare (c := rowOf 77 3 Sm.enc none 0 []) ⟨by simp, .inl ⟨rfl, rfl⟩⟩ (fun b h => h.1 rfl)).perm (List.Perm.swap _ _ _)
     exact ⟨v, _, he, hw2, C, cC, none, 0, by rw [ansV_gives]; exact hv, by rw [ansV_gives]; rfl⟩)
   (fun hn => by
     rw [show onA T m.nn sums = .nil from by unfold onA; rw [if_neg (by omega), if_neg (by omega), if_neg (by omega)]]
     exact hR0)) rfl ?_)
 clear S
 intro v L' hR a w S
 refine run S (.as rfl <| .z) fun a w S => Zb (Za (hK1 _ _ (wp_ret (Zk S (results1 S results10 (Rv.tmp rfl)) ?_))))
 exact ⟨_, L', rfl, S.wd.sub (List.sublist_append_left _ _), hR⟩
theorem d10 (w0 : World) (self : Int) (m : MV) : Calls Tryz.prog 10 #[.int .i64 self, .pointer none, .agg (MV.enc m).toArray] w0 fun e w' => e = .returned (.slice none 0 0) ∧ Bel w0.heap.size w0 w' := by
 by_cases hk : m.kind = 8
 · have rw_k : decide (m.kind ≠ 8) = false := decide_eq_false (fun e => e hk)
   refine enter3 func10 rfl ntmps10 rfl fun a S => wp_seq_k fun _ hK1 => wp_region_lit (Zi (Ym S (.t rfl) rfl fun g1 a w S => run S (.ac rfl <| .z) fun a w S => Zb (Za (hK1 _ _ (sg S (.mv rfl <| .xx (Zg call30 (.cons (.t rfl) (.cons Ev.c (.cons Ev.c .nil))) (fun hp w W => d30 _ _ _)) rfl <| .mv rfl <| .ex rfl rfl <| .ex rfl rfl <| .as rfl <| .as rfl <| .z) fun a w S => wp_seq_k fun _ hK1 => sg S (.fa underlying35 sizeOf3 0 rfl rfl rfl <| .ld gt3 0 rfl rfl rfl <| .yy (Yf (by omega) (Zu (.t rfl) Ev.c)) rfl <| .mv rfl <| .gy rfl rfl (Ze (.t rfl)) <| .gy rfl rfl (Yk (by omega) (Zu (.t rfl) Ev.c)) <| .yy (Zn (.t rfl) (.t rfl)) rfl <| .z) fun a w S => Zd S (.t rfl) (sg S (.ac rfl <| .z) fun a w S => wp_ret (Zh (Zk S (results1 S results10 (Rv.tmp rfl)) ?_))))))))
   exact ⟨rfl, S.wd.below⟩
 · have rw_k : decide (m.kind ≠ 8) = true := decide_eq_true hk
   refine enter3 func10 rfl ntmps10 rfl fun a S => wp_seq_k fun _ hK1 => wp_region_lit (Zi (Ym S (.t rfl) rfl fun g1 a w S => run S (.ac rfl <| .z) fun a w S => Zb (Za (hK1 _ _ (sg S (.mv rfl <| .xx (Zg call30 (.cons (.t rfl) (.cons Ev.c (.cons Ev.c .nil))) (fun hp w W => d30 _ _ _)) rfl <| .mv rfl <| .ex rfl rfl <| .ex rfl rfl <| .as rfl <| .as rfl <| .z) fun a w S => wp_seq_k fun _ hK1 => sg S (.fa underlying35 sizeOf3 0 rfl rfl rfl <| .ld gt3 0 rfl rfl rfl <| .yy (Yk (by omega) (Zu (.t rfl) Ev.c)) rfl <| .mv rfl <| .sk rfl rfl rfl <| .sk rfl rfl rfl <| .yy (Zr (.t rfl) Ev.c) rfl <| .z) fun a w S => Zd S (.t rfl) (sg S (.ac rfl <| .z) fun a w S => wp_ret (Zh (Zk S (results1 S results10 (Rv.tmp rfl)) ?_))))))))
   exact ⟨rfl, S.wd.below⟩
theorem e10 (w0 : World) (self : Int) (m : MV) (g : Nat) (h0 : w0.cell? ⟨g, 0, none⟩ = some (.slice none 0 0)) : Calls Tryz.prog 10 #[.int .i64 self, .pointer (some ⟨g, 0, none⟩), .agg (MV.enc m).toArray] w0 fun e w' => e = .returned (.slice none 0 0) ∧ Bel w0.heap.size w0 w' := by
 by_cases hk : m.kind = 8
 · have rw_k : decide (m.kind ≠ 8) = false := decide_eq_false (fun e => e hk)
   refine enter3 func10 rfl ntmps10 rfl fun a S => wp_seq_k fun _ hK1 => wp_region_lit (Zi (Ym S (.t rfl) rfl fun g1 a w S => run S (.ac rfl <| .z) fun a w S => Zb (Za (hK1 _ _ (wp_seq_k fun _ hK1 => wp_region_lit (run S (.mv rfl <| .z) fun a w S => Xy S (Zg call30 (.cons (.t rfl) (.cons Ev.c (.cons Ev.c .nil))) (fun _ w' W' => e30 w' _ _ _ (Wd.cellOld W' h0))) rfl ?_))))))
   clear S a w
   intro a w S
   refine run S (.mv rfl <| .ex rfl rfl <| .ex rfl rfl <| .as rfl <| .as rfl <| .z) fun a w S => Zb (Za (hK1 _ _ (wp_seq_k fun _ hK1 => sg S (.fa underlying35 sizeOf3 0 rfl rfl rfl <| .ld gt3 0 rfl rfl rfl <| .yy (Yf (by omega) (Zu (.t rfl) Ev.c)) rfl <| .mv rfl <| .gy rfl rfl (Ze (.t rfl)) <| .gy rfl rfl (Yk (by omega) (Zu (.t rfl) Ev.c)) <| .yy (Zn (.t rfl) (.t rfl)) rfl <| .z) fun a w S => Zd S (.t rfl) (sg S (.ac rfl <| .z) fun a w S => wp_ret (Zh (Zk S (results1 S results10 (Rv.tmp rfl)) ?_))))))
   exact ⟨rfl, S.wd.below⟩
 · have rw_k : decide (m.kind ≠ 8) = true := decide_eq_true hk
   refine enter3 func10 rfl ntmps10 rfl fun a S => wp_seq_k fun _ hK1 => wp_region_lit (Zi (Ym S (.t rfl) rfl fun g1 a w S => run S (.ac rfl <| .z) fun a w S => Zb (Za (hK1 _ _ (wp_seq_k fun _ hK1 => wp_region_lit (run S (.mv rfl <| .z) fun a w S => Xy S (Zg call30 (.cons (.t rfl) (.cons Ev.c (.cons Ev.c .nil))) (fun _ w' W' => e30 w' _ _ _ (Wd.cellOld W' h0))) rfl ?_))))))
   clear S a w
   intro a w S
   refine run S (.mv rfl <| .ex rfl rfl <| .ex rfl rfl <| .as rfl <| .as rfl <| .z) fun a w S => Zb (Za (hK1 _ _ (wp_seq_k fun _ hK1 => sg S (.fa underlying35 sizeOf3 0 rfl rfl rfl <| .ld gt3 0 rfl rfl rfl <| .yy (Yk (by omega) (Zu (.t rfl) Ev.c)) rfl <| .mv rfl <| .sk rfl rfl rfl <| .sk rfl rfl rfl <| .yy (Zr (.t rfl) Ev.c) rfl <| .z) fun a w S => Zd S (.t rfl) (sg S (.ac rfl <| .z) fun a w S => wp_ret (Zh (Zk S (results1 S results10 (Rv.tmp rfl)) ?_))))))
   exact ⟨rfl, S.wd.below⟩
theorem k10 (w0 : World) (self : Int) (m : MV) (g cap : Nat) (A : Option Addr) (gs : List Nat) (T : List KH) (h : TreeAt w0 g A cap gs T) (hT : KhOk T) (hl : T.length ≤ 1048576) (hk : ¬ m.kind = 8) :
   Calls Tryz.prog 10 #[.int .i64 self, .pointer (some ⟨g, 0, none⟩), .agg (MV.enc m).toArray] w0 fun e w' => e = .returned (.slice none 0 0) ∧ Bel w0.heap.size w0 w' := by
 have hl4 : T.length ≤ 4194304 := by omega
 have hok : okP 0 4 [] = true := by decide
 have rw_1 : (sumsA T 0 []).2 = 0 := by unfold sumsA; rw [if_pos hok]
 have rw_2 : (sumsA T 0 []).1 = [] := by unfold sumsA; rw [if_pos hok]; rfl
 have h00 : ([] : List Int).length ≤ 4194304 := by decide
 have rw_k : decide (m.kind ≠ 8) = true := decide_eq_true hk
 refine enter3 func10 rfl ntmps10 rfl fun a S => wp_seq_k fun _ hK1 => wp_region_lit (Zi (Ym S (.t rfl) rfl fun g1 a w S => run S (.ac rfl <| .z) fun a w S => Zb (Za (hK1 _ _ (wp_seq_k fun _ hK1 => wp_region_lit (run S (.mv rfl <| .z) fun a w S => ?_))))))
 (refine Zi (Zq S call30 (.cons (.t rfl) (.cons Ev.c (.cons Ev.c .nil))) (c30 _ _ _ _ _ _ _ _ _ (by exact .old S.wd (by assumption)) (by assumption) (by assumption) (by exact Sl.nil_) (by assumption)) rfl ?_); clear S a w; rintro _ _ ⟨B1, c1, rfl, rfl⟩ a w S)
 rw [rw_1] at S
 rw [rw_2] at S
 refine run S (.mv rfl <| .ex rfl rfl <| .ex rfl rfl <| .as rfl <| .as rfl <| .z) fun a w S => Zb (Za (hK1 _ _ (wp_seq_k fun _ hK1 => sg S (.fa underlying35 sizeOf3 0 rfl rfl rfl <| .ld gt3 1 rfl rfl rfl <| .yy (Yk (by omega) (Zu (.t rfl) Ev.c)) rfl <| .mv rfl <| .sk rfl rfl rfl <| .sk rfl rfl rfl <| .yy (Zr (.t rfl) Ev.c) rfl <| .z) fun a w S => Zd S (.t rfl) (sg S (.ac rfl <| .z) fun a w S => wp_ret (Zh (Zk S (results1 S results10 (Rv.tmp rfl)) ?_))))))
 exact ⟨rfl, S.wd.below⟩
end Go.Proofs.YtbijdmfilmecbaaGreat
namespace Go.Fw
open Go.RowKit
theorem giveT_snoc {self : Int} {m : MV} {T : List KH} {l : List (List UInt8)} {i : Nat} {k : List UInt8} (h : l[i]? = some k) : giveT self m T (l.take (i + 1)) = giveT self m T (l.take i) ++ if hasT T k = true then [giveV self m k] else [] := by
 unfold giveT
 rw [haveT_snoc h, List.map_append]
 congr 1
 split <;> rfl
theorem giveT_len (self : Int) (m : MV) (T : List KH) (l : List (List UInt8)) : (giveT self m T l).length ≤ l.length := by
 unfold giveT
 rw [List.length_map]
 exact haveT_len T l
end Go.Fw
namespace Go.Proofs.YtbijdmfilmecbaaGreat
open Go.Fw Go.Proofs Go.RowKit Go.Proofs.Tryz
theorem p12 (w0 : World) (self : Int) (m : MV) (g cap : Nat) (A : Option Addr) (T : List KH) (sums : List Sm) (h : DocAt w0 g A cap T) (hT : KhOk T) (hl : T.length ≤ 1048576) (h2 : Sl Sm.enc 3 w0 w0.heap.size (.slice m.su.a m.su.n m.su.c) sums) (hs : Sums sums) (hTs : T.length + sums.length ≤ 1048576) (hk : m.kind = 8) (h0 : 0 ≤ m.nn) (h4 : m.nn ≤ 4) :
   Rets Tryz.prog 12 #[.int .i64 self, .pointer (some ⟨g, 0, none⟩), .agg (MV.enc m).toArray] w0 (OnR self m ⟨[], downT T m.nn sums⟩) := by
 have hl4 : T.length ≤ 4194304 := by omega
 have rw_k : decide (m.kind ≠ 8) = false := decide_eq_false (fun e => e hk)
 have rw_n0 : decide (m.nn < 0) = false := decide_eq_false (by omega)
 have rw_n6 : decide (6 < m.nn) = false := decide_eq_false (by omega)
 have rw_n4 : decide (m.nn ≤ 4) = true := decide_eq_true h4
 have hsl := hs.len
 have hsl4 : sums.length ≤ 4194304 := by omega
 by_cases hok : okP m.nn 4 (sums.map (·.place)) = true
 rotate_left
 · have hu := unlikeA_no (T := T) hok
   have hd : downT T m.nn sums = none := if_neg fun e => hok e.1
   have rw_1 : (unlikeA T m.nn sums).1 = [] := by rw [hu]
   have rw_2 : (unlikeA T m.nn sums).2 = 80 := by rw [hu]
   rw [hd]
   unfold Go.Fw.Rets
   refine enter3 func12 rfl ntmps12 rfl fun a S => wp_seq_k fun _ hK1 => wp_region_lit (Zi (Ym S (.t rfl) rfl fun g1 a w S => run S (.ac rfl <| .z) fun a w S => Zb (Za (hK1 _ _ (wp_seq_k fun _ hK1 => sg S (.fa underlying35 sizeOf3 0 rfl rfl rfl <| .ld gt3 0 rfl rfl rfl <| .yy (Yf (by omega) (Zu (.t rfl) Ev.c)) rfl <| .mv rfl <| .gy rfl rfl (Ze (.t rfl)) <| .gy rfl rfl (Wc underlying37 (.t rfl) Ev.c) <| .yy (Zn (.t rfl) (.t rfl)) rfl <| .mv rfl <| .gy rfl rfl (Zm (FieldT.mk underlying35 rfl sizeOf3 rfl) (.t rfl) (i' := 10) rfl) <| .gy rfl rfl (Yd ⟨isAgg3, sizeOf3⟩ (.t rfl) (k := 0) rfl rfl) <| .gy rfl rfl (Yf (by omega) (Yh (.t rfl) Ev.c)) <| .yy (Zn (.t rfl) (.t rfl)) rfl <| .mv rfl <| .gy rfl rfl (Zm (FieldT.mk underlying35 rfl sizeOf3 rfl) (.t rfl) (i' := 10) rfl) <| .gy rfl rfl (Yd ⟨isAgg3, sizeOf3⟩ (.t rfl) (k := 0) rfl rfl) <| .gy rfl rfl (Yf (by omega) (Xt (.t rfl) Ev.c)) <| .yy (Zn (.t rfl) (.t rfl)) rfl <| .z) fun a w S => Zf S (.t rfl) (wp_skip (Za (hK1 _ _ (wp_seq_k fun _ hK1 => wp_region_lit ?_)))))))))
   refine run S (.mv rfl <| .fa underlying35 sizeOf3 1 rfl rfl rfl <| .ld gt3 0 rfl rfl rfl <| .fa underlying35 sizeOf3 9 rfl rfl rfl <| .ld gt3 0 rfl rfl rfl <| .yy (Yj (ps := [(0, _), (1, Go.Operand.tmp 43), (2, Go.Operand.tmp 45), (6, _), (7, Go.Operand.tmp 47)]) (us := [_, _, _, _, _, _, _, _, _, _, _, _, _, _, _, _, _]) bld35 (.cons Ev.c (.cons (.t rfl) (.cons (.t rfl) (.cons Ev.c (.cons (.t rfl) .nil))))) rfl) rfl <| .z) fun a w S => Zi (Zt S zeroValue35 (cs := _) rfl rfl fun g2 a w S => Zi (Ya S sizeOf35 (.t rfl) (.t rfl) (k := 0) rfl rfl rfl (by simp [Value.oneCell']) fun a w S => Zb (Za (hK1 _ _ (wp_seq_k fun _ hK1 => sg S (.fa underlying35 sizeOf3 10 rfl rfl rfl <| .ld gt3 1 rfl rfl rfl <| .yy (Yk (by omega) (Xh (.t rfl) Ev.c)) rfl <| .z) fun a w S => Zd S (.t rfl) (wp_seq_k fun _ hK2 => wp_region_lit (run S (.mv rfl <| .fa underlying35 sizeOf3 10 rfl rfl rfl <| .ld gt3 1 rfl rfl rfl <| .fa underlying35 sizeOf22 16 rfl rfl rfl <| .ld gt22 1 rfl rfl rfl <| .z) fun a w S => ?_)))))))
   (refine Zi (Zq S call43 (.cons (.t rfl) (.cons (.t rfl) (.cons (.t rfl) .nil))) (c43 _ _ _ _ _ _ _ _ (by exact .old S.wd (by assumption)) (by assumption) (by assumption) (by exact .old S.wd (by assumption)) (by assumption)) rfl ?_); clear S a w; rintro _ _ ⟨B1, c1, rfl, rfl⟩ a w S)
   rw [rw_1] at S
   rw [rw_2] at S
   refine run S (.mv rfl <| .ex rfl rfl <| .ex rfl rfl <| .as rfl <| .as rfl <| .z) fun a w S => Zb (Za (hK2 _ _ (wp_seq_k fun _ hK2 => sg S (.mv rfl <| .yy (Yk (by omega) (Zu (.t rfl) Ev.c)) rfl <| .mv rfl <| .sk rfl rfl rfl <| .sk rfl rfl rfl <| .sk rfl rfl rfl <| .yy (Zr (.t rfl) Ev.c) rfl <| .z) fun a w S => Zd S (.t rfl) (sg S (.ac rfl <| .z) fun a w S => wp_ret (Zh (Zh (Zk S (results1 S results12 (Rv.tmp rfl)) ?_)))))))
   replace S := (S.nil_ 77 3 Sm.enc none).nil_ 35 17 MV.enc none
   exact ⟨_, _, rfl, S.wd.pk, none, 0, none, 0, rfl, rfl⟩
 have hu := unlikeA_ok (T := T) hok
 have hul := unlike_len T m.nn sums
 have hou := okP_unlike (T := T) hok
 by_cases hne : unlikeT T m.nn sums = []
 · have hd : downT T m.nn sums = none := if_neg fun e => e.2 hne
   have rw_1 : (unlikeA T m.nn sums).1 = [] := by rw [hu, hne]
   have rw_2 : (unlikeA T m.nn sums).2 = 0 := by rw [hu]
   rw [hd]
   unfold Go.Fw.Rets
   refine enter3 func12 rfl ntmps12 rfl fun a S => wp_seq_k fun _ hK1 => wp_region_lit (Zi (Ym S (.t rfl) rfl fun g1 a w S => run S (.ac rfl <| .z) fun a w S => Zb (Za (hK1 _ _ (wp_seq_k fun _ hK1 => sg S (.fa underlying35 sizeOf3 0 rfl rfl rfl <| .ld gt3 0 rfl rfl rfl <| .yy (Yf (by omega) (Zu (.t rfl) Ev.c)) rfl <| .mv rfl <| .gy rfl rfl (Ze (.t rfl)) <| .gy rfl rfl (Wc underlying37 (.t rfl) Ev.c) <| .yy (Zn (.t rfl) (.t rfl)) rfl <| .mv rfl <| .gy rfl rfl (Zm (FieldT.mk underlying35 rfl sizeOf3 rfl) (.t rfl) (i' := 10) rfl) <| .gy rfl rfl (Yd ⟨isAgg3, sizeOf3⟩ (.t rfl) (k := 0) rfl rfl) <| .gy rfl rfl (Yf (by omega) (Yh (.t rfl) Ev.c)) <| .yy (Zn (.t rfl) (.t rfl)) rfl <| .mv rfl <| .gy rfl rfl (Zm (FieldT.mk underlying35 rfl sizeOf3 rfl) (.t rfl) (i' := 10) rfl) <| .gy rfl rfl (Yd ⟨isAgg3, sizeOf3⟩ (.t rfl) (k := 0) rfl rfl) <| .gy rfl rfl (Yf (by omega) (Xt (.t rfl) Ev.c)) <| .yy (Zn (.t rfl) (.t rfl)) rfl <| .z) fun a w S => Zf S (.t rfl) (wp_skip (Za (hK1 _ _ (wp_seq_k fun _ hK1 => wp_region_lit ?_)))))))))
   refine run S (.mv rfl <| .fa underlying35 sizeOf3 1 rfl rfl rfl <| .ld gt3 0 rfl rfl rfl <| .fa underlying35 sizeOf3 9 rfl rfl rfl <| .ld gt3 0 rfl rfl rfl <| .yy (Yj (ps := [(0, _), (1, Go.Operand.tmp 43), (2, Go.Operand.tmp 45), (6, _), (7, Go.Operand.tmp 47)]) (us := [_, _, _, _, _, _, _, _, _, _, _, _, _, _, _, _, _]) bld35 (.cons Ev.c (.cons (.t rfl) (.cons (.t rfl) (.cons Ev.c (.cons (.t rfl) .nil))))) rfl) rfl <| .z) fun a w S => Zi (Zt S zeroValue35 (cs := _) rfl rfl fun g2 a w S => Zi (Ya S sizeOf35 (.t rfl) (.t rfl) (k := 0) rfl rfl rfl (by simp [Value.oneCell']) fun a w S => Zb (Za (hK1 _ _ (wp_seq_k fun _ hK1 => sg S (.fa underlying35 sizeOf3 10 rfl rfl rfl <| .ld gt3 1 rfl rfl rfl <| .yy (Yk (by omega) (Xh (.t rfl) Ev.c)) rfl <| .z) fun a w S => Zd S (.t rfl) (wp_seq_k fun _ hK2 => wp_region_lit (run S (.mv rfl <| .fa underlying35 sizeOf3 10 rfl rfl rfl <| .ld gt3 1 rfl rfl rfl <| .fa underlying35 sizeOf22 16 rfl rfl rfl <| .ld gt22 1 rfl rfl rfl <| .z) fun a w S => ?_)))))))
   (refine Zi (Zq S call43 (.cons (.t rfl) (.cons (.t rfl) (.cons (.t rfl) .nil))) (c43 _ _ _ _ _ _ _ _ (by exact .old S.wd (by assumption)) (by assumption) (by assumption) (by exact .old S.wd (by assumption)) (by assumption)) rfl ?_); clear S a w; rintro _ _ ⟨B1, c1, rfl, rfl⟩ a w S)
   rw [rw_1] at S
   rw [rw_2] at S
   refine run S (.mv rfl <| .ex rfl rfl <| .ex rfl rfl <| .as rfl <| .as rfl <| .z) fun a w S => Zb (Za (hK2 _ _ (wp_seq_k fun _ hK2 => sg S (.mv rfl <| .yy (Yf (by omega) (Zu (.t rfl) Ev.c)) rfl <| .mv rfl <| .gy rfl rfl (Ze (.t rfl)) <| .gy rfl rfl (Xc underlying82 (.t rfl)) <| .gy rfl rfl (Yi (.t rfl) Ev.c) <| .yy (Zn (.t rfl) (.t rfl)) rfl <| .z) fun a w S => Zd S (.t rfl) (sg S (.ac rfl <| .z) fun a w S => wp_ret (Zh (Zh (Zk S (results1 S results12 (Rv.tmp rfl)) ?_)))))))
   replace S := (S.nil_ 77 3 Sm.enc none).nil_ 35 17 MV.enc none
   exact ⟨_, _, rfl, S.wd.pk, none, 0, none, 0, rfl, rfl⟩
 obtain ⟨u, hu0⟩ : ∃ u, unlikeT T m.nn sums = u := ⟨_, rfl⟩
 rw [hu0] at hu hul hou hne
 have rw_1 : (unlikeA T m.nn sums).1 = u := by rw [hu]
 have rw_2 : (unlikeA T m.nn sums).2 = 0 := by rw [hu]
 have hul0 : u.length ≠ 0 := fun e => hne (List.eq_nil_of_length_eq_zero e)
 have rw_0 : decide ((u.length : Int) = 0) = false := decide_eq_false (by omega)
 by_cases h4 : m.nn = 4
 · have hd : downT T m.nn sums = some (5, leavesT T u) := by
     unfold downT
     rw [if_pos ⟨hok, by rw [hu0]; exact hne⟩, if_pos h4, hu0]
   have rw_4 := decide_eq_true h4
   have rw_5 : m.nn + 1 = 5 := by omega
   rw [hd]
   have hou4 : okP 4 4 u = true := by have := hou; rw [h4] at this; exact this
   have hul2 : u.length ≤ 1048576 := by omega
   unfold Go.Fw.Rets
   refine enter3 func12 rfl ntmps12 rfl fun a S => wp_seq_k fun _ hK1 => wp_region_lit (Zi (Ym S (.t rfl) rfl fun g1 a w S => run S (.ac rfl <| .z) fun a w S => Zb (Za (hK1 _ _ (wp_seq_k fun _ hK1 => sg S (.fa underlying35 sizeOf3 0 rfl rfl rfl <| .ld gt3 0 rfl rfl rfl <| .yy (Yf (by omega) (Zu (.t rfl) Ev.c)) rfl <| .mv rfl <| .gy rfl rfl (Ze (.t rfl)) <| .gy rfl rfl (Wc underlying37 (.t rfl) Ev.c) <| .yy (Zn (.t rfl) (.t rfl)) rfl <| .mv rfl <| .gy rfl rfl (Zm (FieldT.mk underlying35 rfl sizeOf3 rfl) (.t rfl) (i' := 10) rfl) <| .gy rfl rfl (Yd ⟨isAgg3, sizeOf3⟩ (.t rfl) (k := 0) rfl rfl) <| .gy rfl rfl (Yf (by omega) (Yh (.t rfl) Ev.c)) <| .yy (Zn (.t rfl) (.t rfl)) rfl <| .mv rfl <| .gy rfl rfl (Zm (FieldT.mk underlying35 rfl sizeOf3 rfl) (.t rfl) (i' := 10) rfl) <| .gy rfl rfl (Yd ⟨isAgg3, sizeOf3⟩ (.t rfl) (k := 0) rfl rfl) <| .gy rfl rfl (Yf (by omega) (Xt (.t rfl) Ev.c)) <| .yy (Zn (.t rfl) (.t rfl)) rfl <| .z) fun a w S => Zf S (.t rfl) (wp_skip (Za (hK1 _ _ (wp_seq_k fun _ hK1 => wp_region_lit ?_)))))))))
   refine run S (.mv rfl <| .fa underlying35 sizeOf3 1 rfl rfl rfl <| .ld gt3 0 rfl rfl rfl <| .fa underlying35 sizeOf3 9 rfl rfl rfl <| .ld gt3 0 rfl rfl rfl <| .yy (Yj (ps := [(0, _), (1, Go.Operand.tmp 43), (2, Go.Operand.tmp 45), (6, _), (7, Go.Operand.tmp 47)]) (us := [_, _, _, _, _, _, _, _, _, _, _, _, _, _, _, _, _]) bld35 (.cons Ev.c (.cons (.t rfl) (.cons (.t rfl) (.cons Ev.c (.cons (.t rfl) .nil))))) rfl) rfl <| .z) fun a w S => Zi (Zt S zeroValue35 (cs := _) rfl rfl fun g2 a w S => Zi (Ya S sizeOf35 (.t rfl) (.t rfl) (k := 0) rfl rfl rfl (by simp [Value.oneCell']) fun a w S => Zb (Za (hK1 _ _ (wp_seq_k fun _ hK1 => sg S (.fa underlying35 sizeOf3 10 rfl rfl rfl <| .ld gt3 1 rfl rfl rfl <| .yy (Yk (by omega) (Xh (.t rfl) Ev.c)) rfl <| .z) fun a w S => Zd S (.t rfl) (wp_seq_k fun _ hK2 => wp_region_lit (run S (.mv rfl <| .fa underlying35 sizeOf3 10 rfl rfl rfl <| .ld gt3 1 rfl rfl rfl <| .fa underlying35 sizeOf22 16 rfl rfl rfl <| .ld gt22 1 rfl rfl rfl <| .z) fun a w S => ?_)))))))
   (refine Zi (Zq S call43 (.cons (.t rfl) (.cons (.t rfl) (.cons (.t rfl) .nil))) (c43 _ _ _ _ _ _ _ _ (by exact .old S.wd (by assumption)) (by assumption) (by assumption) (by exact .old S.wd (by assumption)) (by assumption)) rfl ?_); clear S a w; rintro _ _ ⟨B1, c1, rfl, rfl⟩ a w S)
   rw [rw_1] at S
   rw [rw_2] at S
   refine run S (.mv rfl <| .ex rfl rfl <| .ex rfl rfl <| .as rfl <| .as rfl <| .z) fun a w S => Zb (Za (hK2 _ _ (wp_seq_k fun _ hK2 => sg S (.mv rfl <| .yy (Yf (by omega) (Zu (.t rfl) Ev.c)) rfl <| .mv rfl <| .gy rfl rfl (Ze (.t rfl)) <| .gy rfl rfl (Xc underlying82 (.t rfl)) <| .gy rfl rfl (Yf (by omega) (Yi (.t rfl) Ev.c)) <| .yy (Zn (.t rfl) (.t rfl)) rfl <| .z) fun a w S => Zf S (.t rfl) (wp_skip (Za (hK2 _ _ (wp_seq_k fun _ hK2 => wp_region_lit (run S (.fa underlying35 sizeOf3 10 rfl rfl rfl <| .ld gt3 2 rfl rfl rfl <| .ad (by unfold I64; omega) rfl <| .z) fun a w S => ?_))))))))
   rw [rw_5] at S
   refine run S (.fa underlying35 sizeOf3 10 rfl rfl rfl <| .z) fun a w S => Zi (Xr S sizeOf3 (.t rfl) (.t rfl) (k := 1) rfl rfl (by simp) fun a w S => Zb (Za (hK2 _ _ (wp_seq_k fun _ hK2 => sg S (.fa underlying35 sizeOf3 10 rfl rfl rfl <| .ld gt3 2 rfl rfl rfl <| .yy (Yk (by omega) (Yi (.t rfl) Ev.c)) rfl <| .z) fun a w S => Zd S (.t rfl) (wp_seq_k fun _ hK3 => wp_region_lit (run S (.mv rfl <| .mv rfl <| .z) fun a w S => ?_))))))
   (refine Zi (Zq S call44 (.cons (.t rfl) (.cons (.t rfl) .nil)) (c44 _ _ _ _ _ _ _ (by exact .old S.wd (by assumption)) (by assumption) (by assumption) (by exact Sl.of_own S.wd (k := 0) rfl (fun _ => rfl)) (by assumption) (by assumption)) rfl ?_); clear S a w; rintro _ _ ⟨B2, c2, rfl, rfl⟩ a w S)
   refine run S (.fa underlying35 sizeOf22 16 rfl rfl rfl <| .z) fun a w S => Zi (Xr S sizeOf22 (.t rfl) (.t rfl) (k := 2) rfl rfl (by simp) fun a w S => Zb (Za (hK3 _ _ (wp_seq_k fun _ hK3 => wp_region_lit (run S (.la gt35 2 rfl rfl rfl <| .z) fun a w S => Zi (Zp S underlying46 inf35 rfl rfl rfl (.t rfl) rfl rfl rfl fun g3 a w S => run S (.as rfl <| .z) fun a w S => Zb (Za (hK3 _ _ (wp_ret (Zh (Zh (Zk S (results1 S results12 (Rv.tmp rfl)) ?_))))))))))))
   generalize leavesT T u = G at *
   have W2 := (S.wd.picks (L' := [.blk g3 (.cells (MV.enc (treeV self m 5 ⟨B2, G.length, c2⟩)).toArray 35), rowOf 77 3 Sm.enc B2 c2 G]) (by repeat (first | exact Picks.nil | (refine Picks.rest ?_; (repeat (first | exact List.Sublist.refl _ | refine List.Sublist.cons_cons _ ?_ | refine List.Sublist.cons _ ?_)); done) | refine Picks.take 0 rfl ?_ | refine Picks.take 1 rfl ?_ | refine Picks.take 2 rfl ?_ | refine Picks.take 3 rfl ?_ | refine Picks.take 4 rfl ?_ | refine Picks.take 5 rfl ?_ | refine Picks.take 6 rfl ?_ | refine Picks.take 7 rfl ?_ | refine Picks.take 8 rfl ?_ | refine Picks.take 9 rfl ?_ | refine Picks.take 10 rfl ?_ | refine Picks.take 11 rfl ?_))).close_row (k := 0) rfl (size := 17) 1 1 ([treeV self m 5 ⟨B2, G.length, c2⟩].flatMap MV.enc) (by decide) rfl (Nat.le_refl 1) (by decide) rfl
   exact ⟨_, _, rfl, W2, _, 1, B2, c2, rfl, rfl⟩
 · obtain ⟨hb1, hb2⟩ := okP_below hou h4
   have hd : downT T m.nn sums = some (m.nn + 1, sumsT T (m.nn + 1) (belowT u)) := by
     unfold downT
     rw [if_pos ⟨hok, by rw [hu0]; exact hne⟩, if_neg h4, hu0]
   have rw_4 := decide_eq_false h4
   have rw_5 : (belowA m.nn u).1 = belowT u := by unfold belowA; rw [if_pos hb1]
   have rw_6 : (belowA m.nn u).2 = 0 := by unfold belowA; rw [if_pos hb1]
   have hbl := below_len u
   generalize hbt : belowT u = bt at *
   have rw_7 : (sumsA T (m.nn + 1) bt).1 = sumsT T (m.nn + 1) bt := by unfold sumsA; rw [if_pos hb2]
   have rw_8 : (sumsA T (m.nn + 1) bt).2 = 0 := by unfold sumsA; rw [if_pos hb2]
   have hlv := (We.1 hou).1
   generalize sumsT T (m.nn + 1) bt = st at *
   rw [hd]
   unfold Go.Fw.Rets
   refine enter3 func12 rfl ntmps12 rfl fun a S => wp_seq_k fun _ hK1 => wp_region_lit (Zi (Ym S (.t rfl) rfl fun g1 a w S => run S (.ac rfl <| .z) fun a w S => Zb (Za (hK1 _ _ (wp_seq_k fun _ hK1 => sg S (.fa underlying35 sizeOf3 0 rfl rfl rfl <| .ld gt3 0 rfl rfl rfl <| .yy (Yf (by omega) (Zu (.t rfl) Ev.c)) rfl <| .mv rfl <| .gy rfl rfl (Ze (.t rfl)) <| .gy rfl rfl (Wc underlying37 (.t rfl) Ev.c) <| .yy (Zn (.t rfl) (.t rfl)) rfl <| .mv rfl <| .gy rfl rfl (Zm (FieldT.mk underlying35 rfl sizeOf3 rfl) (.t rfl) (i' := 10) rfl) <| .gy rfl rfl (Yd ⟨isAgg3, sizeOf3⟩ (.t rfl) (k := 0) rfl rfl) <| .gy rfl rfl (Yf (by omega) (Yh (.t rfl) Ev.c)) <| .yy (Zn (.t rfl) (.t rfl)) rfl <| .mv rfl <| .gy rfl rfl (Zm (FieldT.mk underlying35 rfl sizeOf3 rfl) (.t rfl) (i' := 10) rfl) <| .gy rfl rfl (Yd ⟨isAgg3, sizeOf3⟩ (.t rfl) (k := 0) rfl rfl) <| .gy rfl rfl (Yf (by omega) (Xt (.t rfl) Ev.c)) <| .yy (Zn (.t rfl) (.t rfl)) rfl <| .z) fun a w S => Zf S (.t rfl) (wp_skip (Za (hK1 _ _ (wp_seq_k fun _ hK1 => wp_region_lit ?_)))))))))
   refine run S (.mv rfl <| .fa underlying35 sizeOf3 1 rfl rfl rfl <| .ld gt3 0 rfl rfl rfl <| .fa underlying35 sizeOf3 9 rfl rfl rfl <| .ld gt3 0 rfl rfl rfl <| .yy (Yj (ps := [(0, _), (1, Go.Operand.tmp 43), (2, Go.Operand.tmp 45), (6, _), (7, Go.Operand.tmp 47)]) (us := [_, _, _, _, _, _, _, _, _, _, _, _, _, _, _, _, _]) bld35 (.cons Ev.c (.cons (.t rfl) (.cons (.t rfl) (.cons Ev.c (.cons (.t rfl) .nil))))) rfl) rfl <| .z) fun a w S => Zi (Zt S zeroValue35 (cs := _) rfl rfl fun g2 a w S => Zi (Ya S sizeOf35 (.t rfl) (.t rfl) (k := 0) rfl rfl rfl (by simp [Value.oneCell']) fun a w S => Zb (Za (hK1 _ _ (wp_seq_k fun _ hK1 => sg S (.fa underlying35 sizeOf3 10 rfl rfl rfl <| .ld gt3 1 rfl rfl rfl <| .yy (Yk (by omega) (Xh (.t rfl) Ev.c)) rfl <| .z) fun a w S => Zd S (.t rfl) (wp_seq_k fun _ hK2 => wp_region_lit (run S (.mv rfl <| .fa underlying35 sizeOf3 10 rfl rfl rfl <| .ld gt3 1 rfl rfl rfl <| .fa underlying35 sizeOf22 16 rfl rfl rfl <| .ld gt22 1 rfl rfl rfl <| .z) fun a w S => ?_)))))))
   (refine Zi (Zq S call43 (.cons (.t rfl) (.cons (.t rfl) (.cons (.t rfl) .nil))) (c43 _ _ _ _ _ _ _ _ (by exact .old S.wd (by assumption)) (by assumption) (by assumption) (by exact .old S.wd (by assumption)) (by assumption)) rfl ?_); clear S a w; rintro _ _ ⟨B1, c1, rfl, rfl⟩ a w S)
   rw [rw_1] at S
   rw [rw_2] at S
   refine run S (.mv rfl <| .ex rfl rfl <| .ex rfl rfl <| .as rfl <| .as rfl <| .z) fun a w S => Zb (Za (hK2 _ _ (wp_seq_k fun _ hK2 => sg S (.mv rfl <| .yy (Yf (by omega) (Zu (.t rfl) Ev.c)) rfl <| .mv rfl <| .gy rfl rfl (Ze (.t rfl)) <| .gy rfl rfl (Xc underlying82 (.t rfl)) <| .gy rfl rfl (Yf (by omega) (Yi (.t rfl) Ev.c)) <| .yy (Zn (.t rfl) (.t rfl)) rfl <| .z) fun a w S => Zf S (.t rfl) (wp_skip (Za (hK2 _ _ (wp_seq_k fun _ hK2 => wp_region_lit (run S (.fa underlying35 sizeOf3 10 rfl rfl rfl <| .ld gt3 2 rfl rfl rfl <| .ad (by unfold I64; omega) rfl <| .fa underlying35 sizeOf3 10 rfl rfl rfl <| .z) fun a w S => Zi (Xr S sizeOf3 (.t rfl) (.t rfl) (k := 1) rfl rfl (by simp) fun a w S => Zb (Za (hK2 _ _ (wp_seq_k fun _ hK2 => sg S (.fa underlying35 sizeOf3 10 rfl rfl rfl <| .ld gt3 2 rfl rfl rfl <| .yy (Yf (by omega) (Yi (.t rfl) Ev.c)) rfl <| .z) fun a w S => Zf S (.t rfl) (wp_skip (Za (hK2 _ _ (wp_seq_k fun _ hK2 => wp_region_lit (run S (.fa underlying35 sizeOf3 10 rfl rfl rfl <| .ld gt3 2 rfl rfl rfl <| .mv rfl <| .z) fun a w S => ?_)))))))))))))))))
   (refine Zi (Zq S call45 (.cons (.t rfl) (.cons (.t rfl) .nil)) (c45 _ _ _ _ (by exact Sl.of_own S.wd (k := 0) rfl (fun _ => rfl)) (by omega)) rfl ?_); clear S a w; rintro _ _ ⟨B2, c2, rfl, rfl⟩ a w S)
   rw [rw_6] at S
   rw [rw_5] at S
   refine run S (.mv rfl <| .ex rfl rfl <| .ex rfl rfl <| .as rfl <| .as rfl <| .z) fun a w S => Zb (Za (hK2 _ _ (wp_seq_k fun _ hK2 => wp_region_lit (run S (.mv rfl <| .fa underlying35 sizeOf3 10 rfl rfl rfl <| .ld gt3 3 rfl rfl rfl <| .ad (by unfold I64; omega) rfl <| .mv rfl <| .z) fun a w S => ?_))))
   (refine Zi (Zq S call32 (.cons (.t rfl) (.cons (.t rfl) (.cons (.t rfl) .nil))) (c32 _ _ _ _ _ _ _ _ (by exact .old S.wd (by assumption)) (by assumption) (by assumption) (by exact Sl.of_own S.wd (k := 0) rfl (fun _ => rfl)) (by omega)) rfl ?_); clear S a w; rintro _ _ ⟨B3, c3, rfl, rfl⟩ a w S)
   rw [rw_8] at S
   rw [rw_7] at S
   refine run S (.mv rfl <| .ex rfl rfl <| .ex rfl rfl <| .fa underlying35 sizeOf22 16 rfl rfl rfl <| .z) fun a w S => Zi (Xr S sizeOf22 (.t rfl) (.t rfl) (k := 3) rfl rfl (by simp) fun a w S => Zb (Za (hK2 _ _ (wp_seq_k fun _ hK2 => wp_region_lit (run S (.la gt35 3 rfl rfl rfl <| .z) fun a w S => Zi (Zp S underlying46 inf35 rfl rfl rfl (.t rfl) rfl rfl rfl fun g3 a w S => run S (.as rfl <| .z) fun a w S => Zb (Za (hK2 _ _ (wp_ret (Zh (Zk S (results1 S results12 (Rv.tmp rfl)) ?_)))))))))))
   have W2 := (S.wd.picks (L' := [.blk g3 (.cells (MV.enc (treeV self m (m.nn + 1) ⟨B3, st.length, c3⟩)).toArray 35), rowOf 77 3 Sm.enc B3 c3 st]) (by repeat (first | exact Picks.nil | (refine Picks.rest ?_; (repeat (first | exact List.Sublist.refl _ | refine List.Sublist.cons_cons _ ?_ | refine List.Sublist.cons _ ?_)); done) | refine Picks.take 0 rfl ?_ | refine Picks.take 1 rfl ?_ | refine Picks.take 2 rfl ?_ | refine Picks.take 3 rfl ?_ | refine Picks.take 4 rfl ?_ | refine Picks.take 5 rfl ?_ | refine Picks.take 6 rfl ?_ | refine Picks.take 7 rfl ?_ | refine Picks.take 8 rfl ?_ | refine Picks.take 9 rfl ?_ | refine Picks.take 10 rfl ?_ | refine Picks.take 11 rfl ?_))).close_row (k := 0) rfl (size := 17) 1 1 ([treeV self m (m.nn + 1) ⟨B3, st.length, c3⟩].flatMap MV.enc) (by decide) rfl (Nat.le_refl 1) (by decide) rfl
   exact ⟨_, _, rfl, W2, _, 1, B3, c3, rfl, rfl⟩
end Go.Proofs.YtbijdmfilmecbaaGreat
namespace Go.Proofs.YtbijdmfilmecbaaGreat
open Go.Fw Go.Proofs Go.RowKit Go.Proofs.Tryz
theorem q12 (w0 : World) (self : Int) (m : MV) (g cap : Nat) (A : Option Addr) (T : List KH) (sums : List Sm) (h : DocAt w0 g A cap T) (hT : KhOk T) (hl : T.length ≤ 1048576) (h2 : Sl Sm.enc 3 w0 w0.heap.size (.slice m.su.a m.su.n m.su.c) sums) (hs : Sums sums) (hTs : T.length + sums.length ≤ 1048576) (hk : m.kind = 8) (h6 : m.nn = 6) :
   Rets Tryz.prog 12 #[.int .i64 self, .pointer (some ⟨g, 0, none⟩), .agg (MV.enc m).toArray] w0 (OnR self m ⟨haveT T (sums.map (·.key)), none⟩) := by
 have hl4 : T.length ≤ 4194304 := by omega
 have rw_k : decide (m.kind ≠ 8) = false := decide_eq_false (fun e => e hk)
 have rw_n0 : decide (m.nn < 0) = false := decide_eq_false (by omega)
 have rw_n6 : decide (6 < m.nn) = false := decide_eq_false (by omega)
 have rw_n4 : decide (m.nn ≤ 4) = false := decide_eq_false (by omega)
 have rw_n5 : decide (m.nn = 5) = false := decide_eq_false (by omega)
 have hsl := hs.len
 have hsl4 : sums.length ≤ 4194304 := by omega
 obtain ⟨A', cap', e', hl', hcap', hA'⟩ := h2
 simp only [Value.slice.injEq] at e'
 obtain ⟨rfl, e2, rfl⟩ := e'
 have rw_b : ((m.su.n : Nat) : Int) = (sums.length : Int) := by rw [e2]
 unfold Go.Fw.Rets
 refine enter3 func12 rfl ntmps12 rfl fun a S => wp_seq_k fun _ hK1 => wp_region_lit (Zi (Ym S (.t rfl) rfl fun g1 a w S => run S (.ac rfl <| .z) fun a w S => Zb (Za (hK1 _ _ (wp_seq_k fun _ hK1 => sg S (.fa underlying35 sizeOf3 0 rfl rfl rfl <| .ld gt3 0 rfl rfl rfl <| .yy (Yf (by omega) (Zu (.t rfl) Ev.c)) rfl <| .mv rfl <| .gy rfl rfl (Ze (.t rfl)) <| .gy rfl rfl (Wc underlying37 (.t rfl) Ev.c) <| .yy (Zn (.t rfl) (.t rfl)) rfl <| .mv rfl <| .gy rfl rfl (Zm (FieldT.mk underlying35 rfl sizeOf3 rfl) (.t rfl) (i' := 10) rfl) <| .gy rfl rfl (Yd ⟨isAgg3, sizeOf3⟩ (.t rfl) (k := 0) rfl rfl) <| .gy rfl rfl (Yf (by omega) (Yh (.t rfl) Ev.c)) <| .yy (Zn (.t rfl) (.t rfl)) rfl <| .mv rfl <| .gy rfl rfl (Zm (FieldT.mk underlying35 rfl sizeOf3 rfl) (.t rfl) (i' := 10) rfl) <| .gy rfl rfl (Yd ⟨isAgg3, sizeOf3⟩ (.t rfl) (k := 0) rfl rfl) <| .gy rfl rfl (Yf (by omega) (Xt (.t rfl) Ev.c)) <| .yy (Zn (.t rfl) (.t rfl)) rfl <| .z) fun a w S => Zf S (.t rfl) (wp_skip (Za (hK1 _ _ (wp_seq_k fun _ hK1 => wp_region_lit ?_)))))))))
 refine run S (.mv rfl <| .fa underlying35 sizeOf3 1 rfl rfl rfl <| .ld gt3 0 rfl rfl rfl <| .fa underlying35 sizeOf3 9 rfl rfl rfl <| .ld gt3 0 rfl rfl rfl <| .yy (Yj (ps := [(0, _), (1, Go.Operand.tmp 43), (2, Go.Operand.tmp 45), (6, _), (7, Go.Operand.tmp 47)]) (us := [_, _, _, _, _, _, _, _, _, _, _, _, _, _, _, _, _]) bld35 (.cons Ev.c (.cons (.t rfl) (.cons (.t rfl) (.cons Ev.c (.cons (.t rfl) .nil))))) rfl) rfl <| .z) fun a w S => Zi (Zt S zeroValue35 (cs := _) rfl rfl fun g2 a w S => Zi (Ya S sizeOf35 (.t rfl) (.t rfl) (k := 0) rfl rfl rfl (by simp [Value.oneCell']) fun a w S => Zb (Za (hK1 _ _ (wp_seq_k fun _ hK1 => sg S (.fa underlying35 sizeOf3 10 rfl rfl rfl <| .ld gt3 1 rfl rfl rfl <| .yy (Yf (by omega) (Xh (.t rfl) Ev.c)) rfl <| .z) fun a w S => Zf S (.t rfl) (wp_skip (Za (hK1 _ _ (sg S (.ac rfl <| .z) fun a w S => wp_seq_k fun _ hK1 => sg S (.fa underlying35 sizeOf3 10 rfl rfl rfl <| .ld gt3 1 rfl rfl rfl <| .yy (Yf (by omega) (Yi (.t rfl) Ev.c)) rfl <| .z) fun a w S => Zf S (.t rfl) (wp_seq_k fun _ hK2 => wp_region_lit ?_))))))))))
 refine run S (.fa underlying35 sizeOf22 16 rfl rfl rfl <| .ld gt22 1 rfl rfl rfl <| .ln underlying22 rfl <| .z) fun a w S => ?_
 rw [rw_b] at S
 refine run S (.mc rfl <| .z) fun a w S => Zb (Za (hK2 _ _ (wp_block ?_)))
 replace S := S.nil_ 9 1 encS' none
 refine Yg S [12, 136] (X := Nat × Option Addr × Nat) (fun q => [(12, true, .slice q.2.1 ((sums.map (·.key)).take q.1).length q.2.2), (136, true, .int .i64 (q.1 : Int))])
   (fun q => [rowOf 9 1 encS' q.2.1 q.2.2 ((sums.map (·.key)).take q.1), .blk g2 (.cells (MV.enc (treeV self m 0 .nil)).toArray 35), .blk g1 (.cells (MV.enc m).toArray 35)]) (fun q => q.1 ≤ sums.length) (fun q => sums.length - q.1) (0, none, 0) (Nat.zero_le _) ?_
 clear S
 rintro ⟨q, R, cR⟩ a w hq S
 dsimp only at hq S
 by_cases hlt : q < sums.length
 · obtain ⟨gq, oq, x, rw_a, hx, hd, hc⟩ := Zv hA' hlt
   have hst : (sums.map (·.key)).take (q + 1) = (sums.map (·.key)).take q ++ [x.key] := by rw [List.take_add_one, List.getElem?_map, hx]; rfl
   have hgl : ((sums.map (·.key)).take q).length ≤ q := List.length_take_le _ _
   generalize (sums.map (·.key)).take q = G at *
   refine wp_seq_k fun _ hK2 => ?_
   rw [rw_a] at S
   refine rg S (.lt (by omega) rfl rfl <| .z) hK2 fun a w S => wp_seq_k fun _ hK2 => Zd S (.t rfl) (wp_skip (Za (hK2 _ _ (wp_seq_k fun _ hK2 => wp_block (wp_seq_k fun _ hK3 => wp_region_lit (run S (.ix underlying22 sizeOf77 (by omega) rfl rfl <| .yy (Ye ⟨isAgg77, sizeOf77⟩ (.t rfl) (vs := [_, _, _]) rfl (fun _ => hc)) rfl <| .z) fun a w S => Zi (Zt S zeroValue77 (cs := _) rfl rfl fun g3 a w S => Zi (Ya S sizeOf77 (.t rfl) (.t rfl) (k := 0) rfl rfl rfl (by simp [Value.oneCell']) fun a w S => Zb (Za (hK3 _ _ (wp_region_lit (run S (.mv rfl <| .fa underlying77 sizeOf9 1 rfl rfl rfl <| .ld gt9 0 rfl rfl rfl <| .z) fun a w S => Zi (Zp S underlying58 inf9 rfl rfl rfl (.t rfl) rfl rfl rfl fun g4 a w S => Zi (Yc S underlying58 inf9 rfl (k := 2) (j := 0) rfl (.t rfl) (.t rfl) rfl rfl rfl rfl (by first | omega | (simp only [List.length_append, List.length_cons, List.length_nil]; omega)) rfl rfl rfl fun A1 cap1 a w S => run S (.as rfl <| .z) fun a w S => Zb (Zj (Za (hK2 _ _ (wp_region_lit (run S (.ad (by unfold I64; omega) rfl <| .mv rfl <| .z) fun a w S => Zb (Za ?_))))))))))))))))))))
   rw [← rw_a] at S
   exact ⟨(q + 1, A1, cap1), by dsimp only; omega, by dsimp only; omega, by dsimp only; rw [hst]; exact S.pk⟩
 obtain rfl : q = sums.length := by omega
 rw [List.take_of_length_le (by simp)] at S
 have hkl : (sums.map (·.key)).length ≤ 1048576 := by rw [List.length_map]; omega
 generalize sums.map (·.key) = ks at *
 refine sg S (.ge (by omega) rfl rfl <| .z) fun a w S => wp_seq_k fun _ hK2 => Zf S (.t rfl) (wp_exit (Zc (Zc (Zs (Za (hK1 _ _ (sg S (.ac rfl <| .z) fun a w S => wp_seq_k fun _ hK1 => sg S (.mv rfl <| .ln underlying58 rfl <| .mc rfl <| .z) fun a w S => wp_block ?_)))))))
 replace S := S.nil_ 35 17 MV.enc none
 refine Yg S [21, 148] (X := Nat × Option Addr × Nat) (fun q => [(21, true, .slice q.2.1 (giveT self m T (ks.take q.1)).length q.2.2), (148, true, .int .i64 (q.1 : Int))])
   (fun q => [rowOf 35 17 MV.enc q.2.1 q.2.2 (giveT self m T (ks.take q.1)), rowOf 9 1 encS' R cR ks, .blk g2 (.cells (MV.enc (treeV self m 0 .nil)).toArray 35), .blk g1 (.cells (MV.enc m).toArray 35)]) (fun q => q.1 ≤ ks.length) (fun q => ks.length - q.1) (0, none, 0) (Nat.zero_le _) ?_
 clear S
 rintro ⟨q, C, cC⟩ a w hq2 S
 dsimp only at hq2 S
 have hgl := giveT_len self m T (ks.take q)
 rw [List.length_take] at hgl
 by_cases hlt : q < ks.length
 · obtain ⟨gK, rfl⟩ := S.wd.row_at (k := 1) rfl (by have := (S.wd.room (k := 1) rfl).1; omega)
   obtain ⟨x, hx⟩ : ∃ x, ks[q]? = some x := ⟨_, List.getElem?_eq_getElem hlt⟩
   have hst := giveT_snoc (self := self) (m := m) (T := T) hx
   generalize giveT self m T (ks.take q) = G at *
   cases hh : hasT T x with
   | true =>
     have rw_h := hh
     have rw_g := giveV_enc self m x
     rw [hh, if_pos rfl] at hst
     refine sg S (.lt (by omega) rfl rfl <| .z) fun a w S => wp_seq_k fun _ hK3 => Zd S (.t rfl) (wp_skip (Za (hK3 _ _ (wp_seq_k fun _ hK3 => wp_block (sg S (.ix underlying58 sizeOf9 (by omega) rfl rfl <| .yy (ys_ldW0 ⟨isAgg9, sizeOf9⟩ (.t rfl) (k := 1) rfl hx (fun _ => rfl) rfl) rfl <| .as rfl <| .z) fun a w S => wp_seq_k fun _ hK4 => wp_region_lit (run S (.mv rfl <| .mv rfl <| .xx (Zg call47 (.cons (.t rfl) (.cons (.t rfl) .nil)) (fun hp w W => c47 _ _ _ _ _ _ (by exact .old W (by assumption)) (by assumption) (by assumption))) rfl <| .z) fun a w S => ?_))))))
     rw [rw_h] at S
     refine Zb (Za (hK4 _ _ (Zd S (.t rfl) (wp_region_lit (run S (.mv rfl <| .mv rfl <| .fa underlying35 sizeOf3 1 rfl rfl rfl <| .ld gt3 3 rfl rfl rfl <| .fa underlying35 sizeOf3 9 rfl rfl rfl <| .ld gt3 3 rfl rfl rfl <| .mv rfl <| .yy (Yj (ps := [(0, _), (1, Go.Operand.tmp 156), (2, Go.Operand.tmp 158), (6, _), (7, Go.Operand.tmp 160), (4, Go.Operand.tmp 161)]) (us := [_, _, _, _, _, _, _, _, _, _, _, _, _, _, _, _, _]) bld35 (.cons Ev.c (.cons (.t rfl) (.cons (.t rfl) (.cons Ev.c (.cons (.t rfl) (.cons (.t rfl) .nil)))))) rfl) rfl <| .z) fun a w S => ?_)))))
     rw [rw_g] at S
     refine Zi (Zp S underlying46 inf35 rfl rfl rfl (.t rfl) rfl rfl rfl fun g3 a w S => ?_)
     rw [rw_g] at S
     refine Zi (Yc S underlying46 inf35 rfl (k := 1) (j := 0) rfl (.t rfl) (.t rfl) rfl rfl rfl rfl (by first | omega | (simp only [List.length_append, List.length_cons, List.length_nil]; omega)) rfl rfl rfl fun A1 cap1 a w S => ?_)
     rw [rw_g] at S
     refine run S (.as rfl <| .z) fun a w S => ?_
     rw [rw_g] at S
     refine Zb ?_
     rw [rw_g] at S
     refine Zj (Za (hK3 _ _ ?_))
     rw [rw_g] at S
     refine wp_region_lit ?_
     rw [rw_g] at S
     refine run S (.ad (by unfold I64; omega) rfl <| .z) fun a w S => ?_
     rw [rw_g] at S
     refine run S (.mv rfl <| .z) fun a w S => ?_
     rw [rw_g] at S
     refine Zb ?_
     rw [rw_g] at S
     refine Za ?_
     rw [rw_g] at S
     exact ⟨(q + 1, A1, cap1), by dsimp only; omega, by dsimp only; omega, by dsimp only; rw [hst]; exact S.pk⟩
   | false =>
     have rw_h := hh
     rw [hh, if_neg (by decide), List.append_nil] at hst
     refine sg S (.lt (by omega) rfl rfl <| .z) fun a w S => wp_seq_k fun _ hK3 => Zd S (.t rfl) (wp_skip (Za (hK3 _ _ (wp_seq_k fun _ hK3 => wp_block (sg S (.ix underlying58 sizeOf9 (by omega) rfl rfl <| .yy (ys_ldW0 ⟨isAgg9, sizeOf9⟩ (.t rfl) (k := 1) rfl hx (fun _ => rfl) rfl) rfl <| .as rfl <| .z) fun a w S => wp_seq_k fun _ hK4 => wp_region_lit (run S (.mv rfl <| .mv rfl <| .xx (Zg call47 (.cons (.t rfl) (.cons (.t rfl) .nil)) (fun hp w W => c47 _ _ _ _ _ _ (by exact .old W (by assumption)) (by assumption) (by assumption))) rfl <| .z) fun a w S => ?_))))))
     rw [rw_h] at S
     refine Zb (Za (hK4 _ _ (Zf S (.t rfl) (wp_skip (Zj (Za (hK3 _ _ (wp_region_lit (run S (.ad (by unfold I64; omega) rfl <| .mv rfl <| .z) fun a w S => Zb (Za ?_))))))))))
     exact ⟨(q + 1, C, cC), by dsimp only; omega, by dsimp only; omega, by dsimp only; rw [hst]; exact S.pk⟩
 obtain rfl : q = ks.length := by omega
 rw [List.take_length] at S
 refine sg S (.ge (by omega) rfl rfl <| .z) fun a w S => wp_seq_k fun _ hK3 => Zf S (.t rfl) (wp_exit (Zc (Zc (Zs (Za (hK1 _ _ (wp_seq_k fun _ hK1 => sg S (.fa underlying35 sizeOf3 10 rfl rfl rfl <| .ld gt3 3 rfl rfl rfl <| .yy (Yf (by omega) (Yi (.t rfl) Ev.c)) rfl <| .mv rfl <| .sk rfl rfl rfl <| .sk rfl rfl rfl <| .sk rfl rfl rfl <| .yy (Zn (.t rfl) Ev.c) rfl <| .z) fun a w S => Zf S (.t rfl) (wp_skip (Za (hK1 _ _ (sg S (.mv rfl <| .as rfl <| .z) fun a w S => wp_ret (Zk S (results1 S results12 (Rv.tmp rfl)) ?_))))))))))))
 exact ⟨_, _, rfl, (S.nil_ 77 3 Sm.enc none).wd.picks (L' := [rowOf 35 17 MV.enc C cC (giveT self m T ks), rowOf 77 3 Sm.enc none 0 []]) (by repeat (first | exact Picks.nil | (refine Picks.rest ?_; (repeat (first | exact List.Sublist.refl _ | refine List.Sublist.cons_cons _ ?_ | refine List.Sublist.cons _ ?_)); done) | refine Picks.take 0 rfl ?_ | refine Picks.take 1 rfl ?_ | refine Picks.take 2 rfl ?_ | refine Picks.take 3 rfl ?_ | refine Picks.take 4 rfl ?_ | refine Picks.take 5 rfl ?_ | refine Picks.take 6 rfl ?_ | refine Picks.take 7 rfl ?_ | refine Picks.take 8 rfl ?_ | refine Picks.take 9 rfl ?_ | refine Picks.take 10 rfl ?_ | refine Picks.take 11 rfl ?_)), C, cC, none, 0, by rw [ansV_gives], by rw [ansV_gives]; rfl⟩
theorem r12 (w0 : World) (self : Int) (m : MV) (g cap : Nat) (A : Option Addr) (T : List KH) (sums : List Sm) (h : DocAt w0 g A cap T) (hT : KhOk T) (hl : T.length ≤ 1048576) (h2 : Sl Sm.enc 3 w0 w0.heap.size (.slice m.su.a m.su.n m.su.c) sums) (hs : Sums sums) (hTs : T.length + sums.length ≤ 1048576) (hk : m.kind = 8) (h5 : m.nn = 5) :
   Rets Tryz.prog 12 #[.int .i64 self, .pointer (some ⟨g, 0, none⟩), .agg (MV.enc m).toArray] w0 (OnR self m (keysQ T sums)) := by
 have hl4 : T.length ≤ 4194304 := by omega
 have rw_k : decide (m.kind ≠ 8) = false := decide_eq_false (fun e => e hk)
 have rw_n0 : decide (m.nn < 0) = false := decide_eq_false (by omega)
 have rw_n6 : decide (6 < m.nn) = false := decide_eq_false (by omega)
 have rw_n4 : decide (m.nn ≤ 4) = false := decide_eq_false (by omega)
 have rw_n5 : decide (m.nn = 5) = true := decide_eq_true h5
 have hsl := hs.len
 have hsl4 : sums.length ≤ 4194304 := by omega
 obtain ⟨A', cap', e', hl', hcap', hA'⟩ := h2
 simp only [Value.slice.injEq] at e'
 obtain ⟨rfl, e2, rfl⟩ := e'
 have rw_b : ((m.su.n : Nat) : Int) = (sums.length : Int) := by rw [e2]
 unfold Go.Fw.Rets
 refine enter3 func12 rfl ntmps12 rfl fun a S => wp_seq_k fun _ hK1 => wp_region_lit (Zi (Ym S (.t rfl) rfl fun g1 a w S => run S (.ac rfl <| .z) fun a w S => Zb (Za (hK1 _ _ (wp_seq_k fun _ hK1 => sg S (.fa underlying35 sizeOf3 0 rfl rfl rfl <| .ld gt3 0 rfl rfl rfl <| .yy (Yf (by omega) (Zu (.t rfl) Ev.c)) rfl <| .mv rfl <| .gy rfl rfl (Ze (.t rfl)) <| .gy rfl rfl (Wc underlying37 (.t rfl) Ev.c) <| .yy (Zn (.t rfl) (.t rfl)) rfl <| .mv rfl <| .gy rfl rfl (Zm (FieldT.mk underlying35 rfl sizeOf3 rfl) (.t rfl) (i' := 10) rfl) <| .gy rfl rfl (Yd ⟨isAgg3, sizeOf3⟩ (.t rfl) (k := 0) rfl rfl) <| .gy rfl rfl (Yf (by omega) (Yh (.t rfl) Ev.c)) <| .yy (Zn (.t rfl) (.t rfl)) rfl <| .mv rfl <| .gy rfl rfl (Zm (FieldT.mk underlying35 rfl sizeOf3 rfl) (.t rfl) (i' := 10) rfl) <| .gy rfl rfl (Yd ⟨isAgg3, sizeOf3⟩ (.t rfl) (k := 0) rfl rfl) <| .gy rfl rfl (Yf (by omega) (Xt (.t rfl) Ev.c)) <| .yy (Zn (.t rfl) (.t rfl)) rfl <| .z) fun a w S => Zf S (.t rfl) (wp_skip (Za (hK1 _ _ (wp_seq_k fun _ hK1 => wp_region_lit ?_)))))))))
 refine run S (.mv rfl <| .fa underlying35 sizeOf3 1 rfl rfl rfl <| .ld gt3 0 rfl rfl rfl <| .fa underlying35 sizeOf3 9 rfl rfl rfl <| .ld gt3 0 rfl rfl rfl <| .yy (Yj (ps := [(0, _), (1, Go.Operand.tmp 43), (2, Go.Operand.tmp 45), (6, _), (7, Go.Operand.tmp 47)]) (us := [_, _, _, _, _, _, _, _, _, _, _, _, _, _, _, _, _]) bld35 (.cons Ev.c (.cons (.t rfl) (.cons (.t rfl) (.cons Ev.c (.cons (.t rfl) .nil))))) rfl) rfl <| .z) fun a w S => Zi (Zt S zeroValue35 (cs := _) rfl rfl fun g2 a w S => Zi (Ya S sizeOf35 (.t rfl) (.t rfl) (k := 0) rfl rfl rfl (by simp [Value.oneCell']) fun a w S => Zb (Za (hK1 _ _ (wp_seq_k fun _ hK1 => sg S (.fa underlying35 sizeOf3 10 rfl rfl rfl <| .ld gt3 1 rfl rfl rfl <| .yy (Yf (by omega) (Xh (.t rfl) Ev.c)) rfl <| .z) fun a w S => Zf S (.t rfl) (wp_skip (Za (hK1 _ _ (sg S (.ac rfl <| .z) fun a w S => wp_seq_k fun _ hK1 => sg S (.fa underlying35 sizeOf3 10 rfl rfl rfl <| .ld gt3 1 rfl rfl rfl <| .yy (Yk (by omega) (Yi (.t rfl) Ev.c)) rfl <| .z) fun a w S => Zd S (.t rfl) (sg S (.ac rfl <| .z) fun a w S => ?_))))))))))
 refine sg S (.ac rfl <| .z) fun a w S => wp_seq_k fun _ hK2 => wp_seq_k fun _ hK3 => wp_region_lit (run S (.fa underlying35 sizeOf22 16 rfl rfl rfl <| .ld gt22 1 rfl rfl rfl <| .ln underlying22 rfl <| .z) fun a w S => ?_)
 rw [rw_b] at S
 refine run S (.mc rfl <| .z) fun a w S => Zb (Za (hK3 _ _ (wp_block ?_)))
 replace S := (S.nil_ 77 3 Sm.enc none).nil_ 3 1 encI none
 refine Yg S [13, 14, 106] (X := Nat × Option Addr × Nat × Option Addr × Nat) (fun q => [(13, true, .slice q.2.1 (placesS (sums.take q.1)).length q.2.2.1), (14, true, .slice q.2.2.2.1 (restS (sums.take q.1)).length q.2.2.2.2), (106, true, .int .i64 (q.1 : Int))])
   (fun q => [rowOf 3 1 encI q.2.1 q.2.2.1 (placesS (sums.take q.1)), rowOf 77 3 Sm.enc q.2.2.2.1 q.2.2.2.2 (restS (sums.take q.1)), .blk g2 (.cells (MV.enc (treeV self m 0 .nil)).toArray 35), .blk g1 (.cells (MV.enc m).toArray 35)]) (fun q => q.1 ≤ sums.length) (fun q => sums.length - q.1) (0, none, 0, none, 0) (Nat.zero_le _) ?_
 clear S
 rintro ⟨q, P, cP, Q, cQ⟩ a w hq S
 dsimp only at hq S
 by_cases hlt : q < sums.length
 · obtain ⟨gq, oq, x, rw_a, hx, hd, hc⟩ := Zv hA' hlt
   obtain ⟨hst1, hst2⟩ := split_snoc hx
   have hpl := pls_len (sums.take q)
   have hrl := rest_len (sums.take q)
   rw [List.length_take] at hpl hrl
   generalize placesS (sums.take q) = G at *
   generalize restS (sums.take q) = H at *
   by_cases hk : x.key = []
   · have rw_k := decide_eq_true hk
     rw [if_pos hk] at hst1 hst2
     rw [List.append_nil] at hst2
     refine wp_seq_k fun _ hK3 => ?_
     rw [rw_a] at S
     refine rg S (.lt (by omega) rfl rfl <| .z) hK3 fun a w S => wp_seq_k fun _ hK3 => Zd S (.t rfl) (wp_skip (Za (hK3 _ _ (wp_seq_k fun _ hK3 => wp_block (wp_seq_k fun _ hK4 => wp_region_lit (run S (.ix underlying22 sizeOf77 (by omega) rfl rfl <| .yy (Ye ⟨isAgg77, sizeOf77⟩ (.t rfl) (vs := [_, _, _]) rfl (fun _ => hc)) rfl <| .z) fun a w S => Zi (Zt S zeroValue77 (cs := _) rfl rfl fun g3 a w S => Zi (Ya S sizeOf77 (.t rfl) (.t rfl) (k := 0) rfl rfl rfl (by simp [Value.oneCell']) fun a w S => Zb (Za (hK4 _ _ (wp_seq_k fun _ hK4 => wp_region_lit (run S (.fa underlying77 sizeOf9 1 rfl rfl rfl <| .ld gt9 0 rfl rfl rfl <| .yy (Xq (.t rfl) Ev.c) rfl <| .z) fun a w S => ?_))))))))))))
     rw [rw_k] at S
     refine Zb (Za (hK4 _ _ (Zd S (.t rfl) (wp_region_lit (run S (.mv rfl <| .fa underlying77 sizeOf3 0 rfl rfl rfl <| .ld gt3 0 rfl rfl rfl <| .z) fun a w S => Zi (Zp S underlying82 inf3 rfl rfl rfl (.t rfl) rfl rfl rfl fun g4 a w S => Zi (Yc S underlying82 inf3 rfl (k := 2) (j := 0) rfl (.t rfl) (.t rfl) rfl rfl rfl rfl (by first | omega | (simp only [List.length_append, List.length_cons, List.length_nil]; omega)) rfl rfl rfl fun A1 cap1 a w S => run S (.as rfl <| .z) fun a w S => Zb (Zj (Za (hK3 _ _ (wp_region_lit (run S (.ad (by unfold I64; omega) rfl <| .mv rfl <| .z) fun a w S => Zb (Za ?_)))))))))))))
     rw [← rw_a] at S
     exact ⟨(q + 1, A1, cap1, Q, cQ), by dsimp only; omega, by dsimp only; omega, by dsimp only; rw [hst1, hst2]; exact S.pk⟩
   · have rw_k := decide_eq_false hk
     rw [if_neg hk] at hst1 hst2
     rw [List.append_nil] at hst1
     refine wp_seq_k fun _ hK3 => ?_
     rw [rw_a] at S
     refine rg S (.lt (by omega) rfl rfl <| .z) hK3 fun a w S => wp_seq_k fun _ hK3 => Zd S (.t rfl) (wp_skip (Za (hK3 _ _ (wp_seq_k fun _ hK3 => wp_block (wp_seq_k fun _ hK4 => wp_region_lit (run S (.ix underlying22 sizeOf77 (by omega) rfl rfl <| .yy (Ye ⟨isAgg77, sizeOf77⟩ (.t rfl) (vs := [_, _, _]) rfl (fun _ => hc)) rfl <| .z) fun a w S => Zi (Zt S zeroValue77 (cs := _) rfl rfl fun g3 a w S => Zi (Ya S sizeOf77 (.t rfl) (.t rfl) (k := 0) rfl rfl rfl (by simp [Value.oneCell']) fun a w S => Zb (Za (hK4 _ _ (wp_seq_k fun _ hK4 => wp_region_lit (run S (.fa underlying77 sizeOf9 1 rfl rfl rfl <| .ld gt9 0 rfl rfl rfl <| .yy (Xq (.t rfl) Ev.c) rfl <| .z) fun a w S => ?_))))))))))))
     rw [rw_k] at S
     refine Zb (Za (hK4 _ _ (Zf S (.t rfl) (wp_region_lit (run S (.mv rfl <| .la gt77 0 rfl rfl rfl <| .z) fun a w S => Zi (Zp S underlying22 inf77 rfl rfl rfl (.t rfl) rfl rfl rfl fun g4 a w S => Zi (Yc S underlying22 inf77 rfl (k := 3) (j := 0) rfl (.t rfl) (.t rfl) rfl rfl rfl rfl (by first | omega | (simp only [List.length_append, List.length_cons, List.length_nil]; omega)) rfl rfl rfl fun A1 cap1 a w S => run S (.as rfl <| .z) fun a w S => Zb (Zj (Za (hK3 _ _ (wp_region_lit (run S (.ad (by unfold I64; omega) rfl <| .mv rfl <| .z) fun a w S => Zb (Za ?_)))))))))))))
     rw [← rw_a] at S
     exact ⟨(q + 1, P, cP, A1, cap1), by dsimp only; omega, by dsimp only; omega, by dsimp only; rw [hst1, hst2]; exact S.pk⟩
 obtain rfl : q = sums.length := by omega
 rw [List.take_length] at S
 have hrs := rest_sums hs
 have hpl := pls_len sums
 have hrl := rest_len sums
 have hrl2 : T.length + (restS sums).length ≤ 1048576 := by omega
 have hpl2 : (placesS sums).length ≤ 1048576 := by omega
 have hmw : missW T sums = (missA T (restS sums) (placesS sums)).1 := rfl
 have hml := missA_len T (restS sums) (placesS sums)
 have hm0 : (missA T (restS sums) (placesS sums)).2 ≠ 0 → missW T sums = [] := fun e => hmw.trans (miss_err e)
 generalize restS sums = H at *
 generalize placesS sums = D at *
 by_cases he : (missA T H D).2 = 0
 rotate_left
 · have rw_he : decide ((missA T H D).2 ≠ 0) = true := decide_eq_true he
   have rw_hn : (missA T H D).1 = [] := miss_err he
   have hq : keysQ T sums = .nil := if_pos (hm0 he)
   refine sg S (.ge (by omega) rfl rfl <| .z) fun a w S => wp_seq_k fun _ hK3 => Zf S (.t rfl) (wp_exit (Zc (Zc (Zs (Za (hK2 _ _ (wp_seq_k fun _ hK2 => wp_region_lit (run S (.mv rfl <| .mv rfl <| .mv rfl <| .z) fun a w S => ?_))))))))
   (refine Zi (Zq S call46 (.cons (.t rfl) (.cons (.t rfl) (.cons (.t rfl) .nil))) (c46 _ _ _ _ _ _ _ _ _ (by exact .old S.wd (by assumption)) (by assumption) (by exact Sl.of_own S.wd (k := 0) rfl (fun _ => rfl)) (by assumption) (by exact Sl.of_own S.wd (k := 1) rfl (fun _ => rfl)) (by assumption) (by assumption)) rfl ?_); clear S a w; rintro _ _ ⟨B1, c1, rfl, rfl⟩ a w S)
   rw [rw_hn] at S
   refine run S (.mv rfl <| .ex rfl rfl <| .ex rfl rfl <| .as rfl <| .as rfl <| .z) fun a w S => Zb (Za (hK2 _ _ (wp_seq_k fun _ hK2 => sg S (.mv rfl <| .yy (Yk (by omega) (Zu (.t rfl) Ev.c)) rfl <| .z) fun a w S => Zd S (.t rfl) (sg S (.ac rfl <| .z) fun a w S => wp_ret (Zh (Zh (Zk S (results1 S results12 (Rv.tmp rfl)) ?_)))))))
   rw [hq]
   replace S := (S.nil_ 77 3 Sm.enc none).nil_ 35 17 MV.enc none
   exact ⟨_, _, rfl, S.wd.pk, none, 0, none, 0, rfl, rfl⟩
 have rw_he := he
 obtain ⟨ks, rw_ks⟩ : ∃ ks, (missA T H D).1 = ks := ⟨_, rfl⟩
 rw [rw_ks] at hml hmw
 refine sg S (.ge (by omega) rfl rfl <| .z) fun a w S => wp_seq_k fun _ hK3 => Zf S (.t rfl) (wp_exit (Zc (Zc (Zs (Za (hK2 _ _ (wp_seq_k fun _ hK2 => wp_region_lit (run S (.mv rfl <| .mv rfl <| .mv rfl <| .z) fun a w S => ?_))))))))
 (refine Zi (Zq S call46 (.cons (.t rfl) (.cons (.t rfl) (.cons (.t rfl) .nil))) (c46 _ _ _ _ _ _ _ _ _ (by exact .old S.wd (by assumption)) (by assumption) (by exact Sl.of_own S.wd (k := 0) rfl (fun _ => rfl)) (by assumption) (by exact Sl.of_own S.wd (k := 1) rfl (fun _ => rfl)) (by assumption) (by assumption)) rfl ?_); clear S a w; rintro _ _ ⟨B1, c1, rfl, rfl⟩ a w S)
 rw [rw_he] at S
 rw [rw_ks] at S
 refine run S (.mv rfl <| .ex rfl rfl <| .ex rfl rfl <| .as rfl <| .as rfl <| .z) fun a w S => Zb (Za (hK2 _ _ (wp_seq_k fun _ hK2 => sg S (.mv rfl <| .yy (Yf (by omega) (Zu (.t rfl) Ev.c)) rfl <| .z) fun a w S => Zf S (.t rfl) (wp_skip (Za (hK2 _ _ (rg S (.mv rfl <| .as rfl <| .z) hK1 fun a w S => sg S (.ac rfl <| .z) fun a w S => wp_seq_k fun _ hK1 => sg S (.mv rfl <| .ln underlying58 rfl <| .mc rfl <| .z) fun a w S => wp_block ?_)))))))
 replace S := S.nil_ 35 17 MV.enc none
 refine Yg S [21, 148] (X := Nat × Option Addr × Nat) (fun q => [(21, true, .slice q.2.1 (giveT self m T (ks.take q.1)).length q.2.2), (148, true, .int .i64 (q.1 : Int))])
   (fun q => [rowOf 35 17 MV.enc q.2.1 q.2.2 (giveT self m T (ks.take q.1)), rowOf 9 1 encS' B1 c1 ks, .blk g2 (.cells (MV.enc (treeV self m 0 .nil)).toArray 35), .blk g1 (.cells (MV.enc m).toArray 35)]) (fun q => q.1 ≤ ks.length) (fun q => ks.length - q.1) (0, none, 0) (Nat.zero_le _) ?_
 clear S
 rintro ⟨q, C, cC⟩ a w hq2 S
 dsimp only at hq2 S
 have hgl := giveT_len self m T (ks.take q)
 rw [List.length_take] at hgl
 by_cases hlt : q < ks.length
 · obtain ⟨gK, rfl⟩ := S.wd.row_at (k := 1) rfl (by have := (S.wd.room (k := 1) rfl).1; omega)
   obtain ⟨x, hx⟩ : ∃ x, ks[q]? = some x := ⟨_, List.getElem?_eq_getElem hlt⟩
   have hst := giveT_snoc (self := self) (m := m) (T := T) hx
   generalize giveT self m T (ks.take q) = G at *
   cases hh : hasT T x with
   | true =>
     have rw_h := hh
     have rw_g := giveV_enc self m x
     rw [hh, if_pos rfl] at hst
     refine sg S (.lt (by omega) rfl rfl <| .z) fun a w S => wp_seq_k fun _ hK2 => Zd S (.t rfl) (wp_skip (Za (hK2 _ _ (wp_seq_k fun _ hK2 => wp_block (sg S (.ix underlying58 sizeOf9 (by omega) rfl rfl <| .yy (ys_ldW0 ⟨isAgg9, sizeOf9⟩ (.t rfl) (k := 1) rfl hx (fun _ => rfl) rfl) rfl <| .as rfl <| .z) fun a w S => wp_seq_k fun _ hK4 => wp_region_lit (run S (.mv rfl <| .mv rfl <| .xx (Zg call47 (.cons (.t rfl) (.cons (.t rfl) .nil)) (fun hp w W => c47 _ _ _ _ _ _ (by exact .old W (by assumption)) (by assumption) (by assumption))) rfl <| .z) fun a w S => ?_))))))
     rw [rw_h] at S
     refine Zb (Za (hK4 _ _ (Zd S (.t rfl) (wp_region_lit (run S (.mv rfl <| .mv rfl <| .fa underlying35 sizeOf3 1 rfl rfl rfl <| .ld gt3 3 rfl rfl rfl <| .fa underlying35 sizeOf3 9 rfl rfl rfl <| .ld gt3 3 rfl rfl rfl <| .mv rfl <| .yy (Yj (ps := [(0, _), (1, Go.Operand.tmp 156), (2, Go.Operand.tmp 158), (6, _), (7, Go.Operand.tmp 160), (4, Go.Operand.tmp 161)]) (us := [_, _, _, _, _, _, _, _, _, _, _, _, _, _, _, _, _]) bld35 (.cons Ev.c (.cons (.t rfl) (.cons (.t rfl) (.cons Ev.c (.cons (.t rfl) (.cons (.t rfl) .nil)))))) rfl) rfl <| .z) fun a w S => ?_)))))
     rw [rw_g] at S
     refine Zi (Zp S underlying46 inf35 rfl rfl rfl (.t rfl) rfl rfl rfl fun g3 a w S => ?_)
     rw [rw_g] at S
     refine Zi (Yc S underlying46 inf35 rfl (k := 1) (j := 0) rfl (.t rfl) (.t rfl) rfl rfl rfl rfl (by first | omega | (simp only [List.length_append, List.length_cons, List.length_nil]; omega)) rfl rfl rfl fun A1 cap1 a w S => ?_)
     rw [rw_g] at S
     refine run S (.as rfl <| .z) fun a w S => ?_
     rw [rw_g] at S
     refine Zb ?_
     rw [rw_g] at S
     refine Zj (Za (hK2 _ _ ?_))
     rw [rw_g] at S
     refine wp_region_lit ?_
     rw [rw_g] at S
     refine run S (.ad (by unfold I64; omega) rfl <| .z) fun a w S => ?_
     rw [rw_g] at S
     refine run S (.mv rfl <| .z) fun a w S => ?_
     rw [rw_g] at S
     refine Zb ?_
     rw [rw_g] at S
     refine Za ?_
     rw [rw_g] at S
     exact ⟨(q + 1, A1, cap1), by dsimp only; omega, by dsimp only; omega, by dsimp only; rw [hst]; exact S.pk⟩
   | false =>
     have rw_h := hh
     rw [hh, if_neg (by decide), List.append_nil] at hst
     refine sg S (.lt (by omega) rfl rfl <| .z) fun a w S => wp_seq_k fun _ hK2 => Zd S (.t rfl) (wp_skip (Za (hK2 _ _ (wp_seq_k fun _ hK2 => wp_block (sg S (.ix underlying58 sizeOf9 (by omega) rfl rfl <| .yy (ys_ldW0 ⟨isAgg9, sizeOf9⟩ (.t rfl) (k := 1) rfl hx (fun _ => rfl) rfl) rfl <| .as rfl <| .z) fun a w S => wp_seq_k fun _ hK4 => wp_region_lit (run S (.mv rfl <| .mv rfl <| .xx (Zg call47 (.cons (.t rfl) (.cons (.t rfl) .nil)) (fun hp w W => c47 _ _ _ _ _ _ (by exact .old W (by assumption)) (by assumption) (by assumption))) rfl <| .z) fun a w S => ?_))))))
     rw [rw_h] at S
     refine Zb (Za (hK4 _ _ (Zf S (.t rfl) (wp_skip (Zj (Za (hK2 _ _ (wp_region_lit (run S (.ad (by unfold I64; omega) rfl <| .mv rfl <| .z) fun a w S => Zb (Za ?_))))))))))
     exact ⟨(q + 1, C, cC), by dsimp only; omega, by dsimp only; omega, by dsimp only; rw [hst]; exact S.pk⟩
 obtain rfl : q = ks.length := by omega
 rw [List.take_length] at S
 by_cases hne : ks = []
 · subst hne
   have hq : keysQ T sums = .nil := if_pos hmw
   have rw_5 : (([] : List (List UInt8)).length : Int) = 0 := rfl
   refine wp_seq_k fun _ hK2 => ?_
   rw [rw_5] at S
   refine rg S (.ge (by omega) rfl rfl <| .z) hK2 fun a w S => wp_seq_k fun _ hK2 => Zf S (.t rfl) (wp_exit (Zc (Zc (Zs (Za (hK1 _ _ (wp_seq_k fun _ hK1 => wp_seq_k fun _ hK4 => wp_region_lit (run S (.fa underlying35 sizeOf3 10 rfl rfl rfl <| .ld gt3 3 rfl rfl rfl <| .yy (Yk (by omega) (Yi (.t rfl) Ev.c)) rfl <| .mv rfl <| .gy rfl rfl (Ze (.t rfl)) <| .gy rfl rfl (Xc underlying58 (.t rfl)) <| .z) fun a w S => ?_))))))))
   rw [rw_5] at S
   refine run S (.gy rfl rfl (Yf (by omega) (Xt (.t rfl) Ev.c)) <| .yy (Zr (.t rfl) (.t rfl)) rfl <| .z) fun a w S => Zb (Za (hK4 _ _ (Zf S (.t rfl) (wp_skip (Za (hK1 _ _ (sg S (.mv rfl <| .as rfl <| .z) fun a w S => wp_ret (Zk S (results1 S results12 (Rv.tmp rfl)) ?_))))))))
   rw [hq]
   exact ⟨_, _, rfl, (S.nil_ 77 3 Sm.enc none).wd.picks (L' := [rowOf 35 17 MV.enc C cC (giveT self m T []), rowOf 77 3 Sm.enc none 0 []]) (by repeat (first | exact Picks.nil | (refine Picks.rest ?_; (repeat (first | exact List.Sublist.refl _ | refine List.Sublist.cons_cons _ ?_ | refine List.Sublist.cons _ ?_)); done) | refine Picks.take 0 rfl ?_ | refine Picks.take 1 rfl ?_ | refine Picks.take 2 rfl ?_ | refine Picks.take 3 rfl ?_ | refine Picks.take 4 rfl ?_ | refine Picks.take 5 rfl ?_ | refine Picks.take 6 rfl ?_ | refine Picks.take 7 rfl ?_ | refine Picks.take 8 rfl ?_ | refine Picks.take 9 rfl ?_ | refine Picks.take 10 rfl ?_ | refine Picks.take 11 rfl ?_)), C, cC, none, 0, rfl, rfl⟩
 have hkl0 : ks.length ≠ 0 := fun e => hne (List.eq_nil_of_length_eq_zero e)
 have rw_0 : decide (0 < (ks.length : Int)) = true := decide_eq_true (by omega)
 have hq : keysQ T sums = ⟨haveT T ks, some (6, ks.map keyS)⟩ := by unfold keysQ; rw [hmw, if_neg hne]
 have hgl := giveT_len self m T ks
 have hgd : giveT self m T ks = (haveT T ks).map (giveV self m) := rfl
 generalize giveT self m T ks = GV at *
 refine sg S (.ge (by omega) rfl rfl <| .z) fun a w S => wp_seq_k fun _ hK2 => Zf S (.t rfl) (wp_exit (Zc (Zc (Zs (Za (hK1 _ _ (wp_seq_k fun _ hK1 => sg S (.fa underlying35 sizeOf3 10 rfl rfl rfl <| .ld gt3 3 rfl rfl rfl <| .yy (Yk (by omega) (Yi (.t rfl) Ev.c)) rfl <| .mv rfl <| .gy rfl rfl (Ze (.t rfl)) <| .gy rfl rfl (Xc underlying58 (.t rfl)) <| .gy rfl rfl (Yk (by omega) (Xt (.t rfl) Ev.c)) <| .yy (Zr (.t rfl) (.t rfl)) rfl <| .z) fun a w S => Zd S (.t rfl) (wp_seq_k fun _ hK4 => wp_region_lit (run S (.fa underlying35 sizeOf3 10 rfl rfl rfl <| .z) fun a w S => Zi (Xr S sizeOf3 (.t rfl) Ev.c (k := 2) rfl rfl (by simp) fun a w S => Zb (Za (hK4 _ _ (wp_seq_k fun _ hK4 => sg S (.mv rfl <| .ln underlying58 rfl <| .mc rfl <| .z) fun a w S => wp_block ?_)))))))))))))
 replace S := S.nil_ 77 3 Sm.enc none
 refine Yg S [177] (X := Nat × Option Addr × Nat) (fun q => [(177, true, .int .i64 (q.1 : Int))])
   (fun q => [rowOf 77 3 Sm.enc q.2.1 q.2.2 ((ks.map keyS).take q.1), rowOf 35 17 MV.enc C cC GV, rowOf 9 1 encS' B1 c1 ks, .blk g2 (.cells #[Value.int .i64 8, .int .i64 self, .int .i64 m.fr, .int .i64 0, .string (bs []), .slice none 0 0, .slice none 0 0, .slice none 0 0, .int .i64 (-1), .int .i64 m.pt, .int .i64 6, .int .i64 0, .int .i64 0, .int .i64 0, .slice none 0 0, .slice none 0 0, .slice q.2.1 ((ks.map keyS).take q.1).length q.2.2] 35)]) (fun q => q.1 ≤ ks.length) (fun q => ks.length - q.1) (0, none, 0) (Nat.zero_le _) ?_
 clear S
 rintro ⟨q, Q2, c2⟩ a w hq2 S
 dsimp only at hq2 S
 by_cases hlt : q < ks.length
 · obtain ⟨gK, rfl⟩ := S.wd.row_at (k := 2) rfl (by have := (S.wd.room (k := 2) rfl).1; omega)
   obtain ⟨x, hx⟩ : ∃ x, ks[q]? = some x := ⟨_, List.getElem?_eq_getElem hlt⟩
   have hst : (ks.map keyS).take (q + 1) = (ks.map keyS).take q ++ [⟨0, x, 0⟩] := by rw [List.take_add_one, List.getElem?_map, hx]; rfl
   have hgl : ((ks.map keyS).take q).length ≤ q := List.length_take_le _ _
   have rw_s : #[Value.int .i64 0, .string (bs x), .int .u64 0] = (Sm.enc ⟨0, x, 0⟩).toArray := rfl
   generalize (ks.map keyS).take q = I at *
   refine sg S (.lt (by omega) rfl rfl <| .z) fun a w S => wp_seq_k fun _ hK5 => Zd S (.t rfl) (wp_skip (Za (hK5 _ _ (wp_seq_k fun _ hK5 => wp_block (sg S (.ix underlying58 sizeOf9 (by omega) rfl rfl <| .yy (ys_ldW0 ⟨isAgg9, sizeOf9⟩ (.t rfl) (k := 2) rfl hx (fun _ => rfl) rfl) rfl <| .as rfl <| .z) fun a w S => wp_region_lit (run S (.fa underlying35 sizeOf22 16 rfl rfl rfl <| .ld gt22 3 rfl rfl rfl <| .mv rfl <| .yy (Yj (ps := [(1, Go.Operand.tmp 183)]) (us := [_, _, _]) bld77 (.cons (.t rfl) .nil) rfl) rfl <| .z) fun a w S => ?_))))))
   rw [rw_s] at S
   refine Zi (Zp S underlying22 inf77 rfl rfl rfl (.t rfl) rfl rfl rfl fun g3 a w S => ?_)
   rw [rw_s] at S
   refine Zi (Yc S underlying22 inf77 rfl (k := 1) (j := 0) rfl (.t rfl) (.t rfl) rfl rfl rfl rfl (by first | omega | (simp only [List.length_append, List.length_cons, List.length_nil]; omega)) rfl rfl rfl fun A1 cap1 a w S => ?_)
   rw [rw_s] at S
   refine run S (.fa underlying35 sizeOf22 16 rfl rfl rfl <| .z) fun a w S => ?_
   rw [rw_s] at S
   refine Zi (Xr S sizeOf22 (.t rfl) (.t rfl) (k := 4) rfl rfl (by simp) fun a w S => ?_)
   rw [rw_s] at S
   refine Zb ?_
   rw [rw_s] at S
   refine Zj (Za (hK5 _ _ ?_))
   rw [rw_s] at S
   refine wp_region_lit ?_
   rw [rw_s] at S
   refine run S (.ad (by unfold I64; omega) rfl <| .z) fun a w S => ?_
   rw [rw_s] at S
   refine run S (.mv rfl <| .z) fun a w S => ?_
   rw [rw_s] at S
   refine Zb ?_
   rw [rw_s] at S
   refine Za ?_
   rw [rw_s] at S
   exact ⟨(q + 1, A1, cap1), by dsimp only; omega, by dsimp only; omega, by dsimp only; rw [hst]; exact S.pk⟩
 obtain rfl : q = ks.length := by omega
 rw [List.take_of_length_le (by simp)] at S
 generalize ks.map keyS = I at *
 have rw_t : #[Value.int .i64 8, .int .i64 self, .int .i64 m.fr, .int .i64 0, .string (bs []), .slice none 0 0, .slice none 0 0, .slice none 0 0, .int .i64 (-1), .int .i64 m.pt, .int .i64 6, .int .i64 0, .int .i64 0, .int .i64 0, .slice none 0 0, .slice none 0 0, .slice Q2 I.length c2] = (MV.enc (treeV self m 6 ⟨Q2, I.length, c2⟩)).toArray := rfl
 refine wp_seq_k fun _ hK5 => ?_
 rw [rw_t] at S
 refine wp_region_lit ?_
 rw [rw_t] at S
 refine run S (.ge (by omega) rfl rfl <| .z) fun a w S => ?_
 rw [rw_t] at S
 refine Zb ?_
 rw [rw_t] at S
 refine Za (hK5 _ _ ?_)
 rw [rw_t] at S
 refine wp_seq_k fun _ hK5 => ?_
 rw [rw_t] at S
 refine Zf S (.t rfl) ?_
 rw [rw_t] at S
 refine wp_exit ?_
 rw [rw_t] at S
 refine Zc (Zc (Zs (Za (hK4 _ _ ?_))))
 rw [rw_t] at S
 refine wp_region_lit ?_
 rw [rw_t] at S
 refine run S (.mv rfl <| .z) fun a w S => ?_
 rw [rw_t] at S
 refine run S (.la gt35 3 rfl rfl rfl <| .z) fun a w S => ?_
 rw [rw_t] at S
 refine Zi (Zp S underlying46 inf35 rfl rfl rfl (.t rfl) rfl rfl rfl fun g3 a w S => ?_)
 rw [rw_t] at S
 refine Zi (Yc S underlying46 inf35 rfl (k := 2) (j := 0) rfl (.t rfl) (.t rfl) rfl rfl rfl rfl (by first | omega | (simp only [List.length_append, List.length_cons, List.length_nil]; omega)) rfl rfl rfl fun A1 cap1 a w S => ?_)
 rw [rw_t] at S
 refine run S (.as rfl <| .z) fun a w S => ?_
 rw [rw_t] at S
 refine Zb ?_
 rw [rw_t] at S
 refine Za (hK1 _ _ ?_)
 rw [rw_t] at S
 refine wp_seq_k fun _ hK1 => ?_
 rw [rw_t] at S
 refine wp_region_lit ?_
 rw [rw_t] at S
 refine run S (.mv rfl <| .z) fun a w S => ?_
 rw [rw_t] at S
 refine run S (.as rfl <| .z) fun a w S => ?_
 rw [rw_t] at S
 refine Zb ?_
 rw [rw_t] at S
 refine Za (hK1 _ _ ?_)
 rw [rw_t] at S
 refine wp_ret ?_
 rw [rw_t] at S
 refine Zk S (results1 S results12 (Rv.tmp rfl)) ?_
 rw [rw_t] at S
 rw [hq]
 have he : ansV self m ⟨haveT T ks, some (6, I)⟩ Q2 c2 = GV ++ [treeV self m 6 ⟨Q2, I.length, c2⟩] := by rw [hgd]; rfl
 exact ⟨_, _, rfl, S.wd.picks (L' := [rowOf 35 17 MV.enc A1 cap1 (GV ++ [treeV self m 6 ⟨Q2, I.length, c2⟩]), rowOf 77 3 Sm.enc Q2 c2 I]) (by repeat (first | exact Picks.nil | (refine Picks.rest ?_; (repeat (first | exact List.Sublist.refl _ | refine List.Sublist.cons_cons _ ?_ | refine List.Sublist.cons _ ?_)); done) | refine Picks.take 0 rfl ?_ | refine Picks.take 1 rfl ?_ | refine Picks.take 2 rfl ?_ | refine Picks.take 3 rfl ?_ | refine Picks.take 4 rfl ?_ | refine Picks.take 5 rfl ?_ | refine Picks.take 6 rfl ?_ | refine Picks.take 7 rfl ?_ | refine Picks.take 8 rfl ?_ | refine Picks.take 9 rfl ?_ | refine Picks.take 10 rfl ?_ | refine Picks.take 11 rfl ?_)), A1, cap1, Q2, c2, by rw [he], by rw [he]; rfl⟩
end Go.Proofs.YtbijdmfilmecbaaGreat
namespace Go.Fw
open Go.RowKit
theorem MsgRd.bare {w : World} {k fr to rq ow pt nn : Int} {key : List UInt8} {su : Sl1} {s : List Sm} (h : Sl Sm.enc 3 w w.heap.size (.slice su.a su.n su.c) s) : MsgRd w ⟨k, fr, to, rq, key, .nil, .nil, .nil, ow, pt, nn, 0, 0, 0, .nil, .nil, su⟩ ⟨Cart.zero, [], [], s⟩ := ⟨Sl.nil_, ⟨Sl.nil_, Sl.nil_⟩, Sl.nil_, Sl.nil_, h⟩
theorem ans_same {w : World} {self : Int} {y m : MV} (hs : SameV y m) {a : Ans} {B B' : Option Addr} {cB cB' : Nat} (h : Sl Sm.enc 3 w w.heap.size (.slice B (Ans.sums a).length cB) (Ans.sums a)) (h' : Sl Sm.enc 3 w w.heap.size (.slice B' (Ans.sums a).length cB') (Ans.sums a)) : SameMs w (ansV self y a B cB) (ansV self m a B' cB') := by
 obtain ⟨gs, t⟩ := a
 have hg : ∀ (i : Nat) (u u' : MV), (gs.map (giveV self y))[i]? = some u → (gs.map (giveV self m))[i]? = some u' → ∃ x, MsgRd w u x ∧ MsgRd w u' x ∧ SameV u u' := fun i u u' hu hu' => by
   rw [List.getElem?_map] at hu hu'
   cases hk : gs[i]? with
   | none => rw [hk] at hu; cases hu
   | some k =>
     rw [hk] at hu hu'
     obtain rfl := Option.some.inj hu
     obtain rfl := Option.some.inj hu'
     exact ⟨MX.nil, MsgRd.bare Sl.nil_, MsgRd.bare Sl.nil_, rfl, rfl, hs.fr, rfl, rfl, rfl, hs.pt, rfl, rfl, rfl, rfl⟩
 cases t with
 | none =>
   unfold ansV
   refine ⟨by simp, fun i u u' hu hu' => ?_⟩
   simp only [List.append_nil] at hu hu'
   exact hg i u u' hu hu'
 | some p =>
   unfold ansV
   refine ⟨by simp, fun i u u' hu hu' => ?_⟩
   dsimp only at hu hu'
   by_cases hi : i < gs.length
   · rw [List.getElem?_append_left (by rw [List.length_map]; exact hi)] at hu hu'
     exact hg i u u' hu hu'
   · rw [List.getElem?_append_right (by rw [List.length_map]; omega), List.length_map] at hu hu'
     cases hd : i - gs.length with
     | zero =>
       rw [hd] at hu hu'
       obtain rfl := Option.some.inj hu
       obtain rfl := Option.some.inj hu'
       exact ⟨⟨Cart.zero, [], [], p.2⟩, MsgRd.bare h, MsgRd.bare h', rfl, rfl, hs.fr, rfl, rfl, rfl, hs.pt, rfl, rfl, rfl, rfl⟩
     | succ j => rw [hd] at hu; simp at hu
theorem ans_bare (self : Int) (y : MV) (a : Ans) (B : Option Addr) (cB : Nat) : ∀ u ∈ ansV self y a B cB, BareV B (Ans.sums a).length cB u := fun u hu => by
 obtain ⟨gs, t⟩ := a
 unfold ansV at hu
 rcases List.mem_append.1 hu with h | h
 · obtain ⟨k, _, rfl⟩ := List.mem_map.1 h
   exact ⟨rfl, rfl, rfl, rfl, rfl, .inl rfl⟩
 · cases t with
   | none => cases h
   | some p =>
     rw [List.mem_singleton.1 h]
     exact ⟨rfl, rfl, rfl, rfl, rfl, .inr rfl⟩
end Go.Fw
namespace Go.Proofs.YtbijdmfilmecbaaGreat
open Go.Fw Go.Proofs Go.RowKit Go.Proofs.Tryz
theorem z12 (w0 : World) (self : Int) (m : MV) (g cap : Nat) (A : Option Addr) (T : List KH) (sums : List Sm) (h : DocAt w0 g A cap T) (hT : KhOk T) (hl : T.length ≤ 1048576) (h2 : Sl Sm.enc 3 w0 w0.heap.size (.slice m.su.a m.su.n m.su.c) sums) (hs : Sums sums) (hTs : T.length + sums.length ≤ 1048576) (hk : m.kind = 8) :
   Rets Tryz.prog 12 #[.int .i64 self, .pointer (some ⟨g, 0, none⟩), .agg (MV.enc m).toArray] w0 (OnR self m (onA T m.nn sums)) := by
 by_cases h4 : 0 ≤ m.nn ∧ m.nn ≤ 4
 · rw [show onA T m.nn sums = ⟨[], downT T m.nn sums⟩ from if_pos h4]
   exact p12 w0 self m g cap A T sums h hT hl h2 hs hTs hk h4.1 h4.2
 by_cases h5 : m.nn = 5
 · rw [show onA T m.nn sums = keysQ T sums from by unfold onA; rw [if_neg (by omega), if_pos h5]]
   exact r12 w0 self m g cap A T sums h hT hl h2 hs hTs hk h5
 by_cases h6 : m.nn = 6
 · rw [show onA T m.nn sums = ⟨haveT T (sums.map (·.key)), none⟩ from by unfold onA; rw [if_neg (by omega), if_neg (by omega), if_pos h6]]
   exact q12 w0 self m g cap A T sums h hT hl h2 hs hTs hk h6
 rw [show onA T m.nn sums = .nil from by unfold onA; rw [if_neg (by omega), if_neg (by omega), if_neg (by omega)]]
 have rw_k : decide (m.kind ≠ 8) = false := decide_eq_false (fun e => e hk)
 by_cases h0 : m.nn < 0
 · have rw_n0 : decide (m.nn < 0) = true := decide_eq_true h0
   unfold Go.Fw.Rets
   refine enter3 func12 rfl ntmps12 rfl fun a S => wp_seq_k fun _ hK1 => wp_region_lit (Zi (Ym S (.t rfl) rfl fun g1 a w S => run S (.ac rfl <| .z) fun a w S => Zb (Za (hK1 _ _ (wp_seq_k fun _ hK1 => sg S (.fa underlying35 sizeOf3 0 rfl rfl rfl <| .ld gt3 0 rfl rfl rfl <| .yy (Yf (by omega) (Zu (.t rfl) Ev.c)) rfl <| .mv rfl <| .gy rfl rfl (Ze (.t rfl)) <| .gy rfl rfl (Wc underlying37 (.t rfl) Ev.c) <| .yy (Zn (.t rfl) (.t rfl)) rfl <| .mv rfl <| .gy rfl rfl (Zm (FieldT.mk underlying35 rfl sizeOf3 rfl) (.t rfl) (i' := 10) rfl) <| .gy rfl rfl (Yd ⟨isAgg3, sizeOf3⟩ (.t rfl) (k := 0) rfl rfl) <| .gy rfl rfl (Yk (by omega) (Yh (.t rfl) Ev.c)) <| .yy (Zn (.t rfl) (.t rfl)) rfl <| .mv rfl <| .sk rfl rfl rfl <| .sk rfl rfl rfl <| .sk rfl rfl rfl <| .yy (Zr (.t rfl) Ev.c) rfl <| .z) fun a w S => Zd S (.t rfl) (sg S (.ac rfl <| .z) fun a w S => wp_ret (Zh (Zk S (results1 S results12 (Rv.tmp rfl)) ?_))))))))
   replace S := (S.nil_ 77 3 Sm.enc none).nil_ 35 17 MV.enc none
   exact ⟨_, _, rfl, S.wd.pk, none, 0, none, 0, rfl, rfl⟩
 · have rw_n0 : decide (m.nn < 0) = false := decide_eq_false h0
   have rw_n6 : decide (6 < m.nn) = true := decide_eq_true (by omega)
   unfold Go.Fw.Rets
   refine enter3 func12 rfl ntmps12 rfl fun a S => wp_seq_k fun _ hK1 => wp_region_lit (Zi (Ym S (.t rfl) rfl fun g1 a w S => run S (.ac rfl <| .z) fun a w S => Zb (Za (hK1 _ _ (wp_seq_k fun _ hK1 => sg S (.fa underlying35 sizeOf3 0 rfl rfl rfl <| .ld gt3 0 rfl rfl rfl <| .yy (Yf (by omega) (Zu (.t rfl) Ev.c)) rfl <| .mv rfl <| .gy rfl rfl (Ze (.t rfl)) <| .gy rfl rfl (Wc underlying37 (.t rfl) Ev.c) <| .yy (Zn (.t rfl) (.t rfl)) rfl <| .mv rfl <| .gy rfl rfl (Zm (FieldT.mk underlying35 rfl sizeOf3 rfl) (.t rfl) (i' := 10) rfl) <| .gy rfl rfl (Yd ⟨isAgg3, sizeOf3⟩ (.t rfl) (k := 0) rfl rfl) <| .gy rfl rfl (Yf (by omega) (Yh (.t rfl) Ev.c)) <| .yy (Zn (.t rfl) (.t rfl)) rfl <| .mv rfl <| .gy rfl rfl (Zm (FieldT.mk underlying35 rfl sizeOf3 rfl) (.t rfl) (i' := 10) rfl) <| .gy rfl rfl (Yd ⟨isAgg3, sizeOf3⟩ (.t rfl) (k := 0) rfl rfl) <| .gy rfl rfl (Yk (by omega) (Xt (.t rfl) Ev.c)) <| .yy (Zn (.t rfl) (.t rfl)) rfl <| .z) fun a w S => Zd S (.t rfl) (sg S (.ac rfl <| .z) fun a w S => wp_ret (Zh (Zk S (results1 S results12 (Rv.tmp rfl)) ?_))))))))
   replace S := (S.nil_ 77 3 Sm.enc none).nil_ 35 17 MV.enc none
   exact ⟨_, _, rfl, S.wd.pk, none, 0, none, 0, rfl, rfl⟩
theorem k12 (w0 : World) (self : Int) (m : MV) (v : Value) (hk : ¬ m.kind = 8) :
   Calls Tryz.prog 12 #[.int .i64 self, v, .agg (MV.enc m).toArray] w0 fun e w' => e = .returned (.slice none 0 0) ∧ Bel w0.heap.size w0 w' := by
 have rw_k : decide (m.kind ≠ 8) = true := decide_eq_true hk
 refine enter3 func12 rfl ntmps12 rfl fun a S => wp_seq_k fun _ hK1 => wp_region_lit (Zi (Ym S (.t rfl) rfl fun g1 a w S => run S (.ac rfl <| .z) fun a w S => Zb (Za (hK1 _ _ (wp_seq_k fun _ hK1 => sg S (.fa underlying35 sizeOf3 0 rfl rfl rfl <| .ld gt3 0 rfl rfl rfl <| .yy (Yk (by omega) (Zu (.t rfl) Ev.c)) rfl <| .mv rfl <| .sk rfl rfl rfl <| .sk rfl rfl rfl <| .yy (Zr (.t rfl) Ev.c) rfl <| .mv rfl <| .sk rfl rfl rfl <| .sk rfl rfl rfl <| .sk rfl rfl rfl <| .yy (Zr (.t rfl) Ev.c) rfl <| .mv rfl <| .sk rfl rfl rfl <| .sk rfl rfl rfl <| .sk rfl rfl rfl <| .yy (Zr (.t rfl) Ev.c) rfl <| .z) fun a w S => Zd S (.t rfl) (sg S (.ac rfl <| .z) fun a w S => wp_ret (Zh (Zk S (results1 S results12 (Rv.tmp rfl)) ?_))))))))
 exact ⟨rfl, S.wd.below⟩
theorem d13 (w0 : World) : Calls Tryz.prog 13 #[.slice none 0 0] w0 fun e w' => e = .returned (.tuple #[]) ∧ Bel w0.heap.size w0 w' := by
 refine enter1 func13 rfl ntmps13 rfl fun a S => sg S (.mv rfl <| .ln underlying46 rfl <| .mc rfl <| .z) fun a w S => wp_block (Xf 1 (Yb (sg S (.ge (by omega) rfl rfl <| .z) fun a w S => wp_seq_k fun _ hK1 => Zf S (.t rfl) (wp_exit (Zc (Zc (Zs (st_end S (results0 results13) ?_))))))))
 exact ⟨rfl, S.wd.below⟩
theorem c5 (w0 : World) (v : Value) (l : List Sm) (h : Sl Sm.enc 3 w0 w0.heap.size v l) (hs : Sums l) :
   Rets Tryz.prog 5 #[v] w0 fun u L => ∃ g A cap gs w1 bs g2 A2 c2, u = .tuple #[.pointer (some ⟨g, 0, none⟩), .pointer (some ⟨g2, 0, none⟩)] ∧ L = treeP g A cap gs w1 bs (docP g2 A2 c2 (setsT [] l) []) ∧ MapsIn w1 bs gs (setsT [] l) := by
 have hl1 := hs.len
 unfold Go.Fw.Rets
 refine enter1 func5 rfl ntmps5 rfl fun a S => sg S (.ac rfl <| .ac rfl <| .z) fun a w S => wp_seq_k fun _ hK1 => wp_region_lit (run S (.mv rfl <| .z) fun a w S => ?_)
 (refine Zi (Zq S call27 (.cons (.t rfl) .nil) (c27 _ _ _ (by exact .old S.wd (by assumption)) (by omega)) rfl ?_); clear S a w; rintro _ _ ⟨A1, c1, rfl, rfl⟩ a w S)
 (refine Zi (Zq S call26 (.cons (.t rfl) .nil) (c26 _ _ _ (by exact Sl.of_own S.wd (k := 0) rfl (fun _ => rfl)) (by assumption)) rfl ?_); clear S a w; rintro _ _ ⟨g1, A2, cap1, gs1, w11, bs1, rfl, rfl, hr11⟩ a w S)
 refine run S (.mv rfl <| .z) fun a w S => ?_
 (refine Zi (Zq S call28 (.cons (.t rfl) .nil) (c28 _ _ _ (by exact .old S.wd (by assumption)) (by assumption)) rfl ?_); clear S a w; rintro _ _ ⟨g2, A3, cap2, rfl, rfl⟩ a w S)
 refine run S (.as rfl <| .as rfl <| .z) fun a w S => Zb (Za (hK1 _ _ (wp_ret (Zk S (results2 S results5 (Rv.tmp rfl) (Rv.tmp rfl)) ?_))))
 exact ⟨_, _, rfl, S.wd.picks (L' := treeP g1 A2 cap1 gs1 w11 bs1 (docP g2 A3 cap2 (setsT [] l) [])) (by repeat (first | exact Picks.nil | (refine Picks.rest ?_; (repeat (first | exact List.Sublist.refl _ | refine List.Sublist.cons_cons _ ?_ | refine List.Sublist.cons _ ?_)); done) | refine Picks.take 0 rfl ?_ | refine Picks.take 1 rfl ?_ | refine Picks.take 2 rfl ?_ | refine Picks.take 3 rfl ?_ | refine Picks.take 4 rfl ?_ | refine Picks.take 5 rfl ?_ | refine Picks.take 6 rfl ?_ | refine Picks.take 7 rfl ?_ | refine Picks.take 8 rfl ?_ | refine Picks.take 9 rfl ?_ | refine Picks.take 10 rfl ?_ | refine Picks.take 11 rfl ?_)), g1, A2, cap1, gs1, w11, bs1, g2, A3, cap2, rfl, rfl, by assumption⟩
theorem c3 (w0 : World) (v1 : Value) (self to part : Int) (l : List Sm) (m : MV) (x : MX) (h1 : Sl Sm.enc 3 w0 w0.heap.size v1 l) (s1 : Sums l) (hm : MsgRd w0 m x) (s2 : Sums x.su) (hl0 : l.length + x.su.length ≤ 1048576) (k1 : x.c.ents.length ≤ 1048576) (k2 : x.c.ctx.marks.length ≤ 1048576) (k3 : x.c.ctx.cloud.length ≤ 1048576) (k4 : x.mem.length ≤ 1048576) (k5 : x.pe.length ≤ 1048576) :
   Calls Tryz.prog 3 #[v1, .int .i64 self, .int .i64 to, .int .i64 part, .agg (MV.enc m).toArray] w0 fun e w' => e = .returned (.bool true) ∧ Bel w0.heap.size w0 w' := by
 have hT := s1.ok
 have hTl := s1.room
 have hl1 := s1.len
 have hl2 := s2.len
 have rw_1 : ∀ x : Int, decide (x = x) = true := fun x => decide_eq_true rfl
 have rw_2 : ∀ x : Int, decide (x ≠ x) = false := fun x => decide_eq_false (fun e => e rfl)
 have hmsu := hm.su
 have hTx : (setsT [] l).length + x.su.length ≤ 1048576 := by have := sets_len l []; rw [List.length_nil] at this; omega
 cases hb : begB self to part with
 | true =>
   refine enter5 func3 rfl ntmps3 rfl fun a S => wp_seq_k fun _ hK1 => wp_region_lit (Zi (Ym S (.t rfl) rfl fun g1 a w S => run S (.ac rfl <| .z) fun a w S => Zb (Za (hK1 _ _ (wp_seq_k fun _ hK1 => wp_region_lit (run S (.mv rfl <| .z) fun a w S => ?_))))))
   (refine Zi (Zq S call5 (.cons (.t rfl) .nil) (c5 _ _ _ (by exact .old S.wd (by assumption)) (by assumption)) rfl ?_); clear S a w; rintro _ _ ⟨g2, A1, cap1, gs1, w11, bs1, g21, A21, c21, rfl, rfl, hr11⟩ a w S)
   refine run S (.mv rfl <| .ex rfl rfl <| .ex rfl rfl <| .as rfl <| .as rfl <| .z) fun a w S => Zb (Za (hK1 _ _ (wp_seq_k fun _ hK1 => wp_region_lit (run S (.mv rfl <| .mv rfl <| .mv rfl <| .mv rfl <| .z) fun a w S => ?_))))
   (refine Zi (Zq S call6 (.cons (.t rfl) (.cons (.t rfl) (.cons (.t rfl) (.cons (.t rfl) .nil)))) (c6 _ _ _ _ _ _ _ _ _ (by exact sl_m1 S.wd (k := 0) rfl) (by assumption) (by assumption) (by assumption)) rfl ?_); clear S a w; rintro _ _ ⟨B1, c1, rfl, rfl⟩ a w S)
   refine run S (.mv rfl <| .ex rfl rfl <| .ex rfl rfl <| .z) fun a w S => Zi (Zt S zeroValue35 (cs := _) rfl rfl fun g3 a w S => Zi (Ya S sizeOf35 (.t rfl) (.t rfl) (k := 0) rfl rfl rfl (by simp [Value.oneCell']) fun a w S => run S (.as rfl <| .z) fun a w S => Zb (Za (hK1 _ _ (wp_seq_k fun _ hK1 => wp_region_lit (run S (.mv rfl <| .mv rfl <| .mv rfl <| .mv rfl <| .z) fun a w S => ?_))))))
   (refine Zi (Zq S call7 (.cons (.t rfl) (.cons (.t rfl) (.cons (.t rfl) (.cons (.t rfl) .nil)))) (c7 _ _ _ _ _ _ _ _ (by exact sl_m2 S.wd (k := 5) rfl) (by assumption) (by assumption) (by assumption)) rfl ?_); clear S a w; rintro _ _ ⟨B2, c2, rfl, rfl⟩ a w S)
   refine run S (.mv rfl <| .ex rfl rfl <| .ex rfl rfl <| .z) fun a w S => Zi (Zt S zeroValue35 (cs := _) rfl rfl fun g4 a w S => Zi (Ya S sizeOf35 (.t rfl) (.t rfl) (k := 0) rfl rfl rfl (by simp [Value.oneCell']) fun a w S => run S (.as rfl <| .z) fun a w S => Zb (Za (hK1 _ _ (wp_seq_k fun _ hK1 => wp_seq_k fun _ hK2 => wp_region_lit (run S (.mv rfl <| .mv rfl <| .yy (Yf (by omega) (Zu (.t rfl) (.t rfl))) rfl <| .mv rfl <| .gy rfl rfl (Yn ⟨isAgg35, sizeOf35⟩ (.t rfl) (k := 2) rfl rfl) <| .gy rfl rfl (Yn ⟨isAgg35, sizeOf35⟩ (.t rfl) (k := 0) rfl rfl) <| .z) fun a w S => st_yt S rfl rfl (Zg call8 (.cons (.t rfl) (.cons (.t rfl) .nil)) (fun _ w' W' => c8 w' (beginV self to part ⟨B1, (sumsT (setsT [] l) 0 [0]).length, c1⟩) (beginV self to part ⟨B2, (sumsT (setsT [] l) 0 [0]).length, c2⟩) ⟨Cart.zero, [], [], sumsT (setsT [] l) 0 [0]⟩ ⟨Sl.nil_, ⟨Sl.nil_, Sl.nil_⟩, Sl.nil_, Sl.nil_, Sl.of_own W' (k := 3) rfl (fun _ => rfl)⟩ ⟨Sl.nil_, ⟨Sl.nil_, Sl.nil_⟩, Sl.nil_, Sl.nil_, Sl.of_own W' (k := 1) rfl (fun _ => rfl)⟩ ⟨rfl, rfl, rfl, rfl, rfl, rfl, rfl, rfl, rfl, rfl, rfl⟩)) rfl ?_))))))
   clear S a w
   intro a w S
   refine run S (.gy rfl rfl (Xb (.t rfl)) <| .yy (Zn (.t rfl) (.t rfl)) rfl <| .z) fun a w S => Zb (Za (hK2 _ _ (Zf S (.t rfl) (wp_skip (Za (hK1 _ _ (wp_seq_k fun _ hK1 => wp_region_lit (run S (.la gt35 9 rfl rfl rfl <| .z) fun a w S => ?_))))))))
   (refine Zi (Zq S call9 (.cons (.t rfl) .nil) (c9 _ _ _ (by exact .old S.wd (by assumption)) (by assumption) (by assumption) (by assumption) (by assumption) (by assumption) (by assumption)) rfl ?_); clear S a w; rintro _ _ ⟨A11, r11, A22, r21, A31, r31, A41, r41, A51, r51, A61, r61, rfl, rfl⟩ a w S)
   simp only [List.nil_append] at S
   refine Zi (Zt S zeroValue35 (cs := _) rfl rfl fun g5 a w S => Zi (Ya S sizeOf35 (.t rfl) (.t rfl) (k := 0) rfl rfl rfl (by simp [Value.oneCell']) fun a w S => Zb (Za (hK1 _ _ (wp_seq_k fun _ hK1 => wp_region_lit (run S (.mv rfl <| .mv rfl <| .la gt35 0 rfl rfl rfl <| .z) fun a w S => ?_))))))
   obtain ⟨y, hy⟩ : ∃ y, m.at5 ⟨A11, x.c.ents.length, r11⟩ ⟨A22, x.c.ctx.marks.length, r21⟩ ⟨A31, x.c.ctx.cloud.length, r31⟩ ⟨A41, x.mem.length, r41⟩ ⟨A51, x.pe.length, r51⟩ ⟨A61, x.su.length, r61⟩ = y := ⟨_, rfl⟩
   rw [hy] at S
   have ysu : y.su = ⟨A61, x.su.length, r61⟩ := by rw [← hy]
   have yk : y.kind = m.kind := by rw [← hy]
   have ynn : y.nn = m.nn := by rw [← hy]
   have yS : SameV y m := by rw [← hy]; exact at5_same _ _ _ _ _ _ _
   by_cases hk : m.kind = 8
   · refine Zi (Zq S call10 (.cons (.t rfl) (.cons (.t rfl) (.cons (.t rfl) .nil))) (c10 _ self y g2 cap1 A1 gs1 (setsT [] l) x.su (sl_m1 S.wd (k := 11) rfl) hT hTl (by rw [ysu]; exact Sl.of_own S.wd (k := 6) rfl (fun _ => rfl)) s2 hTx (yk.trans hk)) rfl ?_)
     clear S
     rintro _ _ ⟨C, cC, B, cB, rfl, rfl⟩ a w S
     rw [ynn] at S
     refine run S (.as rfl <| .z) fun a w S => Zb (Za (hK1 _ _ (wp_seq_k fun _ hK1 => wp_seq_k fun _ hK2 => wp_region_lit (run S (.mv rfl <| .mv rfl <| .mv rfl <| .la gt35 18 rfl rfl rfl <| .z) fun a w S => Zi (Zq S call12 (.cons (.t rfl) (.cons (.t rfl) (.cons (.t rfl) .nil))) (z12 _ self m g21 c21 A21 (setsT [] l) x.su (sl_m2 S.wd (k := 16) rfl) hT hTl (.old S.wd hmsu) s2 hTx hk) rfl ?_)))))
     clear S
     rintro _ _ ⟨C', cC', B', cB', rfl, rfl⟩ a w S
     generalize onA (setsT [] l) m.nn x.su = an at *
     refine Xy S (Zg call11 (.cons (.t rfl) (.cons (.t rfl) .nil)) (fun _ w' W' => c11 w' _ _ (ansV self y an B cB) (ansV self m an B' cB') (Sl.of_own W' (k := 2) rfl MV.enc_len) (Sl.of_own W' (k := 0) rfl MV.enc_len) (ans_same yS (Sl.of_own W' (k := 3) rfl Sm.enc_len) (Sl.of_own W' (k := 1) rfl Sm.enc_len)))) rfl ?_
     clear S a w
     intro a w S
     refine run S (.nt rfl <| .mv rfl <| .gy rfl rfl (Yn ⟨isAgg35, sizeOf35⟩ (.t rfl) (k := 4) rfl rfl) <| .gy rfl rfl (Yn ⟨isAgg35, sizeOf35⟩ (.t rfl) (k := 20) rfl rfl) <| .z) fun a w S => st_yt S rfl rfl (Zg call8 (.cons (.t rfl) (.cons (.t rfl) .nil)) (fun _ w' W' => c8 w' y m x (by rw [← hy]; exact ⟨Sl.of_own W' (k := 5) rfl (fun _ => rfl), ⟨Sl.of_own W' (k := 6) rfl (fun _ => rfl), Sl.of_own W' (k := 7) rfl (fun _ => rfl)⟩, Sl.of_own W' (k := 8) rfl (fun _ => rfl), Sl.of_own W' (k := 9) rfl (fun _ => rfl), Sl.of_own W' (k := 10) rfl (fun _ => rfl)⟩) (hm.old W') yS)) rfl ?_
     clear S a w
     intro a w S
     have hro1 : (ansV self y an B cB).length ≤ 9223372036854775807 := by have h9 := S.wd.room (k := 2) rfl; exact Nat.le_trans h9.1 h9.2
     have hro2 : (Ans.sums an).length ≤ 9223372036854775807 := by have h9 := S.wd.room (k := 3) rfl; exact Nat.le_trans h9.1 h9.2
     have hbare := ans_bare self y an B cB
     have hb0 : begB 0 1 0 = true := by decide
     (replace S := S.pull 3 rfl; try simp only [List.set_cons_zero, List.set_cons_succ, List.eraseIdx_cons_succ, List.eraseIdx_cons_zero] at S)
     (replace S := S.pull 3 rfl; try simp only [List.set_cons_zero, List.set_cons_succ, List.eraseIdx_cons_succ, List.eraseIdx_cons_zero] at S)
     refine run S (.gy rfl rfl (Xb (.t rfl)) <| .yy (Zn (.t rfl) (.t rfl)) rfl <| .z) fun a w S => Zb (Za (hK2 _ _ (Zf S (.t rfl) (wp_skip (Za (hK1 _ _ (wp_seq_k fun _ hK1 => wp_region_lit (run S (.mv rfl <| .z) fun a w S => ?_))))))))
     (refine Zi (op_callO S call13 (.cons (.t rfl) .nil) (o13 S.wd (by first | assumption | omega | (dsimp only; omega) | exact Sl.nil_ | exact .old S.wd (by assumption) | exact Sl.of_own S.wd (k := 0) rfl (fun _ => rfl) | exact Sl.of_own S.wd (k := 1) rfl (fun _ => rfl) | exact Sl.of_own S.wd (k := 2) rfl (fun _ => rfl) | exact Sl.of_own S.wd (k := 3) rfl (fun _ => rfl) | exact Sl.of_own S.wd (k := 4) rfl (fun _ => rfl) | exact Sl.of_own S.wd (k := 5) rfl (fun _ => rfl) | exact Sl.of_own S.wd (k := 6) rfl (fun _ => rfl) | exact Sl.of_own S.wd (k := 7) rfl (fun _ => rfl) | exact Sl.of_own S.wd (k := 8) rfl (fun _ => rfl) | exact Sl.of_own S.wd (k := 9) rfl (fun _ => rfl) | exact Sl.of_own S.wd (k := 10) rfl (fun _ => rfl) | exact Sl.of_own S.wd (k := 11) rfl (fun _ => rfl) | exact Sl.of_own S.wd (k := 12) rfl (fun _ => rfl) | exact Sl.of_own S.wd (k := 13) rfl (fun _ => rfl) | exact Sl.of_own S.wd (k := 14) rfl (fun _ => rfl) | exact Sl.of_own S.wd (k := 15) rfl (fun _ => rfl) | exact Sl.of_own S.wd (k := 16) rfl (fun _ => rfl) | exact Sl.of_own S.wd (k := 17) rfl (fun _ => rfl) | exact Sl.of_own S.wd (k := 18) rfl (fun _ => rfl) | exact Sl.of_own S.wd (k := 19) rfl (fun _ => rfl) | exact Sl.of_own S.wd (k := 20) rfl (fun _ => rfl) | (intro _ W'; first | exact .old W' (by assumption) | exact Sl.of_own W' (k := 0) rfl (fun _ => rfl) | exact Sl.of_own W' (k := 1) rfl (fun _ => rfl) | exact Sl.of_own W' (k := 2) rfl (fun _ => rfl) | exact Sl.of_own W' (k := 3) rfl (fun _ => rfl) | exact Sl.of_own W' (k := 4) rfl (fun _ => rfl) | exact Sl.of_own W' (k := 5) rfl (fun _ => rfl) | exact Sl.of_own W' (k := 6) rfl (fun _ => rfl) | exact Sl.of_own W' (k := 7) rfl (fun _ => rfl) | exact Sl.of_own W' (k := 8) rfl (fun _ => rfl) | exact Sl.of_own W' (k := 9) rfl (fun _ => rfl) | exact Sl.of_own W' (k := 10) rfl (fun _ => rfl) | exact Sl.of_own W' (k := 11) rfl (fun _ => rfl) | exact Sl.of_own W' (k := 12) rfl (fun _ => rfl) | exact Sl.of_own W' (k := 13) rfl (fun _ => rfl) | exact Sl.of_own W' (k := 14) rfl (fun _ => rfl) | exact Sl.of_own W' (k := 15) rfl (fun _ => rfl) | exact Sl.of_own W' (k := 16) rfl (fun _ => rfl) | exact Sl.of_own W' (k := 17) rfl (fun _ => rfl) | exact Sl.of_own W' (k := 18) rfl (fun _ => rfl) | exact Sl.of_own W' (k := 19) rfl (fun _ => rfl) | exact Sl.of_own W' (k := 20) rfl (fun _ => rfl)) | (simp; done) | (simp at *; omega)) (by first | assumption | omega | (dsimp only; omega) | exact Sl.nil_ | exact .old S.wd (by assumption) | exact Sl.of_own S.wd (k := 0) rfl (fun _ => rfl) | exact Sl.of_own S.wd (k := 1) rfl (fun _ => rfl) | exact Sl.of_own S.wd (k := 2) rfl (fun _ => rfl) | exact Sl.of_own S.wd (k := 3) rfl (fun _ => rfl) | exact Sl.of_own S.wd (k := 4) rfl (fun _ => rfl) | exact Sl.of_own S.wd (k := 5) rfl (fun _ => rfl) | exact Sl.of_own S.wd (k := 6) rfl (fun _ => rfl) | exact Sl.of_own S.wd (k := 7) rfl (fun _ => rfl) | exact Sl.of_own S.wd (k := 8) rfl (fun _ => rfl) | exact Sl.of_own S.wd (k := 9) rfl (fun _ => rfl) | exact Sl.of_own S.wd (k := 10) rfl (fun _ => rfl) | exact Sl.of_own S.wd (k := 11) rfl (fun _ => rfl) | exact Sl.of_own S.wd (k := 12) rfl (fun _ => rfl) | exact Sl.of_own S.wd (k := 13) rfl (fun _ => rfl) | exact Sl.of_own S.wd (k := 14) rfl (fun _ => rfl) | exact Sl.of_own S.wd (k := 15) rfl (fun _ => rfl) | exact Sl.of_own S.wd (k := 16) rfl (fun _ => rfl) | exact Sl.of_own S.wd (k := 17) rfl (fun _ => rfl) | exact Sl.of_own S.wd (k := 18) rfl (fun _ => rfl) | exact Sl.of_own S.wd (k := 19) rfl (fun _ => rfl) | exact Sl.of_own S.wd (k := 20) rfl (fun _ => rfl) | (simp; done) | (simp at *; omega)) (by first | assumption | omega | (dsimp only; omega) | exact Sl.nil_ | exact .old S.wd (by assumption) | exact Sl.of_own S.wd (k := 0) rfl (fun _ => rfl) | exact Sl.of_own S.wd (k := 1) rfl (fun _ => rfl) | exact Sl.of_own S.wd (k := 2) rfl (fun _ => rfl) | exact Sl.of_own S.wd (k := 3) rfl (fun _ => rfl) | exact Sl.of_own S.wd (k := 4) rfl (fun _ => rfl) | exact Sl.of_own S.wd (k := 5) rfl (fun _ => rfl) | exact Sl.of_own S.wd (k := 6) rfl (fun _ => rfl) | exact Sl.of_own S.wd (k := 7) rfl (fun _ => rfl) | exact Sl.of_own S.wd (k := 8) rfl (fun _ => rfl) | exact Sl.of_own S.wd (k := 9) rfl (fun _ => rfl) | exact Sl.of_own S.wd (k := 10) rfl (fun _ => rfl) | exact Sl.of_own S.wd (k := 11) rfl (fun _ => rfl) | exact Sl.of_own S.wd (k := 12) rfl (fun _ => rfl) | exact Sl.of_own S.wd (k := 13) rfl (fun _ => rfl) | exact Sl.of_own S.wd (k := 14) rfl (fun _ => rfl) | exact Sl.of_own S.wd (k := 15) rfl (fun _ => rfl) | exact Sl.of_own S.wd (k := 16) rfl (fun _ => rfl) | exact Sl.of_own S.wd (k := 17) rfl (fun _ => rfl) | exact Sl.of_own S.wd (k := 18) rfl (fun _ => rfl) | exact Sl.of_own S.wd (k := 19) rfl (fun _ => rfl) | exact Sl.of_own S.wd (k := 20) rfl (fun _ => rfl) | (simp; done) | (simp at *; omega))) rfl ?_) <;> clear S a w)
     rintro _ _ ⟨rfl, rfl⟩ a w S
     refine Zb (Za (hK1 _ _ (sg S (.xx (Zg call6 (.cons Ev.c (.cons Ev.c (.cons Ev.c (.cons Ev.c .nil)))) (fun hp w W => e6 _ _ _ _ (by assumption))) rfl <| .mv rfl <| .ex rfl rfl <| .ex rfl rfl <| .as rfl <| .z) fun a w S => wp_seq_k fun _ hK1 => wp_region_lit (run S (.mv rfl <| .yy (Yk (by omega) (Yi (.t rfl) Ev.c)) rfl <| .mv rfl <| .gy rfl rfl (Ze (.t rfl)) <| .gy rfl rfl (Yn ⟨isAgg35, sizeOf35⟩ (.t rfl) (k := 2) rfl rfl) <| .gx rfl rfl (Zg call10 (.cons (.t rfl) (.cons Ev.c (.cons (.t rfl) .nil))) (fun hp w W => d10 _ _ _)) <| .gy rfl rfl (Xc underlying46 (.t rfl)) <| .gy rfl rfl (Yk (by omega) (Yi (.t rfl) Ev.c)) <| .yy (Zr (.t rfl) (.t rfl)) rfl <| .mv rfl <| .gy rfl rfl (Ze (.t rfl)) <| .gy rfl rfl (Yj (ps := []) (us := [_]) bld55 .nil rfl) <| .z) fun a w S => st_mg S rfl rfl (Ym S (.t rfl) rfl fun g6 a w S => ?_)))))
     refine run S (.gy rfl rfl (Yn ⟨isAgg35, sizeOf35⟩ (.t rfl) (k := 3) rfl rfl) <| .gx rfl rfl (Zg call10 (.cons (.t rfl) (.cons (.t rfl) (.cons (.t rfl) .nil))) (fun hp w W => e10 _ _ _ _ (by exact Wd.cell W (k := 0) rfl rfl))) <| .gy rfl rfl (Xc underlying46 (.t rfl)) <| .gy rfl rfl (Yk (by omega) (Yi (.t rfl) Ev.c)) <| .yy (Zr (.t rfl) (.t rfl)) rfl <| .mv rfl <| .gx rfl rfl (Zg call14 .nil (fun hp w W => c14 _)) <| .gy rfl rfl (Yk (by omega) (Yi (.t rfl) Ev.c)) <| .yy (Zr (.t rfl) (.t rfl)) rfl <| .as rfl <| .z) fun a w S => Zb (Za (hK1 _ _ (wp_ret (Zk S (results1 S results3 (Rv.tmp rfl)) ?_))))
     exact ⟨rfl, S.wd.below⟩
   · refine Xy S (Zg call10 (.cons (.t rfl) (.cons (.t rfl) (.cons (.t rfl) .nil))) (fun _ w' W' => k10 w' self y g2 cap1 A1 gs1 (setsT [] l) (sl_m1 W' (k := 11) rfl) hT hTl (fun e => hk (yk.symm.trans e)))) rfl ?_
     clear S a w
     intro a w S
     refine run S (.as rfl <| .z) fun a w S => Zb (Za (hK1 _ _ (wp_seq_k fun _ hK1 => wp_seq_k fun _ hK2 => wp_region_lit (run S (.mv rfl <| .mv rfl <| .mv rfl <| .la gt35 16 rfl rfl rfl <| .z) fun a w S => Xy S (Zg call12 (.cons (.t rfl) (.cons (.t rfl) (.cons (.t rfl) .nil))) (fun _ w' W' => k12 w' self m _ hk)) rfl ?_))))
     clear S a w
     intro a w S
     refine Xy S (Zg call11 (.cons (.t rfl) (.cons (.t rfl) .nil)) (fun _ w' W' => c11 w' _ _ [] [] Sl.nil_ Sl.nil_ ⟨rfl, fun i m m' h => by simp at h⟩)) rfl ?_
     clear S a w
     intro a w S
     refine run S (.nt rfl <| .mv rfl <| .gy rfl rfl (Yn ⟨isAgg35, sizeOf35⟩ (.t rfl) (k := 0) rfl rfl) <| .gy rfl rfl (Yn ⟨isAgg35, sizeOf35⟩ (.t rfl) (k := 16) rfl rfl) <| .z) fun a w S => st_yt S rfl rfl (Zg call8 (.cons (.t rfl) (.cons (.t rfl) .nil)) (fun _ w' W' => c8 w' y m x (by rw [← hy]; exact ⟨Sl.of_own W' (k := 1) rfl (fun _ => rfl), ⟨Sl.of_own W' (k := 2) rfl (fun _ => rfl), Sl.of_own W' (k := 3) rfl (fun _ => rfl)⟩, Sl.of_own W' (k := 4) rfl (fun _ => rfl), Sl.of_own W' (k := 5) rfl (fun _ => rfl), Sl.of_own W' (k := 6) rfl (fun _ => rfl)⟩) (hm.old W') yS)) rfl ?_
     clear S a w
     intro a w S
     have hb0 : begB 0 1 0 = true := by decide
     refine run S (.gy rfl rfl (Xb (.t rfl)) <| .yy (Zn (.t rfl) (.t rfl)) rfl <| .z) fun a w S => Zb (Za (hK2 _ _ (Zf S (.t rfl) (wp_skip (Za (hK1 _ _ (sg S (.mv rfl <| .xx (Zg call13 (.cons (.t rfl) .nil) (fun hp w W => d13 _)) rfl <| .z) fun a w S => sg S (.xx (Zg call6 (.cons Ev.c (.cons Ev.c (.cons Ev.c (.cons Ev.c .nil)))) (fun hp w W => e6 _ _ _ _ (by assumption))) rfl <| .mv rfl <| .ex rfl rfl <| .ex rfl rfl <| .as rfl <| .z) fun a w S => wp_seq_k fun _ hK1 => wp_region_lit (run S (.mv rfl <| .yy (Yk (by omega) (Yi (.t rfl) Ev.c)) rfl <| .mv rfl <| .gy rfl rfl (Ze (.t rfl)) <| .gy rfl rfl (Yn ⟨isAgg35, sizeOf35⟩ (.t rfl) (k := 0) rfl rfl) <| .gx rfl rfl (Zg call10 (.cons (.t rfl) (.cons Ev.c (.cons (.t rfl) .nil))) (fun hp w W => d10 _ _ _)) <| .gy rfl rfl (Xc underlying46 (.t rfl)) <| .gy rfl rfl (Yk (by omega) (Yi (.t rfl) Ev.c)) <| .yy (Zr (.t rfl) (.t rfl)) rfl <| .mv rfl <| .gy rfl rfl (Ze (.t rfl)) <| .gy rfl rfl (Yj (ps := []) (us := [_]) bld55 .nil rfl) <| .z) fun a w S => st_mg S rfl rfl (Ym S (.t rfl) rfl fun g6 a w S => ?_)))))))))
     refine run S (.gy rfl rfl (Yn ⟨isAgg35, sizeOf35⟩ (.t rfl) (k := 1) rfl rfl) <| .gx rfl rfl (Zg call10 (.cons (.t rfl) (.cons (.t rfl) (.cons (.t rfl) .nil))) (fun hp w W => e10 _ _ _ _ (by exact Wd.cell W (k := 0) rfl rfl))) <| .gy rfl rfl (Xc underlying46 (.t rfl)) <| .gy rfl rfl (Yk (by omega) (Yi (.t rfl) Ev.c)) <| .yy (Zr (.t rfl) (.t rfl)) rfl <| .mv rfl <| .gx rfl rfl (Zg call14 .nil (fun hp w W => c14 _)) <| .gy rfl rfl (Yk (by omega) (Yi (.t rfl) Ev.c)) <| .yy (Zr (.t rfl) (.t rfl)) rfl <| .as rfl <| .z) fun a w S => Zb (Za (hK1 _ _ (wp_ret (Zk S (results1 S results3 (Rv.tmp rfl)) ?_))))
     exact ⟨rfl, S.wd.below⟩
 | false =>
   refine enter5 func3 rfl ntmps3 rfl fun a S => wp_seq_k fun _ hK1 => wp_region_lit (Zi (Ym S (.t rfl) rfl fun g1 a w S => run S (.ac rfl <| .z) fun a w S => Zb (Za (hK1 _ _ (wp_seq_k fun _ hK1 => wp_region_lit (run S (.mv rfl <| .z) fun a w S => ?_))))))
   (refine Zi (Zq S call5 (.cons (.t rfl) .nil) (c5 _ _ _ (by exact .old S.wd (by assumption)) (by assumption)) rfl ?_); clear S a w; rintro _ _ ⟨g2, A1, cap1, gs1, w11, bs1, g21, A21, c21, rfl, rfl, hr11⟩ a w S)
   refine run S (.mv rfl <| .ex rfl rfl <| .ex rfl rfl <| .as rfl <| .as rfl <| .z) fun a w S => Zb (Za (hK1 _ _ (wp_seq_k fun _ hK1 => wp_region_lit (run S (.mv rfl <| .mv rfl <| .mv rfl <| .mv rfl <| .xx (Zg call6 (.cons (.t rfl) (.cons (.t rfl) (.cons (.t rfl) (.cons (.t rfl) .nil)))) (fun hp w W => d6 _ _ _ _ _ (by assumption))) rfl <| .mv rfl <| .ex rfl rfl <| .ex rfl rfl <| .z) fun a w S => Zi (Zt S zeroValue35 (cs := _) rfl rfl fun g3 a w S => Zi (Ya S sizeOf35 (.t rfl) (.t rfl) (k := 0) rfl rfl rfl (by simp [Value.oneCell']) fun a w S => run S (.as rfl <| .z) fun a w S => Zb (Za (hK1 _ _ (wp_seq_k fun _ hK1 => wp_region_lit (run S (.mv rfl <| .mv rfl <| .mv rfl <| .mv rfl <| .xx (Zg call7 (.cons (.t rfl) (.cons (.t rfl) (.cons (.t rfl) (.cons (.t rfl) .nil)))) (fun hp w W => d7 _ _ _ _ _ (by assumption))) rfl <| .mv rfl <| .ex rfl rfl <| .ex rfl rfl <| .z) fun a w S => Zi (Zt S zeroValue35 (cs := _) rfl rfl fun g4 a w S => Zi (Ya S sizeOf35 (.t rfl) (.t rfl) (k := 0) rfl rfl rfl (by simp [Value.oneCell']) fun a w S => run S (.as rfl <| .z) fun a w S => Zb (Za (hK1 _ _ (wp_seq_k fun _ hK1 => wp_seq_k fun _ hK2 => wp_region_lit ?_)))))))))))))))
   refine run S (.mv rfl <| .mv rfl <| .yy (Yf (by omega) (Zu (.t rfl) (.t rfl))) rfl <| .mv rfl <| .gy rfl rfl (Yn ⟨isAgg35, sizeOf35⟩ (.t rfl) (k := 1) rfl rfl) <| .gy rfl rfl (Yn ⟨isAgg35, sizeOf35⟩ (.t rfl) (k := 0) rfl rfl) <| .z) fun a w S => st_yt S rfl rfl (Zg call8 (.cons (.t rfl) (.cons (.t rfl) .nil)) (fun _ w' W' => c8 w' MV.zero MV.zero MX.nil (MsgRd.bare Sl.nil_) (MsgRd.bare Sl.nil_) ⟨rfl, rfl, rfl, rfl, rfl, rfl, rfl, rfl, rfl, rfl, rfl⟩)) rfl ?_
   clear S a w
   intro a w S
   refine run S (.gy rfl rfl (Xb (.t rfl)) <| .yy (Zn (.t rfl) (.t rfl)) rfl <| .z) fun a w S => Zb (Za (hK2 _ _ (Zf S (.t rfl) (wp_skip (Za (hK1 _ _ (wp_seq_k fun _ hK1 => wp_region_lit (run S (.la gt35 7 rfl rfl rfl <| .z) fun a w S => ?_))))))))
   (refine Zi (Zq S call9 (.cons (.t rfl) .nil) (c9 _ _ _ (by exact .old S.wd (by assumption)) (by assumption) (by assumption) (by assumption) (by assumption) (by assumption) (by assumption)) rfl ?_); clear S a w; rintro _ _ ⟨A11, r11, A22, r21, A31, r31, A41, r41, A51, r51, A61, r61, rfl, rfl⟩ a w S)
   simp only [List.nil_append] at S
   refine Zi (Zt S zeroValue35 (cs := _) rfl rfl fun g5 a w S => Zi (Ya S sizeOf35 (.t rfl) (.t rfl) (k := 0) rfl rfl rfl (by simp [Value.oneCell']) fun a w S => Zb (Za (hK1 _ _ (wp_seq_k fun _ hK1 => wp_region_lit (run S (.mv rfl <| .mv rfl <| .la gt35 0 rfl rfl rfl <| .z) fun a w S => ?_))))))
   obtain ⟨y, hy⟩ : ∃ y, m.at5 ⟨A11, x.c.ents.length, r11⟩ ⟨A22, x.c.ctx.marks.length, r21⟩ ⟨A31, x.c.ctx.cloud.length, r31⟩ ⟨A41, x.mem.length, r41⟩ ⟨A51, x.pe.length, r51⟩ ⟨A61, x.su.length, r61⟩ = y := ⟨_, rfl⟩
   rw [hy] at S
   have ysu : y.su = ⟨A61, x.su.length, r61⟩ := by rw [← hy]
   have yk : y.kind = m.kind := by rw [← hy]
   have ynn : y.nn = m.nn := by rw [← hy]
   have yS : SameV y m := by rw [← hy]; exact at5_same _ _ _ _ _ _ _
   by_cases hk : m.kind = 8
   · refine Zi (Zq S call10 (.cons (.t rfl) (.cons (.t rfl) (.cons (.t rfl) .nil))) (c10 _ self y g2 cap1 A1 gs1 (setsT [] l) x.su (sl_m1 S.wd (k := 9) rfl) hT hTl (by rw [ysu]; exact Sl.of_own S.wd (k := 6) rfl (fun _ => rfl)) s2 hTx (yk.trans hk)) rfl ?_)
     clear S
     rintro _ _ ⟨C, cC, B, cB, rfl, rfl⟩ a w S
     rw [ynn] at S
     refine run S (.as rfl <| .z) fun a w S => Zb (Za (hK1 _ _ (wp_seq_k fun _ hK1 => wp_seq_k fun _ hK2 => wp_region_lit (run S (.mv rfl <| .mv rfl <| .mv rfl <| .la gt35 16 rfl rfl rfl <| .z) fun a w S => Zi (Zq S call12 (.cons (.t rfl) (.cons (.t rfl) (.cons (.t rfl) .nil))) (z12 _ self m g21 c21 A21 (setsT [] l) x.su (sl_m2 S.wd (k := 14) rfl) hT hTl (.old S.wd hmsu) s2 hTx hk) rfl ?_)))))
     clear S
     rintro _ _ ⟨C', cC', B', cB', rfl, rfl⟩ a w S
     generalize onA (setsT [] l) m.nn x.su = an at *
     refine Xy S (Zg call11 (.cons (.t rfl) (.cons (.t rfl) .nil)) (fun _ w' W' => c11 w' _ _ (ansV self y an B cB) (ansV self m an B' cB') (Sl.of_own W' (k := 2) rfl MV.enc_len) (Sl.of_own W' (k := 0) rfl MV.enc_len) (ans_same yS (Sl.of_own W' (k := 3) rfl Sm.enc_len) (Sl.of_own W' (k := 1) rfl Sm.enc_len)))) rfl ?_
     clear S a w
     intro a w S
     refine run S (.nt rfl <| .mv rfl <| .gy rfl rfl (Yn ⟨isAgg35, sizeOf35⟩ (.t rfl) (k := 4) rfl rfl) <| .gy rfl rfl (Yn ⟨isAgg35, sizeOf35⟩ (.t rfl) (k := 18) rfl rfl) <| .z) fun a w S => st_yt S rfl rfl (Zg call8 (.cons (.t rfl) (.cons (.t rfl) .nil)) (fun _ w' W' => c8 w' y m x (by rw [← hy]; exact ⟨Sl.of_own W' (k := 5) rfl (fun _ => rfl), ⟨Sl.of_own W' (k := 6) rfl (fun _ => rfl), Sl.of_own W' (k := 7) rfl (fun _ => rfl)⟩, Sl.of_own W' (k := 8) rfl (fun _ => rfl), Sl.of_own W' (k := 9) rfl (fun _ => rfl), Sl.of_own W' (k := 10) rfl (fun _ => rfl)⟩) (hm.old W') yS)) rfl ?_
     clear S a w
     intro a w S
     have hro1 : (ansV self y an B cB).length ≤ 9223372036854775807 := by have h9 := S.wd.room (k := 2) rfl; exact Nat.le_trans h9.1 h9.2
     have hro2 : (Ans.sums an).length ≤ 9223372036854775807 := by have h9 := S.wd.room (k := 3) rfl; exact Nat.le_trans h9.1 h9.2
     have hbare := ans_bare self y an B cB
     have hb0 : begB 0 1 0 = true := by decide
     (replace S := S.pull 3 rfl; try simp only [List.set_cons_zero, List.set_cons_succ, List.eraseIdx_cons_succ, List.eraseIdx_cons_zero] at S)
     (replace S := S.pull 3 rfl; try simp only [List.set_cons_zero, List.set_cons_succ, List.eraseIdx_cons_succ, List.eraseIdx_cons_zero] at S)
     refine run S (.gy rfl rfl (Xb (.t rfl)) <| .yy (Zn (.t rfl) (.t rfl)) rfl <| .z) fun a w S => Zb (Za (hK2 _ _ (Zf S (.t rfl) (wp_skip (Za (hK1 _ _ (wp_seq_k fun _ hK1 => wp_region_lit (run S (.mv rfl <| .z) fun a w S => ?_))))))))
     (refine Zi (op_callO S call13 (.cons (.t rfl) .nil) (o13 S.wd (by first | assumption | omega | (dsimp only; omega) | exact Sl.nil_ | exact .old S.wd (by assumption) | exact Sl.of_own S.wd (k := 0) rfl (fun _ => rfl) | exact Sl.of_own S.wd (k := 1) rfl (fun _ => rfl) | exact Sl.of_own S.wd (k := 2) rfl (fun _ => rfl) | exact Sl.of_own S.wd (k := 3) rfl (fun _ => rfl) | exact Sl.of_own S.wd (k := 4) rfl (fun _ => rfl) | exact Sl.of_own S.wd (k := 5) rfl (fun _ => rfl) | exact Sl.of_own S.wd (k := 6) rfl (fun _ => rfl) | exact Sl.of_own S.wd (k := 7) rfl (fun _ => rfl) | exact Sl.of_own S.wd (k := 8) rfl (fun _ => rfl) | exact Sl.of_own S.wd (k := 9) rfl (fun _ => rfl) | exact Sl.of_own S.wd (k := 10) rfl (fun _ => rfl) | exact Sl.of_own S.wd (k := 11) rfl (fun _ => rfl) | exact Sl.of_own S.wd (k := 12) rfl (fun _ => rfl) | exact Sl.of_own S.wd (k := 13) rfl (fun _ => rfl) | exact Sl.of_own S.wd (k := 14) rfl (fun _ => rfl) | exact Sl.of_own S.wd (k := 15) rfl (fun _ => rfl) | exact Sl.of_own S.wd (k := 16) rfl (fun _ => rfl) | exact Sl.of_own S.wd (k := 17) rfl (fun _ => rfl) | exact Sl.of_own S.wd (k := 18) rfl (fun _ => rfl) | (intro _ W'; first | exact .old W' (by assumption) | exact Sl.of_own W' (k := 0) rfl (fun _ => rfl) | exact Sl.of_own W' (k := 1) rfl (fun _ => rfl) | exact Sl.of_own W' (k := 2) rfl (fun _ => rfl) | exact Sl.of_own W' (k := 3) rfl (fun _ => rfl) | exact Sl.of_own W' (k := 4) rfl (fun _ => rfl) | exact Sl.of_own W' (k := 5) rfl (fun _ => rfl) | exact Sl.of_own W' (k := 6) rfl (fun _ => rfl) | exact Sl.of_own W' (k := 7) rfl (fun _ => rfl) | exact Sl.of_own W' (k := 8) rfl (fun _ => rfl) | exact Sl.of_own W' (k := 9) rfl (fun _ => rfl) | exact Sl.of_own W' (k := 10) rfl (fun _ => rfl) | exact Sl.of_own W' (k := 11) rfl (fun _ => rfl) | exact Sl.of_own W' (k := 12) rfl (fun _ => rfl) | exact Sl.of_own W' (k := 13) rfl (fun _ => rfl) | exact Sl.of_own W' (k := 14) rfl (fun _ => rfl) | exact Sl.of_own W' (k := 15) rfl (fun _ => rfl) | exact Sl.of_own W' (k := 16) rfl (fun _ => rfl) | exact Sl.of_own W' (k := 17) rfl (fun _ => rfl) | exact Sl.of_own W' (k := 18) rfl (fun _ => rfl)) | (simp; done) | (simp at *; omega)) (by first | assumption | omega | (dsimp only; omega) | exact Sl.nil_ | exact .old S.wd (by assumption) | exact Sl.of_own S.wd (k := 0) rfl (fun _ => rfl) | exact Sl.of_own S.wd (k := 1) rfl (fun _ => rfl) | exact Sl.of_own S.wd (k := 2) rfl (fun _ => rfl) | exact Sl.of_own S.wd (k := 3) rfl (fun _ => rfl) | exact Sl.of_own S.wd (k := 4) rfl (fun _ => rfl) | exact Sl.of_own S.wd (k := 5) rfl (fun _ => rfl) | exact Sl.of_own S.wd (k := 6) rfl (fun _ => rfl) | exact Sl.of_own S.wd (k := 7) rfl (fun _ => rfl) | exact Sl.of_own S.wd (k := 8) rfl (fun _ => rfl) | exact Sl.of_own S.wd (k := 9) rfl (fun _ => rfl) | exact Sl.of_own S.wd (k := 10) rfl (fun _ => rfl) | exact Sl.of_own S.wd (k := 11) rfl (fun _ => rfl) | exact Sl.of_own S.wd (k := 12) rfl (fun _ => rfl) | exact Sl.of_own S.wd (k := 13) rfl (fun _ => rfl) | exact Sl.of_own S.wd (k := 14) rfl (fun _ => rfl) | exact Sl.of_own S.wd (k := 15) rfl (fun _ => rfl) | exact Sl.of_own S.wd (k := 16) rfl (fun _ => rfl) | exact Sl.of_own S.wd (k := 17) rfl (fun _ => rfl) | exact Sl.of_own S.wd (k := 18) rfl (fun _ => rfl) | (simp; done) | (simp at *; omega)) (by first | assumption | omega | (dsimp only; omega) | exact Sl.nil_ | exact .old S.wd (by assumption) | exact Sl.of_own S.wd (k := 0) rfl (fun _ => rfl) | exact Sl.of_own S.wd (k := 1) rfl (fun _ => rfl) | exact Sl.of_own S.wd (k := 2) rfl (fun _ => rfl) | exact Sl.of_own S.wd (k := 3) rfl (fun _ => rfl) | exact Sl.of_own S.wd (k := 4) rfl (fun _ => rfl) | exact Sl.of_own S.wd (k := 5) rfl (fun _ => rfl) | exact Sl.of_own S.wd (k := 6) rfl (fun _ => rfl) | exact Sl.of_own S.wd (k := 7) rfl (fun _ => rfl) | exact Sl.of_own S.wd (k := 8) rfl (fun _ => rfl) | exact Sl.of_own S.wd (k := 9) rfl (fun _ => rfl) | exact Sl.of_own S.wd (k := 10) rfl (fun _ => rfl) | exact Sl.of_own S.wd (k := 11) rfl (fun _ => rfl) | exact Sl.of_own S.wd (k := 12) rfl (fun _ => rfl) | exact Sl.of_own S.wd (k := 13) rfl (fun _ => rfl) | exact Sl.of_own S.wd (k := 14) rfl (fun _ => rfl) | exact Sl.of_own S.wd (k := 15) rfl (fun _ => rfl) | exact Sl.of_own S.wd (k := 16) rfl (fun _ => rfl) | exact Sl.of_own S.wd (k := 17) rfl (fun _ => rfl) | exact Sl.of_own S.wd (k := 18) rfl (fun _ => rfl) | (simp; done) | (simp at *; omega))) rfl ?_) <;> clear S a w)
     rintro _ _ ⟨rfl, rfl⟩ a w S
     refine Zb (Za (hK1 _ _ (sg S (.xx (Zg call6 (.cons Ev.c (.cons Ev.c (.cons Ev.c (.cons Ev.c .nil)))) (fun hp w W => e6 _ _ _ _ (by assumption))) rfl <| .mv rfl <| .ex rfl rfl <| .ex rfl rfl <| .as rfl <| .z) fun a w S => wp_seq_k fun _ hK1 => wp_region_lit (run S (.mv rfl <| .yy (Yk (by omega) (Yi (.t rfl) Ev.c)) rfl <| .mv rfl <| .gy rfl rfl (Ze (.t rfl)) <| .gy rfl rfl (Yn ⟨isAgg35, sizeOf35⟩ (.t rfl) (k := 2) rfl rfl) <| .gx rfl rfl (Zg call10 (.cons (.t rfl) (.cons Ev.c (.cons (.t rfl) .nil))) (fun hp w W => d10 _ _ _)) <| .gy rfl rfl (Xc underlying46 (.t rfl)) <| .gy rfl rfl (Yk (by omega) (Yi (.t rfl) Ev.c)) <| .yy (Zr (.t rfl) (.t rfl)) rfl <| .mv rfl <| .gy rfl rfl (Ze (.t rfl)) <| .gy rfl rfl (Yj (ps := []) (us := [_]) bld55 .nil rfl) <| .z) fun a w S => st_mg S rfl rfl (Ym S (.t rfl) rfl fun g6 a w S => ?_)))))
     refine run S (.gy rfl rfl (Yn ⟨isAgg35, sizeOf35⟩ (.t rfl) (k := 3) rfl rfl) <| .gx rfl rfl (Zg call10 (.cons (.t rfl) (.cons (.t rfl) (.cons (.t rfl) .nil))) (fun hp w W => e10 _ _ _ _ (by exact Wd.cell W (k := 0) rfl rfl))) <| .gy rfl rfl (Xc underlying46 (.t rfl)) <| .gy rfl rfl (Yk (by omega) (Yi (.t rfl) Ev.c)) <| .yy (Zr (.t rfl) (.t rfl)) rfl <| .mv rfl <| .gx rfl rfl (Zg call14 .nil (fun hp w W => c14 _)) <| .gy rfl rfl (Yk (by omega) (Yi (.t rfl) Ev.c)) <| .yy (Zr (.t rfl) (.t rfl)) rfl <| .as rfl <| .z) fun a w S => Zb (Za (hK1 _ _ (wp_ret (Zk S (results1 S results3 (Rv.tmp rfl)) ?_))))
     exact ⟨rfl, S.wd.below⟩
   · refine Xy S (Zg call10 (.cons (.t rfl) (.cons (.t rfl) (.cons (.t rfl) .nil))) (fun _ w' W' => k10 w' self y g2 cap1 A1 gs1 (setsT [] l) (sl_m1 W' (k := 9) rfl) hT hTl (fun e => hk (yk.symm.trans e)))) rfl ?_
     clear S a w
     intro a w S
     refine run S (.as rfl <| .z) fun a w S => Zb (Za (hK1 _ _ (wp_seq_k fun _ hK1 => wp_seq_k fun _ hK2 => wp_region_lit (run S (.mv rfl <| .mv rfl <| .mv rfl <| .la gt35 14 rfl rfl rfl <| .z) fun a w S => Xy S (Zg call12 (.cons (.t rfl) (.cons (.t rfl) (.cons (.t rfl) .nil))) (fun _ w' W' => k12 w' self m _ hk)) rfl ?_))))
     clear S a w
     intro a w S
     refine Xy S (Zg call11 (.cons (.t rfl) (.cons (.t rfl) .nil)) (fun _ w' W' => c11 w' _ _ [] [] Sl.nil_ Sl.nil_ ⟨rfl, fun i m m' h => by simp at h⟩)) rfl ?_
     clear S a w
     intro a w S
     refine run S (.nt rfl <| .mv rfl <| .gy rfl rfl (Yn ⟨isAgg35, sizeOf35⟩ (.t rfl) (k := 0) rfl rfl) <| .gy rfl rfl (Yn ⟨isAgg35, sizeOf35⟩ (.t rfl) (k := 14) rfl rfl) <| .z) fun a w S => st_yt S rfl rfl (Zg call8 (.cons (.t rfl) (.cons (.t rfl) .nil)) (fun _ w' W' => c8 w' y m x (by rw [← hy]; exact ⟨Sl.of_own W' (k := 1) rfl (fun _ => rfl), ⟨Sl.of_own W' (k := 2) rfl (fun _ => rfl), Sl.of_own W' (k := 3) rfl (fun _ => rfl)⟩, Sl.of_own W' (k := 4) rfl (fun _ => rfl), Sl.of_own W' (k := 5) rfl (fun _ => rfl), Sl.of_own W' (k := 6) rfl (fun _ => rfl)⟩) (hm.old W') yS)) rfl ?_
     clear S a w
     intro a w S
     have hb0 : begB 0 1 0 = true := by decide
     refine run S (.gy rfl rfl (Xb (.t rfl)) <| .yy (Zn (.t rfl) (.t rfl)) rfl <| .z) fun a w S => Zb (Za (hK2 _ _ (Zf S (.t rfl) (wp_skip (Za (hK1 _ _ (sg S (.mv rfl <| .xx (Zg call13 (.cons (.t rfl) .nil) (fun hp w W => d13 _)) rfl <| .z) fun a w S => sg S (.xx (Zg call6 (.cons Ev.c (.cons Ev.c (.cons Ev.c (.cons Ev.c .nil)))) (fun hp w W => e6 _ _ _ _ (by assumption))) rfl <| .mv rfl <| .ex rfl rfl <| .ex rfl rfl <| .as rfl <| .z) fun a w S => wp_seq_k fun _ hK1 => wp_region_lit (run S (.mv rfl <| .yy (Yk (by omega) (Yi (.t rfl) Ev.c)) rfl <| .mv rfl <| .gy rfl rfl (Ze (.t rfl)) <| .gy rfl rfl (Yn ⟨isAgg35, sizeOf35⟩ (.t rfl) (k := 0) rfl rfl) <| .gx rfl rfl (Zg call10 (.cons (.t rfl) (.cons Ev.c (.cons (.t rfl) .nil))) (fun hp w W => d10 _ _ _)) <| .gy rfl rfl (Xc underlying46 (.t rfl)) <| .gy rfl rfl (Yk (by omega) (Yi (.t rfl) Ev.c)) <| .yy (Zr (.t rfl) (.t rfl)) rfl <| .mv rfl <| .gy rfl rfl (Ze (.t rfl)) <| .gy rfl rfl (Yj (ps := []) (us := [_]) bld55 .nil rfl) <| .z) fun a w S => st_mg S rfl rfl (Ym S (.t rfl) rfl fun g6 a w S => ?_)))))))))
     refine run S (.gy rfl rfl (Yn ⟨isAgg35, sizeOf35⟩ (.t rfl) (k := 1) rfl rfl) <| .gx rfl rfl (Zg call10 (.cons (.t rfl) (.cons (.t rfl) (.cons (.t rfl) .nil))) (fun hp w W => e10 _ _ _ _ (by exact Wd.cell W (k := 0) rfl rfl))) <| .gy rfl rfl (Xc underlying46 (.t rfl)) <| .gy rfl rfl (Yk (by omega) (Yi (.t rfl) Ev.c)) <| .yy (Zr (.t rfl) (.t rfl)) rfl <| .mv rfl <| .gx rfl rfl (Zg call14 .nil (fun hp w W => c14 _)) <| .gy rfl rfl (Yk (by omega) (Yi (.t rfl) Ev.c)) <| .yy (Zr (.t rfl) (.t rfl)) rfl <| .as rfl <| .z) fun a w S => Zb (Za (hK1 _ _ (wp_ret (Zk S (results1 S results3 (Rv.tmp rfl)) ?_))))
     exact ⟨rfl, S.wd.below⟩
end Go.Proofs.YtbijdmfilmecbaaGreat
