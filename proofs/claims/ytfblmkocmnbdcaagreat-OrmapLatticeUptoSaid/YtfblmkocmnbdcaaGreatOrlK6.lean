/- Contracts and laws that the statement Orl leans on, part 6. -/
import Derived.Test.YtfblmkocmnbdcaaGreatOrlK5
set_option linter.unusedVariables false
set_option linter.unusedSimpArgs false
set_option maxRecDepth 100000
set_option maxHeartbeats 4000000
namespace Go.Fw
def encU (x : UInt64) : List Value := [.int .u64 (x.toNat : Int)]
def ctL (l : List Int) : List Value := l.map (Value.int .i64)
theorem ctL_len (l : List Int) : (ctL l).length = l.length := List.length_map ..
theorem ctL_get {l : List Int} {n : Nat} (h : n < l.length) : (ctL l)[0 + n * 1]? = some (.int .i64 (l.getD n 0)) := by
  unfold ctL
  rw [Nat.zero_add, Nat.mul_one, List.getElem?_map, List.getD_eq_getElem?_getD, List.getElem?_eq_getElem h]
  rfl
theorem ctL_set (l : List Int) (n : Nat) (x : Int) : (ctL l).set (0 + n * 1) (.int .i64 x) = ctL (l.set n x) := by
  unfold ctL
  rw [Nat.zero_add, Nat.mul_one, List.map_set]
theorem play_ct (h : Hist) : ∀ i (n : Nat), 0 ≤ (playTo h i).ct.getD n 0 ∧ (playTo h i).ct.getD n 0 ≤ i
  | 0, n => by
    show 0 ≤ (List.replicate 8 (0 : Int)).getD n 0 ∧ (List.replicate 8 (0 : Int)).getD n 0 ≤ (0 : Nat)
    rw [List.getD_eq_getElem?_getD, List.getElem?_replicate]
    split <;> simp
  | i + 1, n => by
    have ih := play_ct h i
    have hn := ih n
    rw [playTo]
    unfold stepP
    split
    · have hm := ih (nodeP (h.nodes.getD i 0))
      rw [List.getD_eq_getElem?_getD, List.getElem?_set]
      rw [List.getD_eq_getElem?_getD] at hn
      split
      · split
        · simp only [Option.getD_some]; omega
        · simp; omega
      · omega
    · omega
theorem node_val (x : Int) : IntKind.i64.wrap ((IntKind.u64.wrap x).tmod 8) = (nodeP x : Int) := by
  have h1 : IntKind.u64.wrap x = x % 18446744073709551616 := by
    simp only [IntKind.wrap, IntKind.signed, IntKind.bits]
    simp
  have h2 : (x % 18446744073709551616).tmod 8 = x % 8 := by
    rw [Int.tmod_eq_emod_of_nonneg (by omega)]
    omega
  rw [h1, h2, IntKind.wrap_i64]
  unfold nodeP
  omega
theorem many_lt (h : Hist) (i : Nat) : i < h.many ↔ i < h.items.length ∧ i < 12 ∧ i < h.qtys.length ∧ i < h.prices.length ∧ i < h.nodes.length ∧ i < h.saws.length := by
  unfold Hist.many
  simp only [Nat.lt_min]
  constructor
  · rintro ⟨⟨⟨⟨⟨h1, h2⟩, h3⟩, h4⟩, h5⟩, h6⟩
    exact ⟨h1, h2, h3, h4, h5, h6⟩
  · rintro ⟨h1, h2, h3, h4, h5, h6⟩
    exact ⟨⟨⟨⟨⟨h1, h2⟩, h3⟩, h4⟩, h5⟩, h6⟩
theorem play_cts (h : Hist) : ∀ i, (playTo h i).ct.length = 8
  | 0 => by simp [playTo, Play.start]
  | i + 1 => by
    rw [playTo]
    unfold stepP
    split
    · rw [List.length_set]; exact play_cts h i
    · exact play_cts h i
theorem play_ups (h : Hist) : ∀ i, (playTo h i).up.length ≤ i
  | 0 => by simp [playTo, Play.start]
  | i + 1 => by
    have ih := play_ups h i
    rw [playTo]
    unfold stepP
    split
    · rw [List.length_append, List.length_singleton]; omega
    · omega
end Go.Fw
namespace Go.Proofs.YtfblmkocmnbdcaaGreat
open Go.Fw Go.Proofs Go.RowKit Go.Proofs.Tryz
theorem c13 (w0 : World) (v1 v2 v3 v4 v5 : Value) (h : Hist) (h1 : Sl encS 1 w0 w0.heap.size v1 h.items) (h2 : Sl encI 1 w0 w0.heap.size v2 h.qtys) (h3 : Sl encU 1 w0 w0.heap.size v3 h.prices) (h4 : Sl encI 1 w0 w0.heap.size v4 h.nodes) (h5 : Sl encU 1 w0 w0.heap.size v5 h.saws) :
    Rets Tryz.prog 13 #[.agg #[v1, v2, v3, v4, v5]] w0 fun v L => ∃ A r A' r' st up w1 bs, v = .tuple #[.slice A st.length r, .slice A' up.length r'] ∧
      L = [rowOf 39 3 SCart.enc A r st, rowOf 60 10 SUpd.enc A' r' up, .ice w1 bs] ∧ st.map (·.1) = (playK h).st ∧ up.map (·.1) = (playK h).up ∧ (∀ p ∈ st, CartIn w1 bs p.1 p.2) ∧ ∀ p ∈ up, CartIn w1 bs p.1.seen p.2 := by
  obtain ⟨A, cap, rfl, hl, hcap, hA⟩ := h1
  obtain ⟨B, capB, rfl, hlB, hcapB, hB⟩ := h2
  obtain ⟨C, capC, rfl, hlC, hcapC, hC⟩ := h3
  obtain ⟨D, capD, rfl, hlD, hcapD, hD⟩ := h4
  obtain ⟨E, capE, rfl, hlE, hcapE, hE⟩ := h5
  unfold Go.Fw.Rets
  refine enter1 func13 rfl ntmps13 rfl fun a S => wp_seq_k fun _ hK1 => wp_region_lit (st_m (op_box S (.t rfl) rfl fun g1 a w S => run S (.ac rfl <| .ac rfl <| .z) fun a w S => st_nil (then_normal (hK1 _ _ (wp_seq_k fun _ hK1 => wp_region_lit (run S (.ac rfl <| .z) fun a w S => st_nil (then_normal (hK1 _ _ (wp_seq_k fun _ hK1 => wp_region_lit (run S (.ac rfl <| .z) fun a w S => st_nil (then_normal (hK1 _ _ (wp_seq_k fun _ hK1 => wp_region_lit (st_m (op_alloc S zeroValue86 (cs := _) rfl rfl fun g2 a w S => st_nil (then_normal (hK1 _ _ (wp_seq_k fun _ hK1 => wp_seq_k fun _ hK2 => wp_region_lit (run S (.fa underlying26 sizeOf22 0 rfl rfl rfl <| .ld gt22 1 rfl rfl rfl <| .ln underlying22 rfl <| .mc rfl <| .z) fun a w S => st_nil (then_normal (hK2 _ _ (wp_block ?_))))))))))))))))))))))
  have e0 : #[Value.int .i64 0, .int .i64 0, .int .i64 0, .int .i64 0, .int .i64 0, .int .i64 0, .int .i64 0, .int .i64 0] = (ctL (playTo h 0).ct).toArray := rfl
  rw [e0] at S
  replace S : St _ _ _ (.ice w0 [] :: _) _ _ := ⟨S.kn, S.wd.bare (fun b hb => by cases hb) (fun b hb => by cases hb)⟩
  replace S := (S.nil_ 60 10 SUpd.enc none).nil_ 39 3 SCart.enc none
  refine st_loopM S [4, 5, 21] (X := Nat × Option Addr × Nat × List SCart × Option Addr × Nat × List SUpd × World × List Nat) (fun q => [(4, true, .slice q.2.1 q.2.2.2.1.length q.2.2.1), (5, true, .slice q.2.2.2.2.1 q.2.2.2.2.2.2.1.length q.2.2.2.2.2.1), (21, true, .int .i64 (q.1 : Int))])
    (fun q => [rowOf 39 3 SCart.enc q.2.1 q.2.2.1 q.2.2.2.1, rowOf 60 10 SUpd.enc q.2.2.2.2.1 q.2.2.2.2.2.1 q.2.2.2.2.2.2.1, .ice q.2.2.2.2.2.2.2.1 q.2.2.2.2.2.2.2.2, .blk g2 (.cells (ctL (playTo h q.1).ct).toArray 86), .blk g1 (.cells #[.slice A h.items.length cap, .slice B h.qtys.length capB, .slice C h.prices.length capC, .slice D h.nodes.length capD, .slice E h.saws.length capE] 26)])
    (fun q => q.1 ≤ h.many ∧ q.2.2.2.1.map (·.1) = (playTo h q.1).st ∧ q.2.2.2.2.2.2.1.map (·.1) = (playTo h q.1).up ∧ (∀ p ∈ q.2.2.2.1, CartIn q.2.2.2.2.2.2.2.1 q.2.2.2.2.2.2.2.2 p.1 p.2) ∧ ∀ p ∈ q.2.2.2.2.2.2.1, CartIn q.2.2.2.2.2.2.2.1 q.2.2.2.2.2.2.2.2 p.1.seen p.2)
    (fun q => h.many - q.1) (0, none, 0, [], none, 0, [], w0, []) ⟨Nat.zero_le _, rfl, rfl, (fun p hp => by cases hp), (fun p hp => by cases hp)⟩ (by repeat (first | exact Fits.nil | refine Fits.skip rfl ?_ | refine Fits.cons rfl ?_)) (by repeat (first | exact Picks.nil | (refine Picks.rest ?_; (repeat (first | exact List.Sublist.refl _ | refine List.Sublist.cons_cons _ ?_ | refine List.Sublist.cons _ ?_)); done) | refine Picks.take 0 rfl ?_ | refine Picks.take 1 rfl ?_ | refine Picks.take 2 rfl ?_ | refine Picks.take 3 rfl ?_ | refine Picks.take 4 rfl ?_ | refine Picks.take 5 rfl ?_ | refine Picks.take 6 rfl ?_ | refine Picks.take 7 rfl ?_ | refine Picks.take 8 rfl ?_ | refine Picks.take 9 rfl ?_ | refine Picks.take 10 rfl ?_ | refine Picks.take 11 rfl ?_)) ?_
  clear S
  rintro ⟨i, F, cF, st, G, cG, up, w1, bs⟩ a w ⟨hi, hst, hup, hcs, hcu⟩ S
  dsimp only at hi hst hup hcs hcu S
  have hmany := many_lt h i
  have hct := play_cts h i
  have hsl : st.length ≤ i := by
    have := play_len h i
    rw [← hst, List.length_map] at this
    exact this
  have hul : up.length ≤ i := by
    have := play_ups h i
    rw [← hup, List.length_map] at this
    exact this
  by_cases hlt : i < h.many
  rotate_left
  · have hend : i = h.many := by omega
    have done : playTo h i = playK h := by rw [hend]; rfl
    by_cases c1 : i < h.items.length
    · by_cases c2 : i < 12
      · by_cases c3 : i < h.qtys.length
        · by_cases c4 : i < h.prices.length
          · by_cases c5 : i < h.nodes.length
            · by_cases c6 : i < h.saws.length
              · exact absurd (hmany.2 ⟨c1, c2, c3, c4, c5, c6⟩) hlt
              · obtain ⟨g, o, x, rfl, hx, hd, hc⟩ := row_at hA c1
                refine wp_seq_k fun _ hK2 => wp_region_lit (run S (.lt (by omega) rfl rfl <| .z) fun a w S => st_nil (then_normal (hK2 _ _ (wp_seq_k fun _ hK2 => st_then S (.t rfl) (wp_skip (then_normal (hK2 _ _ (wp_seq_k fun _ hK2 => wp_block (wp_seq_k fun _ hK3 => wp_region_lit (run S (.mv rfl <| .ix underlying22 sizeOf9 (by omega) rfl rfl <| .yy (ys_ldO ⟨isAgg9, sizeOf9⟩ (.t rfl) (fun _ => hc 0 _ rfl)) rfl <| .as rfl <| .as rfl <| .z) fun a w S => st_nil (then_normal (hK3 _ _ (wp_seq_k fun _ hK3 => wp_seq_k fun _ hK4 => wp_region_lit ?_)))))))))))))
                refine run S (.mv rfl <| .yy (ys_F (by omega) (ys_geq (.t rfl) Ev.c)) rfl <| .mv rfl <| .gy rfl rfl (ys_move (.t rfl)) <| .gy rfl rfl (ys_fieldN (FieldT.mk underlying26 rfl sizeOf23 rfl) (.t rfl) (i' := 1) rfl) <| .gy rfl rfl (ys_ld ⟨isAgg23, sizeOf23⟩ (.t rfl) (k := 4) rfl rfl) <| .gy rfl rfl (ys_lenS underlying23 (.t rfl)) <| .gy rfl rfl (ys_F (by omega) (ys_geq (.t rfl) (.t rfl))) <| .yy (ys_pickF (.t rfl) (.t rfl)) rfl <| .mv rfl <| .gy rfl rfl (ys_move (.t rfl)) <| .gy rfl rfl (ys_fieldN (FieldT.mk underlying26 rfl sizeOf24 rfl) (.t rfl) (i' := 2) rfl) <| .gy rfl rfl (ys_ld ⟨isAgg24, sizeOf24⟩ (.t rfl) (k := 4) rfl rfl) <| .gy rfl rfl (ys_lenS underlying24 (.t rfl)) <| .gy rfl rfl (ys_F (by omega) (ys_geq (.t rfl) (.t rfl))) <| .yy (ys_pickF (.t rfl) (.t rfl)) rfl <| .mv rfl <| .gy rfl rfl (ys_move (.t rfl)) <| .gy rfl rfl (ys_fieldN (FieldT.mk underlying26 rfl sizeOf23 rfl) (.t rfl) (i' := 3) rfl) <| .gy rfl rfl (ys_ld ⟨isAgg23, sizeOf23⟩ (.t rfl) (k := 4) rfl rfl) <| .gy rfl rfl (ys_lenS underlying23 (.t rfl)) <| .gy rfl rfl (ys_F (by omega) (ys_geq (.t rfl) (.t rfl))) <| .yy (ys_pickF (.t rfl) (.t rfl)) rfl <| .mv rfl <| .gy rfl rfl (ys_move (.t rfl)) <| .gy rfl rfl (ys_fieldN (FieldT.mk underlying26 rfl sizeOf24 rfl) (.t rfl) (i' := 4) rfl) <| .gy rfl rfl (ys_ld ⟨isAgg24, sizeOf24⟩ (.t rfl) (k := 4) rfl rfl) <| .gy rfl rfl (ys_lenS underlying24 (.t rfl)) <| .gy rfl rfl (ys_T (by omega) (ys_geq (.t rfl) (.t rfl))) <| .yy (ys_pickF (.t rfl) (.t rfl)) rfl <| .z) fun a w S => ?_
                refine st_nil (then_normal (hK4 _ _ (st_then S (.t rfl) (wp_exit (then_exit (in_past rfl (then_exit (then_exit (in_here (then_normal (hK1 _ _ (wp_seq_k fun _ hK1 => wp_region_lit (run S (.mv rfl <| .mv rfl <| .as rfl <| .as rfl <| .z) fun a w S => st_nil (then_normal (hK1 _ _ (wp_ret (st_ret S (results2 S results13 (Rv.tmp rfl) (Rv.tmp rfl)) ?_)))))))))))))))))
                exact ⟨_, _, rfl, S.wd.picks (by repeat (first | exact Picks.nil | (refine Picks.rest ?_; (repeat (first | exact List.Sublist.refl _ | refine List.Sublist.cons_cons _ ?_ | refine List.Sublist.cons _ ?_)); done) | refine Picks.take 0 rfl ?_ | refine Picks.take 1 rfl ?_ | refine Picks.take 2 rfl ?_ | refine Picks.take 3 rfl ?_ | refine Picks.take 4 rfl ?_ | refine Picks.take 5 rfl ?_ | refine Picks.take 6 rfl ?_ | refine Picks.take 7 rfl ?_ | refine Picks.take 8 rfl ?_ | refine Picks.take 9 rfl ?_ | refine Picks.take 10 rfl ?_ | refine Picks.take 11 rfl ?_)), _, _, _, _, st, up, _, _, rfl, rfl, by rw [hst, done], by rw [hup, done], hcs, hcu⟩
            · obtain ⟨g, o, x, rfl, hx, hd, hc⟩ := row_at hA c1
              refine wp_seq_k fun _ hK2 => wp_region_lit (run S (.lt (by omega) rfl rfl <| .z) fun a w S => st_nil (then_normal (hK2 _ _ (wp_seq_k fun _ hK2 => st_then S (.t rfl) (wp_skip (then_normal (hK2 _ _ (wp_seq_k fun _ hK2 => wp_block (wp_seq_k fun _ hK3 => wp_region_lit (run S (.mv rfl <| .ix underlying22 sizeOf9 (by omega) rfl rfl <| .yy (ys_ldO ⟨isAgg9, sizeOf9⟩ (.t rfl) (fun _ => hc 0 _ rfl)) rfl <| .as rfl <| .as rfl <| .z) fun a w S => st_nil (then_normal (hK3 _ _ (wp_seq_k fun _ hK3 => wp_seq_k fun _ hK4 => wp_region_lit ?_)))))))))))))
              refine run S (.mv rfl <| .yy (ys_F (by omega) (ys_geq (.t rfl) Ev.c)) rfl <| .mv rfl <| .gy rfl rfl (ys_move (.t rfl)) <| .gy rfl rfl (ys_fieldN (FieldT.mk underlying26 rfl sizeOf23 rfl) (.t rfl) (i' := 1) rfl) <| .gy rfl rfl (ys_ld ⟨isAgg23, sizeOf23⟩ (.t rfl) (k := 4) rfl rfl) <| .gy rfl rfl (ys_lenS underlying23 (.t rfl)) <| .gy rfl rfl (ys_F (by omega) (ys_geq (.t rfl) (.t rfl))) <| .yy (ys_pickF (.t rfl) (.t rfl)) rfl <| .mv rfl <| .gy rfl rfl (ys_move (.t rfl)) <| .gy rfl rfl (ys_fieldN (FieldT.mk underlying26 rfl sizeOf24 rfl) (.t rfl) (i' := 2) rfl) <| .gy rfl rfl (ys_ld ⟨isAgg24, sizeOf24⟩ (.t rfl) (k := 4) rfl rfl) <| .gy rfl rfl (ys_lenS underlying24 (.t rfl)) <| .gy rfl rfl (ys_F (by omega) (ys_geq (.t rfl) (.t rfl))) <| .yy (ys_pickF (.t rfl) (.t rfl)) rfl <| .mv rfl <| .gy rfl rfl (ys_move (.t rfl)) <| .gy rfl rfl (ys_fieldN (FieldT.mk underlying26 rfl sizeOf23 rfl) (.t rfl) (i' := 3) rfl) <| .gy rfl rfl (ys_ld ⟨isAgg23, sizeOf23⟩ (.t rfl) (k := 4) rfl rfl) <| .gy rfl rfl (ys_lenS underlying23 (.t rfl)) <| .gy rfl rfl (ys_T (by omega) (ys_geq (.t rfl) (.t rfl))) <| .yy (ys_pickF (.t rfl) (.t rfl)) rfl <| .mv rfl <| .sk rfl rfl rfl <| .sk rfl rfl rfl <| .sk rfl rfl rfl <| .sk rfl rfl rfl <| .sk rfl rfl rfl <| .yy (ys_pickT (.t rfl) Ev.c) rfl <| .z) fun a w S => st_nil (then_normal (hK4 _ _ (st_then S (.t rfl) (wp_exit ?_))))
              refine then_exit (in_past rfl (then_exit (then_exit (in_here (then_normal (hK1 _ _ (wp_seq_k fun _ hK1 => wp_region_lit (run S (.mv rfl <| .mv rfl <| .as rfl <| .as rfl <| .z) fun a w S => st_nil (then_normal (hK1 _ _ (wp_ret (st_ret S (results2 S results13 (Rv.tmp rfl) (Rv.tmp rfl)) ?_))))))))))))
              exact ⟨_, _, rfl, S.wd.picks (by repeat (first | exact Picks.nil | (refine Picks.rest ?_; (repeat (first | exact List.Sublist.refl _ | refine List.Sublist.cons_cons _ ?_ | refine List.Sublist.cons _ ?_)); done) | refine Picks.take 0 rfl ?_ | refine Picks.take 1 rfl ?_ | refine Picks.take 2 rfl ?_ | refine Picks.take 3 rfl ?_ | refine Picks.take 4 rfl ?_ | refine Picks.take 5 rfl ?_ | refine Picks.take 6 rfl ?_ | refine Picks.take 7 rfl ?_ | refine Picks.take 8 rfl ?_ | refine Picks.take 9 rfl ?_ | refine Picks.take 10 rfl ?_ | refine Picks.take 11 rfl ?_)), _, _, _, _, st, up, _, _, rfl, rfl, by rw [hst, done], by rw [hup, done], hcs, hcu⟩
          · obtain ⟨g, o, x, rfl, hx, hd, hc⟩ := row_at hA c1
            refine wp_seq_k fun _ hK2 => wp_region_lit (run S (.lt (by omega) rfl rfl <| .z) fun a w S => st_nil (then_normal (hK2 _ _ (wp_seq_k fun _ hK2 => st_then S (.t rfl) (wp_skip (then_normal (hK2 _ _ (wp_seq_k fun _ hK2 => wp_block (wp_seq_k fun _ hK3 => wp_region_lit (run S (.mv rfl <| .ix underlying22 sizeOf9 (by omega) rfl rfl <| .yy (ys_ldO ⟨isAgg9, sizeOf9⟩ (.t rfl) (fun _ => hc 0 _ rfl)) rfl <| .as rfl <| .as rfl <| .z) fun a w S => st_nil (then_normal (hK3 _ _ (wp_seq_k fun _ hK3 => wp_seq_k fun _ hK4 => wp_region_lit ?_)))))))))))))
            refine run S (.mv rfl <| .yy (ys_F (by omega) (ys_geq (.t rfl) Ev.c)) rfl <| .mv rfl <| .gy rfl rfl (ys_move (.t rfl)) <| .gy rfl rfl (ys_fieldN (FieldT.mk underlying26 rfl sizeOf23 rfl) (.t rfl) (i' := 1) rfl) <| .gy rfl rfl (ys_ld ⟨isAgg23, sizeOf23⟩ (.t rfl) (k := 4) rfl rfl) <| .gy rfl rfl (ys_lenS underlying23 (.t rfl)) <| .gy rfl rfl (ys_F (by omega) (ys_geq (.t rfl) (.t rfl))) <| .yy (ys_pickF (.t rfl) (.t rfl)) rfl <| .mv rfl <| .gy rfl rfl (ys_move (.t rfl)) <| .gy rfl rfl (ys_fieldN (FieldT.mk underlying26 rfl sizeOf24 rfl) (.t rfl) (i' := 2) rfl) <| .gy rfl rfl (ys_ld ⟨isAgg24, sizeOf24⟩ (.t rfl) (k := 4) rfl rfl) <| .gy rfl rfl (ys_lenS underlying24 (.t rfl)) <| .gy rfl rfl (ys_T (by omega) (ys_geq (.t rfl) (.t rfl))) <| .yy (ys_pickF (.t rfl) (.t rfl)) rfl <| .mv rfl <| .sk rfl rfl rfl <| .sk rfl rfl rfl <| .sk rfl rfl rfl <| .sk rfl rfl rfl <| .sk rfl rfl rfl <| .yy (ys_pickT (.t rfl) Ev.c) rfl <| .mv rfl <| .sk rfl rfl rfl <| .sk rfl rfl rfl <| .sk rfl rfl rfl <| .sk rfl rfl rfl <| .sk rfl rfl rfl <| .yy (ys_pickT (.t rfl) Ev.c) rfl <| .z) fun a w S => st_nil (then_normal (hK4 _ _ (st_then S (.t rfl) (wp_exit (then_exit (in_past rfl (then_exit (then_exit (in_here (then_normal (hK1 _ _ (wp_seq_k fun _ hK1 => wp_region_lit (run S (.mv rfl <| .mv rfl <| .as rfl <| .as rfl <| .z) fun a w S => st_nil (then_normal (hK1 _ _ (wp_ret ?_))))))))))))))))
            refine st_ret S (results2 S results13 (Rv.tmp rfl) (Rv.tmp rfl)) ?_
            exact ⟨_, _, rfl, S.wd.picks (by repeat (first | exact Picks.nil | (refine Picks.rest ?_; (repeat (first | exact List.Sublist.refl _ | refine List.Sublist.cons_cons _ ?_ | refine List.Sublist.cons _ ?_)); done) | refine Picks.take 0 rfl ?_ | refine Picks.take 1 rfl ?_ | refine Picks.take 2 rfl ?_ | refine Picks.take 3 rfl ?_ | refine Picks.take 4 rfl ?_ | refine Picks.take 5 rfl ?_ | refine Picks.take 6 rfl ?_ | refine Picks.take 7 rfl ?_ | refine Picks.take 8 rfl ?_ | refine Picks.take 9 rfl ?_ | refine Picks.take 10 rfl ?_ | refine Picks.take 11 rfl ?_)), _, _, _, _, st, up, _, _, rfl, rfl, by rw [hst, done], by rw [hup, done], hcs, hcu⟩
        · obtain ⟨g, o, x, rfl, hx, hd, hc⟩ := row_at hA c1
          refine wp_seq_k fun _ hK2 => wp_region_lit (run S (.lt (by omega) rfl rfl <| .z) fun a w S => st_nil (then_normal (hK2 _ _ (wp_seq_k fun _ hK2 => st_then S (.t rfl) (wp_skip (then_normal (hK2 _ _ (wp_seq_k fun _ hK2 => wp_block (wp_seq_k fun _ hK3 => wp_region_lit (run S (.mv rfl <| .ix underlying22 sizeOf9 (by omega) rfl rfl <| .yy (ys_ldO ⟨isAgg9, sizeOf9⟩ (.t rfl) (fun _ => hc 0 _ rfl)) rfl <| .as rfl <| .as rfl <| .z) fun a w S => st_nil (then_normal (hK3 _ _ (wp_seq_k fun _ hK3 => wp_seq_k fun _ hK4 => wp_region_lit (run S (.mv rfl <| .yy (ys_F (by omega) (ys_geq (.t rfl) Ev.c)) rfl <| .mv rfl <| .gy rfl rfl (ys_move (.t rfl)) <| .gy rfl rfl (ys_fieldN (FieldT.mk underlying26 rfl sizeOf23 rfl) (.t rfl) (i' := 1) rfl) <| .gy rfl rfl (ys_ld ⟨isAgg23, sizeOf23⟩ (.t rfl) (k := 4) rfl rfl) <| .gy rfl rfl (ys_lenS underlying23 (.t rfl)) <| .gy rfl rfl (ys_T (by omega) (ys_geq (.t rfl) (.t rfl))) <| .yy (ys_pickF (.t rfl) (.t rfl)) rfl <| .mv rfl <| .sk rfl rfl rfl <| .sk rfl rfl rfl <| .sk rfl rfl rfl <| .sk rfl rfl rfl <| .sk rfl rfl rfl <| .yy (ys_pickT (.t rfl) Ev.c) rfl <| .mv rfl <| .sk rfl rfl rfl <| .sk rfl rfl rfl <| .sk rfl rfl rfl <| .sk rfl rfl rfl <| .sk rfl rfl rfl <| .yy (ys_pickT (.t rfl) Ev.c) rfl <| .mv rfl <| .sk rfl rfl rfl <| .sk rfl rfl rfl <| .sk rfl rfl rfl <| .sk rfl rfl rfl <| .sk rfl rfl rfl <| .yy (ys_pickT (.t rfl) Ev.c) rfl <| .z) fun a w S => st_nil ?_))))))))))))))
          refine then_normal (hK4 _ _ (st_then S (.t rfl) (wp_exit (then_exit (in_past rfl (then_exit (then_exit (in_here (then_normal (hK1 _ _ (wp_seq_k fun _ hK1 => wp_region_lit (run S (.mv rfl <| .mv rfl <| .as rfl <| .as rfl <| .z) fun a w S => st_nil (then_normal (hK1 _ _ (wp_ret (st_ret S (results2 S results13 (Rv.tmp rfl) (Rv.tmp rfl)) ?_))))))))))))))))
          exact ⟨_, _, rfl, S.wd.picks (by repeat (first | exact Picks.nil | (refine Picks.rest ?_; (repeat (first | exact List.Sublist.refl _ | refine List.Sublist.cons_cons _ ?_ | refine List.Sublist.cons _ ?_)); done) | refine Picks.take 0 rfl ?_ | refine Picks.take 1 rfl ?_ | refine Picks.take 2 rfl ?_ | refine Picks.take 3 rfl ?_ | refine Picks.take 4 rfl ?_ | refine Picks.take 5 rfl ?_ | refine Picks.take 6 rfl ?_ | refine Picks.take 7 rfl ?_ | refine Picks.take 8 rfl ?_ | refine Picks.take 9 rfl ?_ | refine Picks.take 10 rfl ?_ | refine Picks.take 11 rfl ?_)), _, _, _, _, st, up, _, _, rfl, rfl, by rw [hst, done], by rw [hup, done], hcs, hcu⟩
      · obtain ⟨g, o, x, rfl, hx, hd, hc⟩ := row_at hA c1
        refine wp_seq_k fun _ hK2 => wp_region_lit (run S (.lt (by omega) rfl rfl <| .z) fun a w S => st_nil (then_normal (hK2 _ _ (wp_seq_k fun _ hK2 => st_then S (.t rfl) (wp_skip (then_normal (hK2 _ _ (wp_seq_k fun _ hK2 => wp_block (wp_seq_k fun _ hK3 => wp_region_lit (run S (.mv rfl <| .ix underlying22 sizeOf9 (by omega) rfl rfl <| .yy (ys_ldO ⟨isAgg9, sizeOf9⟩ (.t rfl) (fun _ => hc 0 _ rfl)) rfl <| .as rfl <| .as rfl <| .z) fun a w S => st_nil (then_normal (hK3 _ _ (wp_seq_k fun _ hK3 => wp_seq_k fun _ hK4 => wp_region_lit (run S (.mv rfl <| .yy (ys_T (by omega) (ys_geq (.t rfl) Ev.c)) rfl <| .mv rfl <| .sk rfl rfl rfl <| .sk rfl rfl rfl <| .sk rfl rfl rfl <| .sk rfl rfl rfl <| .sk rfl rfl rfl <| .yy (ys_pickT (.t rfl) Ev.c) rfl <| .mv rfl <| .sk rfl rfl rfl <| .sk rfl rfl rfl <| .sk rfl rfl rfl <| .sk rfl rfl rfl <| .sk rfl rfl rfl <| .yy (ys_pickT (.t rfl) Ev.c) rfl <| .mv rfl <| .sk rfl rfl rfl <| .sk rfl rfl rfl <| .sk rfl rfl rfl <| .sk rfl rfl rfl <| .sk rfl rfl rfl <| .yy (ys_pickT (.t rfl) Ev.c) rfl <| .mv rfl <| .sk rfl rfl rfl <| .sk rfl rfl rfl <| .sk rfl rfl rfl <| .sk rfl rfl rfl <| .sk rfl rfl rfl <| .yy (ys_pickT (.t rfl) Ev.c) rfl <| .z) fun a w S => st_nil (then_normal (hK4 _ _ (st_then S (.t rfl) (wp_exit (then_exit (in_past rfl (then_exit (then_exit (in_here (then_normal (hK1 _ _ (wp_seq_k fun _ hK1 => wp_region_lit (run S (.mv rfl <| .mv rfl <| .as rfl <| .as rfl <| .z) fun a w S => st_nil ?_)))))))))))))))))))))))))))
        refine then_normal (hK1 _ _ (wp_ret (st_ret S (results2 S results13 (Rv.tmp rfl) (Rv.tmp rfl)) ?_)))
        exact ⟨_, _, rfl, S.wd.picks (by repeat (first | exact Picks.nil | (refine Picks.rest ?_; (repeat (first | exact List.Sublist.refl _ | refine List.Sublist.cons_cons _ ?_ | refine List.Sublist.cons _ ?_)); done) | refine Picks.take 0 rfl ?_ | refine Picks.take 1 rfl ?_ | refine Picks.take 2 rfl ?_ | refine Picks.take 3 rfl ?_ | refine Picks.take 4 rfl ?_ | refine Picks.take 5 rfl ?_ | refine Picks.take 6 rfl ?_ | refine Picks.take 7 rfl ?_ | refine Picks.take 8 rfl ?_ | refine Picks.take 9 rfl ?_ | refine Picks.take 10 rfl ?_ | refine Picks.take 11 rfl ?_)), _, _, _, _, st, up, _, _, rfl, rfl, by rw [hst, done], by rw [hup, done], hcs, hcu⟩
    · refine wp_seq_k fun _ hK2 => wp_region_lit (run S (.ge (by omega) rfl rfl <| .z) fun a w S => st_nil (then_normal (hK2 _ _ (wp_seq_k fun _ hK2 => st_else S (.t rfl) (wp_exit (then_exit (then_exit (in_here (then_normal (hK1 _ _ (wp_seq_k fun _ hK1 => wp_region_lit (run S (.mv rfl <| .mv rfl <| .as rfl <| .as rfl <| .z) fun a w S => st_nil (then_normal (hK1 _ _ (wp_ret (st_ret S (results2 S results13 (Rv.tmp rfl) (Rv.tmp rfl)) ?_))))))))))))))))
      exact ⟨_, _, rfl, S.wd.picks (by repeat (first | exact Picks.nil | (refine Picks.rest ?_; (repeat (first | exact List.Sublist.refl _ | refine List.Sublist.cons_cons _ ?_ | refine List.Sublist.cons _ ?_)); done) | refine Picks.take 0 rfl ?_ | refine Picks.take 1 rfl ?_ | refine Picks.take 2 rfl ?_ | refine Picks.take 3 rfl ?_ | refine Picks.take 4 rfl ?_ | refine Picks.take 5 rfl ?_ | refine Picks.take 6 rfl ?_ | refine Picks.take 7 rfl ?_ | refine Picks.take 8 rfl ?_ | refine Picks.take 9 rfl ?_ | refine Picks.take 10 rfl ?_ | refine Picks.take 11 rfl ?_)), _, _, _, _, st, up, _, _, rfl, rfl, by rw [hst, done], by rw [hup, done], hcs, hcu⟩
  obtain ⟨m1, m2, m3, m4, m5, m6⟩ := hmany.1 hlt
  obtain ⟨gA, oA, item, rfl, hitem, hdA, hcA⟩ := row_at hA m1
  obtain ⟨gB, oB, qv, rfl, hqv, hdB, hcB⟩ := row_at hB m3
  obtain ⟨gC, oC, pv, rfl, hpv, hdC, hcC⟩ := row_at hC m4
  obtain ⟨gD, oD, nv, rfl, hnv, hdD, hcD⟩ := row_at hD m5
  obtain ⟨gE, oE, sw, rfl, hsw, hdE, hcE⟩ := row_at hE m6
  refine wp_seq_k fun _ hK2 => wp_region_lit (run S (.lt (by omega) rfl rfl <| .z) fun a w S => st_nil (then_normal (hK2 _ _ (wp_seq_k fun _ hK2 => st_then S (.t rfl) (wp_skip (then_normal (hK2 _ _ (wp_seq_k fun _ hK2 => wp_block (wp_seq_k fun _ hK3 => wp_region_lit (run S (.mv rfl <| .ix underlying22 sizeOf9 (by omega) rfl rfl <| .yy (ys_ldO ⟨isAgg9, sizeOf9⟩ (.t rfl) (fun _ => hcA 0 _ rfl)) rfl <| .as rfl <| .as rfl <| .z) fun a w S => st_nil (then_normal (hK3 _ _ (wp_seq_k fun _ hK3 => wp_seq_k fun _ hK4 => wp_region_lit ?_)))))))))))))
  refine run S (.mv rfl <| .yy (ys_F (by omega) (ys_geq (.t rfl) Ev.c)) rfl <| .mv rfl <| .gy rfl rfl (ys_move (.t rfl)) <| .gy rfl rfl (ys_fieldN (FieldT.mk underlying26 rfl sizeOf23 rfl) (.t rfl) (i' := 1) rfl) <| .gy rfl rfl (ys_ld ⟨isAgg23, sizeOf23⟩ (.t rfl) (k := 4) rfl rfl) <| .gy rfl rfl (ys_lenS underlying23 (.t rfl)) <| .gy rfl rfl (ys_F (by omega) (ys_geq (.t rfl) (.t rfl))) <| .yy (ys_pickF (.t rfl) (.t rfl)) rfl <| .mv rfl <| .gy rfl rfl (ys_move (.t rfl)) <| .gy rfl rfl (ys_fieldN (FieldT.mk underlying26 rfl sizeOf24 rfl) (.t rfl) (i' := 2) rfl) <| .gy rfl rfl (ys_ld ⟨isAgg24, sizeOf24⟩ (.t rfl) (k := 4) rfl rfl) <| .gy rfl rfl (ys_lenS underlying24 (.t rfl)) <| .gy rfl rfl (ys_F (by omega) (ys_geq (.t rfl) (.t rfl))) <| .yy (ys_pickF (.t rfl) (.t rfl)) rfl <| .mv rfl <| .gy rfl rfl (ys_move (.t rfl)) <| .gy rfl rfl (ys_fieldN (FieldT.mk underlying26 rfl sizeOf23 rfl) (.t rfl) (i' := 3) rfl) <| .gy rfl rfl (ys_ld ⟨isAgg23, sizeOf23⟩ (.t rfl) (k := 4) rfl rfl) <| .gy rfl rfl (ys_lenS underlying23 (.t rfl)) <| .gy rfl rfl (ys_F (by omega) (ys_geq (.t rfl) (.t rfl))) <| .yy (ys_pickF (.t rfl) (.t rfl)) rfl <| .mv rfl <| .gy rfl rfl (ys_move (.t rfl)) <| .gy rfl rfl (ys_fieldN (FieldT.mk underlying26 rfl sizeOf24 rfl) (.t rfl) (i' := 4) rfl) <| .gy rfl rfl (ys_ld ⟨isAgg24, sizeOf24⟩ (.t rfl) (k := 4) rfl rfl) <| .gy rfl rfl (ys_lenS underlying24 (.t rfl)) <| .gy rfl rfl (ys_F (by omega) (ys_geq (.t rfl) (.t rfl))) <| .yy (ys_pickF (.t rfl) (.t rfl)) rfl <| .z) fun a w S => ?_
  refine st_nil (then_normal (hK4 _ _ (st_else S (.t rfl) (wp_skip (then_normal (hK3 _ _ (wp_seq_k fun _ hK3 => wp_region_lit (st_m (op_alloc S zeroValue39 (cs := _) rfl rfl fun g3 a w S => st_nil (then_normal (hK3 _ _ (wp_seq_k fun _ hK3 => wp_seq_k fun _ hK4 => wp_region_lit (run S (.mv rfl <| .ln underlying29 rfl <| .mc rfl <| .z) fun a w S => st_nil (then_normal (hK4 _ _ (wp_block ?_))))))))))))))))
  refine st_loopM (((S.nil_ 58 3 Dot.enc none).nil_ 122 3 Dot.enc none).nil_ 71 6 Ent.enc none) [58] (X := Nat × Option Addr × Nat × Option Addr × Nat × Option Addr × Nat) (fun q => [(58, true, .int .i64 (q.1 : Int))])
    (fun q => [rowOf 71 6 Ent.enc q.2.1 q.2.2.1 (pickTo (st.map (·.1)) sw q.1).ents, rowOf 122 3 Dot.enc q.2.2.2.1 q.2.2.2.2.1 (pickTo (st.map (·.1)) sw q.1).ctx.marks, rowOf 58 3 Dot.enc q.2.2.2.2.2.1 q.2.2.2.2.2.2 (pickTo (st.map (·.1)) sw q.1).ctx.cloud, .blk g3 (.cells #[.slice q.2.1 (pickTo (st.map (·.1)) sw q.1).ents.length q.2.2.1, .slice q.2.2.2.1 (pickTo (st.map (·.1)) sw q.1).ctx.marks.length q.2.2.2.2.1, .slice q.2.2.2.2.2.1 (pickTo (st.map (·.1)) sw q.1).ctx.cloud.length q.2.2.2.2.2.2] 39), rowOf 39 3 SCart.enc F cF st, rowOf 60 10 SUpd.enc G cG up, .ice w1 bs, .blk g2 (.cells (ctL (playTo h i).ct).toArray 86), .blk g1 (.cells #[.slice (some ⟨gA, oA, none⟩) h.items.length cap, .slice (some ⟨gB, oB, none⟩) h.qtys.length capB, .slice (some ⟨gC, oC, none⟩) h.prices.length capC, .slice (some ⟨gD, oD, none⟩) h.nodes.length capD, .slice (some ⟨gE, oE, none⟩) h.saws.length capE] 26)])
    (fun q => q.1 ≤ st.length) (fun q => st.length - q.1) (0, none, 0, none, 0, none, 0) (Nat.zero_le _) (by repeat (first | exact Fits.nil | refine Fits.skip rfl ?_ | refine Fits.cons rfl ?_)) (by repeat (first | exact Picks.nil | (refine Picks.rest ?_; (repeat (first | exact List.Sublist.refl _ | refine List.Sublist.cons_cons _ ?_ | refine List.Sublist.cons _ ?_)); done) | refine Picks.take 0 rfl ?_ | refine Picks.take 1 rfl ?_ | refine Picks.take 2 rfl ?_ | refine Picks.take 3 rfl ?_ | refine Picks.take 4 rfl ?_ | refine Picks.take 5 rfl ?_ | refine Picks.take 6 rfl ?_ | refine Picks.take 7 rfl ?_ | refine Picks.take 8 rfl ?_ | refine Picks.take 9 rfl ?_ | refine Picks.take 10 rfl ?_ | refine Picks.take 11 rfl ?_)) ?_
  clear S
  rintro ⟨k, A1, r1, A2, r2, A3, r3⟩ a w hk S
  dsimp only at hk S
  by_cases hkl : k < st.length
  · obtain ⟨q, hq⟩ : ∃ q, st[k]? = some q := ⟨st[k], List.getElem?_eq_getElem hkl⟩
    have hF := (S.wd.room (k := 4) rfl).1
    obtain ⟨gF, rfl⟩ := S.wd.row_at (k := 4) rfl (by omega)
    obtain ⟨hq1, hq2, hq3⟩ := hcs q (List.mem_of_getElem? hq)
    have hnx : pickTo (st.map (·.1)) sw (k + 1) = pickF (pickTo (st.map (·.1)) sw k) q.1 (bitU sw k) := pick_next (by rw [List.getElem?_map, hq]; rfl)
    have hb0 := bit_and sw k
    cases hb : bitU sw k with
    | false =>
      have rw_b := hb0.trans hb
      have e : pickTo (st.map (·.1)) sw (k + 1) = pickTo (st.map (·.1)) sw k := by rw [hnx, hb]; rfl
      refine wp_seq_k fun _ hK4 => wp_region_lit (run S (.lt (by omega) rfl rfl <| .z) fun a w S => st_nil (then_normal (hK4 _ _ (wp_seq_k fun _ hK4 => st_then S (.t rfl) (wp_skip (then_normal (hK4 _ _ (wp_seq_k fun _ hK4 => wp_block (wp_seq_k fun _ hK5 => wp_region_lit (run S (.mv rfl <| .ix underlying29 sizeOf39 (by omega) rfl rfl <| .yy (ys_ldWA ⟨isAgg39, sizeOf39⟩ (.t rfl) (k := 4) rfl hq (fun _ => rfl)) rfl <| .z) fun a w S => st_m (op_alloc S zeroValue39 (cs := _) rfl rfl fun g4 a w S => run S (.as rfl <| .z) fun a w S => st_m (op_stW S sizeOf39 (.t rfl) (.t rfl) (k := 0) rfl rfl rfl (by simp [Value.oneCell']) fun a w S => st_nil (then_normal (hK5 _ _ (wp_seq_k fun _ hK5 => wp_region_lit (run S (.fa underlying26 sizeOf24 4 rfl rfl rfl <| .ld gt24 9 rfl rfl rfl <| .mv rfl <| .ix underlying24 sizeOf27 (by omega) rfl rfl <| .yy (ys_ldO ⟨isAgg27, sizeOf27⟩ (.t rfl) (fun _ => hcE 0 _ rfl)) rfl <| .mv rfl <| .yy (ys_shr (.t rfl) (.t rfl) (Nat.ble_eq_true_of_le (by show _ ≤ 64; omega))) rfl <| .yy (ys_band (.t rfl) Ev.c) rfl <| .yy (ys_eql (.t rfl) Ev.c) rfl <| .z) fun a w S => ?_))))))))))))))))
      rw [rw_b] at S
      refine st_nil (then_normal (hK5 _ _ (st_else S (.t rfl) (wp_skip (in_normal (then_normal (hK4 _ _ (wp_region_lit (run S (.ad (by unfold I64; omega) rfl <| .mv rfl <| .z) fun a w S => st_nil (then_normal ?_))))))))))
      exact ⟨(k + 1, A1, r1, A2, r2, A3, r3), by dsimp only; omega, by dsimp only; omega, by dsimp only; rw [e]; exact S.picks (by repeat (first | exact Fits.nil | refine Fits.skip rfl ?_ | refine Fits.cons rfl ?_)) (by repeat (first | exact Picks.nil | (refine Picks.rest ?_; (repeat (first | exact List.Sublist.refl _ | refine List.Sublist.cons_cons _ ?_ | refine List.Sublist.cons _ ?_)); done) | refine Picks.take 0 rfl ?_ | refine Picks.take 1 rfl ?_ | refine Picks.take 2 rfl ?_ | refine Picks.take 3 rfl ?_ | refine Picks.take 4 rfl ?_ | refine Picks.take 5 rfl ?_ | refine Picks.take 6 rfl ?_ | refine Picks.take 7 rfl ?_ | refine Picks.take 8 rfl ?_ | refine Picks.take 9 rfl ?_ | refine Picks.take 10 rfl ?_ | refine Picks.take 11 rfl ?_))⟩
    | true =>
      have rw_b := hb0.trans hb
      by_cases hj : (joinK (pickTo (st.map (·.1)) sw k) q.1).2 = 0
      · have e : pickTo (st.map (·.1)) sw (k + 1) = (joinK (pickTo (st.map (·.1)) sw k) q.1).1 := by rw [hnx, hb]; unfold pickF; rw [if_pos rfl, if_pos hj]
        have rw_j := decide_eq_true hj
        refine wp_seq_k fun _ hK4 => wp_region_lit (run S (.lt (by omega) rfl rfl <| .z) fun a w S => st_nil (then_normal (hK4 _ _ (wp_seq_k fun _ hK4 => st_then S (.t rfl) (wp_skip (then_normal (hK4 _ _ (wp_seq_k fun _ hK4 => wp_block (wp_seq_k fun _ hK5 => wp_region_lit (run S (.mv rfl <| .ix underlying29 sizeOf39 (by omega) rfl rfl <| .yy (ys_ldWA ⟨isAgg39, sizeOf39⟩ (.t rfl) (k := 4) rfl hq (fun _ => rfl)) rfl <| .z) fun a w S => st_m (op_alloc S zeroValue39 (cs := _) rfl rfl fun g4 a w S => run S (.as rfl <| .z) fun a w S => st_m (op_stW S sizeOf39 (.t rfl) (.t rfl) (k := 0) rfl rfl rfl (by simp [Value.oneCell']) fun a w S => st_nil (then_normal (hK5 _ _ (wp_seq_k fun _ hK5 => wp_region_lit (run S (.fa underlying26 sizeOf24 4 rfl rfl rfl <| .ld gt24 9 rfl rfl rfl <| .mv rfl <| .ix underlying24 sizeOf27 (by omega) rfl rfl <| .yy (ys_ldO ⟨isAgg27, sizeOf27⟩ (.t rfl) (fun _ => hcE 0 _ rfl)) rfl <| .mv rfl <| .yy (ys_shr (.t rfl) (.t rfl) (Nat.ble_eq_true_of_le (by show _ ≤ 64; omega))) rfl <| .yy (ys_band (.t rfl) Ev.c) rfl <| .yy (ys_eql (.t rfl) Ev.c) rfl <| .z) fun a w S => ?_))))))))))))))))
        rw [rw_b] at S
        refine st_nil (then_normal (hK5 _ _ (st_then S (.t rfl) (wp_seq_k fun _ hK5 => wp_region_lit (run S (.la gt39 4 rfl rfl rfl <| .la gt39 0 rfl rfl rfl <| .z) fun a w S => ?_)))))
        (refine st_m (op_calls S call34 (.cons (.t rfl) (.cons (.t rfl) .nil)) (c34 _ _ _ _ _ _ _ _ _ (by exact Sl.of_own S.wd (k := 1) rfl (fun _ => rfl)) (by exact ⟨(by exact Sl.of_own S.wd (k := 2) rfl (fun _ => rfl)), (by exact Sl.of_own S.wd (k := 3) rfl (fun _ => rfl))⟩) (by exact SlIn.sl (by assumption) S.wd (k := 7) rfl) (by exact ⟨(by exact SlIn.sl (by assumption) S.wd (k := 7) rfl), (by exact SlIn.sl (by assumption) S.wd (k := 7) rfl)⟩)) rfl ?_); clear S a w; rintro _ _ ⟨A11, r11, A21, r21, A31, r31, rfl, rfl⟩ a w S)
        simp only [List.nil_append] at S
        refine run S (.mv rfl <| .ex rfl rfl <| .ex rfl rfl <| .z) fun a w S => st_m (op_alloc S zeroValue39 (cs := _) rfl rfl fun g5 a w S => st_m (op_stW S sizeOf39 (.t rfl) (.t rfl) (k := 0) rfl rfl rfl (by simp [Value.oneCell']) fun a w S => run S (.as rfl <| .z) fun a w S => st_nil (then_normal (hK5 _ _ (wp_seq_k fun _ hK5 => wp_region_lit (run S (.mv rfl <| .yy (ys_T (by omega) (ys_eql (.t rfl) Ev.c)) rfl <| .z) fun a w S => st_nil (then_normal (hK5 _ _ (st_then S (.t rfl) (wp_region_lit (run S (.la gt39 0 rfl rfl rfl <| .z) fun a w S => st_m (op_stW S sizeOf39 (.t rfl) (.t rfl) (k := 8) rfl rfl rfl (by simp [Value.oneCell']) fun a w S => st_nil (in_normal (then_normal (hK4 _ _ (wp_region_lit (run S (.ad (by unfold I64; omega) rfl <| .mv rfl <| .z) fun a w S => st_nil (then_normal ?_))))))))))))))))))
        exact ⟨(k + 1, A11, r11, A21, r21, A31, r31), by dsimp only; omega, by dsimp only; omega, by dsimp only; rw [e]; exact S.picks (by repeat (first | exact Fits.nil | refine Fits.skip rfl ?_ | refine Fits.cons rfl ?_)) (by repeat (first | exact Picks.nil | (refine Picks.rest ?_; (repeat (first | exact List.Sublist.refl _ | refine List.Sublist.cons_cons _ ?_ | refine List.Sublist.cons _ ?_)); done) | refine Picks.take 0 rfl ?_ | refine Picks.take 1 rfl ?_ | refine Picks.take 2 rfl ?_ | refine Picks.take 3 rfl ?_ | refine Picks.take 4 rfl ?_ | refine Picks.take 5 rfl ?_ | refine Picks.take 6 rfl ?_ | refine Picks.take 7 rfl ?_ | refine Picks.take 8 rfl ?_ | refine Picks.take 9 rfl ?_ | refine Picks.take 10 rfl ?_ | refine Picks.take 11 rfl ?_))⟩
      · have e : pickTo (st.map (·.1)) sw (k + 1) = pickTo (st.map (·.1)) sw k := by rw [hnx, hb]; unfold pickF; rw [if_pos rfl, if_neg hj]
        have rw_j := decide_eq_false hj
        refine wp_seq_k fun _ hK4 => wp_region_lit (run S (.lt (by omega) rfl rfl <| .z) fun a w S => st_nil (then_normal (hK4 _ _ (wp_seq_k fun _ hK4 => st_then S (.t rfl) (wp_skip (then_normal (hK4 _ _ (wp_seq_k fun _ hK4 => wp_block (wp_seq_k fun _ hK5 => wp_region_lit (run S (.mv rfl <| .ix underlying29 sizeOf39 (by omega) rfl rfl <| .yy (ys_ldWA ⟨isAgg39, sizeOf39⟩ (.t rfl) (k := 4) rfl hq (fun _ => rfl)) rfl <| .z) fun a w S => st_m (op_alloc S zeroValue39 (cs := _) rfl rfl fun g4 a w S => run S (.as rfl <| .z) fun a w S => st_m (op_stW S sizeOf39 (.t rfl) (.t rfl) (k := 0) rfl rfl rfl (by simp [Value.oneCell']) fun a w S => st_nil (then_normal (hK5 _ _ (wp_seq_k fun _ hK5 => wp_region_lit (run S (.fa underlying26 sizeOf24 4 rfl rfl rfl <| .ld gt24 9 rfl rfl rfl <| .mv rfl <| .ix underlying24 sizeOf27 (by omega) rfl rfl <| .yy (ys_ldO ⟨isAgg27, sizeOf27⟩ (.t rfl) (fun _ => hcE 0 _ rfl)) rfl <| .mv rfl <| .yy (ys_shr (.t rfl) (.t rfl) (Nat.ble_eq_true_of_le (by show _ ≤ 64; omega))) rfl <| .yy (ys_band (.t rfl) Ev.c) rfl <| .yy (ys_eql (.t rfl) Ev.c) rfl <| .z) fun a w S => ?_))))))))))))))))
        rw [rw_b] at S
        refine st_nil (then_normal (hK5 _ _ (st_then S (.t rfl) (wp_seq_k fun _ hK5 => wp_region_lit (run S (.la gt39 4 rfl rfl rfl <| .la gt39 0 rfl rfl rfl <| .z) fun a w S => ?_)))))
        (refine st_m (op_calls S call34 (.cons (.t rfl) (.cons (.t rfl) .nil)) (c34 _ _ _ _ _ _ _ _ _ (by exact Sl.of_own S.wd (k := 1) rfl (fun _ => rfl)) (by exact ⟨(by exact Sl.of_own S.wd (k := 2) rfl (fun _ => rfl)), (by exact Sl.of_own S.wd (k := 3) rfl (fun _ => rfl))⟩) (by exact SlIn.sl (by assumption) S.wd (k := 7) rfl) (by exact ⟨(by exact SlIn.sl (by assumption) S.wd (k := 7) rfl), (by exact SlIn.sl (by assumption) S.wd (k := 7) rfl)⟩)) rfl ?_); clear S a w; rintro _ _ ⟨A11, r11, A21, r21, A31, r31, rfl, rfl⟩ a w S)
        simp only [List.nil_append] at S
        refine run S (.mv rfl <| .ex rfl rfl <| .ex rfl rfl <| .z) fun a w S => st_m (op_alloc S zeroValue39 (cs := _) rfl rfl fun g5 a w S => st_m (op_stW S sizeOf39 (.t rfl) (.t rfl) (k := 0) rfl rfl rfl (by simp [Value.oneCell']) fun a w S => run S (.as rfl <| .z) fun a w S => st_nil (then_normal (hK5 _ _ (wp_seq_k fun _ hK5 => wp_region_lit (run S (.mv rfl <| .yy (ys_F (by omega) (ys_eql (.t rfl) Ev.c)) rfl <| .z) fun a w S => st_nil (then_normal (hK5 _ _ (st_else S (.t rfl) (wp_skip (in_normal (then_normal (hK4 _ _ (wp_region_lit (run S (.ad (by unfold I64; omega) rfl <| .mv rfl <| .z) fun a w S => st_nil (then_normal ?_))))))))))))))))
        exact ⟨(k + 1, A1, r1, A2, r2, A3, r3), by dsimp only; omega, by dsimp only; omega, by dsimp only; rw [e]; exact S.picks (by repeat (first | exact Fits.nil | refine Fits.skip rfl ?_ | refine Fits.cons rfl ?_)) (by repeat (first | exact Picks.nil | (refine Picks.rest ?_; (repeat (first | exact List.Sublist.refl _ | refine List.Sublist.cons_cons _ ?_ | refine List.Sublist.cons _ ?_)); done) | refine Picks.take 0 rfl ?_ | refine Picks.take 1 rfl ?_ | refine Picks.take 2 rfl ?_ | refine Picks.take 3 rfl ?_ | refine Picks.take 4 rfl ?_ | refine Picks.take 5 rfl ?_ | refine Picks.take 6 rfl ?_ | refine Picks.take 7 rfl ?_ | refine Picks.take 8 rfl ?_ | refine Picks.take 9 rfl ?_ | refine Picks.take 10 rfl ?_ | refine Picks.take 11 rfl ?_))⟩
  obtain rfl : k = st.length := by omega
  have ep : pickTo (st.map (·.1)) sw st.length = pickK (playTo h i).st sw := by rw [← hst]; unfold pickK; rw [List.length_map]
  rw [ep] at S
  clear hkl hk
  have hpl : (pickK (playTo h i).st sw).ents.length ≤ 1048576 ∧ (pickK (playTo h i).st sw).ctx.marks.length ≤ 1048576 ∧ (pickK (playTo h i).st sw).ctx.cloud.length ≤ 1048576 := pick_len (playTo h i).st sw (playTo h i).st.length
  have rw_n := node_val nv
  have hnp := nodeP_lt nv
  generalize hCT : (playTo h i).ct = ct at S hct
  have hcx := ctL_get (l := ct) (n := nodeP nv) (by omega)
  have hcb := play_ct h i (nodeP nv)
  rw [hCT] at hcb
  generalize hX : ct.getD (nodeP nv) 0 = x at hcx hcb
  have rw_s := ctL_set ct (nodeP nv) (x + 1)
  have hcy := ctL_get (l := ct.set (nodeP nv) (x + 1)) (n := nodeP nv) (by rw [List.length_set]; omega)
  have ey : (ct.set (nodeP nv) (x + 1)).getD (nodeP nv) 0 = x + 1 := by rw [List.getD_eq_getElem?_getD, List.getElem?_set_self (by omega)]; rfl
  rw [ey] at hcy
  have hcl2 : (ct.set (nodeP nv) (x + 1)).length = 8 := by rw [List.length_set]; exact hct
  have rw_n2 : IntKind.i64.wrap ((nodeP nv : Int).tmod 2) = ((nodeP nv % 2 : Nat) : Int) := by
    rw [Int.tmod_eq_emod_of_nonneg (by omega), IntKind.wrap_i64]; omega
  refine wp_seq_k fun _ hK4 => wp_region_lit (run S (.ge (by omega) rfl rfl <| .z) fun a w S => st_nil (then_normal (hK4 _ _ (wp_seq_k fun _ hK4 => st_else S (.t rfl) (wp_exit (then_exit (then_exit (in_here (then_normal (hK3 _ _ (wp_seq_k fun _ hK3 => wp_region_lit (run S (.fa underlying26 sizeOf23 3 rfl rfl rfl <| .ld gt23 8 rfl rfl rfl <| .mv rfl <| .ix underlying23 sizeOf3 (by omega) rfl rfl <| .yy (ys_ldO ⟨isAgg3, sizeOf3⟩ (.t rfl) (fun _ => hcD 0 _ rfl)) rfl <| .yy (ys_cv underlying3 underlying87 (.t rfl)) rfl <| .yy (ys_rem (.t rfl) Ev.c (fun _ => by omega)) rfl <| .yy (ys_cv underlying87 underlying3 (.t rfl)) rfl <| .z) fun a w S => ?_))))))))))))
  rw [rw_n] at S
  refine run S (.as rfl <| .z) fun a w S => st_nil (then_normal (hK3 _ _ (wp_seq_k fun _ hK3 => wp_region_lit (run S (.mv rfl <| .yy (ys_ixA underlying86 sizeOf3 (.t rfl) (.t rfl) (fun _ => by omega)) rfl <| .yy (ys_ldN ⟨isAgg3, sizeOf3⟩ (.t rfl) (k := 7) rfl (fun _ => by assumption)) rfl <| .ad (by unfold I64; omega) rfl <| .yy (ys_ixA underlying86 sizeOf3 (.t rfl) (.t rfl) (fun _ => by omega)) rfl <| .z) fun a w S => st_m (op_st S sizeOf3 (.t rfl) (.t rfl) (k := 7) rfl rfl (by rw [Go.Fw.ctL_len]; omega) fun a w S => ?_)))))
  rw [rw_s] at S
  refine st_nil (then_normal (hK3 _ _ (wp_seq_k fun _ hK3 => h_begin0 S (by kernel_rfl) fun a w S => h_y (i := 0) S (by repeat (first | exact List.Sublist.refl _ | exact List.nil_sublist _ | refine .cons_cons _ ?_ | refine .cons _ ?_)) rfl (by kernel_rfl) (by kernel_rfl) (by kernel_rfl) (fun _ _ _ _ h => h) (ys_move (.t rfl)) rfl fun a w S => h_y (i := 1) S (by repeat (first | exact List.Sublist.refl _ | exact List.nil_sublist _ | refine .cons_cons _ ?_ | refine .cons _ ?_)) rfl (by kernel_rfl) (by kernel_rfl) (by kernel_rfl) (fun _ _ _ _ h => h) (ys_move (.t rfl)) rfl fun a w S => h_y (i := 2) S (by repeat (first | exact List.Sublist.refl _ | exact List.nil_sublist _ | refine .cons_cons _ ?_ | refine .cons _ ?_)) rfl (by kernel_rfl) (by kernel_rfl) (by kernel_rfl) (fun _ _ _ _ h => h) (ys_remE (.t rfl) Ev.c (fun _ => by omega)) rfl fun a w S => h_y (i := 3) S (by repeat (first | exact List.Sublist.refl _ | exact List.nil_sublist _ | refine .cons_cons _ ?_ | refine .cons _ ?_)) rfl (by kernel_rfl) (by kernel_rfl) (by kernel_rfl) (fun _ _ _ _ h => h) (ys_addI Ev.c (.t rfl) (fun _ => by unfold I64; omega)) rfl fun a w S => h_y (i := 4) S (by repeat (first | exact List.Sublist.refl _ | exact List.nil_sublist _ | refine .cons_cons _ ?_ | refine .cons _ ?_)) rfl (by kernel_rfl) (by kernel_rfl) (by kernel_rfl) (fun _ _ _ _ h => h) (ys_move (.t rfl)) rfl fun a w S => ?_)))
  refine h_y (i := 5) S (by repeat (first | exact List.Sublist.refl _ | exact List.nil_sublist _ | refine .cons_cons _ ?_ | refine .cons _ ?_)) rfl (by kernel_rfl) (by kernel_rfl) (by kernel_rfl) (fun _ _ _ _ h => h) (ys_ixA underlying86 sizeOf3 (.t rfl) (.t rfl) (fun _ => by omega)) rfl fun a w S => h_y (i := 6) S (by repeat (first | exact List.Sublist.refl _ | exact List.nil_sublist _ | refine .cons_cons _ ?_ | refine .cons _ ?_)) rfl (by kernel_rfl) (by kernel_rfl) (by kernel_rfl) (fun _ _ _ _ h => h) (ys_ldN ⟨isAgg3, sizeOf3⟩ (.t rfl) (k := 7) rfl (fun _ => by assumption)) rfl fun a w S => h_y (i := 7) S (by repeat (first | exact List.Sublist.refl _ | exact List.nil_sublist _ | refine .cons_cons _ ?_ | refine .cons _ ?_)) rfl (by kernel_rfl) (by kernel_rfl) (by kernel_rfl) (fun _ _ _ _ h => h) (ys_bld (ps := [(0, Go.Operand.tmp 95), (1, Go.Operand.tmp 98), (2, Go.Operand.tmp 101)]) (us := [_, _, _]) bld58 (.cons (.t rfl) (.cons (.t rfl) (.cons (.t rfl) .nil))) rfl) rfl fun a w S => h_y (i := 8) S (by repeat (first | exact List.Sublist.refl _ | exact List.nil_sublist _ | refine .cons_cons _ ?_ | refine .cons _ ?_)) rfl (by kernel_rfl) (by kernel_rfl) (by kernel_rfl) (fun _ _ _ _ h => h) (ys_move (.t rfl)) rfl fun a w S => ?_
  refine h_y (i := 9) S (by repeat (first | exact List.Sublist.refl _ | exact List.nil_sublist _ | refine .cons_cons _ ?_ | refine .cons _ ?_)) rfl (by kernel_rfl) (by kernel_rfl) (by kernel_rfl) (fun _ _ _ _ h => h) (ys_fieldN (FieldT.mk underlying26 rfl sizeOf23 rfl) (.t rfl) (i' := 1) rfl) rfl fun a w S => h_y (i := 10) S (by repeat (first | exact List.Sublist.refl _ | exact List.nil_sublist _ | refine .cons_cons _ ?_ | refine .cons _ ?_)) rfl (by kernel_rfl) (by kernel_rfl) (by kernel_rfl) (fun _ _ _ _ h => h) (ys_ld ⟨isAgg23, sizeOf23⟩ (.t rfl) (k := 8) rfl rfl) rfl fun a w S => h_y (i := 11) S (by repeat (first | exact List.Sublist.refl _ | exact List.nil_sublist _ | refine .cons_cons _ ?_ | refine .cons _ ?_)) rfl (by kernel_rfl) (by kernel_rfl) (by kernel_rfl) (fun _ _ _ _ h => h) (ys_move (.t rfl)) rfl fun a w S => h_y (i := 12) S (by repeat (first | exact List.Sublist.refl _ | exact List.nil_sublist _ | refine .cons_cons _ ?_ | refine .cons _ ?_)) rfl (by kernel_rfl) (by kernel_rfl) (by kernel_rfl) (fun _ _ _ _ h => h) (ys_ixS underlying23 sizeOf3 (.t rfl) (.t rfl) (fun _ => by omega)) rfl fun a w S => h_y (i := 13) S (by repeat (first | exact List.Sublist.refl _ | exact List.nil_sublist _ | refine .cons_cons _ ?_ | refine .cons _ ?_)) rfl (by kernel_rfl) (by kernel_rfl) (by kernel_rfl) (fun _ _ _ _ h => h) (ys_ldO ⟨isAgg3, sizeOf3⟩ (.t rfl) (fun _ => hcB 0 _ rfl)) rfl fun a w S => ?_
  refine h_y (i := 14) S (by repeat (first | exact List.Sublist.refl _ | exact List.nil_sublist _ | refine .cons_cons _ ?_ | refine .cons _ ?_)) rfl (by kernel_rfl) (by kernel_rfl) (by kernel_rfl) (fun _ _ _ _ h => h) (ys_fieldN (FieldT.mk underlying26 rfl sizeOf24 rfl) (.t rfl) (i' := 2) rfl) rfl fun a w S => h_y (i := 15) S (by repeat (first | exact List.Sublist.refl _ | exact List.nil_sublist _ | refine .cons_cons _ ?_ | refine .cons _ ?_)) rfl (by kernel_rfl) (by kernel_rfl) (by kernel_rfl) (fun _ _ _ _ h => h) (ys_ld ⟨isAgg24, sizeOf24⟩ (.t rfl) (k := 8) rfl rfl) rfl fun a w S => h_y (i := 16) S (by repeat (first | exact List.Sublist.refl _ | exact List.nil_sublist _ | refine .cons_cons _ ?_ | refine .cons _ ?_)) rfl (by kernel_rfl) (by kernel_rfl) (by kernel_rfl) (fun _ _ _ _ h => h) (ys_move (.t rfl)) rfl fun a w S => h_y (i := 17) S (by repeat (first | exact List.Sublist.refl _ | exact List.nil_sublist _ | refine .cons_cons _ ?_ | refine .cons _ ?_)) rfl (by kernel_rfl) (by kernel_rfl) (by kernel_rfl) (fun _ _ _ _ h => h) (ys_ixS underlying24 sizeOf27 (.t rfl) (.t rfl) (fun _ => by omega)) rfl fun a w S => h_y (i := 18) S (by repeat (first | exact List.Sublist.refl _ | exact List.nil_sublist _ | refine .cons_cons _ ?_ | refine .cons _ ?_)) rfl (by kernel_rfl) (by kernel_rfl) (by kernel_rfl) (fun _ _ _ _ h => h) (ys_ldO ⟨isAgg27, sizeOf27⟩ (.t rfl) (fun _ => hcC 0 _ rfl)) rfl fun a w S => ?_
  refine h_y (i := 19) S (by repeat (first | exact List.Sublist.refl _ | exact List.nil_sublist _ | refine .cons_cons _ ?_ | refine .cons _ ?_)) rfl (by kernel_rfl) (by kernel_rfl) (by kernel_rfl) (fun _ _ _ _ h => h) (ys_ldA ⟨isAgg39, sizeOf39⟩ (.t rfl) (k := 3) rfl rfl) rfl fun a w S => h_y (i := 20) S (by repeat (first | exact List.Sublist.refl _ | exact List.nil_sublist _ | refine .cons_cons _ ?_ | refine .cons _ ?_)) rfl (by kernel_rfl) (by kernel_rfl) (by kernel_rfl) (fun _ _ _ _ h => h) (ys_bld (ps := [(0, _), (1, Go.Operand.tmp 102), (2, Go.Operand.tmp 103), (3, Go.Operand.tmp 108), (4, Go.Operand.tmp 113), (5, Go.Operand.tmp 114)]) (us := [_, _, _, _, _, _, _, _, _, _]) bld60 (.cons Ev.c (.cons (.t rfl) (.cons (.t rfl) (.cons (.t rfl) (.cons (.t rfl) (.cons (.t rfl) .nil)))))) rfl) rfl fun a w S => ?_
  (refine h_m (i := 21) rfl (by kernel_rfl) (op_alloc S zeroValue60 (cs := _) rfl rfl ?_); clear S a w; intro g4 a w S; refine h_on S _ (List.Sublist.refl _) (by repeat (first | exact List.Sublist.refl _ | exact List.nil_sublist _ | refine .cons_cons _ ?_ | refine .cons _ ?_)) ?_)
  (refine h_m0 (i := 22) rfl (by kernel_rfl) (op_stW S sizeOf60 (.t rfl) (.t rfl) (k := 0) rfl rfl rfl (by simp [Value.oneCell']) ?_); clear S a w; intro a w S; refine h_on S _ (List.Sublist.refl _) (by repeat (first | exact List.Sublist.refl _ | exact List.nil_sublist _ | refine .cons_cons _ ?_ | refine .cons _ ?_)) ?_)
  refine h_done (by kernel_rfl) (then_normal (hK3 _ _ (wp_seq_k fun _ hK3 => wp_seq_k fun _ hK5 => wp_region_lit ?_)))
  by_cases hq : qv ≤ 0
  · have rw_q : decide (qv ≤ 0) = true := decide_eq_true hq
    generalize hU : (⟨[107], ⟨(nodeP nv : Int), 1 + (nodeP nv : Int) % 2, x + 1⟩, item, 0, 0, pickK (playTo h i).st sw⟩ : Upd) = U
    have hst2 : stepU (playTo h i) item qv pv nv sw = U := by
      rw [← hU]
      unfold stepU
      rw [if_pos hq, if_pos hq, hCT, hX]
      congr 2
    refine run S (.fa underlying60 sizeOf3 5 rfl rfl rfl <| .ld gt3 0 rfl rfl rfl <| .yy (ys_T (by omega) (ys_leq (.t rfl) Ev.c)) rfl <| .z) fun a w S => st_nil (then_normal (hK5 _ _ (st_then S (.t rfl) (wp_region_lit (run S (.fa underlying60 sizeOf3 5 rfl rfl rfl <| .z) fun a w S => st_m (op_st S sizeOf3 (.t rfl) Ev.c (k := 0) rfl rfl (by simp) fun a w S => run S (.fa underlying60 sizeOf27 6 rfl rfl rfl <| .z) fun a w S => st_m (op_st S sizeOf27 (.t rfl) Ev.c (k := 0) rfl rfl (by simp) fun a w S => st_nil (then_normal (hK3 _ _ (wp_seq_k fun _ hK3 => wp_region_lit (run S (.la gt60 0 rfl rfl rfl <| .z) fun a w S => ?_)))))))))))
    simp only [List.set_cons_succ, List.set_cons_zero] at S
    have hse : pickK (playTo h i).st sw = U.seen := by rw [← hU]
    rw [hse] at S hpl
    have huu : #[Value.string ⟨#[107]⟩, .int .i64 (nodeP nv : Int), .int .i64 (1 + (nodeP nv : Int) % 2), .int .i64 (x + 1), .string (Fw.bs item), .int .i64 0, .int .u64 0, .slice A1 U.seen.ents.length r1, .slice A2 U.seen.ctx.marks.length r2, .slice A3 U.seen.ctx.cloud.length r3] = (Upd.enc U (.slice A1 U.seen.ents.length r1) (.slice A2 U.seen.ctx.marks.length r2) (.slice A3 U.seen.ctx.cloud.length r3)).toArray := by subst hU; rfl
    rw [huu] at S
    have hnx : playTo h (i + 1) = stepP (playTo h i) U nv := by
      rw [playTo, List.getD_eq_getElem?_getD, hitem, List.getD_eq_getElem?_getD, hqv, List.getD_eq_getElem?_getD, hpv, List.getD_eq_getElem?_getD, hnv, List.getD_eq_getElem?_getD, hsw]
      show stepP (playTo h i) (stepU (playTo h i) item qv pv nv sw) nv = _
      rw [hst2]
    by_cases ha : (applyU U).2 = 0
    · have rw_a := ha
      (refine st_m (op_calls S call30 (.cons (.t rfl) .nil) (c30 _ _ _ _ _ (by exact Sl.of_own S.wd (k := 1) rfl (fun _ => rfl)) (by exact ⟨(by exact Sl.of_own S.wd (k := 2) rfl (fun _ => rfl)), (by exact Sl.of_own S.wd (k := 3) rfl (fun _ => rfl))⟩)) rfl ?_); clear S a w; rintro _ _ ⟨A11, r11, A21, r21, A31, r31, rfl, rfl⟩ a w S)
      rw [rw_a] at S
      refine run S (.mv rfl <| .ex rfl rfl <| .ex rfl rfl <| .z) fun a w S => st_m (op_alloc S zeroValue39 (cs := _) rfl rfl fun g5 a w S => st_m (op_stW S sizeOf39 (.t rfl) (.t rfl) (k := 0) rfl rfl rfl (by simp [Value.oneCell']) fun a w S => run S (.as rfl <| .z) fun a w S => st_nil (then_normal (hK3 _ _ (wp_seq_k fun _ hK3 => wp_seq_k fun _ hK5 => wp_region_lit ?_)))))
      have rw_c : #[Value.slice A11 (applyU U).1.ents.length r11, .slice A21 (applyU U).1.ctx.marks.length r21, .slice A31 (applyU U).1.ctx.cloud.length r31] = (SCart.enc ((applyU U).1, ⟨A11, (applyU U).1.ents.length, r11, A21, (applyU U).1.ctx.marks.length, r21, A31, (applyU U).1.ctx.cloud.length, r31⟩)).toArray := rfl
      have rw_v : (Upd.enc U (.slice A1 U.seen.ents.length r1) (.slice A2 U.seen.ctx.marks.length r2) (.slice A3 U.seen.ctx.cloud.length r3)).toArray = (SUpd.enc (U, ⟨A1, U.seen.ents.length, r1, A2, U.seen.ctx.marks.length, r2, A3, U.seen.ctx.cloud.length, r3⟩)).toArray := rfl
      refine run S (.mv rfl <| .z) fun a w S => ?_
      rw [rw_c] at S
      rw [rw_v] at S
      refine run S (.yy (ys_F (by omega) (ys_neq (.t rfl) Ev.c)) rfl <| .z) fun a w S => ?_
      rw [rw_c] at S
      rw [rw_v] at S
      refine st_nil ?_
      rw [rw_c] at S
      rw [rw_v] at S
      refine then_normal (hK5 _ _ ?_)
      rw [rw_c] at S
      rw [rw_v] at S
      refine st_else S (.t rfl) ?_
      rw [rw_c] at S
      rw [rw_v] at S
      refine wp_skip ?_
      rw [rw_c] at S
      rw [rw_v] at S
      refine then_normal (hK3 _ _ ?_)
      rw [rw_c] at S
      rw [rw_v] at S
      refine wp_seq_k fun _ hK3 => ?_
      rw [rw_c] at S
      rw [rw_v] at S
      refine wp_region_lit ?_
      rw [rw_c] at S
      rw [rw_v] at S
      refine run S (.mv rfl <| .z) fun a w S => ?_
      rw [rw_c] at S
      rw [rw_v] at S
      refine run S (.la gt39 0 rfl rfl rfl <| .z) fun a w S => ?_
      rw [rw_c] at S
      rw [rw_v] at S
      refine st_m (op_bslice1 S underlying29 inf39 rfl rfl rfl (.t rfl) rfl rfl rfl fun g6 a w S => ?_)
      rw [rw_c] at S
      rw [rw_v] at S
      refine st_m (op_push S underlying29 inf39 rfl (k := 10) (j := 0) rfl (.t rfl) (.t rfl) rfl rfl rfl rfl (by first | omega | (simp only [List.length_append, List.length_cons, List.length_nil]; omega)) rfl rfl rfl fun A4 cap1 a w S => ?_)
      rw [rw_c] at S
      rw [rw_v] at S
      refine run S (.as rfl <| .z) fun a w S => ?_
      rw [rw_c] at S
      rw [rw_v] at S
      refine st_nil ?_
      rw [rw_c] at S
      rw [rw_v] at S
      refine then_normal (hK3 _ _ ?_)
      rw [rw_c] at S
      rw [rw_v] at S
      refine wp_region_lit ?_
      rw [rw_c] at S
      rw [rw_v] at S
      refine run S (.mv rfl <| .z) fun a w S => ?_
      rw [rw_c] at S
      rw [rw_v] at S
      refine run S (.la gt60 5 rfl rfl rfl <| .z) fun a w S => ?_
      rw [rw_c] at S
      rw [rw_v] at S
      refine st_m (op_bslice1 S underlying30 inf60 rfl rfl rfl (.t rfl) rfl rfl rfl fun g7 a w S => ?_)
      rw [rw_c] at S
      rw [rw_v] at S
      refine st_m (op_push S underlying30 inf60 rfl (k := 12) (j := 0) rfl (.t rfl) (.t rfl) rfl rfl rfl rfl (by first | omega | (simp only [List.length_append, List.length_cons, List.length_nil]; omega)) rfl rfl rfl fun A5 cap2 a w S => ?_)
      rw [rw_c] at S
      rw [rw_v] at S
      refine run S (.as rfl <| .z) fun a w S => ?_
      rw [rw_c] at S
      rw [rw_v] at S
      refine st_nil ?_
      rw [rw_c] at S
      rw [rw_v] at S
      refine in_normal (then_normal (hK2 _ _ ?_))
      rw [rw_c] at S
      rw [rw_v] at S
      refine wp_region_lit ?_
      rw [rw_c] at S
      rw [rw_v] at S
      refine run S (.ad (by unfold I64; omega) rfl <| .z) fun a w S => ?_
      rw [rw_c] at S
      rw [rw_v] at S
      refine run S (.mv rfl <| .z) fun a w S => ?_
      rw [rw_c] at S
      rw [rw_v] at S
      refine st_nil ?_
      rw [rw_c] at S
      rw [rw_v] at S
      refine then_normal ?_
      rw [rw_c] at S
      rw [rw_v] at S
      have hok := applyU_ok ha
      have hns : (playTo h (i + 1)).st = (playTo h i).st ++ [(applyU U).1] ∧ (playTo h (i + 1)).up = (playTo h i).up ++ [U] ∧ (playTo h (i + 1)).ct = ct.set (nodeP nv) (x + 1) := by
        rw [hnx]; unfold stepP; rw [if_pos ha]
        refine ⟨rfl, rfl, ?_⟩
        show (playTo h i).ct.set (nodeP nv) ((playTo h i).ct.getD (nodeP nv) 0 + 1) = _
        rw [hCT, hX]
      generalize hs1 : (⟨A11, (applyU U).1.ents.length, r11, A21, (applyU U).1.ctx.marks.length, r21, A31, (applyU U).1.ctx.cloud.length, r31⟩ : Sls3) = s1 at S
      generalize hs2 : (⟨A1, U.seen.ents.length, r1, A2, U.seen.ctx.marks.length, r2, A3, U.seen.ctx.cloud.length, r3⟩ : Sls3) = s2 at S
      have W0 := S.wd.picks (L' := [rowOf 71 6 Ent.enc A11 r11 (applyU U).1.ents, rowOf 122 3 Dot.enc A21 r21 (applyU U).1.ctx.marks, rowOf 58 3 Dot.enc A31 r31 (applyU U).1.ctx.cloud, rowOf 71 6 Ent.enc A1 r1 U.seen.ents, rowOf 122 3 Dot.enc A2 r2 U.seen.ctx.marks, rowOf 58 3 Dot.enc A3 r3 U.seen.ctx.cloud, .ice w1 bs,
        rowOf 39 3 SCart.enc A4 cap1 (st ++ [((applyU U).1, s1)]), rowOf 60 10 SUpd.enc A5 cap2 (up ++ [(U, s2)]), .blk g2 (.cells (ctL (ct.set (nodeP nv) (x + 1))).toArray 86), .blk g1 (.cells #[.slice (some ⟨gA, oA, none⟩) h.items.length cap, .slice (some ⟨gB, oB, none⟩) h.qtys.length capB, .slice (some ⟨gC, oC, none⟩) h.prices.length capC, .slice (some ⟨gD, oD, none⟩) h.nodes.length capD, .slice (some ⟨gE, oE, none⟩) h.saws.length capE] 26)]) (by repeat (first | exact Picks.nil | (refine Picks.rest ?_; (repeat (first | exact List.Sublist.refl _ | refine List.Sublist.cons_cons _ ?_ | refine List.Sublist.cons _ ?_)); done) | refine Picks.take 0 rfl ?_ | refine Picks.take 1 rfl ?_ | refine Picks.take 2 rfl ?_ | refine Picks.take 3 rfl ?_ | refine Picks.take 4 rfl ?_ | refine Picks.take 5 rfl ?_ | refine Picks.take 6 rfl ?_ | refine Picks.take 7 rfl ?_ | refine Picks.take 8 rfl ?_ | refine Picks.take 9 rfl ?_ | refine Picks.take 10 rfl ?_ | refine Picks.take 11 rfl ?_))
      have W1 := Wd.freeze (cs := [rowOf 71 6 Ent.enc A11 r11 (applyU U).1.ents, rowOf 122 3 Dot.enc A21 r21 (applyU U).1.ctx.marks, rowOf 58 3 Dot.enc A31 r31 (applyU U).1.ctx.cloud, rowOf 71 6 Ent.enc A1 r1 U.seen.ents, rowOf 122 3 Dot.enc A2 r2 U.seen.ctx.marks, rowOf 58 3 Dot.enc A3 r3 U.seen.ctx.cloud, .ice w1 bs]) W0
      generalize hcs0 : [rowOf 71 6 Ent.enc A11 r11 (applyU U).1.ents, rowOf 122 3 Dot.enc A21 r21 (applyU U).1.ctx.marks, rowOf 58 3 Dot.enc A31 r31 (applyU U).1.ctx.cloud, rowOf 71 6 Ent.enc A1 r1 U.seen.ents, rowOf 122 3 Dot.enc A2 r2 U.seen.ctx.marks, rowOf 58 3 Dot.enc A3 r3 U.seen.ctx.cloud, .ice w1 bs] = cs0 at W1
      have hblk : ∀ (k : Nat) (c : Chunk), cs0[k]? = some c → ∀ b ∈ c.blocks, b ∈ cs0.flatMap Chunk.blocks := fun k c hk b hb => List.mem_flatMap.2 ⟨c, List.mem_of_getElem? hk, hb⟩
      have n1 : CartIn w (cs0.flatMap Chunk.blocks) (applyU U).1 s1 := by
        rw [← hs1]
        exact ⟨SlIn.row W0 (k := 0) rfl (fun _ => rfl) (hblk 0 _ (by rw [← hcs0]; rfl)), SlIn.row W0 (k := 1) rfl (fun _ => rfl) (hblk 1 _ (by rw [← hcs0]; rfl)), SlIn.row W0 (k := 2) rfl (fun _ => rfl) (hblk 2 _ (by rw [← hcs0]; rfl))⟩
      have n2 : CartIn w (cs0.flatMap Chunk.blocks) U.seen s2 := by
        rw [← hs2]
        exact ⟨SlIn.row W0 (k := 3) rfl (fun _ => rfl) (hblk 3 _ (by rw [← hcs0]; rfl)), SlIn.row W0 (k := 4) rfl (fun _ => rfl) (hblk 4 _ (by rw [← hcs0]; rfl)), SlIn.row W0 (k := 5) rfl (fun _ => rfl) (hblk 5 _ (by rw [← hcs0]; rfl))⟩
      have hold := hblk 6 (.ice w1 bs) (by rw [← hcs0]; rfl)
      replace S := St.mk S.kn W1
      refine ⟨(i + 1, A4, cap1, st ++ [((applyU U).1, s1)], A5, cap2, up ++ [(U, s2)], w, cs0.flatMap Chunk.blocks), ⟨by dsimp only; omega, by dsimp only; rw [hns.1, List.map_append, hst]; rfl, by dsimp only; rw [hns.2.1, List.map_append, hup]; rfl, fun p hp => ?_, fun p hp => ?_⟩, by dsimp only; omega, by dsimp only; rw [hns.2.2]; exact S.picks (by repeat (first | exact Fits.nil | refine Fits.skip rfl ?_ | refine Fits.cons rfl ?_)) (by repeat (first | exact Picks.nil | (refine Picks.rest ?_; (repeat (first | exact List.Sublist.refl _ | refine List.Sublist.cons_cons _ ?_ | refine List.Sublist.cons _ ?_)); done) | refine Picks.take 0 rfl ?_ | refine Picks.take 1 rfl ?_ | refine Picks.take 2 rfl ?_ | refine Picks.take 3 rfl ?_ | refine Picks.take 4 rfl ?_ | refine Picks.take 5 rfl ?_ | refine Picks.take 6 rfl ?_ | refine Picks.take 7 rfl ?_ | refine Picks.take 8 rfl ?_ | refine Picks.take 9 rfl ?_ | refine Picks.take 10 rfl ?_ | refine Picks.take 11 rfl ?_))⟩
      · rcases List.mem_append.1 hp with hp | hp
        · exact (hcs p hp).anew W0 (k := 6) rfl hold
        · rw [List.mem_singleton.1 hp]; exact n1
      · rcases List.mem_append.1 hp with hp | hp
        · exact (hcu p hp).anew W0 (k := 6) rfl hold
        · rw [List.mem_singleton.1 hp]; exact n2
    · have rw_a : decide ((applyU U).2 ≠ 0) = true := decide_eq_true ha
      have rw_s2 := ctL_set (ct.set (nodeP nv) (x + 1)) (nodeP nv) (x + 1 - 1)
      have hnz : playTo h (i + 1) = playTo h i := by rw [hnx]; unfold stepP; rw [if_neg ha]
      have ect : (ct.set (nodeP nv) (x + 1)).set (nodeP nv) (x + 1 - 1) = ct := by
        rw [List.set_set, show x + 1 - 1 = x by omega, ← hX, List.getD_eq_getElem?_getD, List.getElem?_eq_getElem (by omega)]
        exact List.set_getElem_self (by omega)
      (refine st_m (op_calls S call30 (.cons (.t rfl) .nil) (c30 _ _ _ _ _ (by exact Sl.of_own S.wd (k := 1) rfl (fun _ => rfl)) (by exact ⟨(by exact Sl.of_own S.wd (k := 2) rfl (fun _ => rfl)), (by exact Sl.of_own S.wd (k := 3) rfl (fun _ => rfl))⟩)) rfl ?_); clear S a w; rintro _ _ ⟨A11, r11, A21, r21, A31, r31, rfl, rfl⟩ a w S)
      refine run S (.mv rfl <| .ex rfl rfl <| .ex rfl rfl <| .z) fun a w S => st_m (op_alloc S zeroValue39 (cs := _) rfl rfl fun g5 a w S => st_m (op_stW S sizeOf39 (.t rfl) (.t rfl) (k := 0) rfl rfl rfl (by simp [Value.oneCell']) fun a w S => run S (.as rfl <| .z) fun a w S => st_nil (then_normal (hK3 _ _ (wp_seq_k fun _ hK3 => wp_seq_k fun _ hK5 => wp_region_lit (run S (.mv rfl <| .yy (ys_T (by omega) (ys_neq (.t rfl) Ev.c)) rfl <| .z) fun a w S => st_nil (then_normal (hK5 _ _ (st_then S (.t rfl) (wp_seq_k fun _ hK5 => wp_region_lit (run S (.mv rfl <| .yy (ys_ixA underlying86 sizeOf3 (.t rfl) (.t rfl) (fun _ => by omega)) rfl <| .yy (ys_ldN ⟨isAgg3, sizeOf3⟩ (.t rfl) (k := 12) rfl (fun _ => by assumption)) rfl <| .yy (ys_subI (.t rfl) Ev.c (fun _ => by unfold I64; omega)) rfl <| .yy (ys_ixA underlying86 sizeOf3 (.t rfl) (.t rfl) (fun _ => by omega)) rfl <| .z) fun a w S => st_m (op_st S sizeOf3 (.t rfl) (.t rfl) (k := 12) rfl rfl (by rw [Go.Fw.ctL_len]; omega) fun a w S => ?_))))))))))))
      rw [rw_s2] at S
      refine st_nil (then_normal (hK5 _ _ (wp_exit (then_exit (in_here (then_normal (hK2 _ _ (wp_region_lit (run S (.ad (by unfold I64; omega) rfl <| .mv rfl <| .z) fun a w S => st_nil (then_normal ?_))))))))))
      rw [ect] at S
      exact ⟨(i + 1, F, cF, st, G, cG, up, w1, bs), ⟨by dsimp only; omega, by dsimp only; rw [hnz]; exact hst, by dsimp only; rw [hnz]; exact hup, hcs, hcu⟩, by dsimp only; omega, by dsimp only; rw [hnz, hCT]; exact S.picks (by repeat (first | exact Fits.nil | refine Fits.skip rfl ?_ | refine Fits.cons rfl ?_)) (by repeat (first | exact Picks.nil | (refine Picks.rest ?_; (repeat (first | exact List.Sublist.refl _ | refine List.Sublist.cons_cons _ ?_ | refine List.Sublist.cons _ ?_)); done) | refine Picks.take 0 rfl ?_ | refine Picks.take 1 rfl ?_ | refine Picks.take 2 rfl ?_ | refine Picks.take 3 rfl ?_ | refine Picks.take 4 rfl ?_ | refine Picks.take 5 rfl ?_ | refine Picks.take 6 rfl ?_ | refine Picks.take 7 rfl ?_ | refine Picks.take 8 rfl ?_ | refine Picks.take 9 rfl ?_ | refine Picks.take 10 rfl ?_ | refine Picks.take 11 rfl ?_))⟩
  · have rw_q : decide (qv ≤ 0) = false := decide_eq_false hq
    generalize hU : (⟨[107], ⟨(nodeP nv : Int), 1 + (nodeP nv : Int) % 2, x + 1⟩, item, qv, pv, pickK (playTo h i).st sw⟩ : Upd) = U
    have hst2 : stepU (playTo h i) item qv pv nv sw = U := by
      rw [← hU]
      unfold stepU
      rw [if_neg hq, if_neg hq, hCT, hX]
      congr 2
    refine run S (.fa underlying60 sizeOf3 5 rfl rfl rfl <| .ld gt3 0 rfl rfl rfl <| .yy (ys_F (by omega) (ys_leq (.t rfl) Ev.c)) rfl <| .z) fun a w S => st_nil (then_normal (hK5 _ _ (st_else S (.t rfl) (wp_skip (then_normal (hK3 _ _ (wp_seq_k fun _ hK3 => ?_)))))))
    have hse : pickK (playTo h i).st sw = U.seen := by rw [← hU]
    rw [hse] at S hpl
    have huu : #[Value.string ⟨#[107]⟩, .int .i64 (nodeP nv : Int), .int .i64 (1 + (nodeP nv : Int) % 2), .int .i64 (x + 1), .string (Fw.bs item), .int .i64 qv, .int .u64 (pv.toNat : Int), .slice A1 U.seen.ents.length r1, .slice A2 U.seen.ctx.marks.length r2, .slice A3 U.seen.ctx.cloud.length r3] = (Upd.enc U (.slice A1 U.seen.ents.length r1) (.slice A2 U.seen.ctx.marks.length r2) (.slice A3 U.seen.ctx.cloud.length r3)).toArray := by subst hU; rfl
    rw [huu] at S
    have hnx : playTo h (i + 1) = stepP (playTo h i) U nv := by
      rw [playTo, List.getD_eq_getElem?_getD, hitem, List.getD_eq_getElem?_getD, hqv, List.getD_eq_getElem?_getD, hpv, List.getD_eq_getElem?_getD, hnv, List.getD_eq_getElem?_getD, hsw]
      show stepP (playTo h i) (stepU (playTo h i) item qv pv nv sw) nv = _
      rw [hst2]
    by_cases ha : (applyU U).2 = 0
    · have rw_a := ha
      refine wp_region_lit (run S (.la gt60 0 rfl rfl rfl <| .z) fun a w S => ?_)
      (refine st_m (op_calls S call30 (.cons (.t rfl) .nil) (c30 _ _ _ _ _ (by exact Sl.of_own S.wd (k := 1) rfl (fun _ => rfl)) (by exact ⟨(by exact Sl.of_own S.wd (k := 2) rfl (fun _ => rfl)), (by exact Sl.of_own S.wd (k := 3) rfl (fun _ => rfl))⟩)) rfl ?_); clear S a w; rintro _ _ ⟨A11, r11, A21, r21, A31, r31, rfl, rfl⟩ a w S)
      rw [rw_a] at S
      refine run S (.mv rfl <| .ex rfl rfl <| .ex rfl rfl <| .z) fun a w S => st_m (op_alloc S zeroValue39 (cs := _) rfl rfl fun g5 a w S => st_m (op_stW S sizeOf39 (.t rfl) (.t rfl) (k := 0) rfl rfl rfl (by simp [Value.oneCell']) fun a w S => run S (.as rfl <| .z) fun a w S => st_nil (then_normal (hK3 _ _ (wp_seq_k fun _ hK3 => ?_)))))
      have rw_c : #[Value.slice A11 (applyU U).1.ents.length r11, .slice A21 (applyU U).1.ctx.marks.length r21, .slice A31 (applyU U).1.ctx.cloud.length r31] = (SCart.enc ((applyU U).1, ⟨A11, (applyU U).1.ents.length, r11, A21, (applyU U).1.ctx.marks.length, r21, A31, (applyU U).1.ctx.cloud.length, r31⟩)).toArray := rfl
      have rw_v : (Upd.enc U (.slice A1 U.seen.ents.length r1) (.slice A2 U.seen.ctx.marks.length r2) (.slice A3 U.seen.ctx.cloud.length r3)).toArray = (SUpd.enc (U, ⟨A1, U.seen.ents.length, r1, A2, U.seen.ctx.marks.length, r2, A3, U.seen.ctx.cloud.length, r3⟩)).toArray := rfl
      refine wp_seq_k fun _ hK5 => ?_
      rw [rw_c] at S
      rw [rw_v] at S
      refine wp_region_lit ?_
      rw [rw_c] at S
      rw [rw_v] at S
      refine run S (.mv rfl <| .z) fun a w S => ?_
      rw [rw_c] at S
      rw [rw_v] at S
      refine run S (.yy (ys_F (by omega) (ys_neq (.t rfl) Ev.c)) rfl <| .z) fun a w S => ?_
      rw [rw_c] at S
      rw [rw_v] at S
      refine st_nil ?_
      rw [rw_c] at S
      rw [rw_v] at S
      refine then_normal (hK5 _ _ ?_)
      rw [rw_c] at S
      rw [rw_v] at S
      refine st_else S (.t rfl) ?_
      rw [rw_c] at S
      rw [rw_v] at S
      refine wp_skip ?_
      rw [rw_c] at S
      rw [rw_v] at S
      refine then_normal (hK3 _ _ ?_)
      rw [rw_c] at S
      rw [rw_v] at S
      refine wp_seq_k fun _ hK3 => ?_
      rw [rw_c] at S
      rw [rw_v] at S
      refine wp_region_lit ?_
      rw [rw_c] at S
      rw [rw_v] at S
      refine run S (.mv rfl <| .z) fun a w S => ?_
      rw [rw_c] at S
      rw [rw_v] at S
      refine run S (.la gt39 0 rfl rfl rfl <| .z) fun a w S => ?_
      rw [rw_c] at S
      rw [rw_v] at S
      refine st_m (op_bslice1 S underlying29 inf39 rfl rfl rfl (.t rfl) rfl rfl rfl fun g6 a w S => ?_)
      rw [rw_c] at S
      rw [rw_v] at S
      refine st_m (op_push S underlying29 inf39 rfl (k := 10) (j := 0) rfl (.t rfl) (.t rfl) rfl rfl rfl rfl (by first | omega | (simp only [List.length_append, List.length_cons, List.length_nil]; omega)) rfl rfl rfl fun A4 cap1 a w S => ?_)
      rw [rw_c] at S
      rw [rw_v] at S
      refine run S (.as rfl <| .z) fun a w S => ?_
      rw [rw_c] at S
      rw [rw_v] at S
      refine st_nil ?_
      rw [rw_c] at S
      rw [rw_v] at S
      refine then_normal (hK3 _ _ ?_)
      rw [rw_c] at S
      rw [rw_v] at S
      refine wp_region_lit ?_
      rw [rw_c] at S
      rw [rw_v] at S
      refine run S (.mv rfl <| .z) fun a w S => ?_
      rw [rw_c] at S
      rw [rw_v] at S
      refine run S (.la gt60 5 rfl rfl rfl <| .z) fun a w S => ?_
      rw [rw_c] at S
      rw [rw_v] at S
      refine st_m (op_bslice1 S underlying30 inf60 rfl rfl rfl (.t rfl) rfl rfl rfl fun g7 a w S => ?_)
      rw [rw_c] at S
      rw [rw_v] at S
      refine st_m (op_push S underlying30 inf60 rfl (k := 12) (j := 0) rfl (.t rfl) (.t rfl) rfl rfl rfl rfl (by first | omega | (simp only [List.length_append, List.length_cons, List.length_nil]; omega)) rfl rfl rfl fun A5 cap2 a w S => ?_)
      rw [rw_c] at S
      rw [rw_v] at S
      refine run S (.as rfl <| .z) fun a w S => ?_
      rw [rw_c] at S
      rw [rw_v] at S
      refine st_nil ?_
      rw [rw_c] at S
      rw [rw_v] at S
      refine in_normal (then_normal (hK2 _ _ ?_))
      rw [rw_c] at S
      rw [rw_v] at S
      refine wp_region_lit ?_
      rw [rw_c] at S
      rw [rw_v] at S
      refine run S (.ad (by unfold I64; omega) rfl <| .z) fun a w S => ?_
      rw [rw_c] at S
      rw [rw_v] at S
      refine run S (.mv rfl <| .z) fun a w S => ?_
      rw [rw_c] at S
      rw [rw_v] at S
      refine st_nil ?_
      rw [rw_c] at S
      rw [rw_v] at S
      refine then_normal ?_
      rw [rw_c] at S
      rw [rw_v] at S
      have hok := applyU_ok ha
      have hns : (playTo h (i + 1)).st = (playTo h i).st ++ [(applyU U).1] ∧ (playTo h (i + 1)).up = (playTo h i).up ++ [U] ∧ (playTo h (i + 1)).ct = ct.set (nodeP nv) (x + 1) := by
        rw [hnx]; unfold stepP; rw [if_pos ha]
        refine ⟨rfl, rfl, ?_⟩
        show (playTo h i).ct.set (nodeP nv) ((playTo h i).ct.getD (nodeP nv) 0 + 1) = _
        rw [hCT, hX]
      generalize hs1 : (⟨A11, (applyU U).1.ents.length, r11, A21, (applyU U).1.ctx.marks.length, r21, A31, (applyU U).1.ctx.cloud.length, r31⟩ : Sls3) = s1 at S
      generalize hs2 : (⟨A1, U.seen.ents.length, r1, A2, U.seen.ctx.marks.length, r2, A3, U.seen.ctx.cloud.length, r3⟩ : Sls3) = s2 at S
      have W0 := S.wd.picks (L' := [rowOf 71 6 Ent.enc A11 r11 (applyU U).1.ents, rowOf 122 3 Dot.enc A21 r21 (applyU U).1.ctx.marks, rowOf 58 3 Dot.enc A31 r31 (applyU U).1.ctx.cloud, rowOf 71 6 Ent.enc A1 r1 U.seen.ents, rowOf 122 3 Dot.enc A2 r2 U.seen.ctx.marks, rowOf 58 3 Dot.enc A3 r3 U.seen.ctx.cloud, .ice w1 bs,
        rowOf 39 3 SCart.enc A4 cap1 (st ++ [((applyU U).1, s1)]), rowOf 60 10 SUpd.enc A5 cap2 (up ++ [(U, s2)]), .blk g2 (.cells (ctL (ct.set (nodeP nv) (x + 1))).toArray 86), .blk g1 (.cells #[.slice (some ⟨gA, oA, none⟩) h.items.length cap, .slice (some ⟨gB, oB, none⟩) h.qtys.length capB, .slice (some ⟨gC, oC, none⟩) h.prices.length capC, .slice (some ⟨gD, oD, none⟩) h.nodes.length capD, .slice (some ⟨gE, oE, none⟩) h.saws.length capE] 26)]) (by repeat (first | exact Picks.nil | (refine Picks.rest ?_; (repeat (first | exact List.Sublist.refl _ | refine List.Sublist.cons_cons _ ?_ | refine List.Sublist.cons _ ?_)); done) | refine Picks.take 0 rfl ?_ | refine Picks.take 1 rfl ?_ | refine Picks.take 2 rfl ?_ | refine Picks.take 3 rfl ?_ | refine Picks.take 4 rfl ?_ | refine Picks.take 5 rfl ?_ | refine Picks.take 6 rfl ?_ | refine Picks.take 7 rfl ?_ | refine Picks.take 8 rfl ?_ | refine Picks.take 9 rfl ?_ | refine Picks.take 10 rfl ?_ | refine Picks.take 11 rfl ?_))
      have W1 := Wd.freeze (cs := [rowOf 71 6 Ent.enc A11 r11 (applyU U).1.ents, rowOf 122 3 Dot.enc A21 r21 (applyU U).1.ctx.marks, rowOf 58 3 Dot.enc A31 r31 (applyU U).1.ctx.cloud, rowOf 71 6 Ent.enc A1 r1 U.seen.ents, rowOf 122 3 Dot.enc A2 r2 U.seen.ctx.marks, rowOf 58 3 Dot.enc A3 r3 U.seen.ctx.cloud, .ice w1 bs]) W0
      generalize hcs0 : [rowOf 71 6 Ent.enc A11 r11 (applyU U).1.ents, rowOf 122 3 Dot.enc A21 r21 (applyU U).1.ctx.marks, rowOf 58 3 Dot.enc A31 r31 (applyU U).1.ctx.cloud, rowOf 71 6 Ent.enc A1 r1 U.seen.ents, rowOf 122 3 Dot.enc A2 r2 U.seen.ctx.marks, rowOf 58 3 Dot.enc A3 r3 U.seen.ctx.cloud, .ice w1 bs] = cs0 at W1
      have hblk : ∀ (k : Nat) (c : Chunk), cs0[k]? = some c → ∀ b ∈ c.blocks, b ∈ cs0.flatMap Chunk.blocks := fun k c hk b hb => List.mem_flatMap.2 ⟨c, List.mem_of_getElem? hk, hb⟩
      have n1 : CartIn w (cs0.flatMap Chunk.blocks) (applyU U).1 s1 := by
        rw [← hs1]
        exact ⟨SlIn.row W0 (k := 0) rfl (fun _ => rfl) (hblk 0 _ (by rw [← hcs0]; rfl)), SlIn.row W0 (k := 1) rfl (fun _ => rfl) (hblk 1 _ (by rw [← hcs0]; rfl)), SlIn.row W0 (k := 2) rfl (fun _ => rfl) (hblk 2 _ (by rw [← hcs0]; rfl))⟩
      have n2 : CartIn w (cs0.flatMap Chunk.blocks) U.seen s2 := by
        rw [← hs2]
        exact ⟨SlIn.row W0 (k := 3) rfl (fun _ => rfl) (hblk 3 _ (by rw [← hcs0]; rfl)), SlIn.row W0 (k := 4) rfl (fun _ => rfl) (hblk 4 _ (by rw [← hcs0]; rfl)), SlIn.row W0 (k := 5) rfl (fun _ => rfl) (hblk 5 _ (by rw [← hcs0]; rfl))⟩
      have hold := hblk 6 (.ice w1 bs) (by rw [← hcs0]; rfl)
      replace S := St.mk S.kn W1
      refine ⟨(i + 1, A4, cap1, st ++ [((applyU U).1, s1)], A5, cap2, up ++ [(U, s2)], w, cs0.flatMap Chunk.blocks), ⟨by dsimp only; omega, by dsimp only; rw [hns.1, List.map_append, hst]; rfl, by dsimp only; rw [hns.2.1, List.map_append, hup]; rfl, fun p hp => ?_, fun p hp => ?_⟩, by dsimp only; omega, by dsimp only; rw [hns.2.2]; exact S.picks (by repeat (first | exact Fits.nil | refine Fits.skip rfl ?_ | refine Fits.cons rfl ?_)) (by repeat (first | exact Picks.nil | (refine Picks.rest ?_; (repeat (first | exact List.Sublist.refl _ | refine List.Sublist.cons_cons _ ?_ | refine List.Sublist.cons _ ?_)); done) | refine Picks.take 0 rfl ?_ | refine Picks.take 1 rfl ?_ | refine Picks.take 2 rfl ?_ | refine Picks.take 3 rfl ?_ | refine Picks.take 4 rfl ?_ | refine Picks.take 5 rfl ?_ | refine Picks.take 6 rfl ?_ | refine Picks.take 7 rfl ?_ | refine Picks.take 8 rfl ?_ | refine Picks.take 9 rfl ?_ | refine Picks.take 10 rfl ?_ | refine Picks.take 11 rfl ?_))⟩
      · rcases List.mem_append.1 hp with hp | hp
        · exact (hcs p hp).anew W0 (k := 6) rfl hold
        · rw [List.mem_singleton.1 hp]; exact n1
      · rcases List.mem_append.1 hp with hp | hp
        · exact (hcu p hp).anew W0 (k := 6) rfl hold
        · rw [List.mem_singleton.1 hp]; exact n2
    · have rw_a : decide ((applyU U).2 ≠ 0) = true := decide_eq_true ha
      have rw_s2 := ctL_set (ct.set (nodeP nv) (x + 1)) (nodeP nv) (x + 1 - 1)
      have hnz : playTo h (i + 1) = playTo h i := by rw [hnx]; unfold stepP; rw [if_neg ha]
      have ect : (ct.set (nodeP nv) (x + 1)).set (nodeP nv) (x + 1 - 1) = ct := by
        rw [List.set_set, show x + 1 - 1 = x by omega, ← hX, List.getD_eq_getElem?_getD, List.getElem?_eq_getElem (by omega)]
        exact List.set_getElem_self (by omega)
      refine wp_region_lit (run S (.la gt60 0 rfl rfl rfl <| .z) fun a w S => ?_)
      (refine st_m (op_calls S call30 (.cons (.t rfl) .nil) (c30 _ _ _ _ _ (by exact Sl.of_own S.wd (k := 1) rfl (fun _ => rfl)) (by exact ⟨(by exact Sl.of_own S.wd (k := 2) rfl (fun _ => rfl)), (by exact Sl.of_own S.wd (k := 3) rfl (fun _ => rfl))⟩)) rfl ?_); clear S a w; rintro _ _ ⟨A11, r11, A21, r21, A31, r31, rfl, rfl⟩ a w S)
      refine run S (.mv rfl <| .ex rfl rfl <| .ex rfl rfl <| .z) fun a w S => st_m (op_alloc S zeroValue39 (cs := _) rfl rfl fun g5 a w S => st_m (op_stW S sizeOf39 (.t rfl) (.t rfl) (k := 0) rfl rfl rfl (by simp [Value.oneCell']) fun a w S => run S (.as rfl <| .z) fun a w S => st_nil (then_normal (hK3 _ _ (wp_seq_k fun _ hK3 => wp_seq_k fun _ hK5 => wp_region_lit (run S (.mv rfl <| .yy (ys_T (by omega) (ys_neq (.t rfl) Ev.c)) rfl <| .z) fun a w S => st_nil (then_normal (hK5 _ _ (st_then S (.t rfl) (wp_seq_k fun _ hK5 => wp_region_lit (run S (.mv rfl <| .yy (ys_ixA underlying86 sizeOf3 (.t rfl) (.t rfl) (fun _ => by omega)) rfl <| .yy (ys_ldN ⟨isAgg3, sizeOf3⟩ (.t rfl) (k := 12) rfl (fun _ => by assumption)) rfl <| .yy (ys_subI (.t rfl) Ev.c (fun _ => by unfold I64; omega)) rfl <| .yy (ys_ixA underlying86 sizeOf3 (.t rfl) (.t rfl) (fun _ => by omega)) rfl <| .z) fun a w S => st_m (op_st S sizeOf3 (.t rfl) (.t rfl) (k := 12) rfl rfl (by rw [Go.Fw.ctL_len]; omega) fun a w S => ?_))))))))))))
      rw [rw_s2] at S
      refine st_nil (then_normal (hK5 _ _ (wp_exit (then_exit (in_here (then_normal (hK2 _ _ (wp_region_lit (run S (.ad (by unfold I64; omega) rfl <| .mv rfl <| .z) fun a w S => st_nil (then_normal ?_))))))))))
      rw [ect] at S
      exact ⟨(i + 1, F, cF, st, G, cG, up, w1, bs), ⟨by dsimp only; omega, by dsimp only; rw [hnz]; exact hst, by dsimp only; rw [hnz]; exact hup, hcs, hcu⟩, by dsimp only; omega, by dsimp only; rw [hnz, hCT]; exact S.picks (by repeat (first | exact Fits.nil | refine Fits.skip rfl ?_ | refine Fits.cons rfl ?_)) (by repeat (first | exact Picks.nil | (refine Picks.rest ?_; (repeat (first | exact List.Sublist.refl _ | refine List.Sublist.cons_cons _ ?_ | refine List.Sublist.cons _ ?_)); done) | refine Picks.take 0 rfl ?_ | refine Picks.take 1 rfl ?_ | refine Picks.take 2 rfl ?_ | refine Picks.take 3 rfl ?_ | refine Picks.take 4 rfl ?_ | refine Picks.take 5 rfl ?_ | refine Picks.take 6 rfl ?_ | refine Picks.take 7 rfl ?_ | refine Picks.take 8 rfl ?_ | refine Picks.take 9 rfl ?_ | refine Picks.take 10 rfl ?_ | refine Picks.take 11 rfl ?_))⟩
end Go.Proofs.YtfblmkocmnbdcaaGreat
set_option linter.unusedVariables false
set_option linter.unusedSimpArgs false
set_option maxRecDepth 100000
namespace Go.Proofs.YtfblmkocmnbdcaaGreat
open Go.Fw Go.Proofs Go.RowKit Go.ChangeShapes Go.WideShapes Go.ChangeAt Go.Deep Go.Joins Go.Proofs.Tryz
section
variable {H : Type} {enc : TypeId × Value → H} {w : World}
theorem rdI : Rdr enc Tryz.prog w 3 fun cs _ => ∃ x : Int, cs = encI x ∧ True := (Rdr.int underlying3).mono fun cs b ⟨n, e, _⟩ => ⟨n, e, trivial⟩
theorem rdU : Rdr enc Tryz.prog w 27 fun cs _ => ∃ x : UInt64, cs = encU x ∧ True := (Rdr.int underlying27).mono fun cs b ⟨n, e, h⟩ => by
  obtain ⟨p, rfl⟩ := u64_wf h
  exact ⟨p, e, trivial⟩
theorem rdS : Rdr enc Tryz.prog w 9 fun cs b => ∃ s : List UInt8, cs = encS s ∧ s.length ≤ b := (Rdr.str underlying9).mono fun cs b ⟨s, e, h⟩ => ⟨s, e, by omega⟩
structure HistRd (w : World) (v1 v2 v3 v4 v5 : Value) (h : Hist) (b : Nat) : Prop where
  items : Sl encS 1 w w.heap.size v1 h.items
  qtys : Sl encI 1 w w.heap.size v2 h.qtys
  prices : Sl encU 1 w w.heap.size v3 h.prices
  nodes : Sl encI 1 w w.heap.size v4 h.nodes
  saws : Sl encU 1 w w.heap.size v5 h.saws
theorem rdHist : Rdr enc Tryz.prog w 26 fun cs b => ∃ v1 v2 v3 v4 v5 h, cs = [v1, v2, v3, v4, v5] ∧ HistRd w v1 v2 v3 v4 v5 h b := by
  refine (Rdr.struct underlying26 (by kernel_rfl) (.cons (Rdr.slice (k := 1) underlying22 (by kernel_rfl) rfl (fun _ => rfl) rdS) (.cons (Rdr.slice (k := 1) underlying23 (by kernel_rfl) rfl (fun _ => rfl) rdI) (.cons (Rdr.slice (k := 1) underlying24 (by kernel_rfl) rfl (fun _ => rfl) rdU) (.cons (Rdr.slice (k := 1) underlying23 (by kernel_rfl) rfl (fun _ => rfl) rdI) (.cons (Rdr.slice (k := 1) underlying24 (by kernel_rfl) rfl (fun _ => rfl) rdU) .nil)))))).mono ?_
  rintro cs b ⟨_, _, rfl, ⟨_, _, v1, l1, rfl, h1, _⟩, _, _, rfl, ⟨_, _, v2, l2, rfl, h2, _⟩, _, _, rfl, ⟨_, _, v3, l3, rfl, h3, _⟩, _, _, rfl, ⟨_, _, v4, l4, rfl, h4, _⟩, _, _, rfl, ⟨_, _, v5, l5, rfl, h5, _⟩, rfl⟩
  exact ⟨v1, v2, v3, v4, v5, ⟨l1, l2, l3, l4, l5⟩, rfl, h1, h2, h3, h4, h5⟩
theorem read_hist {t : TypeId} (e : t = 26) {r : Reach} {b0 : Nat} {v : Value} {d : DataW H} {p : List MemPlace} (hv : Value.okWide Tryz.prog w r b0 t v) (h : DataW.Trod enc Tryz.prog w 0 (fun _ => true) true t v d p) :
    ∃ v1 v2 v3 v4 v5 x, v = .agg #[v1, v2, v3, v4, v5] ∧ HistRd w v1 v2 v3 v4 v5 x (Rows.uptoBulk d) := by
  subst e
  obtain ⟨v1, v2, v3, v4, v5, x, hc, hX⟩ := Rdr.top rdHist h
  exact ⟨v1, v2, v3, v4, v5, x, top_agg underlying26 hv hc, hX⟩
end
end Go.Proofs.YtfblmkocmnbdcaaGreat
set_option linter.unusedVariables false
set_option linter.unusedSimpArgs false
namespace Go.Fw
open Go.RowKit
theorem fit_congr {a b c d : Cart} (h : uniK a b = uniK c d) : fitK a b ↔ fitK c d := by
  show (bigC (uniK a b).ctx = false ∧ (uniK a b).ents.length ≤ 64 ∧ itemsN (uniK a b).ents ≤ 32) ↔ _
  rw [h]; rfl
structure LatOk (x y z : Cart) : Prop where
  same : joinK x x = (x, 0)
  comm : joinK y x = joinK x y
  why : (joinK x y).2 ≠ 0 → (joinK x y).2 = 51 ∨ (joinK x y).2 = 4
  le1 : (joinK x y).2 = 0 → leqK x (joinK x y).1 = true
  le2 : (joinK x y).2 = 0 → leqK y (joinK x y).1 = true
  leq : (joinK x y).2 = 0 → leqK x y = decide ((joinK x y).1 = y)
  assoc : (joinK x y).2 = 0 → (joinK (joinK x y).1 z).2 = 0 → (joinK y z).2 = 0 → joinK x (joinK y z).1 = ((joinK (joinK x y).1 z).1, 0)
theorem lat_ok {U : List Upd} {x y z : Cart} (hU : oneU U) (hx : InH U x) (hy : InH U y) (hz : InH U z) : LatOk x y z := by
  refine ⟨joinK_same hx.ok, joinK_comm hy.ok hx.ok, fun h => ?_, fun h => ?_, fun h => ?_, fun h => ?_, fun h h1 h2 => ?_⟩
  · rcases inH_why hU hx hy h with e | e
    · rw [e]; exact .inl rfl
    · rw [e]; exact .inr rfl
  · have ok := joinK_cart hx.ok hy.ok h
    rw [joinK_val hx.ok hy.ok h] at ok ⊢
    rw [leqK_iff hx.ok ok]
    have hxx : CartOk (uniK x x) := by rw [uniK_same hx.ok]; exact hx.ok
    rw [← uniK_assoc hx.ok hx.ok hy.ok hxx ok, uniK_same hx.ok]
  · have ok := joinK_cart hx.ok hy.ok h
    rw [joinK_val hx.ok hy.ok h] at ok ⊢
    rw [leqK_iff hy.ok ok]
    dsimp only at ok ⊢
    have hyy : CartOk (uniK y y) := by rw [uniK_same hy.ok]; exact hy.ok
    have ok' := ok
    rw [uniK_comm hx.ok hy.ok] at ok' ⊢
    rw [← uniK_assoc hy.ok hy.ok hx.ok hyy ok', uniK_same hy.ok]
  · rw [joinK_val hx.ok hy.ok h]
    have := leqK_iff hx.ok hy.ok
    by_cases e : uniK x y = y
    · rw [this.2 e]; exact (decide_eq_true e).symm
    · rw [decide_eq_false e, Bool.eq_false_iff]
      exact fun h => e (this.1 h)
  · have ixy := inH_join hx hy h
    have iyz := inH_join hy hz h2
    have e1 := joinK_val hx.ok hy.ok h
    have e2 := joinK_val hy.ok hz.ok h2
    have e3 := joinK_val ixy.ok hz.ok h1
    have f1 := (inH_ok hU ixy hz).1 h1
    rw [e3]
    rw [e1] at ixy f1 ⊢
    rw [e2] at iyz ⊢
    dsimp only at ixy iyz f1 ⊢
    have hass := uniK_assoc hx.ok hy.ok hz.ok ixy.ok iyz.ok
    rw [hass]
    exact joinK_val hx.ok iyz.ok ((inH_ok hU hx iyz).2 ((fit_congr hass).1 f1))
end Go.Fw
set_option linter.unusedVariables false
set_option linter.unusedSimpArgs false
set_option maxRecDepth 100000
set_option maxHeartbeats 4000000
namespace Go.Proofs.YtfblmkocmnbdcaaGreat
open Go.Fw Go.Proofs Go.RowKit Go.Proofs.Tryz
theorem c10 (w0 : World) (v1 v2 v3 v4 v5 : Value) (h : Hist) (ka kb kc : UInt64) (h1 : Sl encS 1 w0 w0.heap.size v1 h.items) (h2 : Sl encI 1 w0 w0.heap.size v2 h.qtys) (h3 : Sl encU 1 w0 w0.heap.size v3 h.prices) (h4 : Sl encI 1 w0 w0.heap.size v4 h.nodes) (h5 : Sl encU 1 w0 w0.heap.size v5 h.saws) :
    Calls Tryz.prog 10 #[.agg #[v1, v2, v3, v4, v5], .int .u64 (ka.toNat : Int), .int .u64 (kb.toNat : Int), .int .u64 (kc.toNat : Int)] w0 fun e w' => e = .returned (.bool true) ∧ Bel w0.heap.size w0 w' := by
  have s1 := h1
  have s2 := h2
  have s3 := h3
  have s4 := h4
  have s5 := h5
  obtain ⟨A, cap, rfl, _⟩ := h1
  obtain ⟨B, capB, rfl, _⟩ := h2
  obtain ⟨C, capC, rfl, _⟩ := h3
  obtain ⟨D, capD, rfl, _⟩ := h4
  obtain ⟨E, capE, rfl, _⟩ := h5
  refine enter4 func10 rfl ntmps10 rfl fun a S => wp_seq_k fun _ hK1 => wp_region_lit (st_m (op_box S (.t rfl) rfl fun g1 a w S => run S (.ac rfl <| .z) fun a w S => st_nil (then_normal (hK1 _ _ (wp_seq_k fun _ hK1 => wp_region_lit (run S (.la gt26 0 rfl rfl rfl <| .z) fun a w S => ?_))))))
  (refine st_m (op_calls S call13 (.cons (.t rfl) .nil) (c13 _ _ _ _ _ _ _ (by exact .old S.wd (by assumption)) (by exact .old S.wd (by assumption)) (by exact .old S.wd (by assumption)) (by exact .old S.wd (by assumption)) (by exact .old S.wd (by assumption))) rfl ?_); clear S a w; rintro _ _ ⟨A1, r1, A'1, r'1, st1, up1, w11, bs1, rfl, rfl, hr11, hr21, hr31, hr41⟩ a w S)
  refine run S (.mv rfl <| .ex rfl rfl <| .ex rfl rfl <| .z) fun a w S => ?_
  have hsl : st1.length ≤ 64 := by have := play_states h; rw [← hr11, List.length_map] at this; omega
  have ok := play_ok h h.many
  change PlayOk (playK h) at ok
  have rw_st := hr11
  have iX : InH (playK h).up (pickK (playK h).st ka) := pick_inH ok.st ka _
  have iY : InH (playK h).up (pickK (playK h).st kb) := pick_inH ok.st kb _
  have iZ : InH (playK h).up (pickK (playK h).st kc) := pick_inH ok.st kc _
  obtain ⟨X, rw_X⟩ : ∃ X, pickK (playK h).st ka = X := ⟨_, rfl⟩
  obtain ⟨Y, rw_Y⟩ : ∃ X, pickK (playK h).st kb = X := ⟨_, rfl⟩
  obtain ⟨Z, rw_Z⟩ : ∃ X, pickK (playK h).st kc = X := ⟨_, rfl⟩
  rw [rw_X] at iX
  rw [rw_Y] at iY
  rw [rw_Z] at iZ
  have lat := lat_ok ok.one iX iY iZ
  have hX := iX.ok.ctx
  have hY := iY.ok.ctx
  have rw_c := lat.comm
  have rw_s := lat.same
  have rw_d : ∀ c : Cart, decide (c = c) = true := fun c => decide_eq_true rfl
  have rw_n : ∀ i : Int, decide (i ≠ i) = false := fun i => decide_eq_false (by simp)
  by_cases hj : (joinK X Y).2 = 0
  · have hP := (joinK_cart iX.ok iY.ok hj).ctx
    have rw_j := hj
    have rw_l1 := lat.le1 hj
    have rw_l2 := lat.le2 hj
    have rw_l3 := lat.leq hj
    have rw_b : ∀ b : Bool, (b != b) = false := fun b => by simp
    by_cases k1 : (joinK (joinK X Y).1 Z).2 = 0
    · have rw_k1 := k1
      by_cases k2 : (joinK Y Z).2 = 0
      · have rw_k2 := k2
        have rw_a := lat.assoc hj k1 k2
        refine run S (.as rfl <| .as rfl <| .z) fun a w S => st_nil (then_normal (hK1 _ _ (wp_seq_k fun _ hK1 => wp_region_lit (run S (.mv rfl <| .mv rfl <| .z) fun a w S => ?_))))
        (refine st_m (op_calls S call14 (.cons (.t rfl) (.cons (.t rfl) .nil)) (c14 _ _ _ _ (by exact Sl.of_own S.wd (k := 0) rfl (fun _ => rfl)) (by exact carts_rd (by assumption) S.wd (k := 2) rfl) (by assumption)) rfl ?_); clear S a w; rintro _ _ ⟨A11, r11, A21, r21, A31, r31, rfl, rfl⟩ a w S)
        simp only [List.nil_append] at S
        rw [rw_st] at S
        rw [rw_X] at S
        refine run S (.mv rfl <| .mv rfl <| .z) fun a w S => ?_
        (refine st_m (op_calls S call14 (.cons (.t rfl) (.cons (.t rfl) .nil)) (c14 _ _ _ _ (by exact Sl.of_own S.wd (k := 3) rfl (fun _ => rfl)) (by exact carts_rd (by assumption) S.wd (k := 5) rfl) (by assumption)) rfl ?_); clear S a w; rintro _ _ ⟨A12, r12, A22, r22, A32, r32, rfl, rfl⟩ a w S)
        simp only [List.nil_append] at S
        rw [rw_st] at S
        rw [rw_Y] at S
        refine run S (.mv rfl <| .mv rfl <| .z) fun a w S => ?_
        (refine st_m (op_calls S call14 (.cons (.t rfl) (.cons (.t rfl) .nil)) (c14 _ _ _ _ (by exact Sl.of_own S.wd (k := 6) rfl (fun _ => rfl)) (by exact carts_rd (by assumption) S.wd (k := 8) rfl) (by assumption)) rfl ?_); clear S a w; rintro _ _ ⟨A13, r13, A23, r23, A33, r33, rfl, rfl⟩ a w S)
        simp only [List.nil_append] at S
        rw [rw_st] at S
        rw [rw_Z] at S
        refine st_m (op_alloc S zeroValue39 (cs := _) rfl rfl fun g2 a w S => st_m (op_alloc S zeroValue39 (cs := _) rfl rfl fun g3 a w S => st_m (op_alloc S zeroValue39 (cs := _) rfl rfl fun g4 a w S => st_m (op_stW S sizeOf39 (.t rfl) (.t rfl) (k := 2) rfl rfl rfl (by simp [Value.oneCell']) fun a w S => st_m (op_stW S sizeOf39 (.t rfl) (.t rfl) (k := 1) rfl rfl rfl (by simp [Value.oneCell']) fun a w S => st_m (op_stW S sizeOf39 (.t rfl) (.t rfl) (k := 0) rfl rfl rfl (by simp [Value.oneCell']) fun a w S => st_nil (then_normal (hK1 _ _ (wp_seq_k fun _ hK1 => wp_region_lit (run S (.la gt39 2 rfl rfl rfl <| .la gt39 1 rfl rfl rfl <| .z) fun a w S => ?_))))))))))
        (refine st_m (op_calls S call33 (.cons (.t rfl) (.cons (.t rfl) .nil)) (c33 _ _ _ _ _ _ _ _ _ (by exact Sl.of_own S.wd (k := 9) rfl (fun _ => rfl)) (by exact ⟨(by exact Sl.of_own S.wd (k := 10) rfl (fun _ => rfl)), (by exact Sl.of_own S.wd (k := 11) rfl (fun _ => rfl))⟩) (by exact Sl.of_own S.wd (k := 6) rfl (fun _ => rfl)) (by exact ⟨(by exact Sl.of_own S.wd (k := 7) rfl (fun _ => rfl)), (by exact Sl.of_own S.wd (k := 8) rfl (fun _ => rfl))⟩)) rfl ?_); clear S a w; rintro _ _ ⟨A14, r14, A24, r24, A34, r34, rfl, rfl⟩ a w S)
        rw [rw_j] at S
        refine run S (.mv rfl <| .ex rfl rfl <| .ex rfl rfl <| .z) fun a w S => st_m (op_alloc S zeroValue39 (cs := _) rfl rfl fun g5 a w S => st_m (op_stW S sizeOf39 (.t rfl) (.t rfl) (k := 0) rfl rfl rfl (by simp [Value.oneCell']) fun a w S => run S (.as rfl <| .z) fun a w S => st_nil (then_normal (hK1 _ _ (wp_seq_k fun _ hK1 => wp_region_lit (run S (.la gt39 5 rfl rfl rfl <| .la gt39 6 rfl rfl rfl <| .z) fun a w S => ?_))))))
        (refine st_m (op_calls S call33 (.cons (.t rfl) (.cons (.t rfl) .nil)) (c33 _ _ _ _ _ _ _ _ _ (by exact Sl.of_own S.wd (k := 10) rfl (fun _ => rfl)) (by exact ⟨(by exact Sl.of_own S.wd (k := 11) rfl (fun _ => rfl)), (by exact Sl.of_own S.wd (k := 12) rfl (fun _ => rfl))⟩) (by exact Sl.of_own S.wd (k := 13) rfl (fun _ => rfl)) (by exact ⟨(by exact Sl.of_own S.wd (k := 14) rfl (fun _ => rfl)), (by exact Sl.of_own S.wd (k := 15) rfl (fun _ => rfl))⟩)) rfl ?_); clear S a w; rintro _ _ ⟨A15, r15, A25, r25, A35, r35, rfl, rfl⟩ a w S)
        rw [rw_c] at S
        rw [rw_j] at S
        refine run S (.mv rfl <| .ex rfl rfl <| .ex rfl rfl <| .z) fun a w S => st_m (op_alloc S zeroValue39 (cs := _) rfl rfl fun g6 a w S => st_m (op_stW S sizeOf39 (.t rfl) (.t rfl) (k := 0) rfl rfl rfl (by simp [Value.oneCell']) fun a w S => run S (.as rfl <| .z) fun a w S => st_nil (then_normal (hK1 _ _ (wp_seq_k fun _ hK1 => wp_region_lit (run S (.la gt39 10 rfl rfl rfl <| .la gt39 10 rfl rfl rfl <| .z) fun a w S => ?_))))))
        (refine st_m (op_calls S call33 (.cons (.t rfl) (.cons (.t rfl) .nil)) (c33 _ _ _ _ _ _ _ _ _ (by exact Sl.of_own S.wd (k := 17) rfl (fun _ => rfl)) (by exact ⟨(by exact Sl.of_own S.wd (k := 18) rfl (fun _ => rfl)), (by exact Sl.of_own S.wd (k := 19) rfl (fun _ => rfl))⟩) (by exact Sl.of_own S.wd (k := 17) rfl (fun _ => rfl)) (by exact ⟨(by exact Sl.of_own S.wd (k := 18) rfl (fun _ => rfl)), (by exact Sl.of_own S.wd (k := 19) rfl (fun _ => rfl))⟩)) rfl ?_); clear S a w; rintro _ _ ⟨A16, r16, A26, r26, A36, r36, rfl, rfl⟩ a w S)
        rw [rw_s] at S
        refine run S (.mv rfl <| .ex rfl rfl <| .ex rfl rfl <| .z) fun a w S => st_m (op_alloc S zeroValue39 (cs := _) rfl rfl fun g7 a w S => st_m (op_stW S sizeOf39 (.t rfl) (.t rfl) (k := 0) rfl rfl rfl (by simp [Value.oneCell']) fun a w S => run S (.as rfl <| .z) fun a w S => st_nil (then_normal (hK1 _ _ (wp_seq_k fun _ hK1 => wp_seq_k fun _ hK2 => wp_region_lit (run S (.mv rfl <| .mv rfl <| .yy (ys_F (by omega) (ys_neq (.t rfl) (.t rfl))) rfl <| .mv rfl <| .gy rfl rfl (ys_ldA ⟨isAgg39, sizeOf39⟩ (.t rfl) (k := 8) rfl rfl) <| .gy rfl rfl (ys_ldA ⟨isAgg39, sizeOf39⟩ (.t rfl) (k := 4) rfl rfl) <| .gx rfl rfl (ys_call call17 (.cons (.t rfl) (.cons (.t rfl) .nil)) (fun hp w W => c17 _ _ _ _ _ _ _ _ _ (by exact Sl.of_own W (k := 9) rfl (fun _ => rfl)) (by exact ⟨(by exact Sl.of_own W (k := 10) rfl (fun _ => rfl)), (by exact Sl.of_own W (k := 11) rfl (fun _ => rfl))⟩) (by exact Sl.of_own W (k := 5) rfl (fun _ => rfl)) (by exact ⟨(by exact Sl.of_own W (k := 6) rfl (fun _ => rfl)), (by exact Sl.of_own W (k := 7) rfl (fun _ => rfl))⟩))) <| .z) fun a w S => ?_))))))
        simp only [List.nil_append] at S
        refine run S (.gy rfl rfl (ys_not (.t rfl)) <| .yy (ys_pickF (.t rfl) (.t rfl)) rfl <| .mv rfl <| .gy rfl rfl (ys_move (.t rfl)) <| .gy rfl rfl (ys_F (by omega) (ys_neq (.t rfl) Ev.c)) <| .yy (ys_pickF (.t rfl) (.t rfl)) rfl <| .mv rfl <| .gy rfl rfl (ys_ldA ⟨isAgg39, sizeOf39⟩ (.t rfl) (k := 0) rfl rfl) <| .gy rfl rfl (ys_ldA ⟨isAgg39, sizeOf39⟩ (.t rfl) (k := 14) rfl rfl) <| .gx rfl rfl (ys_call call17 (.cons (.t rfl) (.cons (.t rfl) .nil)) (fun hp w W => c17 _ _ _ _ _ _ _ _ _ (by exact Sl.of_own W (k := 1) rfl (fun _ => rfl)) (by exact ⟨(by exact Sl.of_own W (k := 2) rfl (fun _ => rfl)), (by exact Sl.of_own W (k := 3) rfl (fun _ => rfl))⟩) (by exact Sl.of_own W (k := 21) rfl (fun _ => rfl)) (by exact ⟨(by exact Sl.of_own W (k := 22) rfl (fun _ => rfl)), (by exact Sl.of_own W (k := 23) rfl (fun _ => rfl))⟩))) <| .z) fun a w S => ?_
        simp only [List.nil_append] at S
        refine run S (.gy rfl rfl (ys_not (.t rfl)) <| .yy (ys_pickF (.t rfl) (.t rfl)) rfl <| .z) fun a w S => st_nil (then_normal (hK2 _ _ (st_else S (.t rfl) (wp_skip (then_normal (hK1 _ _ (wp_seq_k fun _ hK1 => wp_seq_k fun _ hK2 => wp_region_lit (run S (.mv rfl <| .yy (ys_F (by omega) (ys_neq (.t rfl) Ev.c)) rfl <| .z) fun a w S => st_nil (then_normal (hK2 _ _ (st_else S (.t rfl) (wp_skip (then_normal (hK1 _ _ (wp_seq_k fun _ hK1 => wp_seq_k fun _ hK2 => st_quiet S (by kernel_rfl) (by kernel_rfl) fun a S => qrun S (.la gt39 14 rfl rfl rfl <| .la gt39 8 rfl rfl rfl <| .xx (ys_call call42 (.cons (.t rfl) (.cons (.t rfl) .nil)) (fun hp w W => c42 _ _ _ _ _ _ _ _ _ (by exact Sl.of_own W (k := 21) rfl (fun _ => rfl)) (by exact ⟨(by exact Sl.of_own W (k := 22) rfl (fun _ => rfl)), (by exact Sl.of_own W (k := 23) rfl (fun _ => rfl))⟩) (by exact Sl.of_own W (k := 9) rfl (fun _ => rfl)) (by exact ⟨(by exact Sl.of_own W (k := 10) rfl (fun _ => rfl)), (by exact Sl.of_own W (k := 11) rfl (fun _ => rfl))⟩) (by assumption) (by assumption))) rfl <| .z) fun a S => ?_)))))))))))))))
        rw [rw_l1] at S
        refine qrun S (.nt rfl <| .mv rfl <| .gy rfl rfl (ys_ldA ⟨isAgg39, sizeOf39⟩ (.t rfl) (k := 13) rfl rfl) <| .gy rfl rfl (ys_ldA ⟨isAgg39, sizeOf39⟩ (.t rfl) (k := 8) rfl rfl) <| .gx rfl rfl (ys_call call42 (.cons (.t rfl) (.cons (.t rfl) .nil)) (fun hp w W => c42 _ _ _ _ _ _ _ _ _ (by exact Sl.of_own W (k := 18) rfl (fun _ => rfl)) (by exact ⟨(by exact Sl.of_own W (k := 19) rfl (fun _ => rfl)), (by exact Sl.of_own W (k := 20) rfl (fun _ => rfl))⟩) (by exact Sl.of_own W (k := 9) rfl (fun _ => rfl)) (by exact ⟨(by exact Sl.of_own W (k := 10) rfl (fun _ => rfl)), (by exact Sl.of_own W (k := 11) rfl (fun _ => rfl))⟩) (by assumption) (by assumption))) <| .z) fun a S => ?_
        rw [rw_l2] at S
        refine qrun S (.gy rfl rfl (ys_not (.t rfl)) <| .yy (ys_pickF (.t rfl) (.t rfl)) rfl <| .mv rfl <| .gy rfl rfl (ys_ldA ⟨isAgg39, sizeOf39⟩ (.t rfl) (k := 14) rfl rfl) <| .gy rfl rfl (ys_ldA ⟨isAgg39, sizeOf39⟩ (.t rfl) (k := 13) rfl rfl) <| .gx rfl rfl (ys_call call42 (.cons (.t rfl) (.cons (.t rfl) .nil)) (fun hp w W => c42 _ _ _ _ _ _ _ _ _ (by exact Sl.of_own W (k := 21) rfl (fun _ => rfl)) (by exact ⟨(by exact Sl.of_own W (k := 22) rfl (fun _ => rfl)), (by exact Sl.of_own W (k := 23) rfl (fun _ => rfl))⟩) (by exact Sl.of_own W (k := 18) rfl (fun _ => rfl)) (by exact ⟨(by exact Sl.of_own W (k := 19) rfl (fun _ => rfl)), (by exact Sl.of_own W (k := 20) rfl (fun _ => rfl))⟩) (by assumption) (by assumption))) <| .z) fun a S => ?_
        rw [rw_l3] at S
        refine qrun S (.gy rfl rfl (ys_ldA ⟨isAgg39, sizeOf39⟩ (.t rfl) (k := 8) rfl rfl) <| .gy rfl rfl (ys_ldA ⟨isAgg39, sizeOf39⟩ (.t rfl) (k := 13) rfl rfl) <| .gx rfl rfl (ys_call call17 (.cons (.t rfl) (.cons (.t rfl) .nil)) (fun hp w W => c17 _ _ _ _ _ _ _ _ _ (by exact Sl.of_own W (k := 9) rfl (fun _ => rfl)) (by exact ⟨(by exact Sl.of_own W (k := 10) rfl (fun _ => rfl)), (by exact Sl.of_own W (k := 11) rfl (fun _ => rfl))⟩) (by exact Sl.of_own W (k := 18) rfl (fun _ => rfl)) (by exact ⟨(by exact Sl.of_own W (k := 19) rfl (fun _ => rfl)), (by exact Sl.of_own W (k := 20) rfl (fun _ => rfl))⟩))) <| .gy rfl rfl (ys_neqB underlying4 (.t rfl) (.t rfl)) <| .z) fun a S => ?_
        rw [rw_b] at S
        refine qrun S (.yy (ys_pickF (.t rfl) (.t rfl)) rfl <| .z) fun a S => ?_
        (refine q_nil ?_; intro w W; replace S := St.mk S W; clear W)
        refine then_normal (hK2 _ _ (st_else S (.t rfl) (wp_skip (then_normal (hK1 _ _ (wp_seq_k fun _ hK1 => wp_region_lit (run S (.la gt39 8 rfl rfl rfl <| .la gt39 12 rfl rfl rfl <| .z) fun a w S => ?_)))))))
        (refine st_m (op_calls S call33 (.cons (.t rfl) (.cons (.t rfl) .nil)) (c33 _ _ _ _ _ _ _ _ _ (by exact Sl.of_own S.wd (k := 9) rfl (fun _ => rfl)) (by exact ⟨(by exact Sl.of_own S.wd (k := 10) rfl (fun _ => rfl)), (by exact Sl.of_own S.wd (k := 11) rfl (fun _ => rfl))⟩) (by exact Sl.of_own S.wd (k := 15) rfl (fun _ => rfl)) (by exact ⟨(by exact Sl.of_own S.wd (k := 16) rfl (fun _ => rfl)), (by exact Sl.of_own S.wd (k := 17) rfl (fun _ => rfl))⟩)) rfl ?_); clear S a w; rintro _ _ ⟨A17, r17, A27, r27, A37, r37, rfl, rfl⟩ a w S)
        rw [rw_k1] at S
        refine run S (.mv rfl <| .ex rfl rfl <| .ex rfl rfl <| .z) fun a w S => st_m (op_alloc S zeroValue39 (cs := _) rfl rfl fun g8 a w S => st_m (op_stW S sizeOf39 (.t rfl) (.t rfl) (k := 0) rfl rfl rfl (by simp [Value.oneCell']) fun a w S => run S (.as rfl <| .z) fun a w S => st_nil (then_normal (hK1 _ _ (wp_seq_k fun _ hK1 => wp_region_lit (run S (.la gt39 17 rfl rfl rfl <| .la gt39 16 rfl rfl rfl <| .z) fun a w S => ?_))))))
        (refine st_m (op_calls S call33 (.cons (.t rfl) (.cons (.t rfl) .nil)) (c33 _ _ _ _ _ _ _ _ _ (by exact Sl.of_own S.wd (k := 22) rfl (fun _ => rfl)) (by exact ⟨(by exact Sl.of_own S.wd (k := 23) rfl (fun _ => rfl)), (by exact Sl.of_own S.wd (k := 24) rfl (fun _ => rfl))⟩) (by exact Sl.of_own S.wd (k := 19) rfl (fun _ => rfl)) (by exact ⟨(by exact Sl.of_own S.wd (k := 20) rfl (fun _ => rfl)), (by exact Sl.of_own S.wd (k := 21) rfl (fun _ => rfl))⟩)) rfl ?_); clear S a w; rintro _ _ ⟨A18, r18, A28, r28, A38, r38, rfl, rfl⟩ a w S)
        rw [rw_k2] at S
        refine run S (.mv rfl <| .ex rfl rfl <| .ex rfl rfl <| .z) fun a w S => st_m (op_alloc S zeroValue39 (cs := _) rfl rfl fun g9 a w S => st_m (op_stW S sizeOf39 (.t rfl) (.t rfl) (k := 0) rfl rfl rfl (by simp [Value.oneCell']) fun a w S => run S (.as rfl <| .z) fun a w S => st_nil (then_normal (hK1 _ _ (wp_seq_k fun _ hK1 => wp_seq_k fun _ hK2 => wp_region_lit (run S (.mv rfl <| .yy (ys_F (by omega) (ys_neq (.t rfl) Ev.c)) rfl <| .mv rfl <| .gy rfl rfl (ys_move (.t rfl)) <| .gy rfl rfl (ys_F (by omega) (ys_neq (.t rfl) Ev.c)) <| .yy (ys_pickF (.t rfl) (.t rfl)) rfl <| .z) fun a w S => st_nil (then_normal (hK2 _ _ (st_else S (.t rfl) (wp_skip (then_normal (hK1 _ _ (wp_seq_k fun _ hK1 => wp_region_lit (run S (.la gt39 22 rfl rfl rfl <| .la gt39 0 rfl rfl rfl <| .z) fun a w S => ?_))))))))))))))
        (refine st_m (op_calls S call33 (.cons (.t rfl) (.cons (.t rfl) .nil)) (c33 _ _ _ _ _ _ _ _ _ (by exact Sl.of_own S.wd (k := 29) rfl (fun _ => rfl)) (by exact ⟨(by exact Sl.of_own S.wd (k := 30) rfl (fun _ => rfl)), (by exact Sl.of_own S.wd (k := 31) rfl (fun _ => rfl))⟩) (by exact Sl.of_own S.wd (k := 1) rfl (fun _ => rfl)) (by exact ⟨(by exact Sl.of_own S.wd (k := 2) rfl (fun _ => rfl)), (by exact Sl.of_own S.wd (k := 3) rfl (fun _ => rfl))⟩)) rfl ?_); clear S a w; rintro _ _ ⟨A19, r19, A29, r29, A39, r39, rfl, rfl⟩ a w S)
        rw [rw_a] at S
        refine run S (.mv rfl <| .ex rfl rfl <| .ex rfl rfl <| .z) fun a w S => st_m (op_alloc S zeroValue39 (cs := _) rfl rfl fun g10 a w S => st_m (op_stW S sizeOf39 (.t rfl) (.t rfl) (k := 0) rfl rfl rfl (by simp [Value.oneCell']) fun a w S => run S (.as rfl <| .z) fun a w S => st_nil (then_normal (hK1 _ _ (wp_seq_k fun _ hK1 => wp_region_lit (run S (.mv rfl <| .yy (ys_T (by omega) (ys_eql (.t rfl) Ev.c)) rfl <| .mv rfl <| .gy rfl rfl (ys_ldA ⟨isAgg39, sizeOf39⟩ (.t rfl) (k := 8) rfl rfl) <| .gy rfl rfl (ys_ldA ⟨isAgg39, sizeOf39⟩ (.t rfl) (k := 0) rfl rfl) <| .gx rfl rfl (ys_call call17 (.cons (.t rfl) (.cons (.t rfl) .nil)) (fun hp w W => c17 _ _ _ _ _ _ _ _ _ (by exact Sl.of_own W (k := 9) rfl (fun _ => rfl)) (by exact ⟨(by exact Sl.of_own W (k := 10) rfl (fun _ => rfl)), (by exact Sl.of_own W (k := 11) rfl (fun _ => rfl))⟩) (by exact Sl.of_own W (k := 1) rfl (fun _ => rfl)) (by exact ⟨(by exact Sl.of_own W (k := 2) rfl (fun _ => rfl)), (by exact Sl.of_own W (k := 3) rfl (fun _ => rfl))⟩))) <| .z) fun a w S => ?_))))))
        simp only [List.nil_append] at S
        refine run S (.yy (ys_pickT (.t rfl) (.t rfl)) rfl <| .as rfl <| .z) fun a w S => st_nil (then_normal (hK1 _ _ (wp_ret (st_ret S (results1 S results10 (Rv.tmp rfl)) ?_))))
        exact ⟨rfl, S.wd.below⟩
      · have rw_k2 : decide ((joinK Y Z).2 ≠ 0) = true := decide_eq_true k2
        refine run S (.as rfl <| .as rfl <| .z) fun a w S => st_nil (then_normal (hK1 _ _ (wp_seq_k fun _ hK1 => wp_region_lit (run S (.mv rfl <| .mv rfl <| .z) fun a w S => ?_))))
        (refine st_m (op_calls S call14 (.cons (.t rfl) (.cons (.t rfl) .nil)) (c14 _ _ _ _ (by exact Sl.of_own S.wd (k := 0) rfl (fun _ => rfl)) (by exact carts_rd (by assumption) S.wd (k := 2) rfl) (by assumption)) rfl ?_); clear S a w; rintro _ _ ⟨A11, r11, A21, r21, A31, r31, rfl, rfl⟩ a w S)
        simp only [List.nil_append] at S
        rw [rw_st] at S
        rw [rw_X] at S
        refine run S (.mv rfl <| .mv rfl <| .z) fun a w S => ?_
        (refine st_m (op_calls S call14 (.cons (.t rfl) (.cons (.t rfl) .nil)) (c14 _ _ _ _ (by exact Sl.of_own S.wd (k := 3) rfl (fun _ => rfl)) (by exact carts_rd (by assumption) S.wd (k := 5) rfl) (by assumption)) rfl ?_); clear S a w; rintro _ _ ⟨A12, r12, A22, r22, A32, r32, rfl, rfl⟩ a w S)
        simp only [List.nil_append] at S
        rw [rw_st] at S
        rw [rw_Y] at S
        refine run S (.mv rfl <| .mv rfl <| .z) fun a w S => ?_
        (refine st_m (op_calls S call14 (.cons (.t rfl) (.cons (.t rfl) .nil)) (c14 _ _ _ _ (by exact Sl.of_own S.wd (k := 6) rfl (fun _ => rfl)) (by exact carts_rd (by assumption) S.wd (k := 8) rfl) (by assumption)) rfl ?_); clear S a w; rintro _ _ ⟨A13, r13, A23, r23, A33, r33, rfl, rfl⟩ a w S)
        simp only [List.nil_append] at S
        rw [rw_st] at S
        rw [rw_Z] at S
        refine st_m (op_alloc S zeroValue39 (cs := _) rfl rfl fun g2 a w S => st_m (op_alloc S zeroValue39 (cs := _) rfl rfl fun g3 a w S => st_m (op_alloc S zeroValue39 (cs := _) rfl rfl fun g4 a w S => st_m (op_stW S sizeOf39 (.t rfl) (.t rfl) (k := 2) rfl rfl rfl (by simp [Value.oneCell']) fun a w S => st_m (op_stW S sizeOf39 (.t rfl) (.t rfl) (k := 1) rfl rfl rfl (by simp [Value.oneCell']) fun a w S => st_m (op_stW S sizeOf39 (.t rfl) (.t rfl) (k := 0) rfl rfl rfl (by simp [Value.oneCell']) fun a w S => st_nil (then_normal (hK1 _ _ (wp_seq_k fun _ hK1 => wp_region_lit (run S (.la gt39 2 rfl rfl rfl <| .la gt39 1 rfl rfl rfl <| .z) fun a w S => ?_))))))))))
        (refine st_m (op_calls S call33 (.cons (.t rfl) (.cons (.t rfl) .nil)) (c33 _ _ _ _ _ _ _ _ _ (by exact Sl.of_own S.wd (k := 9) rfl (fun _ => rfl)) (by exact ⟨(by exact Sl.of_own S.wd (k := 10) rfl (fun _ => rfl)), (by exact Sl.of_own S.wd (k := 11) rfl (fun _ => rfl))⟩) (by exact Sl.of_own S.wd (k := 6) rfl (fun _ => rfl)) (by exact ⟨(by exact Sl.of_own S.wd (k := 7) rfl (fun _ => rfl)), (by exact Sl.of_own S.wd (k := 8) rfl (fun _ => rfl))⟩)) rfl ?_); clear S a w; rintro _ _ ⟨A14, r14, A24, r24, A34, r34, rfl, rfl⟩ a w S)
        rw [rw_j] at S
        refine run S (.mv rfl <| .ex rfl rfl <| .ex rfl rfl <| .z) fun a w S => st_m (op_alloc S zeroValue39 (cs := _) rfl rfl fun g5 a w S => st_m (op_stW S sizeOf39 (.t rfl) (.t rfl) (k := 0) rfl rfl rfl (by simp [Value.oneCell']) fun a w S => run S (.as rfl <| .z) fun a w S => st_nil (then_normal (hK1 _ _ (wp_seq_k fun _ hK1 => wp_region_lit (run S (.la gt39 5 rfl rfl rfl <| .la gt39 6 rfl rfl rfl <| .z) fun a w S => ?_))))))
        (refine st_m (op_calls S call33 (.cons (.t rfl) (.cons (.t rfl) .nil)) (c33 _ _ _ _ _ _ _ _ _ (by exact Sl.of_own S.wd (k := 10) rfl (fun _ => rfl)) (by exact ⟨(by exact Sl.of_own S.wd (k := 11) rfl (fun _ => rfl)), (by exact Sl.of_own S.wd (k := 12) rfl (fun _ => rfl))⟩) (by exact Sl.of_own S.wd (k := 13) rfl (fun _ => rfl)) (by exact ⟨(by exact Sl.of_own S.wd (k := 14) rfl (fun _ => rfl)), (by exact Sl.of_own S.wd (k := 15) rfl (fun _ => rfl))⟩)) rfl ?_); clear S a w; rintro _ _ ⟨A15, r15, A25, r25, A35, r35, rfl, rfl⟩ a w S)
        rw [rw_c] at S
        rw [rw_j] at S
        refine run S (.mv rfl <| .ex rfl rfl <| .ex rfl rfl <| .z) fun a w S => st_m (op_alloc S zeroValue39 (cs := _) rfl rfl fun g6 a w S => st_m (op_stW S sizeOf39 (.t rfl) (.t rfl) (k := 0) rfl rfl rfl (by simp [Value.oneCell']) fun a w S => run S (.as rfl <| .z) fun a w S => st_nil (then_normal (hK1 _ _ (wp_seq_k fun _ hK1 => wp_region_lit (run S (.la gt39 10 rfl rfl rfl <| .la gt39 10 rfl rfl rfl <| .z) fun a w S => ?_))))))
        (refine st_m (op_calls S call33 (.cons (.t rfl) (.cons (.t rfl) .nil)) (c33 _ _ _ _ _ _ _ _ _ (by exact Sl.of_own S.wd (k := 17) rfl (fun _ => rfl)) (by exact ⟨(by exact Sl.of_own S.wd (k := 18) rfl (fun _ => rfl)), (by exact Sl.of_own S.wd (k := 19) rfl (fun _ => rfl))⟩) (by exact Sl.of_own S.wd (k := 17) rfl (fun _ => rfl)) (by exact ⟨(by exact Sl.of_own S.wd (k := 18) rfl (fun _ => rfl)), (by exact Sl.of_own S.wd (k := 19) rfl (fun _ => rfl))⟩)) rfl ?_); clear S a w; rintro _ _ ⟨A16, r16, A26, r26, A36, r36, rfl, rfl⟩ a w S)
        rw [rw_s] at S
        refine run S (.mv rfl <| .ex rfl rfl <| .ex rfl rfl <| .z) fun a w S => st_m (op_alloc S zeroValue39 (cs := _) rfl rfl fun g7 a w S => st_m (op_stW S sizeOf39 (.t rfl) (.t rfl) (k := 0) rfl rfl rfl (by simp [Value.oneCell']) fun a w S => run S (.as rfl <| .z) fun a w S => st_nil (then_normal (hK1 _ _ (wp_seq_k fun _ hK1 => wp_seq_k fun _ hK2 => wp_region_lit (run S (.mv rfl <| .mv rfl <| .yy (ys_F (by omega) (ys_neq (.t rfl) (.t rfl))) rfl <| .mv rfl <| .gy rfl rfl (ys_ldA ⟨isAgg39, sizeOf39⟩ (.t rfl) (k := 8) rfl rfl) <| .gy rfl rfl (ys_ldA ⟨isAgg39, sizeOf39⟩ (.t rfl) (k := 4) rfl rfl) <| .gx rfl rfl (ys_call call17 (.cons (.t rfl) (.cons (.t rfl) .nil)) (fun hp w W => c17 _ _ _ _ _ _ _ _ _ (by exact Sl.of_own W (k := 9) rfl (fun _ => rfl)) (by exact ⟨(by exact Sl.of_own W (k := 10) rfl (fun _ => rfl)), (by exact Sl.of_own W (k := 11) rfl (fun _ => rfl))⟩) (by exact Sl.of_own W (k := 5) rfl (fun _ => rfl)) (by exact ⟨(by exact Sl.of_own W (k := 6) rfl (fun _ => rfl)), (by exact Sl.of_own W (k := 7) rfl (fun _ => rfl))⟩))) <| .z) fun a w S => ?_))))))
        simp only [List.nil_append] at S
        refine run S (.gy rfl rfl (ys_not (.t rfl)) <| .yy (ys_pickF (.t rfl) (.t rfl)) rfl <| .mv rfl <| .gy rfl rfl (ys_move (.t rfl)) <| .gy rfl rfl (ys_F (by omega) (ys_neq (.t rfl) Ev.c)) <| .yy (ys_pickF (.t rfl) (.t rfl)) rfl <| .mv rfl <| .gy rfl rfl (ys_ldA ⟨isAgg39, sizeOf39⟩ (.t rfl) (k := 0) rfl rfl) <| .gy rfl rfl (ys_ldA ⟨isAgg39, sizeOf39⟩ (.t rfl) (k := 14) rfl rfl) <| .gx rfl rfl (ys_call call17 (.cons (.t rfl) (.cons (.t rfl) .nil)) (fun hp w W => c17 _ _ _ _ _ _ _ _ _ (by exact Sl.of_own W (k := 1) rfl (fun _ => rfl)) (by exact ⟨(by exact Sl.of_own W (k := 2) rfl (fun _ => rfl)), (by exact Sl.of_own W (k := 3) rfl (fun _ => rfl))⟩) (by exact Sl.of_own W (k := 21) rfl (fun _ => rfl)) (by exact ⟨(by exact Sl.of_own W (k := 22) rfl (fun _ => rfl)), (by exact Sl.of_own W (k := 23) rfl (fun _ => rfl))⟩))) <| .z) fun a w S => ?_
        simp only [List.nil_append] at S
        refine run S (.gy rfl rfl (ys_not (.t rfl)) <| .yy (ys_pickF (.t rfl) (.t rfl)) rfl <| .z) fun a w S => st_nil (then_normal (hK2 _ _ (st_else S (.t rfl) (wp_skip (then_normal (hK1 _ _ (wp_seq_k fun _ hK1 => wp_seq_k fun _ hK2 => wp_region_lit (run S (.mv rfl <| .yy (ys_F (by omega) (ys_neq (.t rfl) Ev.c)) rfl <| .z) fun a w S => st_nil (then_normal (hK2 _ _ (st_else S (.t rfl) (wp_skip (then_normal (hK1 _ _ (wp_seq_k fun _ hK1 => wp_seq_k fun _ hK2 => st_quiet S (by kernel_rfl) (by kernel_rfl) fun a S => qrun S (.la gt39 14 rfl rfl rfl <| .la gt39 8 rfl rfl rfl <| .xx (ys_call call42 (.cons (.t rfl) (.cons (.t rfl) .nil)) (fun hp w W => c42 _ _ _ _ _ _ _ _ _ (by exact Sl.of_own W (k := 21) rfl (fun _ => rfl)) (by exact ⟨(by exact Sl.of_own W (k := 22) rfl (fun _ => rfl)), (by exact Sl.of_own W (k := 23) rfl (fun _ => rfl))⟩) (by exact Sl.of_own W (k := 9) rfl (fun _ => rfl)) (by exact ⟨(by exact Sl.of_own W (k := 10) rfl (fun _ => rfl)), (by exact Sl.of_own W (k := 11) rfl (fun _ => rfl))⟩) (by assumption) (by assumption))) rfl <| .z) fun a S => ?_)))))))))))))))
        rw [rw_l1] at S
        refine qrun S (.nt rfl <| .mv rfl <| .gy rfl rfl (ys_ldA ⟨isAgg39, sizeOf39⟩ (.t rfl) (k := 13) rfl rfl) <| .gy rfl rfl (ys_ldA ⟨isAgg39, sizeOf39⟩ (.t rfl) (k := 8) rfl rfl) <| .gx rfl rfl (ys_call call42 (.cons (.t rfl) (.cons (.t rfl) .nil)) (fun hp w W => c42 _ _ _ _ _ _ _ _ _ (by exact Sl.of_own W (k := 18) rfl (fun _ => rfl)) (by exact ⟨(by exact Sl.of_own W (k := 19) rfl (fun _ => rfl)), (by exact Sl.of_own W (k := 20) rfl (fun _ => rfl))⟩) (by exact Sl.of_own W (k := 9) rfl (fun _ => rfl)) (by exact ⟨(by exact Sl.of_own W (k := 10) rfl (fun _ => rfl)), (by exact Sl.of_own W (k := 11) rfl (fun _ => rfl))⟩) (by assumption) (by assumption))) <| .z) fun a S => ?_
        rw [rw_l2] at S
        refine qrun S (.gy rfl rfl (ys_not (.t rfl)) <| .yy (ys_pickF (.t rfl) (.t rfl)) rfl <| .mv rfl <| .gy rfl rfl (ys_ldA ⟨isAgg39, sizeOf39⟩ (.t rfl) (k := 14) rfl rfl) <| .gy rfl rfl (ys_ldA ⟨isAgg39, sizeOf39⟩ (.t rfl) (k := 13) rfl rfl) <| .gx rfl rfl (ys_call call42 (.cons (.t rfl) (.cons (.t rfl) .nil)) (fun hp w W => c42 _ _ _ _ _ _ _ _ _ (by exact Sl.of_own W (k := 21) rfl (fun _ => rfl)) (by exact ⟨(by exact Sl.of_own W (k := 22) rfl (fun _ => rfl)), (by exact Sl.of_own W (k := 23) rfl (fun _ => rfl))⟩) (by exact Sl.of_own W (k := 18) rfl (fun _ => rfl)) (by exact ⟨(by exact Sl.of_own W (k := 19) rfl (fun _ => rfl)), (by exact Sl.of_own W (k := 20) rfl (fun _ => rfl))⟩) (by assumption) (by assumption))) <| .z) fun a S => ?_
        rw [rw_l3] at S
        refine qrun S (.gy rfl rfl (ys_ldA ⟨isAgg39, sizeOf39⟩ (.t rfl) (k := 8) rfl rfl) <| .gy rfl rfl (ys_ldA ⟨isAgg39, sizeOf39⟩ (.t rfl) (k := 13) rfl rfl) <| .gx rfl rfl (ys_call call17 (.cons (.t rfl) (.cons (.t rfl) .nil)) (fun hp w W => c17 _ _ _ _ _ _ _ _ _ (by exact Sl.of_own W (k := 9) rfl (fun _ => rfl)) (by exact ⟨(by exact Sl.of_own W (k := 10) rfl (fun _ => rfl)), (by exact Sl.of_own W (k := 11) rfl (fun _ => rfl))⟩) (by exact Sl.of_own W (k := 18) rfl (fun _ => rfl)) (by exact ⟨(by exact Sl.of_own W (k := 19) rfl (fun _ => rfl)), (by exact Sl.of_own W (k := 20) rfl (fun _ => rfl))⟩))) <| .gy rfl rfl (ys_neqB underlying4 (.t rfl) (.t rfl)) <| .z) fun a S => ?_
        rw [rw_b] at S
        refine qrun S (.yy (ys_pickF (.t rfl) (.t rfl)) rfl <| .z) fun a S => ?_
        (refine q_nil ?_; intro w W; replace S := St.mk S W; clear W)
        refine then_normal (hK2 _ _ (st_else S (.t rfl) (wp_skip (then_normal (hK1 _ _ (wp_seq_k fun _ hK1 => wp_region_lit (run S (.la gt39 8 rfl rfl rfl <| .la gt39 12 rfl rfl rfl <| .z) fun a w S => ?_)))))))
        (refine st_m (op_calls S call33 (.cons (.t rfl) (.cons (.t rfl) .nil)) (c33 _ _ _ _ _ _ _ _ _ (by exact Sl.of_own S.wd (k := 9) rfl (fun _ => rfl)) (by exact ⟨(by exact Sl.of_own S.wd (k := 10) rfl (fun _ => rfl)), (by exact Sl.of_own S.wd (k := 11) rfl (fun _ => rfl))⟩) (by exact Sl.of_own S.wd (k := 15) rfl (fun _ => rfl)) (by exact ⟨(by exact Sl.of_own S.wd (k := 16) rfl (fun _ => rfl)), (by exact Sl.of_own S.wd (k := 17) rfl (fun _ => rfl))⟩)) rfl ?_); clear S a w; rintro _ _ ⟨A17, r17, A27, r27, A37, r37, rfl, rfl⟩ a w S)
        rw [rw_k1] at S
        refine run S (.mv rfl <| .ex rfl rfl <| .ex rfl rfl <| .z) fun a w S => st_m (op_alloc S zeroValue39 (cs := _) rfl rfl fun g8 a w S => st_m (op_stW S sizeOf39 (.t rfl) (.t rfl) (k := 0) rfl rfl rfl (by simp [Value.oneCell']) fun a w S => run S (.as rfl <| .z) fun a w S => st_nil (then_normal (hK1 _ _ (wp_seq_k fun _ hK1 => wp_region_lit (run S (.la gt39 17 rfl rfl rfl <| .la gt39 16 rfl rfl rfl <| .z) fun a w S => ?_))))))
        (refine st_m (op_calls S call33 (.cons (.t rfl) (.cons (.t rfl) .nil)) (c33 _ _ _ _ _ _ _ _ _ (by exact Sl.of_own S.wd (k := 22) rfl (fun _ => rfl)) (by exact ⟨(by exact Sl.of_own S.wd (k := 23) rfl (fun _ => rfl)), (by exact Sl.of_own S.wd (k := 24) rfl (fun _ => rfl))⟩) (by exact Sl.of_own S.wd (k := 19) rfl (fun _ => rfl)) (by exact ⟨(by exact Sl.of_own S.wd (k := 20) rfl (fun _ => rfl)), (by exact Sl.of_own S.wd (k := 21) rfl (fun _ => rfl))⟩)) rfl ?_); clear S a w; rintro _ _ ⟨A18, r18, A28, r28, A38, r38, rfl, rfl⟩ a w S)
        refine run S (.mv rfl <| .ex rfl rfl <| .ex rfl rfl <| .z) fun a w S => st_m (op_alloc S zeroValue39 (cs := _) rfl rfl fun g9 a w S => st_m (op_stW S sizeOf39 (.t rfl) (.t rfl) (k := 0) rfl rfl rfl (by simp [Value.oneCell']) fun a w S => run S (.as rfl <| .z) fun a w S => st_nil (then_normal (hK1 _ _ (wp_seq_k fun _ hK1 => wp_seq_k fun _ hK2 => wp_region_lit (run S (.mv rfl <| .yy (ys_F (by omega) (ys_neq (.t rfl) Ev.c)) rfl <| .mv rfl <| .gy rfl rfl (ys_move (.t rfl)) <| .gy rfl rfl (ys_T (by omega) (ys_neq (.t rfl) Ev.c)) <| .yy (ys_pickF (.t rfl) (.t rfl)) rfl <| .z) fun a w S => st_nil (then_normal (hK2 _ _ (st_then S (.t rfl) (wp_seq_k fun _ hK2 => wp_region_lit (run S (.ac rfl <| .z) fun a w S => st_nil (then_normal (hK2 _ _ (wp_ret (then_ret (st_ret S (results1 S results10 (Rv.tmp rfl)) ?_))))))))))))))))
        exact ⟨rfl, S.wd.below⟩
    · have rw_k1 : decide ((joinK (joinK X Y).1 Z).2 ≠ 0) = true := decide_eq_true k1
      refine run S (.as rfl <| .as rfl <| .z) fun a w S => st_nil (then_normal (hK1 _ _ (wp_seq_k fun _ hK1 => wp_region_lit (run S (.mv rfl <| .mv rfl <| .z) fun a w S => ?_))))
      (refine st_m (op_calls S call14 (.cons (.t rfl) (.cons (.t rfl) .nil)) (c14 _ _ _ _ (by exact Sl.of_own S.wd (k := 0) rfl (fun _ => rfl)) (by exact carts_rd (by assumption) S.wd (k := 2) rfl) (by assumption)) rfl ?_); clear S a w; rintro _ _ ⟨A11, r11, A21, r21, A31, r31, rfl, rfl⟩ a w S)
      simp only [List.nil_append] at S
      rw [rw_st] at S
      rw [rw_X] at S
      refine run S (.mv rfl <| .mv rfl <| .z) fun a w S => ?_
      (refine st_m (op_calls S call14 (.cons (.t rfl) (.cons (.t rfl) .nil)) (c14 _ _ _ _ (by exact Sl.of_own S.wd (k := 3) rfl (fun _ => rfl)) (by exact carts_rd (by assumption) S.wd (k := 5) rfl) (by assumption)) rfl ?_); clear S a w; rintro _ _ ⟨A12, r12, A22, r22, A32, r32, rfl, rfl⟩ a w S)
      simp only [List.nil_append] at S
      rw [rw_st] at S
      rw [rw_Y] at S
      refine run S (.mv rfl <| .mv rfl <| .z) fun a w S => ?_
      (refine st_m (op_calls S call14 (.cons (.t rfl) (.cons (.t rfl) .nil)) (c14 _ _ _ _ (by exact Sl.of_own S.wd (k := 6) rfl (fun _ => rfl)) (by exact carts_rd (by assumption) S.wd (k := 8) rfl) (by assumption)) rfl ?_); clear S a w; rintro _ _ ⟨A13, r13, A23, r23, A33, r33, rfl, rfl⟩ a w S)
      simp only [List.nil_append] at S
      rw [rw_st] at S
      rw [rw_Z] at S
      refine st_m (op_alloc S zeroValue39 (cs := _) rfl rfl fun g2 a w S => st_m (op_alloc S zeroValue39 (cs := _) rfl rfl fun g3 a w S => st_m (op_alloc S zeroValue39 (cs := _) rfl rfl fun g4 a w S => st_m (op_stW S sizeOf39 (.t rfl) (.t rfl) (k := 2) rfl rfl rfl (by simp [Value.oneCell']) fun a w S => st_m (op_stW S sizeOf39 (.t rfl) (.t rfl) (k := 1) rfl rfl rfl (by simp [Value.oneCell']) fun a w S => st_m (op_stW S sizeOf39 (.t rfl) (.t rfl) (k := 0) rfl rfl rfl (by simp [Value.oneCell']) fun a w S => st_nil (then_normal (hK1 _ _ (wp_seq_k fun _ hK1 => wp_region_lit (run S (.la gt39 2 rfl rfl rfl <| .la gt39 1 rfl rfl rfl <| .z) fun a w S => ?_))))))))))
      (refine st_m (op_calls S call33 (.cons (.t rfl) (.cons (.t rfl) .nil)) (c33 _ _ _ _ _ _ _ _ _ (by exact Sl.of_own S.wd (k := 9) rfl (fun _ => rfl)) (by exact ⟨(by exact Sl.of_own S.wd (k := 10) rfl (fun _ => rfl)), (by exact Sl.of_own S.wd (k := 11) rfl (fun _ => rfl))⟩) (by exact Sl.of_own S.wd (k := 6) rfl (fun _ => rfl)) (by exact ⟨(by exact Sl.of_own S.wd (k := 7) rfl (fun _ => rfl)), (by exact Sl.of_own S.wd (k := 8) rfl (fun _ => rfl))⟩)) rfl ?_); clear S a w; rintro _ _ ⟨A14, r14, A24, r24, A34, r34, rfl, rfl⟩ a w S)
      rw [rw_j] at S
      refine run S (.mv rfl <| .ex rfl rfl <| .ex rfl rfl <| .z) fun a w S => st_m (op_alloc S zeroValue39 (cs := _) rfl rfl fun g5 a w S => st_m (op_stW S sizeOf39 (.t rfl) (.t rfl) (k := 0) rfl rfl rfl (by simp [Value.oneCell']) fun a w S => run S (.as rfl <| .z) fun a w S => st_nil (then_normal (hK1 _ _ (wp_seq_k fun _ hK1 => wp_region_lit (run S (.la gt39 5 rfl rfl rfl <| .la gt39 6 rfl rfl rfl <| .z) fun a w S => ?_))))))
      (refine st_m (op_calls S call33 (.cons (.t rfl) (.cons (.t rfl) .nil)) (c33 _ _ _ _ _ _ _ _ _ (by exact Sl.of_own S.wd (k := 10) rfl (fun _ => rfl)) (by exact ⟨(by exact Sl.of_own S.wd (k := 11) rfl (fun _ => rfl)), (by exact Sl.of_own S.wd (k := 12) rfl (fun _ => rfl))⟩) (by exact Sl.of_own S.wd (k := 13) rfl (fun _ => rfl)) (by exact ⟨(by exact Sl.of_own S.wd (k := 14) rfl (fun _ => rfl)), (by exact Sl.of_own S.wd (k := 15) rfl (fun _ => rfl))⟩)) rfl ?_); clear S a w; rintro _ _ ⟨A15, r15, A25, r25, A35, r35, rfl, rfl⟩ a w S)
      rw [rw_c] at S
      rw [rw_j] at S
      refine run S (.mv rfl <| .ex rfl rfl <| .ex rfl rfl <| .z) fun a w S => st_m (op_alloc S zeroValue39 (cs := _) rfl rfl fun g6 a w S => st_m (op_stW S sizeOf39 (.t rfl) (.t rfl) (k := 0) rfl rfl rfl (by simp [Value.oneCell']) fun a w S => run S (.as rfl <| .z) fun a w S => st_nil (then_normal (hK1 _ _ (wp_seq_k fun _ hK1 => wp_region_lit (run S (.la gt39 10 rfl rfl rfl <| .la gt39 10 rfl rfl rfl <| .z) fun a w S => ?_))))))
      (refine st_m (op_calls S call33 (.cons (.t rfl) (.cons (.t rfl) .nil)) (c33 _ _ _ _ _ _ _ _ _ (by exact Sl.of_own S.wd (k := 17) rfl (fun _ => rfl)) (by exact ⟨(by exact Sl.of_own S.wd (k := 18) rfl (fun _ => rfl)), (by exact Sl.of_own S.wd (k := 19) rfl (fun _ => rfl))⟩) (by exact Sl.of_own S.wd (k := 17) rfl (fun _ => rfl)) (by exact ⟨(by exact Sl.of_own S.wd (k := 18) rfl (fun _ => rfl)), (by exact Sl.of_own S.wd (k := 19) rfl (fun _ => rfl))⟩)) rfl ?_); clear S a w; rintro _ _ ⟨A16, r16, A26, r26, A36, r36, rfl, rfl⟩ a w S)
      rw [rw_s] at S
      refine run S (.mv rfl <| .ex rfl rfl <| .ex rfl rfl <| .z) fun a w S => st_m (op_alloc S zeroValue39 (cs := _) rfl rfl fun g7 a w S => st_m (op_stW S sizeOf39 (.t rfl) (.t rfl) (k := 0) rfl rfl rfl (by simp [Value.oneCell']) fun a w S => run S (.as rfl <| .z) fun a w S => st_nil (then_normal (hK1 _ _ (wp_seq_k fun _ hK1 => wp_seq_k fun _ hK2 => wp_region_lit (run S (.mv rfl <| .mv rfl <| .yy (ys_F (by omega) (ys_neq (.t rfl) (.t rfl))) rfl <| .mv rfl <| .gy rfl rfl (ys_ldA ⟨isAgg39, sizeOf39⟩ (.t rfl) (k := 8) rfl rfl) <| .gy rfl rfl (ys_ldA ⟨isAgg39, sizeOf39⟩ (.t rfl) (k := 4) rfl rfl) <| .gx rfl rfl (ys_call call17 (.cons (.t rfl) (.cons (.t rfl) .nil)) (fun hp w W => c17 _ _ _ _ _ _ _ _ _ (by exact Sl.of_own W (k := 9) rfl (fun _ => rfl)) (by exact ⟨(by exact Sl.of_own W (k := 10) rfl (fun _ => rfl)), (by exact Sl.of_own W (k := 11) rfl (fun _ => rfl))⟩) (by exact Sl.of_own W (k := 5) rfl (fun _ => rfl)) (by exact ⟨(by exact Sl.of_own W (k := 6) rfl (fun _ => rfl)), (by exact Sl.of_own W (k := 7) rfl (fun _ => rfl))⟩))) <| .z) fun a w S => ?_))))))
      simp only [List.nil_append] at S
      refine run S (.gy rfl rfl (ys_not (.t rfl)) <| .yy (ys_pickF (.t rfl) (.t rfl)) rfl <| .mv rfl <| .gy rfl rfl (ys_move (.t rfl)) <| .gy rfl rfl (ys_F (by omega) (ys_neq (.t rfl) Ev.c)) <| .yy (ys_pickF (.t rfl) (.t rfl)) rfl <| .mv rfl <| .gy rfl rfl (ys_ldA ⟨isAgg39, sizeOf39⟩ (.t rfl) (k := 0) rfl rfl) <| .gy rfl rfl (ys_ldA ⟨isAgg39, sizeOf39⟩ (.t rfl) (k := 14) rfl rfl) <| .gx rfl rfl (ys_call call17 (.cons (.t rfl) (.cons (.t rfl) .nil)) (fun hp w W => c17 _ _ _ _ _ _ _ _ _ (by exact Sl.of_own W (k := 1) rfl (fun _ => rfl)) (by exact ⟨(by exact Sl.of_own W (k := 2) rfl (fun _ => rfl)), (by exact Sl.of_own W (k := 3) rfl (fun _ => rfl))⟩) (by exact Sl.of_own W (k := 21) rfl (fun _ => rfl)) (by exact ⟨(by exact Sl.of_own W (k := 22) rfl (fun _ => rfl)), (by exact Sl.of_own W (k := 23) rfl (fun _ => rfl))⟩))) <| .z) fun a w S => ?_
      simp only [List.nil_append] at S
      refine run S (.gy rfl rfl (ys_not (.t rfl)) <| .yy (ys_pickF (.t rfl) (.t rfl)) rfl <| .z) fun a w S => st_nil (then_normal (hK2 _ _ (st_else S (.t rfl) (wp_skip (then_normal (hK1 _ _ (wp_seq_k fun _ hK1 => wp_seq_k fun _ hK2 => wp_region_lit (run S (.mv rfl <| .yy (ys_F (by omega) (ys_neq (.t rfl) Ev.c)) rfl <| .z) fun a w S => st_nil (then_normal (hK2 _ _ (st_else S (.t rfl) (wp_skip (then_normal (hK1 _ _ (wp_seq_k fun _ hK1 => wp_seq_k fun _ hK2 => st_quiet S (by kernel_rfl) (by kernel_rfl) fun a S => qrun S (.la gt39 14 rfl rfl rfl <| .la gt39 8 rfl rfl rfl <| .xx (ys_call call42 (.cons (.t rfl) (.cons (.t rfl) .nil)) (fun hp w W => c42 _ _ _ _ _ _ _ _ _ (by exact Sl.of_own W (k := 21) rfl (fun _ => rfl)) (by exact ⟨(by exact Sl.of_own W (k := 22) rfl (fun _ => rfl)), (by exact Sl.of_own W (k := 23) rfl (fun _ => rfl))⟩) (by exact Sl.of_own W (k := 9) rfl (fun _ => rfl)) (by exact ⟨(by exact Sl.of_own W (k := 10) rfl (fun _ => rfl)), (by exact Sl.of_own W (k := 11) rfl (fun _ => rfl))⟩) (by assumption) (by assumption))) rfl <| .z) fun a S => ?_)))))))))))))))
      rw [rw_l1] at S
      refine qrun S (.nt rfl <| .mv rfl <| .gy rfl rfl (ys_ldA ⟨isAgg39, sizeOf39⟩ (.t rfl) (k := 13) rfl rfl) <| .gy rfl rfl (ys_ldA ⟨isAgg39, sizeOf39⟩ (.t rfl) (k := 8) rfl rfl) <| .gx rfl rfl (ys_call call42 (.cons (.t rfl) (.cons (.t rfl) .nil)) (fun hp w W => c42 _ _ _ _ _ _ _ _ _ (by exact Sl.of_own W (k := 18) rfl (fun _ => rfl)) (by exact ⟨(by exact Sl.of_own W (k := 19) rfl (fun _ => rfl)), (by exact Sl.of_own W (k := 20) rfl (fun _ => rfl))⟩) (by exact Sl.of_own W (k := 9) rfl (fun _ => rfl)) (by exact ⟨(by exact Sl.of_own W (k := 10) rfl (fun _ => rfl)), (by exact Sl.of_own W (k := 11) rfl (fun _ => rfl))⟩) (by assumption) (by assumption))) <| .z) fun a S => ?_
      rw [rw_l2] at S
      refine qrun S (.gy rfl rfl (ys_not (.t rfl)) <| .yy (ys_pickF (.t rfl) (.t rfl)) rfl <| .mv rfl <| .gy rfl rfl (ys_ldA ⟨isAgg39, sizeOf39⟩ (.t rfl) (k := 14) rfl rfl) <| .gy rfl rfl (ys_ldA ⟨isAgg39, sizeOf39⟩ (.t rfl) (k := 13) rfl rfl) <| .gx rfl rfl (ys_call call42 (.cons (.t rfl) (.cons (.t rfl) .nil)) (fun hp w W => c42 _ _ _ _ _ _ _ _ _ (by exact Sl.of_own W (k := 21) rfl (fun _ => rfl)) (by exact ⟨(by exact Sl.of_own W (k := 22) rfl (fun _ => rfl)), (by exact Sl.of_own W (k := 23) rfl (fun _ => rfl))⟩) (by exact Sl.of_own W (k := 18) rfl (fun _ => rfl)) (by exact ⟨(by exact Sl.of_own W (k := 19) rfl (fun _ => rfl)), (by exact Sl.of_own W (k := 20) rfl (fun _ => rfl))⟩) (by assumption) (by assumption))) <| .z) fun a S => ?_
      rw [rw_l3] at S
      refine qrun S (.gy rfl rfl (ys_ldA ⟨isAgg39, sizeOf39⟩ (.t rfl) (k := 8) rfl rfl) <| .gy rfl rfl (ys_ldA ⟨isAgg39, sizeOf39⟩ (.t rfl) (k := 13) rfl rfl) <| .gx rfl rfl (ys_call call17 (.cons (.t rfl) (.cons (.t rfl) .nil)) (fun hp w W => c17 _ _ _ _ _ _ _ _ _ (by exact Sl.of_own W (k := 9) rfl (fun _ => rfl)) (by exact ⟨(by exact Sl.of_own W (k := 10) rfl (fun _ => rfl)), (by exact Sl.of_own W (k := 11) rfl (fun _ => rfl))⟩) (by exact Sl.of_own W (k := 18) rfl (fun _ => rfl)) (by exact ⟨(by exact Sl.of_own W (k := 19) rfl (fun _ => rfl)), (by exact Sl.of_own W (k := 20) rfl (fun _ => rfl))⟩))) <| .gy rfl rfl (ys_neqB underlying4 (.t rfl) (.t rfl)) <| .z) fun a S => ?_
      rw [rw_b] at S
      refine qrun S (.yy (ys_pickF (.t rfl) (.t rfl)) rfl <| .z) fun a S => ?_
      (refine q_nil ?_; intro w W; replace S := St.mk S W; clear W)
      refine then_normal (hK2 _ _ (st_else S (.t rfl) (wp_skip (then_normal (hK1 _ _ (wp_seq_k fun _ hK1 => wp_region_lit (run S (.la gt39 8 rfl rfl rfl <| .la gt39 12 rfl rfl rfl <| .z) fun a w S => ?_)))))))
      (refine st_m (op_calls S call33 (.cons (.t rfl) (.cons (.t rfl) .nil)) (c33 _ _ _ _ _ _ _ _ _ (by exact Sl.of_own S.wd (k := 9) rfl (fun _ => rfl)) (by exact ⟨(by exact Sl.of_own S.wd (k := 10) rfl (fun _ => rfl)), (by exact Sl.of_own S.wd (k := 11) rfl (fun _ => rfl))⟩) (by exact Sl.of_own S.wd (k := 15) rfl (fun _ => rfl)) (by exact ⟨(by exact Sl.of_own S.wd (k := 16) rfl (fun _ => rfl)), (by exact Sl.of_own S.wd (k := 17) rfl (fun _ => rfl))⟩)) rfl ?_); clear S a w; rintro _ _ ⟨A17, r17, A27, r27, A37, r37, rfl, rfl⟩ a w S)
      refine run S (.mv rfl <| .ex rfl rfl <| .ex rfl rfl <| .z) fun a w S => st_m (op_alloc S zeroValue39 (cs := _) rfl rfl fun g8 a w S => st_m (op_stW S sizeOf39 (.t rfl) (.t rfl) (k := 0) rfl rfl rfl (by simp [Value.oneCell']) fun a w S => run S (.as rfl <| .z) fun a w S => st_nil (then_normal (hK1 _ _ (wp_seq_k fun _ hK1 => wp_region_lit (run S (.la gt39 17 rfl rfl rfl <| .la gt39 16 rfl rfl rfl <| .z) fun a w S => ?_))))))
      (refine st_m (op_calls S call33 (.cons (.t rfl) (.cons (.t rfl) .nil)) (c33 _ _ _ _ _ _ _ _ _ (by exact Sl.of_own S.wd (k := 22) rfl (fun _ => rfl)) (by exact ⟨(by exact Sl.of_own S.wd (k := 23) rfl (fun _ => rfl)), (by exact Sl.of_own S.wd (k := 24) rfl (fun _ => rfl))⟩) (by exact Sl.of_own S.wd (k := 19) rfl (fun _ => rfl)) (by exact ⟨(by exact Sl.of_own S.wd (k := 20) rfl (fun _ => rfl)), (by exact Sl.of_own S.wd (k := 21) rfl (fun _ => rfl))⟩)) rfl ?_); clear S a w; rintro _ _ ⟨A18, r18, A28, r28, A38, r38, rfl, rfl⟩ a w S)
      refine run S (.mv rfl <| .ex rfl rfl <| .ex rfl rfl <| .z) fun a w S => st_m (op_alloc S zeroValue39 (cs := _) rfl rfl fun g9 a w S => st_m (op_stW S sizeOf39 (.t rfl) (.t rfl) (k := 0) rfl rfl rfl (by simp [Value.oneCell']) fun a w S => run S (.as rfl <| .z) fun a w S => st_nil (then_normal (hK1 _ _ (wp_seq_k fun _ hK1 => wp_seq_k fun _ hK2 => wp_region_lit (run S (.mv rfl <| .yy (ys_T (by omega) (ys_neq (.t rfl) Ev.c)) rfl <| .mv rfl <| .sk rfl rfl rfl <| .sk rfl rfl rfl <| .yy (ys_pickT (.t rfl) Ev.c) rfl <| .z) fun a w S => st_nil (then_normal (hK2 _ _ (st_then S (.t rfl) (wp_seq_k fun _ hK2 => wp_region_lit (run S (.ac rfl <| .z) fun a w S => st_nil (then_normal (hK2 _ _ (wp_ret (then_ret (st_ret S (results1 S results10 (Rv.tmp rfl)) ?_))))))))))))))))
      exact ⟨rfl, S.wd.below⟩
  · refine run S (.as rfl <| .as rfl <| .z) fun a w S => st_nil (then_normal (hK1 _ _ (wp_seq_k fun _ hK1 => wp_region_lit (run S (.mv rfl <| .mv rfl <| .z) fun a w S => ?_))))
    (refine st_m (op_calls S call14 (.cons (.t rfl) (.cons (.t rfl) .nil)) (c14 _ _ _ _ (by exact Sl.of_own S.wd (k := 0) rfl (fun _ => rfl)) (by exact carts_rd (by assumption) S.wd (k := 2) rfl) (by assumption)) rfl ?_); clear S a w; rintro _ _ ⟨A11, r11, A21, r21, A31, r31, rfl, rfl⟩ a w S)
    simp only [List.nil_append] at S
    rw [rw_st] at S
    rw [rw_X] at S
    refine run S (.mv rfl <| .mv rfl <| .z) fun a w S => ?_
    (refine st_m (op_calls S call14 (.cons (.t rfl) (.cons (.t rfl) .nil)) (c14 _ _ _ _ (by exact Sl.of_own S.wd (k := 3) rfl (fun _ => rfl)) (by exact carts_rd (by assumption) S.wd (k := 5) rfl) (by assumption)) rfl ?_); clear S a w; rintro _ _ ⟨A12, r12, A22, r22, A32, r32, rfl, rfl⟩ a w S)
    simp only [List.nil_append] at S
    rw [rw_st] at S
    rw [rw_Y] at S
    refine run S (.mv rfl <| .mv rfl <| .z) fun a w S => ?_
    (refine st_m (op_calls S call14 (.cons (.t rfl) (.cons (.t rfl) .nil)) (c14 _ _ _ _ (by exact Sl.of_own S.wd (k := 6) rfl (fun _ => rfl)) (by exact carts_rd (by assumption) S.wd (k := 8) rfl) (by assumption)) rfl ?_); clear S a w; rintro _ _ ⟨A13, r13, A23, r23, A33, r33, rfl, rfl⟩ a w S)
    simp only [List.nil_append] at S
    rw [rw_st] at S
    rw [rw_Z] at S
    refine st_m (op_alloc S zeroValue39 (cs := _) rfl rfl fun g2 a w S => st_m (op_alloc S zeroValue39 (cs := _) rfl rfl fun g3 a w S => st_m (op_alloc S zeroValue39 (cs := _) rfl rfl fun g4 a w S => st_m (op_stW S sizeOf39 (.t rfl) (.t rfl) (k := 2) rfl rfl rfl (by simp [Value.oneCell']) fun a w S => st_m (op_stW S sizeOf39 (.t rfl) (.t rfl) (k := 1) rfl rfl rfl (by simp [Value.oneCell']) fun a w S => st_m (op_stW S sizeOf39 (.t rfl) (.t rfl) (k := 0) rfl rfl rfl (by simp [Value.oneCell']) fun a w S => st_nil (then_normal (hK1 _ _ (wp_seq_k fun _ hK1 => wp_region_lit (run S (.la gt39 2 rfl rfl rfl <| .la gt39 1 rfl rfl rfl <| .z) fun a w S => ?_))))))))))
    (refine st_m (op_calls S call33 (.cons (.t rfl) (.cons (.t rfl) .nil)) (c33 _ _ _ _ _ _ _ _ _ (by exact Sl.of_own S.wd (k := 9) rfl (fun _ => rfl)) (by exact ⟨(by exact Sl.of_own S.wd (k := 10) rfl (fun _ => rfl)), (by exact Sl.of_own S.wd (k := 11) rfl (fun _ => rfl))⟩) (by exact Sl.of_own S.wd (k := 6) rfl (fun _ => rfl)) (by exact ⟨(by exact Sl.of_own S.wd (k := 7) rfl (fun _ => rfl)), (by exact Sl.of_own S.wd (k := 8) rfl (fun _ => rfl))⟩)) rfl ?_); clear S a w; rintro _ _ ⟨A14, r14, A24, r24, A34, r34, rfl, rfl⟩ a w S)
    refine run S (.mv rfl <| .ex rfl rfl <| .ex rfl rfl <| .z) fun a w S => st_m (op_alloc S zeroValue39 (cs := _) rfl rfl fun g5 a w S => st_m (op_stW S sizeOf39 (.t rfl) (.t rfl) (k := 0) rfl rfl rfl (by simp [Value.oneCell']) fun a w S => run S (.as rfl <| .z) fun a w S => st_nil (then_normal (hK1 _ _ (wp_seq_k fun _ hK1 => wp_region_lit (run S (.la gt39 5 rfl rfl rfl <| .la gt39 6 rfl rfl rfl <| .z) fun a w S => ?_))))))
    (refine st_m (op_calls S call33 (.cons (.t rfl) (.cons (.t rfl) .nil)) (c33 _ _ _ _ _ _ _ _ _ (by exact Sl.of_own S.wd (k := 10) rfl (fun _ => rfl)) (by exact ⟨(by exact Sl.of_own S.wd (k := 11) rfl (fun _ => rfl)), (by exact Sl.of_own S.wd (k := 12) rfl (fun _ => rfl))⟩) (by exact Sl.of_own S.wd (k := 13) rfl (fun _ => rfl)) (by exact ⟨(by exact Sl.of_own S.wd (k := 14) rfl (fun _ => rfl)), (by exact Sl.of_own S.wd (k := 15) rfl (fun _ => rfl))⟩)) rfl ?_); clear S a w; rintro _ _ ⟨A15, r15, A25, r25, A35, r35, rfl, rfl⟩ a w S)
    rw [rw_c] at S
    refine run S (.mv rfl <| .ex rfl rfl <| .ex rfl rfl <| .z) fun a w S => st_m (op_alloc S zeroValue39 (cs := _) rfl rfl fun g6 a w S => st_m (op_stW S sizeOf39 (.t rfl) (.t rfl) (k := 0) rfl rfl rfl (by simp [Value.oneCell']) fun a w S => run S (.as rfl <| .z) fun a w S => st_nil (then_normal (hK1 _ _ (wp_seq_k fun _ hK1 => wp_region_lit (run S (.la gt39 10 rfl rfl rfl <| .la gt39 10 rfl rfl rfl <| .z) fun a w S => ?_))))))
    (refine st_m (op_calls S call33 (.cons (.t rfl) (.cons (.t rfl) .nil)) (c33 _ _ _ _ _ _ _ _ _ (by exact Sl.of_own S.wd (k := 17) rfl (fun _ => rfl)) (by exact ⟨(by exact Sl.of_own S.wd (k := 18) rfl (fun _ => rfl)), (by exact Sl.of_own S.wd (k := 19) rfl (fun _ => rfl))⟩) (by exact Sl.of_own S.wd (k := 17) rfl (fun _ => rfl)) (by exact ⟨(by exact Sl.of_own S.wd (k := 18) rfl (fun _ => rfl)), (by exact Sl.of_own S.wd (k := 19) rfl (fun _ => rfl))⟩)) rfl ?_); clear S a w; rintro _ _ ⟨A16, r16, A26, r26, A36, r36, rfl, rfl⟩ a w S)
    rw [rw_s] at S
    refine run S (.mv rfl <| .ex rfl rfl <| .ex rfl rfl <| .z) fun a w S => st_m (op_alloc S zeroValue39 (cs := _) rfl rfl fun g7 a w S => st_m (op_stW S sizeOf39 (.t rfl) (.t rfl) (k := 0) rfl rfl rfl (by simp [Value.oneCell']) fun a w S => run S (.as rfl <| .z) fun a w S => st_nil (then_normal (hK1 _ _ (wp_seq_k fun _ hK1 => wp_seq_k fun _ hK2 => wp_region_lit (run S (.mv rfl <| .mv rfl <| .yy (ys_F (by omega) (ys_neq (.t rfl) (.t rfl))) rfl <| .mv rfl <| .gy rfl rfl (ys_ldA ⟨isAgg39, sizeOf39⟩ (.t rfl) (k := 8) rfl rfl) <| .gy rfl rfl (ys_ldA ⟨isAgg39, sizeOf39⟩ (.t rfl) (k := 4) rfl rfl) <| .gx rfl rfl (ys_call call17 (.cons (.t rfl) (.cons (.t rfl) .nil)) (fun hp w W => c17 _ _ _ _ _ _ _ _ _ (by exact Sl.of_own W (k := 9) rfl (fun _ => rfl)) (by exact ⟨(by exact Sl.of_own W (k := 10) rfl (fun _ => rfl)), (by exact Sl.of_own W (k := 11) rfl (fun _ => rfl))⟩) (by exact Sl.of_own W (k := 5) rfl (fun _ => rfl)) (by exact ⟨(by exact Sl.of_own W (k := 6) rfl (fun _ => rfl)), (by exact Sl.of_own W (k := 7) rfl (fun _ => rfl))⟩))) <| .z) fun a w S => ?_))))))
    simp only [List.nil_append] at S
    refine run S (.gy rfl rfl (ys_not (.t rfl)) <| .yy (ys_pickF (.t rfl) (.t rfl)) rfl <| .mv rfl <| .gy rfl rfl (ys_move (.t rfl)) <| .gy rfl rfl (ys_F (by omega) (ys_neq (.t rfl) Ev.c)) <| .yy (ys_pickF (.t rfl) (.t rfl)) rfl <| .mv rfl <| .gy rfl rfl (ys_ldA ⟨isAgg39, sizeOf39⟩ (.t rfl) (k := 0) rfl rfl) <| .gy rfl rfl (ys_ldA ⟨isAgg39, sizeOf39⟩ (.t rfl) (k := 14) rfl rfl) <| .gx rfl rfl (ys_call call17 (.cons (.t rfl) (.cons (.t rfl) .nil)) (fun hp w W => c17 _ _ _ _ _ _ _ _ _ (by exact Sl.of_own W (k := 1) rfl (fun _ => rfl)) (by exact ⟨(by exact Sl.of_own W (k := 2) rfl (fun _ => rfl)), (by exact Sl.of_own W (k := 3) rfl (fun _ => rfl))⟩) (by exact Sl.of_own W (k := 21) rfl (fun _ => rfl)) (by exact ⟨(by exact Sl.of_own W (k := 22) rfl (fun _ => rfl)), (by exact Sl.of_own W (k := 23) rfl (fun _ => rfl))⟩))) <| .z) fun a w S => ?_
    simp only [List.nil_append] at S
    refine run S (.gy rfl rfl (ys_not (.t rfl)) <| .yy (ys_pickF (.t rfl) (.t rfl)) rfl <| .z) fun a w S => st_nil (then_normal (hK2 _ _ (st_else S (.t rfl) (wp_skip (then_normal (hK1 _ _ (wp_seq_k fun _ hK1 => wp_seq_k fun _ hK2 => wp_region_lit (run S (.mv rfl <| .yy (ys_T (by omega) (ys_neq (.t rfl) Ev.c)) rfl <| .z) fun a w S => st_nil (then_normal (hK2 _ _ (st_then S (.t rfl) (wp_seq_k fun _ hK2 => wp_region_lit (run S (.mv rfl <| .yy (ys_eql (.t rfl) Ev.c) rfl <| .mv rfl <| .z) fun a w S => st_yf S rfl rfl (Yr.ys (ys_move (.t rfl))) rfl fun a w S => st_yf S rfl rfl (Yr.ys (ys_eql (Ev.g rfl) Ev.c)) rfl fun a w S => run S (.yy (ys_or (.t rfl) Ev.c (Ev.g rfl)) rfl <| .as rfl <| .z) fun a w S => st_nil (then_normal (hK2 _ _ (wp_ret (then_ret (st_ret S (results1 S results10 (Rv.tmp rfl)) ?_))))))))))))))))))
    refine ⟨?_, S.wd.below⟩
    rcases lat.why hj with e | e
    · rw [e]; rfl
    · rw [e]; rfl
end Go.Proofs.YtfblmkocmnbdcaaGreat
