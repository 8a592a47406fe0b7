/- Contracts and laws that the statement Orr leans on, part 6. -/
import Derived.Test.YtfblmkocmnbdcaaGreatOrrK5
set_option linter.unusedVariables false
set_option linter.unusedSimpArgs false
set_option maxRecDepth 100000
set_option maxHeartbeats 4000000
namespace Go.Fw
def encU (x : UInt64) : List Value := [.int .u64 (x.toNat : Int)]
def ctL (l : List Int) : List Value := l.map (Value.int .i64)
theorem ctL_len (l : List Int) : (ctL l).length = l.length := List.length_map ..
theorem ctL_get {l : List Int} {n : Nat} (h : n < l.length) : (ctL l)[0 + n * 1]? = some (.int .i64 (l.getD n 0)) := by
  unfold ctL
  rw [Nat.zero_add, Nat.mul_one, List.getElem?_map, List.getD_eq_getElem?_getD, List.getElem?_eq_getElem h]
  rfl
theorem ctL_set (l : List Int) (n : Nat) (x : Int) : (ctL l).set (0 + n * 1) (.int .i64 x) = ctL (l.set n x) := by
  unfold ctL
  rw [Nat.zero_add, Nat.mul_one, List.map_set]
theorem play_ct (h : Hist) : ∀ i (n : Nat), 0 ≤ (playTo h i).ct.getD n 0 ∧ (playTo h i).ct.getD n 0 ≤ i
  | 0, n => by
    show 0 ≤ (List.replicate 8 (0 : Int)).getD n 0 ∧ (List.replicate 8 (0 : Int)).getD n 0 ≤ (0 : Nat)
    rw [List.getD_eq_getElem?_getD, List.getElem?_replicate]
    split <;> simp
  | i + 1, n => by
    have ih := play_ct h i
    have hn := ih n
    rw [playTo]
    unfold stepP
    split
    · have hm := ih (nodeP (h.nodes.getD i 0))
      rw [List.getD_eq_getElem?_getD, List.getElem?_set]
      rw [List.getD_eq_getElem?_getD] at hn
      split
      · split
        · simp only [Option.getD_some]; omega
        · simp; omega
      · omega
    · omega
theorem node_val (x : Int) : IntKind.i64.wrap ((IntKind.u64.wrap x).tmod 8) = (nodeP x : Int) := by
  have h1 : IntKind.u64.wrap x = x % 18446744073709551616 := by
    simp only [IntKind.wrap, IntKind.signed, IntKind.bits]
    simp
  have h2 : (x % 18446744073709551616).tmod 8 = x % 8 := by
    rw [Int.tmod_eq_emod_of_nonneg (by omega)]
    omega
  rw [h1, h2, IntKind.wrap_i64]
  unfold nodeP
  omega
theorem many_lt (h : Hist) (i : Nat) : i < h.many ↔ i < h.items.length ∧ i < 12 ∧ i < h.qtys.length ∧ i < h.prices.length ∧ i < h.nodes.length ∧ i < h.saws.length := by
  unfold Hist.many
  simp only [Nat.lt_min]
  constructor
  · rintro ⟨⟨⟨⟨⟨h1, h2⟩, h3⟩, h4⟩, h5⟩, h6⟩
    exact ⟨h1, h2, h3, h4, h5, h6⟩
  · rintro ⟨h1, h2, h3, h4, h5, h6⟩
    exact ⟨⟨⟨⟨⟨h1, h2⟩, h3⟩, h4⟩, h5⟩, h6⟩
theorem play_cts (h : Hist) : ∀ i, (playTo h i).ct.length = 8
  | 0 => by simp [playTo, Play.start]
  | i + 1 => by
    rw [playTo]
    unfold stepP
    split
    · rw [List.length_set]; exact play_cts h i
    · exact play_cts h i
theorem play_ups (h : Hist) : ∀ i, (playTo h i).up.length ≤ i
  | 0 => by simp [playTo, Play.start]
  | i + 1 => by
    have ih := play_ups h i
    rw [playTo]
    unfold stepP
    split
    · rw [List.length_append, List.length_singleton]; omega
    · omega
end Go.Fw
namespace Go.Proofs.YtfblmkocmnbdcaaGreat
open Go.Fw Go.Proofs Go.RowKit Go.Proofs.Tryz
theorem c13 (w0 : World) (v1 v2 v3 v4 v5 : Value) (h : Hist) (h1 : Sl encS 1 w0 w0.heap.size v1 h.items) (h2 : Sl encI 1 w0 w0.heap.size v2 h.qtys) (h3 : Sl encU 1 w0 w0.heap.size v3 h.prices) (h4 : Sl encI 1 w0 w0.heap.size v4 h.nodes) (h5 : Sl encU 1 w0 w0.heap.size v5 h.saws) :
    Rets Tryz.prog 13 #[.agg #[v1, v2, v3, v4, v5]] w0 fun v L => ∃ A r A' r' st up w1 bs, v = .tuple #[.slice A st.length r, .slice A' up.length r'] ∧
      L = [rowOf 39 3 SCart.enc A r st, rowOf 60 10 SUpd.enc A' r' up, .ice w1 bs] ∧ st.map (·.1) = (playK h).st ∧ up.map (·.1) = (playK h).up ∧ (∀ p ∈ st, CartIn w1 bs p.1 p.2) ∧ ∀ p ∈ up, CartIn w1 bs p.1.seen p.2 := by
  obtain ⟨A, cap, rfl, hl, hcap, hA⟩ := h1
  obtain ⟨B, capB, rfl, hlB, hcapB, hB⟩ := h2
  obtain ⟨C, capC, rfl, hlC, hcapC, hC⟩ := h3
  obtain ⟨D, capD, rfl, hlD, hcapD, hD⟩ := h4
  obtain ⟨E, capE, rfl, hlE, hcapE, hE⟩ := h5
  unfold Go.Fw.Rets
  refine enter1 func13 rfl ntmps13 rfl fun a S => wp_seq_k fun _ hK1 => wp_region_lit (st_m (op_box S (.t rfl) rfl fun g1 a w S => run S (.ac rfl <| .ac rfl <| .z) fun a w S => st_nil (then_normal (hK1 _ _ (sg S (.ac rfl <| .z) fun a w S => sg S (.ac rfl <| .z) fun a w S => wp_seq_k fun _ hK1 => wp_region_lit (st_m (op_alloc S zeroValue86 (cs := _) rfl rfl fun g2 a w S => st_nil (then_normal (hK1 _ _ (wp_seq_k fun _ hK1 => sg S (.fa underlying26 sizeOf22 0 rfl rfl rfl <| .ld gt22 1 rfl rfl rfl <| .ln underlying22 rfl <| .mc rfl <| .z) fun a w S => wp_block ?_))))))))))
  have e0 : #[Value.int .i64 0, .int .i64 0, .int .i64 0, .int .i64 0, .int .i64 0, .int .i64 0, .int .i64 0, .int .i64 0] = (ctL (playTo h 0).ct).toArray := rfl
  rw [e0] at S
  replace S : St _ _ _ (.ice w0 [] :: _) _ _ := ⟨S.kn, S.wd.bare (fun b hb => by cases hb) (fun b hb => by cases hb)⟩
  replace S := (S.nil_ 60 10 SUpd.enc none).nil_ 39 3 SCart.enc none
  refine st_lpM S [4, 5, 21] (X := Nat × Option Addr × Nat × List SCart × Option Addr × Nat × List SUpd × World × List Nat) (fun q => [(4, true, .slice q.2.1 q.2.2.2.1.length q.2.2.1), (5, true, .slice q.2.2.2.2.1 q.2.2.2.2.2.2.1.length q.2.2.2.2.2.1), (21, true, .int .i64 (q.1 : Int))])
    (fun q => [rowOf 39 3 SCart.enc q.2.1 q.2.2.1 q.2.2.2.1, rowOf 60 10 SUpd.enc q.2.2.2.2.1 q.2.2.2.2.2.1 q.2.2.2.2.2.2.1, .ice q.2.2.2.2.2.2.2.1 q.2.2.2.2.2.2.2.2, .blk g2 (.cells (ctL (playTo h q.1).ct).toArray 86), .blk g1 (.cells #[.slice A h.items.length cap, .slice B h.qtys.length capB, .slice C h.prices.length capC, .slice D h.nodes.length capD, .slice E h.saws.length capE] 26)])
    (fun q => q.1 ≤ h.many ∧ q.2.2.2.1.map (·.1) = (playTo h q.1).st ∧ q.2.2.2.2.2.2.1.map (·.1) = (playTo h q.1).up ∧ (∀ p ∈ q.2.2.2.1, CartIn q.2.2.2.2.2.2.2.1 q.2.2.2.2.2.2.2.2 p.1 p.2) ∧ ∀ p ∈ q.2.2.2.2.2.2.1, CartIn q.2.2.2.2.2.2.2.1 q.2.2.2.2.2.2.2.2 p.1.seen p.2)
    (fun q => h.many - q.1) (0, none, 0, [], none, 0, [], w0, []) ⟨Nat.zero_le _, rfl, rfl, (fun p hp => by cases hp), (fun p hp => by cases hp)⟩ ?_
  clear S
  rintro ⟨i, F, cF, st, G, cG, up, w1, bs⟩ a w ⟨hi, hst, hup, hcs, hcu⟩ S
  dsimp only at hi hst hup hcs hcu S
  have hmany := many_lt h i
  have hct := play_cts h i
  have hsl : st.length ≤ i := by
    have := play_len h i
    rw [← hst, List.length_map] at this
    exact this
  have hul : up.length ≤ i := by
    have := play_ups h i
    rw [← hup, List.length_map] at this
    exact this
  by_cases hlt : i < h.many
  rotate_left
  · have hend : i = h.many := by omega
    have done : playTo h i = playK h := by rw [hend]; rfl
    by_cases c1 : i < h.items.length
    · by_cases c2 : i < 12
      · by_cases c3 : i < h.qtys.length
        · by_cases c4 : i < h.prices.length
          · by_cases c5 : i < h.nodes.length
            · by_cases c6 : i < h.saws.length
              · exact absurd (hmany.2 ⟨c1, c2, c3, c4, c5, c6⟩) hlt
              · obtain ⟨g, o, x, rfl, hx, hd, hc⟩ := row_at hA c1
                refine sg S (.lt (by omega) rfl rfl <| .z) fun a w S => wp_seq_k fun _ hK2 => st_then S (.t rfl) (wp_skip (then_normal (hK2 _ _ (wp_seq_k fun _ hK2 => wp_block (sg S (.mv rfl <| .ix underlying22 sizeOf9 (by omega) rfl rfl <| .yy (ys_ldO ⟨isAgg9, sizeOf9⟩ (.t rfl) (fun _ => hc 0 _ rfl)) rfl <| .as rfl <| .as rfl <| .z) fun a w S => wp_seq_k fun _ hK3 => wp_seq_k fun _ hK4 => wp_region_lit ?_)))))
                refine run S (.mv rfl <| .yy (ys_F (by omega) (ys_geq (.t rfl) Ev.c)) rfl <| .mv rfl <| .gy rfl rfl (ys_move (.t rfl)) <| .gy rfl rfl (ys_fieldN (FieldT.mk underlying26 rfl sizeOf23 rfl) (.t rfl) (i' := 1) rfl) <| .gy rfl rfl (ys_ld ⟨isAgg23, sizeOf23⟩ (.t rfl) (k := 4) rfl rfl) <| .gy rfl rfl (ys_lenS underlying23 (.t rfl)) <| .gy rfl rfl (ys_F (by omega) (ys_geq (.t rfl) (.t rfl))) <| .yy (ys_pickF (.t rfl) (.t rfl)) rfl <| .mv rfl <| .gy rfl rfl (ys_move (.t rfl)) <| .gy rfl rfl (ys_fieldN (FieldT.mk underlying26 rfl sizeOf24 rfl) (.t rfl) (i' := 2) rfl) <| .gy rfl rfl (ys_ld ⟨isAgg24, sizeOf24⟩ (.t rfl) (k := 4) rfl rfl) <| .gy rfl rfl (ys_lenS underlying24 (.t rfl)) <| .gy rfl rfl (ys_F (by omega) (ys_geq (.t rfl) (.t rfl))) <| .yy (ys_pickF (.t rfl) (.t rfl)) rfl <| .mv rfl <| .gy rfl rfl (ys_move (.t rfl)) <| .gy rfl rfl (ys_fieldN (FieldT.mk underlying26 rfl sizeOf23 rfl) (.t rfl) (i' := 3) rfl) <| .gy rfl rfl (ys_ld ⟨isAgg23, sizeOf23⟩ (.t rfl) (k := 4) rfl rfl) <| .gy rfl rfl (ys_lenS underlying23 (.t rfl)) <| .gy rfl rfl (ys_F (by omega) (ys_geq (.t rfl) (.t rfl))) <| .yy (ys_pickF (.t rfl) (.t rfl)) rfl <| .mv rfl <| .gy rfl rfl (ys_move (.t rfl)) <| .gy rfl rfl (ys_fieldN (FieldT.mk underlying26 rfl sizeOf24 rfl) (.t rfl) (i' := 4) rfl) <| .gy rfl rfl (ys_ld ⟨isAgg24, sizeOf24⟩ (.t rfl) (k := 4) rfl rfl) <| .gy rfl rfl (ys_lenS underlying24 (.t rfl)) <| .gy rfl rfl (ys_T (by omega) (ys_geq (.t rfl) (.t rfl))) <| .yy (ys_pickF (.t rfl) (.t rfl)) rfl <| .z) fun a w S => ?_
                refine st_nil (then_normal (hK4 _ _ (st_then S (.t rfl) (wp_exit (then_exit (in_past rfl (then_exit (then_exit (in_here (then_normal (hK1 _ _ (sg S (.mv rfl <| .mv rfl <| .as rfl <| .as rfl <| .z) fun a w S => wp_ret (st_ret S (results2 S results13 (Rv.tmp rfl) (Rv.tmp rfl)) ?_)))))))))))))
                exact ⟨_, _, rfl, S.wd.pk, _, _, _, _, st, up, _, _, rfl, rfl, by rw [hst, done], by rw [hup, done], hcs, hcu⟩
            · obtain ⟨g, o, x, rfl, hx, hd, hc⟩ := row_at hA c1
              refine sg S (.lt (by omega) rfl rfl <| .z) fun a w S => wp_seq_k fun _ hK2 => st_then S (.t rfl) (wp_skip (then_normal (hK2 _ _ (wp_seq_k fun _ hK2 => wp_block (sg S (.mv rfl <| .ix underlying22 sizeOf9 (by omega) rfl rfl <| .yy (ys_ldO ⟨isAgg9, sizeOf9⟩ (.t rfl) (fun _ => hc 0 _ rfl)) rfl <| .as rfl <| .as rfl <| .z) fun a w S => wp_seq_k fun _ hK3 => wp_seq_k fun _ hK4 => wp_region_lit ?_)))))
              refine run S (.mv rfl <| .yy (ys_F (by omega) (ys_geq (.t rfl) Ev.c)) rfl <| .mv rfl <| .gy rfl rfl (ys_move (.t rfl)) <| .gy rfl rfl (ys_fieldN (FieldT.mk underlying26 rfl sizeOf23 rfl) (.t rfl) (i' := 1) rfl) <| .gy rfl rfl (ys_ld ⟨isAgg23, sizeOf23⟩ (.t rfl) (k := 4) rfl rfl) <| .gy rfl rfl (ys_lenS underlying23 (.t rfl)) <| .gy rfl rfl (ys_F (by omega) (ys_geq (.t rfl) (.t rfl))) <| .yy (ys_pickF (.t rfl) (.t rfl)) rfl <| .mv rfl <| .gy rfl rfl (ys_move (.t rfl)) <| .gy rfl rfl (ys_fieldN (FieldT.mk underlying26 rfl sizeOf24 rfl) (.t rfl) (i' := 2) rfl) <| .gy rfl rfl (ys_ld ⟨isAgg24, sizeOf24⟩ (.t rfl) (k := 4) rfl rfl) <| .gy rfl rfl (ys_lenS underlying24 (.t rfl)) <| .gy rfl rfl (ys_F (by omega) (ys_geq (.t rfl) (.t rfl))) <| .yy (ys_pickF (.t rfl) (.t rfl)) rfl <| .mv rfl <| .gy rfl rfl (ys_move (.t rfl)) <| .gy rfl rfl (ys_fieldN (FieldT.mk underlying26 rfl sizeOf23 rfl) (.t rfl) (i' := 3) rfl) <| .gy rfl rfl (ys_ld ⟨isAgg23, sizeOf23⟩ (.t rfl) (k := 4) rfl rfl) <| .gy rfl rfl (ys_lenS underlying23 (.t rfl)) <| .gy rfl rfl (ys_T (by omega) (ys_geq (.t rfl) (.t rfl))) <| .yy (ys_pickF (.t rfl) (.t rfl)) rfl <| .mv rfl <| .sk rfl rfl rfl <| .sk rfl rfl rfl <| .sk rfl rfl rfl <| .sk rfl rfl rfl <| .sk rfl rfl rfl <| .yy (ys_pickT (.t rfl) Ev.c) rfl <| .z) fun a w S => st_nil (then_normal (hK4 _ _ (st_then S (.t rfl) (wp_exit ?_))))
              refine then_exit (in_past rfl (then_exit (then_exit (in_here (then_normal (hK1 _ _ (sg S (.mv rfl <| .mv rfl <| .as rfl <| .as rfl <| .z) fun a w S => wp_ret (st_ret S (results2 S results13 (Rv.tmp rfl) (Rv.tmp rfl)) ?_))))))))
              exact ⟨_, _, rfl, S.wd.pk, _, _, _, _, st, up, _, _, rfl, rfl, by rw [hst, done], by rw [hup, done], hcs, hcu⟩
          · obtain ⟨g, o, x, rfl, hx, hd, hc⟩ := row_at hA c1
            refine sg S (.lt (by omega) rfl rfl <| .z) fun a w S => wp_seq_k fun _ hK2 => st_then S (.t rfl) (wp_skip (then_normal (hK2 _ _ (wp_seq_k fun _ hK2 => wp_block (sg S (.mv rfl <| .ix underlying22 sizeOf9 (by omega) rfl rfl <| .yy (ys_ldO ⟨isAgg9, sizeOf9⟩ (.t rfl) (fun _ => hc 0 _ rfl)) rfl <| .as rfl <| .as rfl <| .z) fun a w S => wp_seq_k fun _ hK3 => wp_seq_k fun _ hK4 => wp_region_lit ?_)))))
            refine run S (.mv rfl <| .yy (ys_F (by omega) (ys_geq (.t rfl) Ev.c)) rfl <| .mv rfl <| .gy rfl rfl (ys_move (.t rfl)) <| .gy rfl rfl (ys_fieldN (FieldT.mk underlying26 rfl sizeOf23 rfl) (.t rfl) (i' := 1) rfl) <| .gy rfl rfl (ys_ld ⟨isAgg23, sizeOf23⟩ (.t rfl) (k := 4) rfl rfl) <| .gy rfl rfl (ys_lenS underlying23 (.t rfl)) <| .gy rfl rfl (ys_F (by omega) (ys_geq (.t rfl) (.t rfl))) <| .yy (ys_pickF (.t rfl) (.t rfl)) rfl <| .mv rfl <| .gy rfl rfl (ys_move (.t rfl)) <| .gy rfl rfl (ys_fieldN (FieldT.mk underlying26 rfl sizeOf24 rfl) (.t rfl) (i' := 2) rfl) <| .gy rfl rfl (ys_ld ⟨isAgg24, sizeOf24⟩ (.t rfl) (k := 4) rfl rfl) <| .gy rfl rfl (ys_lenS underlying24 (.t rfl)) <| .gy rfl rfl (ys_T (by omega) (ys_geq (.t rfl) (.t rfl))) <| .yy (ys_pickF (.t rfl) (.t rfl)) rfl <| .mv rfl <| .sk rfl rfl rfl <| .sk rfl rfl rfl <| .sk rfl rfl rfl <| .sk rfl rfl rfl <| .sk rfl rfl rfl <| .yy (ys_pickT (.t rfl) Ev.c) rfl <| .mv rfl <| .sk rfl rfl rfl <| .sk rfl rfl rfl <| .sk rfl rfl rfl <| .sk rfl rfl rfl <| .sk rfl rfl rfl <| .yy (ys_pickT (.t rfl) Ev.c) rfl <| .z) fun a w S => st_nil (then_normal (hK4 _ _ (st_then S (.t rfl) (wp_exit (then_exit (in_past rfl (then_exit (then_exit (in_here (then_normal (hK1 _ _ (sg S (.mv rfl <| .mv rfl <| .as rfl <| .as rfl <| .z) fun a w S => wp_ret ?_))))))))))))
            refine st_ret S (results2 S results13 (Rv.tmp rfl) (Rv.tmp rfl)) ?_
            exact ⟨_, _, rfl, S.wd.pk, _, _, _, _, st, up, _, _, rfl, rfl, by rw [hst, done], by rw [hup, done], hcs, hcu⟩
        · obtain ⟨g, o, x, rfl, hx, hd, hc⟩ := row_at hA c1
          refine sg S (.lt (by omega) rfl rfl <| .z) fun a w S => wp_seq_k fun _ hK2 => st_then S (.t rfl) (wp_skip (then_normal (hK2 _ _ (wp_seq_k fun _ hK2 => wp_block (sg S (.mv rfl <| .ix underlying22 sizeOf9 (by omega) rfl rfl <| .yy (ys_ldO ⟨isAgg9, sizeOf9⟩ (.t rfl) (fun _ => hc 0 _ rfl)) rfl <| .as rfl <| .as rfl <| .z) fun a w S => wp_seq_k fun _ hK3 => wp_seq_k fun _ hK4 => wp_region_lit (run S (.mv rfl <| .yy (ys_F (by omega) (ys_geq (.t rfl) Ev.c)) rfl <| .mv rfl <| .gy rfl rfl (ys_move (.t rfl)) <| .gy rfl rfl (ys_fieldN (FieldT.mk underlying26 rfl sizeOf23 rfl) (.t rfl) (i' := 1) rfl) <| .gy rfl rfl (ys_ld ⟨isAgg23, sizeOf23⟩ (.t rfl) (k := 4) rfl rfl) <| .gy rfl rfl (ys_lenS underlying23 (.t rfl)) <| .gy rfl rfl (ys_T (by omega) (ys_geq (.t rfl) (.t rfl))) <| .yy (ys_pickF (.t rfl) (.t rfl)) rfl <| .mv rfl <| .sk rfl rfl rfl <| .sk rfl rfl rfl <| .sk rfl rfl rfl <| .sk rfl rfl rfl <| .sk rfl rfl rfl <| .yy (ys_pickT (.t rfl) Ev.c) rfl <| .mv rfl <| .sk rfl rfl rfl <| .sk rfl rfl rfl <| .sk rfl rfl rfl <| .sk rfl rfl rfl <| .sk rfl rfl rfl <| .yy (ys_pickT (.t rfl) Ev.c) rfl <| .mv rfl <| .sk rfl rfl rfl <| .sk rfl rfl rfl <| .sk rfl rfl rfl <| .sk rfl rfl rfl <| .sk rfl rfl rfl <| .yy (ys_pickT (.t rfl) Ev.c) rfl <| .z) fun a w S => st_nil ?_))))))
          refine then_normal (hK4 _ _ (st_then S (.t rfl) (wp_exit (then_exit (in_past rfl (then_exit (then_exit (in_here (then_normal (hK1 _ _ (sg S (.mv rfl <| .mv rfl <| .as rfl <| .as rfl <| .z) fun a w S => wp_ret (st_ret S (results2 S results13 (Rv.tmp rfl) (Rv.tmp rfl)) ?_))))))))))))
          exact ⟨_, _, rfl, S.wd.pk, _, _, _, _, st, up, _, _, rfl, rfl, by rw [hst, done], by rw [hup, done], hcs, hcu⟩
      · obtain ⟨g, o, x, rfl, hx, hd, hc⟩ := row_at hA c1
        refine sg S (.lt (by omega) rfl rfl <| .z) fun a w S => wp_seq_k fun _ hK2 => st_then S (.t rfl) (wp_skip (then_normal (hK2 _ _ (wp_seq_k fun _ hK2 => wp_block (sg S (.mv rfl <| .ix underlying22 sizeOf9 (by omega) rfl rfl <| .yy (ys_ldO ⟨isAgg9, sizeOf9⟩ (.t rfl) (fun _ => hc 0 _ rfl)) rfl <| .as rfl <| .as rfl <| .z) fun a w S => wp_seq_k fun _ hK3 => sg S (.mv rfl <| .yy (ys_T (by omega) (ys_geq (.t rfl) Ev.c)) rfl <| .mv rfl <| .sk rfl rfl rfl <| .sk rfl rfl rfl <| .sk rfl rfl rfl <| .sk rfl rfl rfl <| .sk rfl rfl rfl <| .yy (ys_pickT (.t rfl) Ev.c) rfl <| .mv rfl <| .sk rfl rfl rfl <| .sk rfl rfl rfl <| .sk rfl rfl rfl <| .sk rfl rfl rfl <| .sk rfl rfl rfl <| .yy (ys_pickT (.t rfl) Ev.c) rfl <| .mv rfl <| .sk rfl rfl rfl <| .sk rfl rfl rfl <| .sk rfl rfl rfl <| .sk rfl rfl rfl <| .sk rfl rfl rfl <| .yy (ys_pickT (.t rfl) Ev.c) rfl <| .mv rfl <| .sk rfl rfl rfl <| .sk rfl rfl rfl <| .sk rfl rfl rfl <| .sk rfl rfl rfl <| .sk rfl rfl rfl <| .yy (ys_pickT (.t rfl) Ev.c) rfl <| .z) fun a w S => st_then S (.t rfl) (wp_exit (then_exit (in_past rfl (then_exit (then_exit (in_here (then_normal (hK1 _ _ (wp_seq_k fun _ hK1 => wp_region_lit (run S (.mv rfl <| .mv rfl <| .as rfl <| .as rfl <| .z) fun a w S => st_nil ?_)))))))))))))))
        refine then_normal (hK1 _ _ (wp_ret (st_ret S (results2 S results13 (Rv.tmp rfl) (Rv.tmp rfl)) ?_)))
        exact ⟨_, _, rfl, S.wd.pk, _, _, _, _, st, up, _, _, rfl, rfl, by rw [hst, done], by rw [hup, done], hcs, hcu⟩
    · refine sg S (.ge (by omega) rfl rfl <| .z) fun a w S => wp_seq_k fun _ hK2 => st_else S (.t rfl) (wp_exit (then_exit (then_exit (in_here (then_normal (hK1 _ _ (sg S (.mv rfl <| .mv rfl <| .as rfl <| .as rfl <| .z) fun a w S => wp_ret (st_ret S (results2 S results13 (Rv.tmp rfl) (Rv.tmp rfl)) ?_))))))))
      exact ⟨_, _, rfl, S.wd.pk, _, _, _, _, st, up, _, _, rfl, rfl, by rw [hst, done], by rw [hup, done], hcs, hcu⟩
  obtain ⟨m1, m2, m3, m4, m5, m6⟩ := hmany.1 hlt
  obtain ⟨gA, oA, item, rfl, hitem, hdA, hcA⟩ := row_at hA m1
  obtain ⟨gB, oB, qv, rfl, hqv, hdB, hcB⟩ := row_at hB m3
  obtain ⟨gC, oC, pv, rfl, hpv, hdC, hcC⟩ := row_at hC m4
  obtain ⟨gD, oD, nv, rfl, hnv, hdD, hcD⟩ := row_at hD m5
  obtain ⟨gE, oE, sw, rfl, hsw, hdE, hcE⟩ := row_at hE m6
  refine sg S (.lt (by omega) rfl rfl <| .z) fun a w S => wp_seq_k fun _ hK2 => st_then S (.t rfl) (wp_skip (then_normal (hK2 _ _ (wp_seq_k fun _ hK2 => wp_block (sg S (.mv rfl <| .ix underlying22 sizeOf9 (by omega) rfl rfl <| .yy (ys_ldO ⟨isAgg9, sizeOf9⟩ (.t rfl) (fun _ => hcA 0 _ rfl)) rfl <| .as rfl <| .as rfl <| .z) fun a w S => wp_seq_k fun _ hK3 => wp_seq_k fun _ hK4 => wp_region_lit ?_)))))
  refine run S (.mv rfl <| .yy (ys_F (by omega) (ys_geq (.t rfl) Ev.c)) rfl <| .mv rfl <| .gy rfl rfl (ys_move (.t rfl)) <| .gy rfl rfl (ys_fieldN (FieldT.mk underlying26 rfl sizeOf23 rfl) (.t rfl) (i' := 1) rfl) <| .gy rfl rfl (ys_ld ⟨isAgg23, sizeOf23⟩ (.t rfl) (k := 4) rfl rfl) <| .gy rfl rfl (ys_lenS underlying23 (.t rfl)) <| .gy rfl rfl (ys_F (by omega) (ys_geq (.t rfl) (.t rfl))) <| .yy (ys_pickF (.t rfl) (.t rfl)) rfl <| .mv rfl <| .gy rfl rfl (ys_move (.t rfl)) <| .gy rfl rfl (ys_fieldN (FieldT.mk underlying26 rfl sizeOf24 rfl) (.t rfl) (i' := 2) rfl) <| .gy rfl rfl (ys_ld ⟨isAgg24, sizeOf24⟩ (.t rfl) (k := 4) rfl rfl) <| .gy rfl rfl (ys_lenS underlying24 (.t rfl)) <| .gy rfl rfl (ys_F (by omega) (ys_geq (.t rfl) (.t rfl))) <| .yy (ys_pickF (.t rfl) (.t rfl)) rfl <| .mv rfl <| .gy rfl rfl (ys_move (.t rfl)) <| .gy rfl rfl (ys_fieldN (FieldT.mk underlying26 rfl sizeOf23 rfl) (.t rfl) (i' := 3) rfl) <| .gy rfl rfl (ys_ld ⟨isAgg23, sizeOf23⟩ (.t rfl) (k := 4) rfl rfl) <| .gy rfl rfl (ys_lenS underlying23 (.t rfl)) <| .gy rfl rfl (ys_F (by omega) (ys_geq (.t rfl) (.t rfl))) <| .yy (ys_pickF (.t rfl) (.t rfl)) rfl <| .mv rfl <| .gy rfl rfl (ys_move (.t rfl)) <| .gy rfl rfl (ys_fieldN (FieldT.mk underlying26 rfl sizeOf24 rfl) (.t rfl) (i' := 4) rfl) <| .gy rfl rfl (ys_ld ⟨isAgg24, sizeOf24⟩ (.t rfl) (k := 4) rfl rfl) <| .gy rfl rfl (ys_lenS underlying24 (.t rfl)) <| .gy rfl rfl (ys_F (by omega) (ys_geq (.t rfl) (.t rfl))) <| .yy (ys_pickF (.t rfl) (.t rfl)) rfl <| .z) fun a w S => ?_
  refine st_nil (then_normal (hK4 _ _ (st_else S (.t rfl) (wp_skip (then_normal (hK3 _ _ (wp_seq_k fun _ hK3 => wp_region_lit (st_m (op_alloc S zeroValue39 (cs := _) rfl rfl fun g3 a w S => st_nil (then_normal (hK3 _ _ (wp_seq_k fun _ hK3 => sg S (.mv rfl <| .ln underlying29 rfl <| .mc rfl <| .z) fun a w S => wp_block ?_))))))))))))
  refine st_lpM (((S.nil_ 58 3 Dot.enc none).nil_ 122 3 Dot.enc none).nil_ 71 6 Ent.enc none) [58] (X := Nat × Option Addr × Nat × Option Addr × Nat × Option Addr × Nat) (fun q => [(58, true, .int .i64 (q.1 : Int))])
    (fun q => [rowOf 71 6 Ent.enc q.2.1 q.2.2.1 (pickTo (st.map (·.1)) sw q.1).ents, rowOf 122 3 Dot.enc q.2.2.2.1 q.2.2.2.2.1 (pickTo (st.map (·.1)) sw q.1).ctx.marks, rowOf 58 3 Dot.enc q.2.2.2.2.2.1 q.2.2.2.2.2.2 (pickTo (st.map (·.1)) sw q.1).ctx.cloud, .blk g3 (.cells #[.slice q.2.1 (pickTo (st.map (·.1)) sw q.1).ents.length q.2.2.1, .slice q.2.2.2.1 (pickTo (st.map (·.1)) sw q.1).ctx.marks.length q.2.2.2.2.1, .slice q.2.2.2.2.2.1 (pickTo (st.map (·.1)) sw q.1).ctx.cloud.length q.2.2.2.2.2.2] 39), rowOf 39 3 SCart.enc F cF st, rowOf 60 10 SUpd.enc G cG up, .ice w1 bs, .blk g2 (.cells (ctL (playTo h i).ct).toArray 86), .blk g1 (.cells #[.slice (some ⟨gA, oA, none⟩) h.items.length cap, .slice (some ⟨gB, oB, none⟩) h.qtys.length capB, .slice (some ⟨gC, oC, none⟩) h.prices.length capC, .slice (some ⟨gD, oD, none⟩) h.nodes.length capD, .slice (some ⟨gE, oE, none⟩) h.saws.length capE] 26)])
    (fun q => q.1 ≤ st.length) (fun q => st.length - q.1) (0, none, 0, none, 0, none, 0) (Nat.zero_le _) ?_
  clear S
  rintro ⟨k, A1, r1, A2, r2, A3, r3⟩ a w hk S
  dsimp only at hk S
  by_cases hkl : k < st.length
  · obtain ⟨q, hq⟩ : ∃ q, st[k]? = some q := ⟨st[k], List.getElem?_eq_getElem hkl⟩
    have hF := (S.wd.room (k := 4) rfl).1
    obtain ⟨gF, rfl⟩ := S.wd.row_at (k := 4) rfl (by omega)
    obtain ⟨hq1, hq2, hq3⟩ := hcs q (List.mem_of_getElem? hq)
    have hnx : pickTo (st.map (·.1)) sw (k + 1) = pickF (pickTo (st.map (·.1)) sw k) q.1 (bitU sw k) := pick_next (by rw [List.getElem?_map, hq]; rfl)
    have hb0 := bit_and sw k
    cases hb : bitU sw k with
    | false =>
      have rw_b := hb0.trans hb
      have e : pickTo (st.map (·.1)) sw (k + 1) = pickTo (st.map (·.1)) sw k := by rw [hnx, hb]; rfl
      refine sg S (.lt (by omega) rfl rfl <| .z) fun a w S => wp_seq_k fun _ hK4 => st_then S (.t rfl) (wp_skip (then_normal (hK4 _ _ (wp_seq_k fun _ hK4 => wp_block (wp_seq_k fun _ hK5 => wp_region_lit (run S (.mv rfl <| .ix underlying29 sizeOf39 (by omega) rfl rfl <| .yy (ys_ldWA ⟨isAgg39, sizeOf39⟩ (.t rfl) (k := 4) rfl hq (fun _ => rfl)) rfl <| .z) fun a w S => st_m (op_alloc S zeroValue39 (cs := _) rfl rfl fun g4 a w S => run S (.as rfl <| .z) fun a w S => st_m (op_stW S sizeOf39 (.t rfl) (.t rfl) (k := 0) rfl rfl rfl (by simp [Value.oneCell']) fun a w S => st_nil (then_normal (hK5 _ _ (wp_seq_k fun _ hK5 => wp_region_lit (run S (.fa underlying26 sizeOf24 4 rfl rfl rfl <| .ld gt24 9 rfl rfl rfl <| .mv rfl <| .ix underlying24 sizeOf27 (by omega) rfl rfl <| .yy (ys_ldO ⟨isAgg27, sizeOf27⟩ (.t rfl) (fun _ => hcE 0 _ rfl)) rfl <| .mv rfl <| .yy (ys_shr (.t rfl) (.t rfl) (Nat.ble_eq_true_of_le (by show _ ≤ 64; omega))) rfl <| .yy (ys_band (.t rfl) Ev.c) rfl <| .yy (ys_eql (.t rfl) Ev.c) rfl <| .z) fun a w S => ?_))))))))))))
      rw [rw_b] at S
      refine st_nil (then_normal (hK5 _ _ (st_else S (.t rfl) (wp_skip (in_normal (then_normal (hK4 _ _ (wp_region_lit (run S (.ad (by unfold I64; omega) rfl <| .mv rfl <| .z) fun a w S => st_nil (then_normal ?_))))))))))
      exact ⟨(k + 1, A1, r1, A2, r2, A3, r3), by dsimp only; omega, by dsimp only; omega, by dsimp only; rw [e]; exact S.pk⟩
    | true =>
      have rw_b := hb0.trans hb
      by_cases hj : (joinK (pickTo (st.map (·.1)) sw k) q.1).2 = 0
      · have e : pickTo (st.map (·.1)) sw (k + 1) = (joinK (pickTo (st.map (·.1)) sw k) q.1).1 := by rw [hnx, hb]; unfold pickF; rw [if_pos rfl, if_pos hj]
        have rw_j := decide_eq_true hj
        refine sg S (.lt (by omega) rfl rfl <| .z) fun a w S => wp_seq_k fun _ hK4 => st_then S (.t rfl) (wp_skip (then_normal (hK4 _ _ (wp_seq_k fun _ hK4 => wp_block (wp_seq_k fun _ hK5 => wp_region_lit (run S (.mv rfl <| .ix underlying29 sizeOf39 (by omega) rfl rfl <| .yy (ys_ldWA ⟨isAgg39, sizeOf39⟩ (.t rfl) (k := 4) rfl hq (fun _ => rfl)) rfl <| .z) fun a w S => st_m (op_alloc S zeroValue39 (cs := _) rfl rfl fun g4 a w S => run S (.as rfl <| .z) fun a w S => st_m (op_stW S sizeOf39 (.t rfl) (.t rfl) (k := 0) rfl rfl rfl (by simp [Value.oneCell']) fun a w S => st_nil (then_normal (hK5 _ _ (wp_seq_k fun _ hK5 => wp_region_lit (run S (.fa underlying26 sizeOf24 4 rfl rfl rfl <| .ld gt24 9 rfl rfl rfl <| .mv rfl <| .ix underlying24 sizeOf27 (by omega) rfl rfl <| .yy (ys_ldO ⟨isAgg27, sizeOf27⟩ (.t rfl) (fun _ => hcE 0 _ rfl)) rfl <| .mv rfl <| .yy (ys_shr (.t rfl) (.t rfl) (Nat.ble_eq_true_of_le (by show _ ≤ 64; omega))) rfl <| .yy (ys_band (.t rfl) Ev.c) rfl <| .yy (ys_eql (.t rfl) Ev.c) rfl <| .z) fun a w S => ?_))))))))))))
        rw [rw_b] at S
        refine st_nil (then_normal (hK5 _ _ (st_then S (.t rfl) (wp_seq_k fun _ hK5 => wp_region_lit (run S (.la gt39 4 rfl rfl rfl <| .la gt39 0 rfl rfl rfl <| .z) fun a w S => ?_)))))
        (refine st_m (op_calls S call34 (.cons (.t rfl) (.cons (.t rfl) .nil)) (c34 _ _ _ _ _ _ _ _ _ (by exact Sl.of_own S.wd (k := 1) rfl (fun _ => rfl)) (by exact ⟨(by exact Sl.of_own S.wd (k := 2) rfl (fun _ => rfl)), (by exact Sl.of_own S.wd (k := 3) rfl (fun _ => rfl))⟩) (by exact SlIn.sl (by assumption) S.wd (k := 7) rfl) (by exact ⟨(by exact SlIn.sl (by assumption) S.wd (k := 7) rfl), (by exact SlIn.sl (by assumption) S.wd (k := 7) rfl)⟩)) rfl ?_); clear S a w; rintro _ _ ⟨A11, r11, A21, r21, A31, r31, rfl, rfl⟩ a w S)
        simp only [List.nil_append] at S
        refine run S (.mv rfl <| .ex rfl rfl <| .ex rfl rfl <| .z) fun a w S => st_m (op_alloc S zeroValue39 (cs := _) rfl rfl fun g5 a w S => st_m (op_stW S sizeOf39 (.t rfl) (.t rfl) (k := 0) rfl rfl rfl (by simp [Value.oneCell']) fun a w S => run S (.as rfl <| .z) fun a w S => st_nil (then_normal (hK5 _ _ (sg S (.mv rfl <| .yy (ys_T (by omega) (ys_eql (.t rfl) Ev.c)) rfl <| .z) fun a w S => st_then S (.t rfl) (wp_region_lit (run S (.la gt39 0 rfl rfl rfl <| .z) fun a w S => st_m (op_stW S sizeOf39 (.t rfl) (.t rfl) (k := 8) rfl rfl rfl (by simp [Value.oneCell']) fun a w S => st_nil (in_normal (then_normal (hK4 _ _ (wp_region_lit (run S (.ad (by unfold I64; omega) rfl <| .mv rfl <| .z) fun a w S => st_nil (then_normal ?_))))))))))))))
        exact ⟨(k + 1, A11, r11, A21, r21, A31, r31), by dsimp only; omega, by dsimp only; omega, by dsimp only; rw [e]; exact S.pk⟩
      · have e : pickTo (st.map (·.1)) sw (k + 1) = pickTo (st.map (·.1)) sw k := by rw [hnx, hb]; unfold pickF; rw [if_pos rfl, if_neg hj]
        have rw_j := decide_eq_false hj
        refine sg S (.lt (by omega) rfl rfl <| .z) fun a w S => wp_seq_k fun _ hK4 => st_then S (.t rfl) (wp_skip (then_normal (hK4 _ _ (wp_seq_k fun _ hK4 => wp_block (wp_seq_k fun _ hK5 => wp_region_lit (run S (.mv rfl <| .ix underlying29 sizeOf39 (by omega) rfl rfl <| .yy (ys_ldWA ⟨isAgg39, sizeOf39⟩ (.t rfl) (k := 4) rfl hq (fun _ => rfl)) rfl <| .z) fun a w S => st_m (op_alloc S zeroValue39 (cs := _) rfl rfl fun g4 a w S => run S (.as rfl <| .z) fun a w S => st_m (op_stW S sizeOf39 (.t rfl) (.t rfl) (k := 0) rfl rfl rfl (by simp [Value.oneCell']) fun a w S => st_nil (then_normal (hK5 _ _ (wp_seq_k fun _ hK5 => wp_region_lit (run S (.fa underlying26 sizeOf24 4 rfl rfl rfl <| .ld gt24 9 rfl rfl rfl <| .mv rfl <| .ix underlying24 sizeOf27 (by omega) rfl rfl <| .yy (ys_ldO ⟨isAgg27, sizeOf27⟩ (.t rfl) (fun _ => hcE 0 _ rfl)) rfl <| .mv rfl <| .yy (ys_shr (.t rfl) (.t rfl) (Nat.ble_eq_true_of_le (by show _ ≤ 64; omega))) rfl <| .yy (ys_band (.t rfl) Ev.c) rfl <| .yy (ys_eql (.t rfl) Ev.c) rfl <| .z) fun a w S => ?_))))))))))))
        rw [rw_b] at S
        refine st_nil (then_normal (hK5 _ _ (st_then S (.t rfl) (wp_seq_k fun _ hK5 => wp_region_lit (run S (.la gt39 4 rfl rfl rfl <| .la gt39 0 rfl rfl rfl <| .z) fun a w S => ?_)))))
        (refine st_m (op_calls S call34 (.cons (.t rfl) (.cons (.t rfl) .nil)) (c34 _ _ _ _ _ _ _ _ _ (by exact Sl.of_own S.wd (k := 1) rfl (fun _ => rfl)) (by exact ⟨(by exact Sl.of_own S.wd (k := 2) rfl (fun _ => rfl)), (by exact Sl.of_own S.wd (k := 3) rfl (fun _ => rfl))⟩) (by exact SlIn.sl (by assumption) S.wd (k := 7) rfl) (by exact ⟨(by exact SlIn.sl (by assumption) S.wd (k := 7) rfl), (by exact SlIn.sl (by assumption) S.wd (k := 7) rfl)⟩)) rfl ?_); clear S a w; rintro _ _ ⟨A11, r11, A21, r21, A31, r31, rfl, rfl⟩ a w S)
        simp only [List.nil_append] at S
        refine run S (.mv rfl <| .ex rfl rfl <| .ex rfl rfl <| .z) fun a w S => st_m (op_alloc S zeroValue39 (cs := _) rfl rfl fun g5 a w S => st_m (op_stW S sizeOf39 (.t rfl) (.t rfl) (k := 0) rfl rfl rfl (by simp [Value.oneCell']) fun a w S => run S (.as rfl <| .z) fun a w S => st_nil (then_normal (hK5 _ _ (sg S (.mv rfl <| .yy (ys_F (by omega) (ys_eql (.t rfl) Ev.c)) rfl <| .z) fun a w S => st_else S (.t rfl) (wp_skip (in_normal (then_normal (hK4 _ _ (wp_region_lit (run S (.ad (by unfold I64; omega) rfl <| .mv rfl <| .z) fun a w S => st_nil (then_normal ?_))))))))))))
        exact ⟨(k + 1, A1, r1, A2, r2, A3, r3), by dsimp only; omega, by dsimp only; omega, by dsimp only; rw [e]; exact S.pk⟩
  obtain rfl : k = st.length := by omega
  have ep : pickTo (st.map (·.1)) sw st.length = pickK (playTo h i).st sw := by rw [← hst]; unfold pickK; rw [List.length_map]
  rw [ep] at S
  clear hkl hk
  have hpl : (pickK (playTo h i).st sw).ents.length ≤ 1048576 ∧ (pickK (playTo h i).st sw).ctx.marks.length ≤ 1048576 ∧ (pickK (playTo h i).st sw).ctx.cloud.length ≤ 1048576 := pick_len (playTo h i).st sw (playTo h i).st.length
  have rw_n := node_val nv
  have hnp := nodeP_lt nv
  generalize hCT : (playTo h i).ct = ct at S hct
  have hcx := ctL_get (l := ct) (n := nodeP nv) (by omega)
  have hcb := play_ct h i (nodeP nv)
  rw [hCT] at hcb
  generalize hX : ct.getD (nodeP nv) 0 = x at hcx hcb
  have rw_s := ctL_set ct (nodeP nv) (x + 1)
  have hcy := ctL_get (l := ct.set (nodeP nv) (x + 1)) (n := nodeP nv) (by rw [List.length_set]; omega)
  have ey : (ct.set (nodeP nv) (x + 1)).getD (nodeP nv) 0 = x + 1 := by rw [List.getD_eq_getElem?_getD, List.getElem?_set_self (by omega)]; rfl
  rw [ey] at hcy
  have hcl2 : (ct.set (nodeP nv) (x + 1)).length = 8 := by rw [List.length_set]; exact hct
  have rw_n2 : IntKind.i64.wrap ((nodeP nv : Int).tmod 2) = ((nodeP nv % 2 : Nat) : Int) := by
    rw [Int.tmod_eq_emod_of_nonneg (by omega), IntKind.wrap_i64]; omega
  refine sg S (.ge (by omega) rfl rfl <| .z) fun a w S => wp_seq_k fun _ hK4 => st_else S (.t rfl) (wp_exit (then_exit (then_exit (in_here (then_normal (hK3 _ _ (wp_seq_k fun _ hK3 => wp_region_lit (run S (.fa underlying26 sizeOf23 3 rfl rfl rfl <| .ld gt23 8 rfl rfl rfl <| .mv rfl <| .ix underlying23 sizeOf3 (by omega) rfl rfl <| .yy (ys_ldO ⟨isAgg3, sizeOf3⟩ (.t rfl) (fun _ => hcD 0 _ rfl)) rfl <| .yy (ys_cv underlying3 underlying87 (.t rfl)) rfl <| .yy (ys_rem (.t rfl) Ev.c (fun _ => by omega)) rfl <| .yy (ys_cv underlying87 underlying3 (.t rfl)) rfl <| .z) fun a w S => ?_))))))))
  rw [rw_n] at S
  refine run S (.as rfl <| .z) fun a w S => st_nil (then_normal (hK3 _ _ (wp_seq_k fun _ hK3 => wp_region_lit (run S (.mv rfl <| .yy (ys_ixA underlying86 sizeOf3 (.t rfl) (.t rfl) (fun _ => by omega)) rfl <| .yy (ys_ldN ⟨isAgg3, sizeOf3⟩ (.t rfl) (k := 7) rfl (fun _ => by assumption)) rfl <| .ad (by unfold I64; omega) rfl <| .yy (ys_ixA underlying86 sizeOf3 (.t rfl) (.t rfl) (fun _ => by omega)) rfl <| .z) fun a w S => st_m (op_st S sizeOf3 (.t rfl) (.t rfl) (k := 7) rfl rfl (by rw [Go.Fw.ctL_len]; omega) fun a w S => ?_)))))
  rw [rw_s] at S
  refine st_nil (then_normal (hK3 _ _ (wp_seq_k fun _ hK3 => h_begin0 S (by kernel_rfl) fun a w S => hy 0 S rfl (ys_move (.t rfl)) rfl fun a w S => hy 1 S rfl (ys_move (.t rfl)) rfl fun a w S => hy 2 S rfl (ys_remE (.t rfl) Ev.c (fun _ => by omega)) rfl fun a w S => hy 3 S rfl (ys_addI Ev.c (.t rfl) (fun _ => by unfold I64; omega)) rfl fun a w S => hy 4 S rfl (ys_move (.t rfl)) rfl fun a w S => ?_)))
  refine hy 5 S rfl (ys_ixA underlying86 sizeOf3 (.t rfl) (.t rfl) (fun _ => by omega)) rfl fun a w S => hy 6 S rfl (ys_ldN ⟨isAgg3, sizeOf3⟩ (.t rfl) (k := 7) rfl (fun _ => by assumption)) rfl fun a w S => hy 7 S rfl (ys_bld (ps := [(0, Go.Operand.tmp 95), (1, Go.Operand.tmp 98), (2, Go.Operand.tmp 101)]) (us := [_, _, _]) bld58 (.cons (.t rfl) (.cons (.t rfl) (.cons (.t rfl) .nil))) rfl) rfl fun a w S => hy 8 S rfl (ys_move (.t rfl)) rfl fun a w S => ?_
  refine hy 9 S rfl (ys_fieldN (FieldT.mk underlying26 rfl sizeOf23 rfl) (.t rfl) (i' := 1) rfl) rfl fun a w S => hy 10 S rfl (ys_ld ⟨isAgg23, sizeOf23⟩ (.t rfl) (k := 8) rfl rfl) rfl fun a w S => hy 11 S rfl (ys_move (.t rfl)) rfl fun a w S => hy 12 S rfl (ys_ixS underlying23 sizeOf3 (.t rfl) (.t rfl) (fun _ => by omega)) rfl fun a w S => hy 13 S rfl (ys_ldO ⟨isAgg3, sizeOf3⟩ (.t rfl) (fun _ => hcB 0 _ rfl)) rfl fun a w S => ?_
  refine hy 14 S rfl (ys_fieldN (FieldT.mk underlying26 rfl sizeOf24 rfl) (.t rfl) (i' := 2) rfl) rfl fun a w S => hy 15 S rfl (ys_ld ⟨isAgg24, sizeOf24⟩ (.t rfl) (k := 8) rfl rfl) rfl fun a w S => hy 16 S rfl (ys_move (.t rfl)) rfl fun a w S => hy 17 S rfl (ys_ixS underlying24 sizeOf27 (.t rfl) (.t rfl) (fun _ => by omega)) rfl fun a w S => hy 18 S rfl (ys_ldO ⟨isAgg27, sizeOf27⟩ (.t rfl) (fun _ => hcC 0 _ rfl)) rfl fun a w S => ?_
  refine hy 19 S rfl (ys_ldA ⟨isAgg39, sizeOf39⟩ (.t rfl) (k := 3) rfl rfl) rfl fun a w S => hy 20 S rfl (ys_bld (ps := [(0, _), (1, Go.Operand.tmp 102), (2, Go.Operand.tmp 103), (3, Go.Operand.tmp 108), (4, Go.Operand.tmp 113), (5, Go.Operand.tmp 114)]) (us := [_, _, _, _, _, _, _, _, _, _]) bld60 (.cons Ev.c (.cons (.t rfl) (.cons (.t rfl) (.cons (.t rfl) (.cons (.t rfl) (.cons (.t rfl) .nil)))))) rfl) rfl fun a w S => ?_
  (refine h_m (i := 21) rfl (by kernel_rfl) (op_alloc S zeroValue60 (cs := _) rfl rfl ?_); clear S a w; intro g4 a w S; refine h_n1 S ?_)
  (refine h_m0 (i := 22) rfl (by kernel_rfl) (op_stW S sizeOf60 (.t rfl) (.t rfl) (k := 0) rfl rfl rfl (by simp [Value.oneCell']) ?_); clear S a w; intro a w S; refine h_n1 S ?_)
  refine h_done (by kernel_rfl) (then_normal (hK3 _ _ (wp_seq_k fun _ hK3 => wp_seq_k fun _ hK5 => wp_region_lit ?_)))
  by_cases hq : qv ≤ 0
  · have rw_q : decide (qv ≤ 0) = true := decide_eq_true hq
    generalize hU : (⟨[107], ⟨(nodeP nv : Int), 1 + (nodeP nv : Int) % 2, x + 1⟩, item, 0, 0, pickK (playTo h i).st sw⟩ : Upd) = U
    have hst2 : stepU (playTo h i) item qv pv nv sw = U := by
      rw [← hU]
      unfold stepU
      rw [if_pos hq, if_pos hq, hCT, hX]
      congr 2
    refine run S (.fa underlying60 sizeOf3 5 rfl rfl rfl <| .ld gt3 0 rfl rfl rfl <| .yy (ys_T (by omega) (ys_leq (.t rfl) Ev.c)) rfl <| .z) fun a w S => st_nil (then_normal (hK5 _ _ (st_then S (.t rfl) (wp_region_lit (run S (.fa underlying60 sizeOf3 5 rfl rfl rfl <| .z) fun a w S => st_m (op_st S sizeOf3 (.t rfl) Ev.c (k := 0) rfl rfl (by simp) fun a w S => run S (.fa underlying60 sizeOf27 6 rfl rfl rfl <| .z) fun a w S => st_m (op_st S sizeOf27 (.t rfl) Ev.c (k := 0) rfl rfl (by simp) fun a w S => st_nil (then_normal (hK3 _ _ (wp_seq_k fun _ hK3 => wp_region_lit (run S (.la gt60 0 rfl rfl rfl <| .z) fun a w S => ?_)))))))))))
    simp only [List.set_cons_succ, List.set_cons_zero] at S
    have hse : pickK (playTo h i).st sw = U.seen := by rw [← hU]
    rw [hse] at S hpl
    have huu : #[Value.string ⟨#[107]⟩, .int .i64 (nodeP nv : Int), .int .i64 (1 + (nodeP nv : Int) % 2), .int .i64 (x + 1), .string (Fw.bs item), .int .i64 0, .int .u64 0, .slice A1 U.seen.ents.length r1, .slice A2 U.seen.ctx.marks.length r2, .slice A3 U.seen.ctx.cloud.length r3] = (Upd.enc U (.slice A1 U.seen.ents.length r1) (.slice A2 U.seen.ctx.marks.length r2) (.slice A3 U.seen.ctx.cloud.length r3)).toArray := by subst hU; rfl
    rw [huu] at S
    have hnx : playTo h (i + 1) = stepP (playTo h i) U nv := by
      rw [playTo, List.getD_eq_getElem?_getD, hitem, List.getD_eq_getElem?_getD, hqv, List.getD_eq_getElem?_getD, hpv, List.getD_eq_getElem?_getD, hnv, List.getD_eq_getElem?_getD, hsw]
      show stepP (playTo h i) (stepU (playTo h i) item qv pv nv sw) nv = _
      rw [hst2]
    by_cases ha : (applyU U).2 = 0
    · have rw_a := ha
      (refine st_m (op_calls S call30 (.cons (.t rfl) .nil) (c30 _ _ _ _ _ (by exact Sl.of_own S.wd (k := 1) rfl (fun _ => rfl)) (by exact ⟨(by exact Sl.of_own S.wd (k := 2) rfl (fun _ => rfl)), (by exact Sl.of_own S.wd (k := 3) rfl (fun _ => rfl))⟩)) rfl ?_); clear S a w; rintro _ _ ⟨A11, r11, A21, r21, A31, r31, rfl, rfl⟩ a w S)
      rw [rw_a] at S
      refine run S (.mv rfl <| .ex rfl rfl <| .ex rfl rfl <| .z) fun a w S => st_m (op_alloc S zeroValue39 (cs := _) rfl rfl fun g5 a w S => st_m (op_stW S sizeOf39 (.t rfl) (.t rfl) (k := 0) rfl rfl rfl (by simp [Value.oneCell']) fun a w S => run S (.as rfl <| .z) fun a w S => st_nil (then_normal (hK3 _ _ (wp_seq_k fun _ hK3 => wp_seq_k fun _ hK5 => wp_region_lit ?_)))))
      have rw_c : #[Value.slice A11 (applyU U).1.ents.length r11, .slice A21 (applyU U).1.ctx.marks.length r21, .slice A31 (applyU U).1.ctx.cloud.length r31] = (SCart.enc ((applyU U).1, ⟨A11, (applyU U).1.ents.length, r11, A21, (applyU U).1.ctx.marks.length, r21, A31, (applyU U).1.ctx.cloud.length, r31⟩)).toArray := rfl
      have rw_v : (Upd.enc U (.slice A1 U.seen.ents.length r1) (.slice A2 U.seen.ctx.marks.length r2) (.slice A3 U.seen.ctx.cloud.length r3)).toArray = (SUpd.enc (U, ⟨A1, U.seen.ents.length, r1, A2, U.seen.ctx.marks.length, r2, A3, U.seen.ctx.cloud.length, r3⟩)).toArray := rfl
      refine run S (.mv rfl <| .z) fun a w S => ?_
      rw [rw_c] at S
      rw [rw_v] at S
      refine run S (.yy (ys_F (by omega) (ys_neq (.t rfl) Ev.c)) rfl <| .z) fun a w S => ?_
      rw [rw_c] at S
      rw [rw_v] at S
      refine st_nil ?_
      rw [rw_c] at S
      rw [rw_v] at S
      refine then_normal (hK5 _ _ ?_)
      rw [rw_c] at S
      rw [rw_v] at S
      refine st_else S (.t rfl) ?_
      rw [rw_c] at S
      rw [rw_v] at S
      refine wp_skip ?_
      rw [rw_c] at S
      rw [rw_v] at S
      refine then_normal (hK3 _ _ ?_)
      rw [rw_c] at S
      rw [rw_v] at S
      refine wp_seq_k fun _ hK3 => ?_
      rw [rw_c] at S
      rw [rw_v] at S
      refine wp_region_lit ?_
      rw [rw_c] at S
      rw [rw_v] at S
      refine run S (.mv rfl <| .z) fun a w S => ?_
      rw [rw_c] at S
      rw [rw_v] at S
      refine run S (.la gt39 0 rfl rfl rfl <| .z) fun a w S => ?_
      rw [rw_c] at S
      rw [rw_v] at S
      refine st_m (op_bslice1 S underlying29 inf39 rfl rfl rfl (.t rfl) rfl rfl rfl fun g6 a w S => ?_)
      rw [rw_c] at S
      rw [rw_v] at S
      refine st_m (op_push S underlying29 inf39 rfl (k := 10) (j := 0) rfl (.t rfl) (.t rfl) rfl rfl rfl rfl (by first | omega | (simp only [List.length_append, List.length_cons, List.length_nil]; omega)) rfl rfl rfl fun A4 cap1 a w S => ?_)
      rw [rw_c] at S
      rw [rw_v] at S
      refine run S (.as rfl <| .z) fun a w S => ?_
      rw [rw_c] at S
      rw [rw_v] at S
      refine st_nil ?_
      rw [rw_c] at S
      rw [rw_v] at S
      refine then_normal (hK3 _ _ ?_)
      rw [rw_c] at S
      rw [rw_v] at S
      refine wp_region_lit ?_
      rw [rw_c] at S
      rw [rw_v] at S
      refine run S (.mv rfl <| .z) fun a w S => ?_
      rw [rw_c] at S
      rw [rw_v] at S
      refine run S (.la gt60 5 rfl rfl rfl <| .z) fun a w S => ?_
      rw [rw_c] at S
      rw [rw_v] at S
      refine st_m (op_bslice1 S underlying30 inf60 rfl rfl rfl (.t rfl) rfl rfl rfl fun g7 a w S => ?_)
      rw [rw_c] at S
      rw [rw_v] at S
      refine st_m (op_push S underlying30 inf60 rfl (k := 12) (j := 0) rfl (.t rfl) (.t rfl) rfl rfl rfl rfl (by first | omega | (simp only [List.length_append, List.length_cons, List.length_nil]; omega)) rfl rfl rfl fun A5 cap2 a w S => ?_)
      rw [rw_c] at S
      rw [rw_v] at S
      refine run S (.as rfl <| .z) fun a w S => ?_
      rw [rw_c] at S
      rw [rw_v] at S
      refine st_nil ?_
      rw [rw_c] at S
      rw [rw_v] at S
      refine in_normal (then_normal (hK2 _ _ ?_))
      rw [rw_c] at S
      rw [rw_v] at S
      refine wp_region_lit ?_
      rw [rw_c] at S
      rw [rw_v] at S
      refine run S (.ad (by unfold I64; omega) rfl <| .z) fun a w S => ?_
      rw [rw_c] at S
      rw [rw_v] at S
      refine run S (.mv rfl <| .z) fun a w S => ?_
      rw [rw_c] at S
      rw [rw_v] at S
      refine st_nil ?_
      rw [rw_c] at S
      rw [rw_v] at S
      refine then_normal ?_
      rw [rw_c] at S
      rw [rw_v] at S
      have hok := applyU_ok ha
      have hns : (playTo h (i + 1)).st = (playTo h i).st ++ [(applyU U).1] ∧ (playTo h (i + 1)).up = (playTo h i).up ++ [U] ∧ (playTo h (i + 1)).ct = ct.set (nodeP nv) (x + 1) := by
        rw [hnx]; unfold stepP; rw [if_pos ha]
        refine ⟨rfl, rfl, ?_⟩
        show (playTo h i).ct.set (nodeP nv) ((playTo h i).ct.getD (nodeP nv) 0 + 1) = _
        rw [hCT, hX]
      generalize hs1 : (⟨A11, (applyU U).1.ents.length, r11, A21, (applyU U).1.ctx.marks.length, r21, A31, (applyU U).1.ctx.cloud.length, r31⟩ : Sls3) = s1 at S
      generalize hs2 : (⟨A1, U.seen.ents.length, r1, A2, U.seen.ctx.marks.length, r2, A3, U.seen.ctx.cloud.length, r3⟩ : Sls3) = s2 at S
      have W0 := S.wd.picks (L' := [rowOf 71 6 Ent.enc A11 r11 (applyU U).1.ents, rowOf 122 3 Dot.enc A21 r21 (applyU U).1.ctx.marks, rowOf 58 3 Dot.enc A31 r31 (applyU U).1.ctx.cloud, rowOf 71 6 Ent.enc A1 r1 U.seen.ents, rowOf 122 3 Dot.enc A2 r2 U.seen.ctx.marks, rowOf 58 3 Dot.enc A3 r3 U.seen.ctx.cloud, .ice w1 bs,
        rowOf 39 3 SCart.enc A4 cap1 (st ++ [((applyU U).1, s1)]), rowOf 60 10 SUpd.enc A5 cap2 (up ++ [(U, s2)]), .blk g2 (.cells (ctL (ct.set (nodeP nv) (x + 1))).toArray 86), .blk g1 (.cells #[.slice (some ⟨gA, oA, none⟩) h.items.length cap, .slice (some ⟨gB, oB, none⟩) h.qtys.length capB, .slice (some ⟨gC, oC, none⟩) h.prices.length capC, .slice (some ⟨gD, oD, none⟩) h.nodes.length capD, .slice (some ⟨gE, oE, none⟩) h.saws.length capE] 26)]) (by repeat (first | exact Picks.nil | (refine Picks.rest ?_; (repeat (first | exact List.Sublist.refl _ | refine List.Sublist.cons_cons _ ?_ | refine List.Sublist.cons _ ?_)); done) | refine Picks.take 0 rfl ?_ | refine Picks.take 1 rfl ?_ | refine Picks.take 2 rfl ?_ | refine Picks.take 3 rfl ?_ | refine Picks.take 4 rfl ?_ | refine Picks.take 5 rfl ?_ | refine Picks.take 6 rfl ?_ | refine Picks.take 7 rfl ?_ | refine Picks.take 8 rfl ?_ | refine Picks.take 9 rfl ?_ | refine Picks.take 10 rfl ?_ | refine Picks.take 11 rfl ?_))
      have W1 := Wd.freeze (cs := [rowOf 71 6 Ent.enc A11 r11 (applyU U).1.ents, rowOf 122 3 Dot.enc A21 r21 (applyU U).1.ctx.marks, rowOf 58 3 Dot.enc A31 r31 (applyU U).1.ctx.cloud, rowOf 71 6 Ent.enc A1 r1 U.seen.ents, rowOf 122 3 Dot.enc A2 r2 U.seen.ctx.marks, rowOf 58 3 Dot.enc A3 r3 U.seen.ctx.cloud, .ice w1 bs]) W0
      generalize hcs0 : [rowOf 71 6 Ent.enc A11 r11 (applyU U).1.ents, rowOf 122 3 Dot.enc A21 r21 (applyU U).1.ctx.marks, rowOf 58 3 Dot.enc A31 r31 (applyU U).1.ctx.cloud, rowOf 71 6 Ent.enc A1 r1 U.seen.ents, rowOf 122 3 Dot.enc A2 r2 U.seen.ctx.marks, rowOf 58 3 Dot.enc A3 r3 U.seen.ctx.cloud, .ice w1 bs] = cs0 at W1
      have hblk : ∀ (k : Nat) (c : Chunk), cs0[k]? = some c → ∀ b ∈ c.blocks, b ∈ cs0.flatMap Chunk.blocks := fun k c hk b hb => List.mem_flatMap.2 ⟨c, List.mem_of_getElem? hk, hb⟩
      have n1 : CartIn w (cs0.flatMap Chunk.blocks) (applyU U).1 s1 := by
        rw [← hs1]
        exact ⟨SlIn.row W0 (k := 0) rfl (fun _ => rfl) (hblk 0 _ (by rw [← hcs0]; rfl)), SlIn.row W0 (k := 1) rfl (fun _ => rfl) (hblk 1 _ (by rw [← hcs0]; rfl)), SlIn.row W0 (k := 2) rfl (fun _ => rfl) (hblk 2 _ (by rw [← hcs0]; rfl))⟩
      have n2 : CartIn w (cs0.flatMap Chunk.blocks) U.seen s2 := by
        rw [← hs2]
        exact ⟨SlIn.row W0 (k := 3) rfl (fun _ => rfl) (hblk 3 _ (by rw [← hcs0]; rfl)), SlIn.row W0 (k := 4) rfl (fun _ => rfl) (hblk 4 _ (by rw [← hcs0]; rfl)), SlIn.row W0 (k := 5) rfl (fun _ => rfl) (hblk 5 _ (by rw [← hcs0]; rfl))⟩
      have hold := hblk 6 (.ice w1 bs) (by rw [← hcs0]; rfl)
      replace S := St.mk S.kn W1
      refine ⟨(i + 1, A4, cap1, st ++ [((applyU U).1, s1)], A5, cap2, up ++ [(U, s2)], w, cs0.flatMap Chunk.blocks), ⟨by dsimp only; omega, by dsimp only; rw [hns.1, List.map_append, hst]; rfl, by dsimp only; rw [hns.2.1, List.map_append, hup]; rfl, fun p hp => ?_, fun p hp => ?_⟩, by dsimp only; omega, by dsimp only; rw [hns.2.2]; exact S.pk⟩
      · rcases List.mem_append.1 hp with hp | hp
        · exact (hcs p hp).anew W0 (k := 6) rfl hold
        · rw [List.mem_singleton.1 hp]; exact n1
      · rcases List.mem_append.1 hp with hp | hp
        · exact (hcu p hp).anew W0 (k := 6) rfl hold
        · rw [List.mem_singleton.1 hp]; exact n2
    · have rw_a : decide ((applyU U).2 ≠ 0) = true := decide_eq_true ha
      have rw_s2 := ctL_set (ct.set (nodeP nv) (x + 1)) (nodeP nv) (x + 1 - 1)
      have hnz : playTo h (i + 1) = playTo h i := by rw [hnx]; unfold stepP; rw [if_neg ha]
      have ect : (ct.set (nodeP nv) (x + 1)).set (nodeP nv) (x + 1 - 1) = ct := by
        rw [List.set_set, show x + 1 - 1 = x by omega, ← hX, List.getD_eq_getElem?_getD, List.getElem?_eq_getElem (by omega)]
        exact List.set_getElem_self (by omega)
      (refine st_m (op_calls S call30 (.cons (.t rfl) .nil) (c30 _ _ _ _ _ (by exact Sl.of_own S.wd (k := 1) rfl (fun _ => rfl)) (by exact ⟨(by exact Sl.of_own S.wd (k := 2) rfl (fun _ => rfl)), (by exact Sl.of_own S.wd (k := 3) rfl (fun _ => rfl))⟩)) rfl ?_); clear S a w; rintro _ _ ⟨A11, r11, A21, r21, A31, r31, rfl, rfl⟩ a w S)
      refine run S (.mv rfl <| .ex rfl rfl <| .ex rfl rfl <| .z) fun a w S => st_m (op_alloc S zeroValue39 (cs := _) rfl rfl fun g5 a w S => st_m (op_stW S sizeOf39 (.t rfl) (.t rfl) (k := 0) rfl rfl rfl (by simp [Value.oneCell']) fun a w S => run S (.as rfl <| .z) fun a w S => st_nil (then_normal (hK3 _ _ (wp_seq_k fun _ hK3 => sg S (.mv rfl <| .yy (ys_T (by omega) (ys_neq (.t rfl) Ev.c)) rfl <| .z) fun a w S => st_then S (.t rfl) (wp_seq_k fun _ hK5 => wp_region_lit (run S (.mv rfl <| .yy (ys_ixA underlying86 sizeOf3 (.t rfl) (.t rfl) (fun _ => by omega)) rfl <| .yy (ys_ldN ⟨isAgg3, sizeOf3⟩ (.t rfl) (k := 12) rfl (fun _ => by assumption)) rfl <| .yy (ys_subI (.t rfl) Ev.c (fun _ => by unfold I64; omega)) rfl <| .yy (ys_ixA underlying86 sizeOf3 (.t rfl) (.t rfl) (fun _ => by omega)) rfl <| .z) fun a w S => st_m (op_st S sizeOf3 (.t rfl) (.t rfl) (k := 12) rfl rfl (by rw [Go.Fw.ctL_len]; omega) fun a w S => ?_))))))))
      rw [rw_s2] at S
      refine st_nil (then_normal (hK5 _ _ (wp_exit (then_exit (in_here (then_normal (hK2 _ _ (wp_region_lit (run S (.ad (by unfold I64; omega) rfl <| .mv rfl <| .z) fun a w S => st_nil (then_normal ?_))))))))))
      rw [ect] at S
      exact ⟨(i + 1, F, cF, st, G, cG, up, w1, bs), ⟨by dsimp only; omega, by dsimp only; rw [hnz]; exact hst, by dsimp only; rw [hnz]; exact hup, hcs, hcu⟩, by dsimp only; omega, by dsimp only; rw [hnz, hCT]; exact S.pk⟩
  · have rw_q : decide (qv ≤ 0) = false := decide_eq_false hq
    generalize hU : (⟨[107], ⟨(nodeP nv : Int), 1 + (nodeP nv : Int) % 2, x + 1⟩, item, qv, pv, pickK (playTo h i).st sw⟩ : Upd) = U
    have hst2 : stepU (playTo h i) item qv pv nv sw = U := by
      rw [← hU]
      unfold stepU
      rw [if_neg hq, if_neg hq, hCT, hX]
      congr 2
    refine run S (.fa underlying60 sizeOf3 5 rfl rfl rfl <| .ld gt3 0 rfl rfl rfl <| .yy (ys_F (by omega) (ys_leq (.t rfl) Ev.c)) rfl <| .z) fun a w S => st_nil (then_normal (hK5 _ _ (st_else S (.t rfl) (wp_skip (then_normal (hK3 _ _ (wp_seq_k fun _ hK3 => ?_)))))))
    have hse : pickK (playTo h i).st sw = U.seen := by rw [← hU]
    rw [hse] at S hpl
    have huu : #[Value.string ⟨#[107]⟩, .int .i64 (nodeP nv : Int), .int .i64 (1 + (nodeP nv : Int) % 2), .int .i64 (x + 1), .string (Fw.bs item), .int .i64 qv, .int .u64 (pv.toNat : Int), .slice A1 U.seen.ents.length r1, .slice A2 U.seen.ctx.marks.length r2, .slice A3 U.seen.ctx.cloud.length r3] = (Upd.enc U (.slice A1 U.seen.ents.length r1) (.slice A2 U.seen.ctx.marks.length r2) (.slice A3 U.seen.ctx.cloud.length r3)).toArray := by subst hU; rfl
    rw [huu] at S
    have hnx : playTo h (i + 1) = stepP (playTo h i) U nv := by
      rw [playTo, List.getD_eq_getElem?_getD, hitem, List.getD_eq_getElem?_getD, hqv, List.getD_eq_getElem?_getD, hpv, List.getD_eq_getElem?_getD, hnv, List.getD_eq_getElem?_getD, hsw]
      show stepP (playTo h i) (stepU (playTo h i) item qv pv nv sw) nv = _
      rw [hst2]
    by_cases ha : (applyU U).2 = 0
    · have rw_a := ha
      refine wp_region_lit (run S (.la gt60 0 rfl rfl rfl <| .z) fun a w S => ?_)
      (refine st_m (op_calls S call30 (.cons (.t rfl) .nil) (c30 _ _ _ _ _ (by exact Sl.of_own S.wd (k := 1) rfl (fun _ => rfl)) (by exact ⟨(by exact Sl.of_own S.wd (k := 2) rfl (fun _ => rfl)), (by exact Sl.of_own S.wd (k := 3) rfl (fun _ => rfl))⟩)) rfl ?_); clear S a w; rintro _ _ ⟨A11, r11, A21, r21, A31, r31, rfl, rfl⟩ a w S)
      rw [rw_a] at S
      refine run S (.mv rfl <| .ex rfl rfl <| .ex rfl rfl <| .z) fun a w S => st_m (op_alloc S zeroValue39 (cs := _) rfl rfl fun g5 a w S => st_m (op_stW S sizeOf39 (.t rfl) (.t rfl) (k := 0) rfl rfl rfl (by simp [Value.oneCell']) fun a w S => run S (.as rfl <| .z) fun a w S => st_nil (then_normal (hK3 _ _ (wp_seq_k fun _ hK3 => ?_)))))
      have rw_c : #[Value.slice A11 (applyU U).1.ents.length r11, .slice A21 (applyU U).1.ctx.marks.length r21, .slice A31 (applyU U).1.ctx.cloud.length r31] = (SCart.enc ((applyU U).1, ⟨A11, (applyU U).1.ents.length, r11, A21, (applyU U).1.ctx.marks.length, r21, A31, (applyU U).1.ctx.cloud.length, r31⟩)).toArray := rfl
      have rw_v : (Upd.enc U (.slice A1 U.seen.ents.length r1) (.slice A2 U.seen.ctx.marks.length r2) (.slice A3 U.seen.ctx.cloud.length r3)).toArray = (SUpd.enc (U, ⟨A1, U.seen.ents.length, r1, A2, U.seen.ctx.marks.length, r2, A3, U.seen.ctx.cloud.length, r3⟩)).toArray := rfl
      refine wp_seq_k fun _ hK5 => ?_
      rw [rw_c] at S
      rw [rw_v] at S
      refine wp_region_lit ?_
      rw [rw_c] at S
      rw [rw_v] at S
      refine run S (.mv rfl <| .z) fun a w S => ?_
      rw [rw_c] at S
      rw [rw_v] at S
      refine run S (.yy (ys_F (by omega) (ys_neq (.t rfl) Ev.c)) rfl <| .z) fun a w S => ?_
      rw [rw_c] at S
      rw [rw_v] at S
      refine st_nil ?_
      rw [rw_c] at S
      rw [rw_v] at S
      refine then_normal (hK5 _ _ ?_)
      rw [rw_c] at S
      rw [rw_v] at S
      refine st_else S (.t rfl) ?_
      rw [rw_c] at S
      rw [rw_v] at S
      refine wp_skip ?_
      rw [rw_c] at S
      rw [rw_v] at S
      refine then_normal (hK3 _ _ ?_)
      rw [rw_c] at S
      rw [rw_v] at S
      refine wp_seq_k fun _ hK3 => ?_
      rw [rw_c] at S
      rw [rw_v] at S
      refine wp_region_lit ?_
      rw [rw_c] at S
      rw [rw_v] at S
      refine run S (.mv rfl <| .z) fun a w S => ?_
      rw [rw_c] at S
      rw [rw_v] at S
      refine run S (.la gt39 0 rfl rfl rfl <| .z) fun a w S => ?_
      rw [rw_c] at S
      rw [rw_v] at S
      refine st_m (op_bslice1 S underlying29 inf39 rfl rfl rfl (.t rfl) rfl rfl rfl fun g6 a w S => ?_)
      rw [rw_c] at S
      rw [rw_v] at S
      refine st_m (op_push S underlying29 inf39 rfl (k := 10) (j := 0) rfl (.t rfl) (.t rfl) rfl rfl rfl rfl (by first | omega | (simp only [List.length_append, List.length_cons, List.length_nil]; omega)) rfl rfl rfl fun A4 cap1 a w S => ?_)
      rw [rw_c] at S
      rw [rw_v] at S
      refine run S (.as rfl <| .z) fun a w S => ?_
      rw [rw_c] at S
      rw [rw_v] at S
      refine st_nil ?_
      rw [rw_c] at S
      rw [rw_v] at S
      refine then_normal (hK3 _ _ ?_)
      rw [rw_c] at S
      rw [rw_v] at S
      refine wp_region_lit ?_
      rw [rw_c] at S
      rw [rw_v] at S
      refine run S (.mv rfl <| .z) fun a w S => ?_
      rw [rw_c] at S
      rw [rw_v] at S
      refine run S (.la gt60 5 rfl rfl rfl <| .z) fun a w S => ?_
      rw [rw_c] at S
      rw [rw_v] at S
      refine st_m (op_bslice1 S underlying30 inf60 rfl rfl rfl (.t rfl) rfl rfl rfl fun g7 a w S => ?_)
      rw [rw_c] at S
      rw [rw_v] at S
      refine st_m (op_push S underlying30 inf60 rfl (k := 12) (j := 0) rfl (.t rfl) (.t rfl) rfl rfl rfl rfl (by first | omega | (simp only [List.length_append, List.length_cons, List.length_nil]; omega)) rfl rfl rfl fun A5 cap2 a w S => ?_)
      rw [rw_c] at S
      rw [rw_v] at S
      refine run S (.as rfl <| .z) fun a w S => ?_
      rw [rw_c] at S
      rw [rw_v] at S
      refine st_nil ?_
      rw [rw_c] at S
      rw [rw_v] at S
      refine in_normal (then_normal (hK2 _ _ ?_))
      rw [rw_c] at S
      rw [rw_v] at S
      refine wp_region_lit ?_
      rw [rw_c] at S
      rw [rw_v] at S
      refine run S (.ad (by unfold I64; omega) rfl <| .z) fun a w S => ?_
      rw [rw_c] at S
      rw [rw_v] at S
      refine run S (.mv rfl <| .z) fun a w S => ?_
      rw [rw_c] at S
      rw [rw_v] at S
      refine st_nil ?_
      rw [rw_c] at S
      rw [rw_v] at S
      refine then_normal ?_
      rw [rw_c] at S
      rw [rw_v] at S
      have hok := applyU_ok ha
      have hns : (playTo h (i + 1)).st = (playTo h i).st ++ [(applyU U).1] ∧ (playTo h (i + 1)).up = (playTo h i).up ++ [U] ∧ (playTo h (i + 1)).ct = ct.set (nodeP nv) (x + 1) := by
        rw [hnx]; unfold stepP; rw [if_pos ha]
        refine ⟨rfl, rfl, ?_⟩
        show (playTo h i).ct.set (nodeP nv) ((playTo h i).ct.getD (nodeP nv) 0 + 1) = _
        rw [hCT, hX]
      generalize hs1 : (⟨A11, (applyU U).1.ents.length, r11, A21, (applyU U).1.ctx.marks.length, r21, A31, (applyU U).1.ctx.cloud.length, r31⟩ : Sls3) = s1 at S
      generalize hs2 : (⟨A1, U.seen.ents.length, r1, A2, U.seen.ctx.marks.length, r2, A3, U.seen.ctx.cloud.length, r3⟩ : Sls3) = s2 at S
      have W0 := S.wd.picks (L' := [rowOf 71 6 Ent.enc A11 r11 (applyU U).1.ents, rowOf 122 3 Dot.enc A21 r21 (applyU U).1.ctx.marks, rowOf 58 3 Dot.enc A31 r31 (applyU U).1.ctx.cloud, rowOf 71 6 Ent.enc A1 r1 U.seen.ents, rowOf 122 3 Dot.enc A2 r2 U.seen.ctx.marks, rowOf 58 3 Dot.enc A3 r3 U.seen.ctx.cloud, .ice w1 bs,
        rowOf 39 3 SCart.enc A4 cap1 (st ++ [((applyU U).1, s1)]), rowOf 60 10 SUpd.enc A5 cap2 (up ++ [(U, s2)]), .blk g2 (.cells (ctL (ct.set (nodeP nv) (x + 1))).toArray 86), .blk g1 (.cells #[.slice (some ⟨gA, oA, none⟩) h.items.length cap, .slice (some ⟨gB, oB, none⟩) h.qtys.length capB, .slice (some ⟨gC, oC, none⟩) h.prices.length capC, .slice (some ⟨gD, oD, none⟩) h.nodes.length capD, .slice (some ⟨gE, oE, none⟩) h.saws.length capE] 26)]) (by repeat (first | exact Picks.nil | (refine Picks.rest ?_; (repeat (first | exact List.Sublist.refl _ | refine List.Sublist.cons_cons _ ?_ | refine List.Sublist.cons _ ?_)); done) | refine Picks.take 0 rfl ?_ | refine Picks.take 1 rfl ?_ | refine Picks.take 2 rfl ?_ | refine Picks.take 3 rfl ?_ | refine Picks.take 4 rfl ?_ | refine Picks.take 5 rfl ?_ | refine Picks.take 6 rfl ?_ | refine Picks.take 7 rfl ?_ | refine Picks.take 8 rfl ?_ | refine Picks.take 9 rfl ?_ | refine Picks.take 10 rfl ?_ | refine Picks.take 11 rfl ?_))
      have W1 := Wd.freeze (cs := [rowOf 71 6 Ent.enc A11 r11 (applyU U).1.ents, rowOf 122 3 Dot.enc A21 r21 (applyU U).1.ctx.marks, rowOf 58 3 Dot.enc A31 r31 (applyU U).1.ctx.cloud, rowOf 71 6 Ent.enc A1 r1 U.seen.ents, rowOf 122 3 Dot.enc A2 r2 U.seen.ctx.marks, rowOf 58 3 Dot.enc A3 r3 U.seen.ctx.cloud, .ice w1 bs]) W0
      generalize hcs0 : [rowOf 71 6 Ent.enc A11 r11 (applyU U).1.ents, rowOf 122 3 Dot.enc A21 r21 (applyU U).1.ctx.marks, rowOf 58 3 Dot.enc A31 r31 (applyU U).1.ctx.cloud, rowOf 71 6 Ent.enc A1 r1 U.seen.ents, rowOf 122 3 Dot.enc A2 r2 U.seen.ctx.marks, rowOf 58 3 Dot.enc A3 r3 U.seen.ctx.cloud, .ice w1 bs] = cs0 at W1
      have hblk : ∀ (k : Nat) (c : Chunk), cs0[k]? = some c → ∀ b ∈ c.blocks, b ∈ cs0.flatMap Chunk.blocks := fun k c hk b hb => List.mem_flatMap.2 ⟨c, List.mem_of_getElem? hk, hb⟩
      have n1 : CartIn w (cs0.flatMap Chunk.blocks) (applyU U).1 s1 := by
        rw [← hs1]
        exact ⟨SlIn.row W0 (k := 0) rfl (fun _ => rfl) (hblk 0 _ (by rw [← hcs0]; rfl)), SlIn.row W0 (k := 1) rfl (fun _ => rfl) (hblk 1 _ (by rw [← hcs0]; rfl)), SlIn.row W0 (k := 2) rfl (fun _ => rfl) (hblk 2 _ (by rw [← hcs0]; rfl))⟩
      have n2 : CartIn w (cs0.flatMap Chunk.blocks) U.seen s2 := by
        rw [← hs2]
        exact ⟨SlIn.row W0 (k := 3) rfl (fun _ => rfl) (hblk 3 _ (by rw [← hcs0]; rfl)), SlIn.row W0 (k := 4) rfl (fun _ => rfl) (hblk 4 _ (by rw [← hcs0]; rfl)), SlIn.row W0 (k := 5) rfl (fun _ => rfl) (hblk 5 _ (by rw [← hcs0]; rfl))⟩
      have hold := hblk 6 (.ice w1 bs) (by rw [← hcs0]; rfl)
      replace S := St.mk S.kn W1
      refine ⟨(i + 1, A4, cap1, st ++ [((applyU U).1, s1)], A5, cap2, up ++ [(U, s2)], w, cs0.flatMap Chunk.blocks), ⟨by dsimp only; omega, by dsimp only; rw [hns.1, List.map_append, hst]; rfl, by dsimp only; rw [hns.2.1, List.map_append, hup]; rfl, fun p hp => ?_, fun p hp => ?_⟩, by dsimp only; omega, by dsimp only; rw [hns.2.2]; exact S.pk⟩
      · rcases List.mem_append.1 hp with hp | hp
        · exact (hcs p hp).anew W0 (k := 6) rfl hold
        · rw [List.mem_singleton.1 hp]; exact n1
      · rcases List.mem_append.1 hp with hp | hp
        · exact (hcu p hp).anew W0 (k := 6) rfl hold
        · rw [List.mem_singleton.1 hp]; exact n2
    · have rw_a : decide ((applyU U).2 ≠ 0) = true := decide_eq_true ha
      have rw_s2 := ctL_set (ct.set (nodeP nv) (x + 1)) (nodeP nv) (x + 1 - 1)
      have hnz : playTo h (i + 1) = playTo h i := by rw [hnx]; unfold stepP; rw [if_neg ha]
      have ect : (ct.set (nodeP nv) (x + 1)).set (nodeP nv) (x + 1 - 1) = ct := by
        rw [List.set_set, show x + 1 - 1 = x by omega, ← hX, List.getD_eq_getElem?_getD, List.getElem?_eq_getElem (by omega)]
        exact List.set_getElem_self (by omega)
      refine wp_region_lit (run S (.la gt60 0 rfl rfl rfl <| .z) fun a w S => ?_)
      (refine st_m (op_calls S call30 (.cons (.t rfl) .nil) (c30 _ _ _ _ _ (by exact Sl.of_own S.wd (k := 1) rfl (fun _ => rfl)) (by exact ⟨(by exact Sl.of_own S.wd (k := 2) rfl (fun _ => rfl)), (by exact Sl.of_own S.wd (k := 3) rfl (fun _ => rfl))⟩)) rfl ?_); clear S a w; rintro _ _ ⟨A11, r11, A21, r21, A31, r31, rfl, rfl⟩ a w S)
      refine run S (.mv rfl <| .ex rfl rfl <| .ex rfl rfl <| .z) fun a w S => st_m (op_alloc S zeroValue39 (cs := _) rfl rfl fun g5 a w S => st_m (op_stW S sizeOf39 (.t rfl) (.t rfl) (k := 0) rfl rfl rfl (by simp [Value.oneCell']) fun a w S => run S (.as rfl <| .z) fun a w S => st_nil (then_normal (hK3 _ _ (wp_seq_k fun _ hK3 => sg S (.mv rfl <| .yy (ys_T (by omega) (ys_neq (.t rfl) Ev.c)) rfl <| .z) fun a w S => st_then S (.t rfl) (wp_seq_k fun _ hK5 => wp_region_lit (run S (.mv rfl <| .yy (ys_ixA underlying86 sizeOf3 (.t rfl) (.t rfl) (fun _ => by omega)) rfl <| .yy (ys_ldN ⟨isAgg3, sizeOf3⟩ (.t rfl) (k := 12) rfl (fun _ => by assumption)) rfl <| .yy (ys_subI (.t rfl) Ev.c (fun _ => by unfold I64; omega)) rfl <| .yy (ys_ixA underlying86 sizeOf3 (.t rfl) (.t rfl) (fun _ => by omega)) rfl <| .z) fun a w S => st_m (op_st S sizeOf3 (.t rfl) (.t rfl) (k := 12) rfl rfl (by rw [Go.Fw.ctL_len]; omega) fun a w S => ?_))))))))
      rw [rw_s2] at S
      refine st_nil (then_normal (hK5 _ _ (wp_exit (then_exit (in_here (then_normal (hK2 _ _ (wp_region_lit (run S (.ad (by unfold I64; omega) rfl <| .mv rfl <| .z) fun a w S => st_nil (then_normal ?_))))))))))
      rw [ect] at S
      exact ⟨(i + 1, F, cF, st, G, cG, up, w1, bs), ⟨by dsimp only; omega, by dsimp only; rw [hnz]; exact hst, by dsimp only; rw [hnz]; exact hup, hcs, hcu⟩, by dsimp only; omega, by dsimp only; rw [hnz, hCT]; exact S.pk⟩
end Go.Proofs.YtfblmkocmnbdcaaGreat
set_option linter.unusedVariables false
set_option linter.unusedSimpArgs false
set_option maxRecDepth 100000
namespace Go.Proofs.YtfblmkocmnbdcaaGreat
open Go.Fw Go.Proofs Go.RowKit Go.ChangeShapes Go.WideShapes Go.ChangeAt Go.Deep Go.Joins Go.Proofs.Tryz
section
variable {H : Type} {enc : TypeId × Value → H} {w : World}
theorem rdI : Rdr enc Tryz.prog w 3 fun cs _ => ∃ x : Int, cs = encI x ∧ True := (Rdr.int underlying3).mono fun cs b ⟨n, e, _⟩ => ⟨n, e, trivial⟩
theorem rdU : Rdr enc Tryz.prog w 27 fun cs _ => ∃ x : UInt64, cs = encU x ∧ True := (Rdr.int underlying27).mono fun cs b ⟨n, e, h⟩ => by
  obtain ⟨p, rfl⟩ := u64_wf h
  exact ⟨p, e, trivial⟩
theorem rdS : Rdr enc Tryz.prog w 9 fun cs b => ∃ s : List UInt8, cs = encS s ∧ s.length ≤ b := (Rdr.str underlying9).mono fun cs b ⟨s, e, h⟩ => ⟨s, e, by omega⟩
structure HistRd (w : World) (v1 v2 v3 v4 v5 : Value) (h : Hist) (b : Nat) : Prop where
  items : Sl encS 1 w w.heap.size v1 h.items
  qtys : Sl encI 1 w w.heap.size v2 h.qtys
  prices : Sl encU 1 w w.heap.size v3 h.prices
  nodes : Sl encI 1 w w.heap.size v4 h.nodes
  saws : Sl encU 1 w w.heap.size v5 h.saws
theorem rdHist : Rdr enc Tryz.prog w 26 fun cs b => ∃ v1 v2 v3 v4 v5 h, cs = [v1, v2, v3, v4, v5] ∧ HistRd w v1 v2 v3 v4 v5 h b := by
  refine (Rdr.struct underlying26 (by kernel_rfl) (.cons (Rdr.slice (k := 1) underlying22 (by kernel_rfl) rfl (fun _ => rfl) rdS) (.cons (Rdr.slice (k := 1) underlying23 (by kernel_rfl) rfl (fun _ => rfl) rdI) (.cons (Rdr.slice (k := 1) underlying24 (by kernel_rfl) rfl (fun _ => rfl) rdU) (.cons (Rdr.slice (k := 1) underlying23 (by kernel_rfl) rfl (fun _ => rfl) rdI) (.cons (Rdr.slice (k := 1) underlying24 (by kernel_rfl) rfl (fun _ => rfl) rdU) .nil)))))).mono ?_
  rintro cs b ⟨_, _, rfl, ⟨_, _, v1, l1, rfl, h1, _⟩, _, _, rfl, ⟨_, _, v2, l2, rfl, h2, _⟩, _, _, rfl, ⟨_, _, v3, l3, rfl, h3, _⟩, _, _, rfl, ⟨_, _, v4, l4, rfl, h4, _⟩, _, _, rfl, ⟨_, _, v5, l5, rfl, h5, _⟩, rfl⟩
  exact ⟨v1, v2, v3, v4, v5, ⟨l1, l2, l3, l4, l5⟩, rfl, h1, h2, h3, h4, h5⟩
theorem read_hist {t : TypeId} (e : t = 26) {r : Reach} {b0 : Nat} {v : Value} {d : DataW H} {p : List MemPlace} (hv : Value.okWide Tryz.prog w r b0 t v) (h : DataW.Trod enc Tryz.prog w 0 (fun _ => true) true t v d p) :
    ∃ v1 v2 v3 v4 v5 x, v = .agg #[v1, v2, v3, v4, v5] ∧ HistRd w v1 v2 v3 v4 v5 x (Rows.uptoBulk d) := by
  subst e
  obtain ⟨v1, v2, v3, v4, v5, x, hc, hX⟩ := Rdr.top rdHist h
  exact ⟨v1, v2, v3, v4, v5, x, top_agg underlying26 hv hc, hX⟩
end
end Go.Proofs.YtfblmkocmnbdcaaGreat
set_option linter.unusedVariables false
set_option linter.unusedSimpArgs false
set_option maxRecDepth 100000
set_option maxHeartbeats 4000000
namespace Go.Fw
open Go.Proofs Go.RowKit
section
variable {P : Program} {n : Nat} {w0 : World} {K : KL} {L : List Chunk} {a : Act} {w : World} {Q : Exit → Act → World → Prop}
theorem loopM_round {lp m : Nat} {c : Code} {X : Type} (S : St n w0 K L a w) (ms : List Nat) (KX : X → KL) (LX : X → List Chunk) (φ : X → Prop) (μ : X → Nat) (x0 : X) (h0 : φ x0)
    (hK : Fits [] K (KX x0 ++ dropK ms K)) (hL : Picks L (LX x0))
    (round : ∀ x a w, φ x → St n w0 (KX x ++ dropK ms K) (LX x) a w → c.wpIn (Fence.wide.inRound lp) m P (Exit.then (fun a' w' => ∃ x', φ x' ∧ μ x' < μ x ∧ St n w0 (KX x' ++ dropK ms K) (LX x') a' w') Q) a w) : (Code.loop c).wpIn (Fence.wide.inRound lp) m P Q a w :=
  loop_round (fun x a w => φ x ∧ St n w0 (KX x ++ dropK ms K) (LX x) a w) μ x0 ⟨h0, S.picks hK hL⟩ fun x a w ⟨h1, h2⟩ =>
    wpIn_mono (round x a w h1 h2) fun e a w h => by
      cases e with
      | normal => obtain ⟨x', h3, h4, h5⟩ := h; exact ⟨x', ⟨h3, h5⟩, h4⟩
      | _ => exact h
theorem h_beginR0 {lp m id : Nat} {ops : Array Oper} (S : St n w0 K L a w) (hm : P.follows .mixedOrders = true) (hnd : ops.all noDefer = true) (hlo : ¬ LetsOut Q)
    (h : ∀ a w, St n w0 K L a w → wpAnyH P .any ops Q (Wd w0 L) ops.size (Array.replicate ops.size false) a w) : (Code.region id ops true).wpIn (Fence.wide.inRound lp) m P Q a w :=
  drawn_round hm hnd hlo (h _ _ ⟨S.kn, S.wd.drew⟩)
theorem h_beginR {lp m id : Nat} {ops : Array Oper} (S : St n w0 K L a w) (hm : P.follows .mixedOrders = true) (hnd : ops.all noDefer = true) (hlo : ¬ LetsOut Q) (k : Nat)
    (h : ∀ a w, St n w0 K L a w → wpAnyH P .any ops Q (Wd w0 (L.eraseIdx k)) ops.size (Array.replicate ops.size false) a w) : (Code.region id ops true).wpIn (Fence.wide.inRound lp) m P Q a w :=
  drawn_round hm hnd hlo (h _ _ ⟨S.kn, S.wd.drew⟩)
theorem yields2A {lp D : Nat} {fn : FuncId} {p q p' q' i1 i2 : Nat} {t1 t2 : TypeId} {s1 s2 : String} {f1 f2 : Array Edge} {u v : Value} {body : Code} {R : World → Prop} {m : Nat}
    (hk : Kn n K a) (W : Wd w0 (loopK lp D (recR .ready fn a.tmps #[p, q] ((Code.region i1 [⟨some p', .assign (.tmp p), t1, s1, f1, none⟩].toArray false).seq (Code.region i2 [⟨some q', .assign (.tmp q), t2, s2, f2, none⟩].toArray false)) body D) L) w)
    (hp : Nat.blt p n = true) (hq : Nat.blt q n = true) (hp' : Nat.blt p' n = true) (hq' : Nat.blt q' n = true)
    (e1 : look ((q, true, v) :: (p, true, u) :: K) p = some (true, u)) (e2 : look ((p', true, u) :: (q, true, v) :: (p, true, u) :: K) q = some (true, v))
    (h : ∀ RB b w1, RB = Obj.loop (recR .busy fn a.tmps #[p, q] ((Code.region i1 [⟨some p', .assign (.tmp p), t1, s1, f1, none⟩].toArray false).seq (Code.region i2 [⟨some q', .assign (.tmp q), t2, s2, f2, none⟩].toArray false)) body D) → St n w0 ((q', true, v) :: (p', true, u) :: (q, true, v) :: (p, true, u) :: K) (.blk lp RB :: .blk D (.deferred (some [])) :: L) b w1 → body.wpIn (Fence.wide.inRound lp) m P (fun e _ w' => e = .normal ∧ w'.heap[lp]? = some RB ∧ R (w'.putObj lp (.loop (recR .ready fn a.tmps #[p, q] ((Code.region i1 [⟨some p', .assign (.tmp p), t1, s1, f1, none⟩].toArray false).seq (Code.region i2 [⟨some q', .assign (.tmp q), t2, s2, f2, none⟩].toArray false)) body D)))) b w1) :
    Yielded m P lp [u, v].toArray w fun e w' => e = .returned (.bool true) ∧ R w' := by
  have hl := (W.get (k := 0) rfl).2
  have hy := run_yield (P := P) (args := [u, v].toArray) hl rfl
  refine ⟨_, _, _, _, hy, roundIn_of_wpIn trivial ?_⟩
  have S : St n w0 ((q, true, v) :: (p, true, u) :: K) (loopK lp D _ L) _ w := ⟨kn_round2 hk hp hq, W⟩
  refine wpIn_seq (region_round (by simp [noDefer]) (lets_then fun ⟨_, _, h⟩ => h) (st_m (op_y S (Yr.ys (ys_assign (v := u) (Ev.t e1))) hp' ?_)))
  clear S
  intro a1 w1 S
  refine region_round (by simp [noDefer]) (lets_then fun ⟨_, _, h⟩ => h) (st_m (op_y S (Yr.ys (ys_assign (v := v) (Ev.t e2))) hq' ?_))
  clear S
  intro a1 w1 S
  have hl1 := (S.wd.get (k := 0) rfl).2
  refine ⟨_, run_beginRound hl1 rfl, ?_⟩
  refine wpIn_mono (h _ _ _ rfl ⟨S.kn, S.wd.setBlk (k := 0) rfl⟩) fun e a w' ⟨he, hl', hR⟩ => ?_
  subst he
  exact ⟨_, _, run_endRound none hl', rfl, hR⟩
end
theorem best_price {e : Ent} {r : List Ent} (h : ∀ x ∈ e :: r, priceB x.price = true) : ∀ k, priceB ((r.take k).foldl bestF ⟨e.item, e.qty, e.price⟩).price = true
  | 0 => h e (by simp)
  | k + 1 => by
    have ih := best_price h k
    rw [List.take_add_one]
    cases hx : r[k]? with
    | none => simpa using ih
    | some x =>
      rw [Option.toList_some, List.foldl_append, List.foldl_cons, List.foldl_nil]
      unfold bestF
      split
      · exact h x (List.mem_cons_of_mem _ (List.mem_of_getElem? hx))
      · exact ih
theorem runs_mem {g : List Ent} {x : Ent} : ∀ (n : Nat) (l : List Ent), l.length ≤ n → g ∈ runsL l → x ∈ g → x ∈ l
  | _, [], _, h, _ => by rw [runs_nil] at h; cases h
  | 0, _ :: _, h0, _, _ => by simp at h0
  | n + 1, e :: r, h0, h, hx => by
    rw [runs_cons] at h
    rcases List.mem_cons.1 h with rfl | h
    · rcases List.mem_cons.1 hx with rfl | hx
      · simp
      · exact List.mem_cons_of_mem _ ((List.takeWhile_sublist _).subset hx)
    · have h1 : (r.drop (runOf e.item r).length).length ≤ n := by simp at h0 ⊢; omega
      exact List.mem_cons_of_mem _ (List.mem_of_mem_drop (runs_mem n _ h1 h hx))
end Go.Fw
namespace Go.Proofs.YtfblmkocmnbdcaaGreat
open Go.Fw Go.Proofs Go.RowKit Go.Proofs.Tryz
theorem c44 (w0 : World) (v1 : Value) (A2 A3 : Option Addr) (n2 c2 n3 c3 : Nat) (l : List Ent) (h : Sl Ent.enc 6 w0 w0.heap.size v1 l) (hp : ∀ x ∈ l, priceB x.price = true) (hn : l.length ≤ 4194304) :
    Rets Tryz.prog 44 #[.agg #[v1, .slice A2 n2 c2, .slice A3 n3 c3]] w0 fun v L => ∃ A r, v = .slice A (readK l).length r ∧ L = [rowOf 82 3 Line.enc A r (readK l)] := by
  refine enter_range (args := [.agg #[v1, .slice A2 n2 c2, .slice A3 n3 c3]]) Tryz.func44 rfl Tryz.ntmps44 rfl fun a S => ?_
  dsimp only [argsK] at S
  have hit := items_runs l.length l (Nat.le_refl _)
  have hil := itemsFrom_le l none
  rw [show itemsFrom none l = itemsN l from rfl, hit] at hil
  have hs := h
  obtain ⟨A, cap, rfl, hl, hcap, hA⟩ := h
  refine wp_seq_k fun _ hK1 => ?_
  refine wp_region_lit ?_
  (refine st_m (op_box S (Ev.t rfl) rfl ?_); clear S a; intro g1 a w S)
  (refine st_y S (Yr.ys (ys_assign Ev.c)) rfl ?_; clear S a w; intro a w S)
  refine st_nil ?_
  (refine (then_normal (hK1 _ _ ?_)); clear hK1)
  refine wp_seq_k fun _ hK1 => ?_
  refine wp_region_lit ?_
  (refine st_m (op_alloc S Tryz.zeroValue78 (cs := _) rfl rfl ?_); clear S a w; intro g2 a w S)
  refine st_nil ?_
  (refine (then_normal (hK1 _ _ ?_)); clear hK1)
  refine wp_seq_k fun _ hK1 => ?_
  refine wp_seq_k fun _ hK2 => ?_
  refine wp_region_lit ?_
  (refine st_y S (Yr.ys (ys_fieldN (FieldT.mk Tryz.underlying39 rfl Tryz.sizeOf33 rfl) (Ev.t rfl) (i' := 0) rfl)) rfl ?_; clear S a w; intro a w S)
  (refine st_y S (Yr.ys (ys_ld ⟨Tryz.isAgg33, Tryz.sizeOf33⟩ (Ev.t rfl) (k := 1) rfl rfl)) rfl ?_; clear S a w; intro a w S)
  (refine st_m (op_calls S Tryz.call102 (EvL.cons (Ev.t rfl) EvL.nil) (c102 _ _ _ (by exact .old S.wd (by assumption))) rfl ?_); clear S a w; rintro _ _ ⟨g3, rfl, rfl⟩ a w S)
  refine st_nil ?_
  (refine (then_normal (hK2 _ _ ?_)); clear hK2)
  refine wp_block ?_
  replace S : St 62 w0 [(11, true, .func (.func 157) #[] #[.pointer (some ⟨g3, 0, none⟩)]), (3, true, .pointer (some ⟨g2, 0, none⟩))] [.blk g3 (.cells #[.slice A l.length cap] 33), .blk g2 (.cells #[.slice none 0 0] 78), rowOf 82 3 Line.enc none 0 []] a w := (S.nil_ 82 3 Line.enc none).picks (by repeat (first | exact Fits.nil | refine Fits.skip rfl ?_ | refine Fits.cons rfl ?_)) (by repeat (first | exact Picks.nil | (refine Picks.rest ?_; (repeat (first | exact List.Sublist.refl _ | refine List.Sublist.cons_cons _ ?_ | refine List.Sublist.cons _ ?_)); done) | refine Picks.take 0 rfl ?_ | refine Picks.take 1 rfl ?_ | refine Picks.take 2 rfl ?_ | refine Picks.take 3 rfl ?_ | refine Picks.take 4 rfl ?_ | refine Picks.take 5 rfl ?_ | refine Picks.take 6 rfl ?_ | refine Picks.take 7 rfl ?_ | refine Picks.take 8 rfl ?_ | refine Picks.take 9 rfl ?_ | refine Picks.take 10 rfl ?_ | refine Picks.take 11 rfl ?_))
  refine st_range 1 S (Ev.t rfl) Tryz.call157 (R := fun D W' => ∃ B c, Wd w0 [.blk D (.deferred (some [])), .blk g2 (.cells #[.slice B (readK l).length c] 78), rowOf 82 3 Line.enc B c (readK l)] W') ?_ ?_
  · intro fn lp D W hW
    refine (k157 (X := Option Addr × Nat × List Line) (x0 := (none, 0, [])) (fun x => [.blk lp (.loop (recR .ready fn a.tmps _ _ _ D)), .blk D (.deferred (some [])), .blk g2 (.cells #[.slice x.1 x.2.2.length x.2.1] 78), rowOf 82 3 Line.enc x.1 x.2.1 x.2.2]) (fun pre x => x.2.2 = pre.map lineOf) hs (hW.picks (by repeat (first | exact Picks.nil | (refine Picks.rest ?_; (repeat (first | exact List.Sublist.refl _ | refine List.Sublist.cons_cons _ ?_ | refine List.Sublist.cons _ ?_)); done) | refine Picks.take 0 rfl ?_ | refine Picks.take 1 rfl ?_ | refine Picks.take 2 rfl ?_ | refine Picks.take 3 rfl ?_ | refine Picks.take 4 rfl ?_ | refine Picks.take 5 rfl ?_ | refine Picks.take 6 rfl ?_ | refine Picks.take 7 rfl ?_ | refine Picks.take 8 rfl ?_ | refine Picks.take 9 rfl ?_ | refine Picks.take 10 rfl ?_ | refine Picks.take 11 rfl ?_))) rfl ?_).mono ?_
    · rintro pre e r post ⟨B, c, out⟩ u sv W1 hru hout hsv hW1
      dsimp only at hout hW1
      have hlt : pre.length < (runsL l).length := by rw [hru, List.length_append, List.length_cons]; omega
      have hol : out.length < 4194304 := by rw [hout, List.length_map]; omega
      have hpr : ∀ x ∈ e :: r, priceB x.price = true := fun x hx => hp x (runs_mem l.length l (Nat.le_refl _) (g := e :: r) (by rw [hru]; simp) hx)
      refine yields2A (L := [.blk g3 (.cells #[u] 33), .blk g2 (.cells #[.slice B out.length c] 78), rowOf 82 3 Line.enc B c out]) S.kn (hW1.picks (by repeat (first | exact Picks.nil | (refine Picks.rest ?_; (repeat (first | exact List.Sublist.refl _ | refine List.Sublist.cons_cons _ ?_ | refine List.Sublist.cons _ ?_)); done) | refine Picks.take 0 rfl ?_ | refine Picks.take 1 rfl ?_ | refine Picks.take 2 rfl ?_ | refine Picks.take 3 rfl ?_ | refine Picks.take 4 rfl ?_ | refine Picks.take 5 rfl ?_ | refine Picks.take 6 rfl ?_ | refine Picks.take 7 rfl ?_ | refine Picks.take 8 rfl ?_ | refine Picks.take 9 rfl ?_ | refine Picks.take 10 rfl ?_ | refine Picks.take 11 rfl ?_))) rfl rfl rfl rfl rfl rfl ?_
      clear S hW hW1
      intro RB b w1 hRB S
      have hsv0 := hsv
      obtain ⟨C, capC, rfl, hlC, hcapC, hC⟩ := hsv
      have hlen : (e :: r).length = r.length + 1 := rfl
      obtain ⟨gC, oC, rfl, _, hcC⟩ := hC (by simp)
      have hc0 := hcC 0 e rfl
      have hlo : ∀ {R : World → Prop} {o : Option Obj}, ¬ LetsOut (fun (e : Exit) (_ : Act) (w' : World) => e = .normal ∧ w'.heap[lp]? = o ∧ R w') := fun ⟨a, w, h⟩ => by cases h.1
      refine wpIn_block (wpIn_seq_k fun K0 hK0 => h_beginR0 S (by kernel_rfl) (by kernel_rfl) (lets_then (lets_block hlo)) ?_)
      clear S b w1
      intro a w S
      (refine h_y (i := 0) S (by repeat (first | exact List.Sublist.refl _ | exact List.nil_sublist _ | refine .cons_cons _ ?_ | refine .cons _ ?_)) rfl (by kernel_rfl) (by kernel_rfl) (by kernel_rfl) (fun _ _ _ _ h => h) (ys_move (Ev.t rfl)) rfl ?_; clear S a w; intro a w S)
      (refine h_y (i := 1) S (by repeat (first | exact List.Sublist.refl _ | exact List.nil_sublist _ | refine .cons_cons _ ?_ | refine .cons _ ?_)) rfl (by kernel_rfl) (by kernel_rfl) (by kernel_rfl) (fun _ _ _ _ h => h) (ys_move (Ev.t rfl)) rfl ?_; clear S a w; intro a w S)
      (refine h_y (i := 2) S (by repeat (first | exact List.Sublist.refl _ | exact List.nil_sublist _ | refine .cons_cons _ ?_ | refine .cons _ ?_)) rfl (by kernel_rfl) (by kernel_rfl) (by kernel_rfl) (fun _ _ _ _ h => h) (ys_ixS (j := 0) Tryz.underlying33 Tryz.sizeOf71 (Ev.t rfl) Ev.c (fun _ => by omega)) rfl ?_; clear S a w; intro a w S)
      (refine h_y (i := 3) S (by repeat (first | exact List.Sublist.refl _ | exact List.nil_sublist _ | refine .cons_cons _ ?_ | refine .cons _ ?_)) rfl (by kernel_rfl) (by kernel_rfl) (by kernel_rfl) (fun _ _ _ _ h => h) (ys_field (FieldT.mk Tryz.underlying71 rfl Tryz.sizeOf3 rfl) (Ev.t rfl)) rfl ?_; clear S a w; intro a w S)
      (refine h_y (i := 4) S (by repeat (first | exact List.Sublist.refl _ | exact List.nil_sublist _ | refine .cons_cons _ ?_ | refine .cons _ ?_)) rfl (by kernel_rfl) (by kernel_rfl) (by kernel_rfl) (fun _ _ _ _ h => h) (ys_ldO ⟨Tryz.isAgg3, Tryz.sizeOf3⟩ (Ev.t rfl) (fun _ => hc0 _ _ rfl)) rfl ?_; clear S a w; intro a w S)
      (refine h_y (i := 5) S (by repeat (first | exact List.Sublist.refl _ | exact List.nil_sublist _ | refine .cons_cons _ ?_ | refine .cons _ ?_)) rfl (by kernel_rfl) (by kernel_rfl) (by kernel_rfl) (fun _ _ _ _ h => h) (ys_move (Ev.t rfl)) rfl ?_; clear S a w; intro a w S)
      (refine h_y (i := 6) S (by repeat (first | exact List.Sublist.refl _ | exact List.nil_sublist _ | refine .cons_cons _ ?_ | refine .cons _ ?_)) rfl (by kernel_rfl) (by kernel_rfl) (by kernel_rfl) (fun _ _ _ _ h => h) (ys_ixS (j := 0) Tryz.underlying33 Tryz.sizeOf71 (Ev.t rfl) Ev.c (fun _ => by omega)) rfl ?_; clear S a w; intro a w S)
      (refine h_y (i := 7) S (by repeat (first | exact List.Sublist.refl _ | exact List.nil_sublist _ | refine .cons_cons _ ?_ | refine .cons _ ?_)) rfl (by kernel_rfl) (by kernel_rfl) (by kernel_rfl) (fun _ _ _ _ h => h) (ys_field (FieldT.mk Tryz.underlying71 rfl Tryz.sizeOf27 rfl) (Ev.t rfl)) rfl ?_; clear S a w; intro a w S)
      (refine h_y (i := 8) S (by repeat (first | exact List.Sublist.refl _ | exact List.nil_sublist _ | refine .cons_cons _ ?_ | refine .cons _ ?_)) rfl (by kernel_rfl) (by kernel_rfl) (by kernel_rfl) (fun _ _ _ _ h => h) (ys_ldO ⟨Tryz.isAgg27, Tryz.sizeOf27⟩ (Ev.t rfl) (fun _ => hc0 _ _ rfl)) rfl ?_; clear S a w; intro a w S)
      (refine h_y (i := 9) S (by repeat (first | exact List.Sublist.refl _ | exact List.nil_sublist _ | refine .cons_cons _ ?_ | refine .cons _ ?_)) rfl (by kernel_rfl) (by kernel_rfl) (by kernel_rfl) (fun _ _ _ _ h => h) (ys_bld (ps := [(0, Go.Operand.tmp 14), (1, Go.Operand.tmp 18), (2, Go.Operand.tmp 22)]) (us := [_, _, _]) bld82 (EvL.cons (Ev.t rfl) (EvL.cons (Ev.t rfl) (EvL.cons (Ev.t rfl) EvL.nil))) rfl) rfl ?_; clear S a w; intro a w S)
      (refine h_m (i := 10) rfl (by kernel_rfl) (op_alloc S Tryz.zeroValue82 (cs := _) rfl rfl ?_); clear S a w; intro g4 a w S; refine h_on S _ (List.Sublist.refl _) (by repeat (first | exact List.Sublist.refl _ | exact List.nil_sublist _ | refine .cons_cons _ ?_ | refine .cons _ ?_)) ?_)
      (refine h_m0 (i := 11) rfl (by kernel_rfl) (op_stW S Tryz.sizeOf82 (Ev.t rfl) (Ev.t rfl) (k := 0) rfl rfl rfl (by simp [Value.oneCell']) ?_); clear S a w; intro a w S; refine h_on S _ (List.Sublist.refl _) (by repeat (first | exact List.Sublist.refl _ | exact List.nil_sublist _ | refine .cons_cons _ ?_ | refine .cons _ ?_)) ?_)
      refine h_done (by kernel_rfl) ?_
      (refine (then_normal (hK0 _ _ ?_)); clear hK0)
      have hd1 := hsv0.drop_ 1 (by omega)
      rw [List.drop_succ_cons, List.drop_zero] at hd1
      refine wpIn_seq_k fun K2 hK2 => wpIn_seq_k fun K3 hK3 => region_round (by kernel_rfl) (by repeat first | exact hlo | refine lets_then ?_ | refine lets_block ?_) ?_
      (refine st_y S (Yr.ys (ys_move (Ev.t rfl))) rfl ?_; clear S a w; intro a w S)
      (refine st_y S (Yr.ys (ys_slLo Tryz.underlying33 Tryz.sizeOf71 (Ev.t rfl) Ev.c (fun _ => by first | omega | (simp; done) | (simp; omega)))) rfl ?_; clear S a w; intro a w S)
      (refine st_y S (Yr.ys (ys_lenS Tryz.underlying33 (Ev.t rfl))) rfl ?_; clear S a w; intro a w S)
      (refine st_y S (Yr.ys (ys_move Ev.c)) rfl ?_; clear S a w; intro a w S)
      refine st_nil ?_
      (refine (then_normal (hK3 _ _ ?_)); clear hK3)
      rw [hlen, Nat.add_sub_cancel] at S
      generalize (if capC = 1 then some (⟨gC, oC, none⟩ : Addr) else Option.map (fun x : Addr => x.add (1 * 6)) (some (⟨gC, oC, none⟩ : Addr))) = AD at S hd1
      obtain ⟨AD', capD, heq, hlD, hcapD, hAD⟩ := hd1
      simp only [Value.slice.injEq, true_and] at heq
      obtain ⟨rfl, rfl⟩ := heq
      refine wpIn_block (loopM_round (X := Nat) S [27] (fun k => [(27, true, .int .i64 (k : Int))]) (fun k => [.blk lp RB, .blk D (.deferred (some [])), .blk g3 (.cells #[u] 33), .blk g2 (.cells #[.slice B out.length c] 78), rowOf 82 3 Line.enc B c out, .blk g4 (.cells (Line.enc ((r.take k).foldl bestF ⟨e.item, e.qty, e.price⟩)).toArray 82)]) (fun k => k ≤ r.length) (fun k => r.length - k) 0 (Nat.zero_le _) (by repeat (first | exact Fits.nil | refine Fits.skip rfl ?_ | refine Fits.cons rfl ?_)) (by repeat (first | exact Picks.nil | (refine Picks.rest ?_; (repeat (first | exact List.Sublist.refl _ | refine List.Sublist.cons_cons _ ?_ | refine List.Sublist.cons _ ?_)); done) | refine Picks.take 0 rfl ?_ | refine Picks.take 1 rfl ?_ | refine Picks.take 2 rfl ?_ | refine Picks.take 3 rfl ?_ | refine Picks.take 4 rfl ?_ | refine Picks.take 5 rfl ?_ | refine Picks.take 6 rfl ?_ | refine Picks.take 7 rfl ?_ | refine Picks.take 8 rfl ?_ | refine Picks.take 9 rfl ?_ | refine Picks.take 10 rfl ?_ | refine Picks.take 11 rfl ?_)) ?_)
      clear S
      intro k a w hk S
      refine wpIn_seq_k fun K4 hK4 => region_round (by kernel_rfl) (by repeat first | exact hlo | refine lets_then ?_ | refine lets_block ?_) ?_
      (refine st_y S (Yr.ys (ys_lss (Ev.t rfl) (Ev.t rfl))) rfl ?_; clear S a w; intro a w S)
      refine st_nil ?_
      (refine (then_normal (hK4 _ _ ?_)); clear hK4)
      by_cases hlt : k < r.length
      · obtain ⟨gD, oD, x, rfl, hx, hdx, hcx⟩ := row_at hAD hlt
        refine wpIn_seq_k fun K5 hK5 => wpIn_cond_true (((Ev.t rfl) a rfl S.kn).trans (by rw [decide_eq_true (by omega)])) (wpIn_skip (hK5 _ _ ?_))
        refine wpIn_seq_k fun K6 hK6 => wpIn_block (wpIn_seq_k fun K7 hK7 => region_round (by kernel_rfl) (by repeat first | exact hlo | refine lets_then ?_ | refine lets_block ?_) ?_)
        (refine st_y S (Yr.ys (ys_ixS Tryz.underlying33 Tryz.sizeOf71 (Ev.t rfl) (Ev.t rfl) (fun _ => by omega))) rfl ?_; clear S a w; intro a w S)
        (refine st_y S (Yr.ys (ys_ldOA ⟨Tryz.isAgg71, Tryz.sizeOf71⟩ (Ev.t rfl) (vs := [_, _, _, _, _, _]) rfl (fun _ => hcx))) rfl ?_; clear S a w; intro a w S)
        (refine st_m (op_alloc S Tryz.zeroValue71 (cs := _) rfl rfl ?_); clear S a w; intro g5 a w S)
        (refine st_m (op_stW S Tryz.sizeOf71 (Ev.t rfl) (Ev.t rfl) (k := 0) rfl rfl rfl (by simp [Value.oneCell']) ?_); clear S a w; intro a w S)
        refine st_nil ?_
        (refine (then_normal (hK7 _ _ ?_)); clear hK7)
        have hpx := hpr x (List.mem_cons_of_mem _ (List.mem_of_getElem? hx))
        have hnx : (r.take (k + 1)).foldl bestF ⟨e.item, e.qty, e.price⟩ = bestF ((r.take k).foldl bestF ⟨e.item, e.qty, e.price⟩) x := by
          rw [List.take_add_one, hx, Option.toList_some, List.foldl_append]; rfl
        have hpy := best_price hpr k
        generalize (r.take k).foldl bestF ⟨e.item, e.qty, e.price⟩ = y at S hnx hpy
        refine wpIn_seq_k fun K8 hK8 => region_round (by kernel_rfl) (by repeat first | exact hlo | refine lets_then ?_ | refine lets_block ?_) ?_
        (refine st_y S (Yr.ys (ys_fieldN (FieldT.mk Tryz.underlying71 rfl Tryz.sizeOf3 rfl) (Ev.t rfl) (i' := 4) rfl)) rfl ?_; clear S a w; intro a w S)
        (refine st_y S (Yr.ys (ys_ld ⟨Tryz.isAgg3, Tryz.sizeOf3⟩ (Ev.t rfl) (k := 0) rfl rfl)) rfl ?_; clear S a w; intro a w S)
        (refine st_y S (Yr.ys (ys_fieldN (FieldT.mk Tryz.underlying82 rfl Tryz.sizeOf3 rfl) (Ev.t rfl) (i' := 1) rfl)) rfl ?_; clear S a w; intro a w S)
        (refine st_y S (Yr.ys (ys_ld ⟨Tryz.isAgg3, Tryz.sizeOf3⟩ (Ev.t rfl) (k := 6) rfl rfl)) rfl ?_; clear S a w; intro a w S)
        (refine st_y S (Yr.ys (ys_gtr (Ev.t rfl) (Ev.t rfl))) rfl ?_; clear S a w; intro a w S)
        (refine st_y S (Yr.ys (ys_move (Ev.t rfl))) rfl ?_; clear S a w; intro a w S)
        (refine st_yf S rfl rfl (Yr.ys (ys_fieldN (FieldT.mk Tryz.underlying71 rfl Tryz.sizeOf3 rfl) (Ev.t rfl) (i' := 4) rfl)) rfl ?_; clear S a w; intro a w S)
        (refine st_yf S rfl rfl (Yr.ys (ys_ld ⟨Tryz.isAgg3, Tryz.sizeOf3⟩ (Ev.g rfl) (k := 0) rfl rfl)) rfl ?_; clear S a w; intro a w S)
        (refine st_yf S rfl rfl (Yr.ys (ys_fieldN (FieldT.mk Tryz.underlying82 rfl Tryz.sizeOf3 rfl) (Ev.t rfl) (i' := 1) rfl)) rfl ?_; clear S a w; intro a w S)
        (refine st_yf S rfl rfl (Yr.ys (ys_ld ⟨Tryz.isAgg3, Tryz.sizeOf3⟩ (Ev.g rfl) (k := 6) rfl rfl)) rfl ?_; clear S a w; intro a w S)
        (refine st_yf S rfl rfl (Yr.ys (ys_eql (Ev.g rfl) (Ev.g rfl))) rfl ?_; clear S a w; intro a w S)
        (refine st_yf S rfl rfl (Yr.ys (ys_move (Ev.g rfl))) rfl ?_; clear S a w; intro a w S)
        (refine st_yg2 S rfl rfl (Yr.ys (ys_fieldN (FieldT.mk Tryz.underlying71 rfl Tryz.sizeOf27 rfl) (Ev.t rfl) (i' := 5) rfl)) rfl ?_; clear S a w; intro a w S)
        (refine st_yg2 S rfl rfl (Yr.ys (ys_ld ⟨Tryz.isAgg27, Tryz.sizeOf27⟩ (Ev.g rfl) (k := 0) rfl rfl)) rfl ?_; clear S a w; intro a w S)
        (refine st_yg2 S rfl rfl (Yr.ys (ys_fieldN (FieldT.mk Tryz.underlying82 rfl Tryz.sizeOf27 rfl) (Ev.t rfl) (i' := 2) rfl)) rfl ?_; clear S a w; intro a w S)
        (refine st_yg2 S rfl rfl (Yr.ys (ys_ld ⟨Tryz.isAgg27, Tryz.sizeOf27⟩ (Ev.g rfl) (k := 6) rfl rfl)) rfl ?_; clear S a w; intro a w S)
        (refine st_yg2 S rfl rfl (ys_call Tryz.call103 (EvL.cons (Ev.g rfl) (EvL.cons (Ev.g rfl) EvL.nil)) (fun hp w W => c103 _ _ _ (by assumption) (by assumption))) rfl ?_; clear S a w; intro a w S)
        simp only [List.nil_append] at S
        (refine st_yf S rfl rfl (Yr.ys (ys_and2 (Ev.g rfl) (Ev.g rfl) Ev.c)) rfl ?_; clear S a w; intro a w S)
        (refine st_y S (Yr.ys (ys_or (Ev.t rfl) Ev.c (Ev.g rfl))) rfl ?_; clear S a w; intro a w S)
        refine st_nil ?_
        (refine (then_normal (hK8 _ _ ?_)); clear hK8)
        by_cases hb : y.qty < x.qty ∨ (x.qty = y.qty ∧ rankP y.price < rankP x.price)
        · have hbt : (decide (y.qty < x.qty) || decide (x.qty = y.qty) && decide (rankP y.price < rankP x.price)) = true := by simpa using hb
          have hnv : bestF y x = ⟨y.item, x.qty, x.price⟩ := by unfold bestF; rw [if_pos hb]
          refine wpIn_cond_true (((Ev.t rfl) a rfl S.kn).trans (by rw [hbt])) (h_beginR S (by kernel_rfl) (by kernel_rfl) (by repeat first | exact hlo | refine lets_then ?_ | refine lets_block ?_) 6 ?_)
          clear S a w
          intro a w S
          have rw_c : (y.enc.set 1 (.int .i64 x.qty)).set 2 (.int .u64 (x.price.toNat : Int)) = Line.enc ⟨y.item, x.qty, x.price⟩ := rfl
          have rw_k : (k : Int) + 1 = ((k + 1 : Nat) : Int) := rfl
          (refine h_y (i := 0) S (by repeat (first | exact List.Sublist.refl _ | exact List.nil_sublist _ | refine .cons_cons _ ?_ | refine .cons _ ?_)) rfl (by kernel_rfl) (by kernel_rfl) (by kernel_rfl) (fun _ _ _ _ h => h) (ys_fieldN (FieldT.mk Tryz.underlying71 rfl Tryz.sizeOf3 rfl) (Ev.t rfl) (i' := 4) rfl) rfl ?_; clear S a w; intro a w S)
          (refine h_y (i := 1) S (by repeat (first | exact List.Sublist.refl _ | exact List.nil_sublist _ | refine .cons_cons _ ?_ | refine .cons _ ?_)) rfl (by kernel_rfl) (by kernel_rfl) (by kernel_rfl) (fun _ _ _ _ h => h) (ys_ld ⟨Tryz.isAgg3, Tryz.sizeOf3⟩ (Ev.t rfl) (k := 0) rfl rfl) rfl ?_; clear S a w; intro a w S)
          (refine h_y (i := 2) S (by repeat (first | exact List.Sublist.refl _ | exact List.nil_sublist _ | refine .cons_cons _ ?_ | refine .cons _ ?_)) rfl (by kernel_rfl) (by kernel_rfl) (by kernel_rfl) (fun _ _ _ _ h => h) (ys_fieldN (FieldT.mk Tryz.underlying71 rfl Tryz.sizeOf27 rfl) (Ev.t rfl) (i' := 5) rfl) rfl ?_; clear S a w; intro a w S)
          (refine h_y (i := 3) S (by repeat (first | exact List.Sublist.refl _ | exact List.nil_sublist _ | refine .cons_cons _ ?_ | refine .cons _ ?_)) rfl (by kernel_rfl) (by kernel_rfl) (by kernel_rfl) (fun _ _ _ _ h => h) (ys_ld ⟨Tryz.isAgg27, Tryz.sizeOf27⟩ (Ev.t rfl) (k := 0) rfl rfl) rfl ?_; clear S a w; intro a w S)
          (refine h_y (i := 4) S (by repeat (first | exact List.Sublist.refl _ | exact List.nil_sublist _ | refine .cons_cons _ ?_ | refine .cons _ ?_)) rfl (by kernel_rfl) (by kernel_rfl) (by kernel_rfl) (fun _ _ _ _ h => h) (ys_fieldN (FieldT.mk Tryz.underlying82 rfl Tryz.sizeOf3 rfl) (Ev.t rfl) (i' := 1) rfl) rfl ?_; clear S a w; intro a w S)
          (refine h_m0 (i := 5) rfl (by kernel_rfl) (op_st S Tryz.sizeOf3 (Ev.t rfl) (Ev.t rfl) (k := 6) rfl rfl (by simp) ?_); clear S a w; intro a w S; refine h_on S _ (List.Sublist.refl _) (by repeat (first | exact List.Sublist.refl _ | exact List.nil_sublist _ | refine .cons_cons _ ?_ | refine .cons _ ?_)) ?_)
          (refine h_y (i := 6) S (by repeat (first | exact List.Sublist.refl _ | exact List.nil_sublist _ | refine .cons_cons _ ?_ | refine .cons _ ?_)) rfl (by kernel_rfl) (by kernel_rfl) (by kernel_rfl) (fun _ _ _ _ h => h) (ys_fieldN (FieldT.mk Tryz.underlying82 rfl Tryz.sizeOf27 rfl) (Ev.t rfl) (i' := 2) rfl) rfl ?_; clear S a w; intro a w S)
          (refine h_m0 (i := 7) rfl (by kernel_rfl) (op_st S Tryz.sizeOf27 (Ev.t rfl) (Ev.t rfl) (k := 6) rfl rfl (by simp) ?_); clear S a w; intro a w S; refine h_on S _ (List.Sublist.refl _) (by repeat (first | exact List.Sublist.refl _ | exact List.nil_sublist _ | refine .cons_cons _ ?_ | refine .cons _ ?_)) ?_)
          rw [rw_c] at S
          refine h_done (by kernel_rfl) ?_
          (refine (in_normal (then_normal (hK6 _ _ ?_))); clear hK6)
          refine region_round (by kernel_rfl) (by repeat first | exact hlo | refine lets_then ?_ | refine lets_block ?_) ?_
          (refine st_y S (Yr.ys (ys_addI (Ev.t rfl) Ev.c (fun _ => by unfold I64; omega))) rfl ?_; clear S a w; intro a w S)
          rw [rw_k] at S
          (refine st_y S (Yr.ys (ys_move (Ev.t rfl))) rfl ?_; clear S a w; intro a w S)
          refine st_nil ?_
          refine (then_normal ?_)
          exact ⟨k + 1, by omega, by omega, by rw [hnx, hnv]; exact S.picks (by repeat (first | exact Fits.nil | refine Fits.skip rfl ?_ | refine Fits.cons rfl ?_)) (by repeat (first | exact Picks.nil | (refine Picks.rest ?_; (repeat (first | exact List.Sublist.refl _ | refine List.Sublist.cons_cons _ ?_ | refine List.Sublist.cons _ ?_)); done) | refine Picks.take 0 rfl ?_ | refine Picks.take 1 rfl ?_ | refine Picks.take 2 rfl ?_ | refine Picks.take 3 rfl ?_ | refine Picks.take 4 rfl ?_ | refine Picks.take 5 rfl ?_ | refine Picks.take 6 rfl ?_ | refine Picks.take 7 rfl ?_ | refine Picks.take 8 rfl ?_ | refine Picks.take 9 rfl ?_ | refine Picks.take 10 rfl ?_ | refine Picks.take 11 rfl ?_))⟩
        · have hbf : (decide (y.qty < x.qty) || decide (x.qty = y.qty) && decide (rankP y.price < rankP x.price)) = false := by rw [Bool.eq_false_iff]; intro h; exact hb (by simpa using h)
          have hnv : bestF y x = y := by unfold bestF; rw [if_neg hb]
          refine wpIn_cond_false (((Ev.t rfl) a rfl S.kn).trans (by rw [hbf])) (wpIn_skip ?_)
          have rw_k : (k : Int) + 1 = ((k + 1 : Nat) : Int) := rfl
          (refine (in_normal (then_normal (hK6 _ _ ?_))); clear hK6)
          refine region_round (by kernel_rfl) (by repeat first | exact hlo | refine lets_then ?_ | refine lets_block ?_) ?_
          (refine st_y S (Yr.ys (ys_addI (Ev.t rfl) Ev.c (fun _ => by unfold I64; omega))) rfl ?_; clear S a w; intro a w S)
          rw [rw_k] at S
          (refine st_y S (Yr.ys (ys_move (Ev.t rfl))) rfl ?_; clear S a w; intro a w S)
          refine st_nil ?_
          refine (then_normal ?_)
          exact ⟨k + 1, by omega, by omega, by rw [hnx, hnv]; exact S.picks (by repeat (first | exact Fits.nil | refine Fits.skip rfl ?_ | refine Fits.cons rfl ?_)) (by repeat (first | exact Picks.nil | (refine Picks.rest ?_; (repeat (first | exact List.Sublist.refl _ | refine List.Sublist.cons_cons _ ?_ | refine List.Sublist.cons _ ?_)); done) | refine Picks.take 0 rfl ?_ | refine Picks.take 1 rfl ?_ | refine Picks.take 2 rfl ?_ | refine Picks.take 3 rfl ?_ | refine Picks.take 4 rfl ?_ | refine Picks.take 5 rfl ?_ | refine Picks.take 6 rfl ?_ | refine Picks.take 7 rfl ?_ | refine Picks.take 8 rfl ?_ | refine Picks.take 9 rfl ?_ | refine Picks.take 10 rfl ?_ | refine Picks.take 11 rfl ?_))⟩
      · refine wpIn_seq_k fun K5 hK5 => wpIn_cond_false (((Ev.t rfl) a rfl S.kn).trans (by rw [decide_eq_false (by omega)])) (wpIn_exit ?_)
        refine hK2 _ _ (region_round (by kernel_rfl) (by repeat first | exact hlo | refine lets_then ?_ | refine lets_block ?_) ?_)
        rw [show k = r.length by omega, List.take_length] at S
        generalize hY : r.foldl bestF ⟨e.item, e.qty, e.price⟩ = y at S
        (refine st_y S (Yr.ys (ys_ld ⟨Tryz.isAgg78, Tryz.sizeOf78⟩ (Ev.t rfl) (k := 3) rfl rfl)) rfl ?_; clear S a w; intro a w S)
        (refine st_y S (Yr.ys (ys_ldA ⟨Tryz.isAgg82, Tryz.sizeOf82⟩ (Ev.t rfl) (k := 5) rfl rfl)) rfl ?_; clear S a w; intro a w S)
        (refine st_m (op_bslice1 S Tryz.underlying78 inf82 rfl rfl rfl (Ev.t rfl) rfl rfl rfl ?_); clear S a w; intro g5 a w S)
        (refine st_m (op_push S Tryz.underlying78 inf82 rfl (k := 5) (j := 0) rfl (Ev.t rfl) (Ev.t rfl) rfl rfl rfl rfl (by first | omega | (simp only [List.length_append, List.length_cons, List.length_nil]; omega)) rfl rfl rfl ?_); clear S a w; intro A1 cap1 a w S)
        (refine st_m (op_st S Tryz.sizeOf78 (Ev.t rfl) (Ev.t rfl) (k := 4) rfl rfl (by simp) ?_); clear S a w; intro a w S)
        refine st_nil ?_
        refine (in_normal ?_)
        exact ⟨rfl, (S.wd.get (k := 1) rfl).2, (A1, cap1, out ++ [y]), by dsimp only; rw [hout, List.map_append, ← hY]; rfl, (S.wd.setBlk (k := 1) rfl).picks (by repeat (first | exact Picks.nil | (refine Picks.rest ?_; (repeat (first | exact List.Sublist.refl _ | refine List.Sublist.cons_cons _ ?_ | refine List.Sublist.cons _ ?_)); done) | refine Picks.take 0 rfl ?_ | refine Picks.take 1 rfl ?_ | refine Picks.take 2 rfl ?_ | refine Picks.take 3 rfl ?_ | refine Picks.take 4 rfl ?_ | refine Picks.take 5 rfl ?_ | refine Picks.take 6 rfl ?_ | refine Picks.take 7 rfl ?_ | refine Picks.take 8 rfl ?_ | refine Picks.take 9 rfl ?_ | refine Picks.take 10 rfl ?_ | refine Picks.take 11 rfl ?_))⟩
    · rintro en W2 ⟨⟨r, rfl⟩, ⟨B, c, out⟩, u, hout, hW2⟩
      have hout : out = readK l := hout
      subst hout
      exact ⟨⟨_, rfl⟩, (hW2.get (k := 1) rfl).2, _, _, (hW2.setBlk (k := 1) rfl).picks (by repeat (first | exact Picks.nil | (refine Picks.rest ?_; (repeat (first | exact List.Sublist.refl _ | refine List.Sublist.cons_cons _ ?_ | refine List.Sublist.cons _ ?_)); done) | refine Picks.take 0 rfl ?_ | refine Picks.take 1 rfl ?_ | refine Picks.take 2 rfl ?_ | refine Picks.take 3 rfl ?_ | refine Picks.take 4 rfl ?_ | refine Picks.take 5 rfl ?_ | refine Picks.take 6 rfl ?_ | refine Picks.take 7 rfl ?_ | refine Picks.take 8 rfl ?_ | refine Picks.take 9 rfl ?_ | refine Picks.take 10 rfl ?_ | refine Picks.take 11 rfl ?_))⟩
  · rintro D W' ⟨B, c, hR⟩
    refine in_normal (then_normal (hK1 _ _ ?_))
    exact tail_range (⟨S.kn, hR⟩ : St 62 w0 _ _ a W') (k := 0) rfl (ys_ld ⟨Tryz.isAgg78, Tryz.sizeOf78⟩ (Ev.t rfl) (k := 1) rfl rfl) rfl rfl Tryz.results44 fun W'' hW'' => ⟨_, _, rfl, hW''.picks (by repeat (first | exact Picks.nil | (refine Picks.rest ?_; (repeat (first | exact List.Sublist.refl _ | refine List.Sublist.cons_cons _ ?_ | refine List.Sublist.cons _ ?_)); done) | refine Picks.take 0 rfl ?_ | refine Picks.take 1 rfl ?_ | refine Picks.take 2 rfl ?_ | refine Picks.take 3 rfl ?_ | refine Picks.take 4 rfl ?_ | refine Picks.take 5 rfl ?_ | refine Picks.take 6 rfl ?_ | refine Picks.take 7 rfl ?_ | refine Picks.take 8 rfl ?_ | refine Picks.take 9 rfl ?_ | refine Picks.take 10 rfl ?_ | refine Picks.take 11 rfl ?_)), _, _, rfl, rfl⟩
end Go.Proofs.YtfblmkocmnbdcaaGreat
set_option linter.unusedVariables false
set_option linter.unusedSimpArgs false
set_option maxRecDepth 100000
set_option maxHeartbeats 4000000
namespace Go.Fw
def idxW {α : Type} (p : α → Bool) : Nat → List α → Int
  | _, [] => -1
  | k, y :: r => if p y then (k : Int) else idxW p (k + 1) r
theorem idxW_any {α : Type} (p : α → Bool) : ∀ (l : List α) (k : Nat), decide (0 ≤ idxW p k l) = l.any p
  | [], k => rfl
  | y :: r, k => by
    unfold idxW
    by_cases h : p y = true
    · rw [if_pos h, List.any_cons, h, Bool.true_or]
      exact decide_eq_true (by omega)
    · rw [if_neg h, idxW_any p r (k + 1), List.any_cons, Bool.eq_false_iff.2 h, Bool.false_or]
end Go.Fw
namespace Go.Proofs.YtfblmkocmnbdcaaGreat
open Go.Fw Go.Proofs Go.RowKit Go.Proofs.Tryz
def ReadsV {α : Type} (enc : α → List Value) (w0 : World) (f : FuncId) (cs : List Value) (l : List α) (p : α → Bool) : Prop := ∀ w', Wd w0 [] w' → ∀ x ∈ l, Calls Tryz.prog f ([Value.agg (enc x).toArray] ++ cs).toArray w' fun e w'' => e = .returned (.bool (p x)) ∧ Bel w'.heap.size w' w''
theorem x96 (w0 : World) (v : Value) (l : List Ent) (f : FuncId) (cs : List Value) (p : Ent → Bool) (hf : ∀ args w, (callFunc f args).run Tryz.prog w = .ok (.enter f args) w) (hr : ReadsV Ent.enc w0 f cs l p) (h : Sl Ent.enc 6 w0 w0.heap.size v l) :
    Calls Tryz.prog 96 #[v, .func (.func f) #[] cs.toArray] w0 fun e w' => e = .returned (.int .i64 (idxW p 0 l)) ∧ Bel w0.heap.size w0 w' := by
  obtain ⟨A, cap, rfl, hl, hcap, hA⟩ := h
  refine enter2 func96 rfl ntmps96 rfl fun a S => sg S (.ac rfl <| .z) fun a w S => wp_seq_k fun _ hK1 => sg S (.mv rfl <| .ln underlying33 rfl <| .mc rfl <| .z) fun a w S => wp_block ?_
  refine st_lpM S [4, 5, 8] (X := Nat) (fun k => [(8, true, .int .i64 (k : Int))]) (fun _ => []) (fun k => k ≤ l.length ∧ idxW p k (l.drop k) = idxW p 0 l) (fun k => l.length - k) 0 ⟨Nat.zero_le _, rfl⟩ ?_
  clear S
  intro k a w ⟨hk, hno⟩ S
  by_cases hlt : k < l.length
  · obtain ⟨gq, oq, x, rfl, hx, hd, hcc⟩ := row_at hA hlt
    rw [hd] at hno
    have hrx := fun w' W' => hr w' W' x (List.mem_of_getElem? hx)
    refine sg S (.lt (by omega) rfl rfl <| .z) fun a w S => wp_seq_k fun _ hK2 => st_then S (.t rfl) (wp_skip (then_normal (hK2 _ _ (wp_seq_k fun _ hK2 => wp_block (sg S (.mv rfl <| .as rfl <| .z) fun a w S => wp_seq_k fun _ hK3 => wp_region_lit (run S (.mv rfl <| .mv rfl <| .mv rfl <| .ix underlying33 sizeOf71 (by omega) rfl rfl <| .yy (ys_ldOA ⟨isAgg71, sizeOf71⟩ (.t rfl) (vs := [_, _, _, _, _, _]) rfl (fun _ => hcc)) rfl <| .z) fun a w S => st_y S (ys_callVC (cs := cs) (vs := [.agg (Ent.enc x).toArray]) (v := .bool (p x)) (.t rfl) hf (.cons (.t rfl) .nil) (fun _ w' W' => hrx w' (W'.sub (List.nil_sublist _)))) rfl ?_))))))
    clear S a w
    intro a w S
    cases hp : p x with
    | true =>
      rw [hp] at S
      refine st_nil (then_normal (hK3 _ _ (st_then S (.t rfl) (sg S (.mv rfl <| .as rfl <| .z) fun a w S => wp_ret (in_ret (then_ret (then_ret (in_ret (then_ret (st_ret S (results1 S results96 (Rv.tmp rfl)) ?_))))))))))
      refine ⟨?_, S.wd.below⟩
      rw [← hno, idxW, if_pos hp]
    | false =>
      rw [hp] at S
      refine st_nil (then_normal (hK3 _ _ (st_else S (.t rfl) (wp_skip (in_normal (then_normal (hK2 _ _ (wp_region_lit (run S (.ad (by unfold I64; omega) rfl <| .mv rfl <| .z) fun a w S => st_nil (then_normal ?_))))))))))
      rw [idxW, if_neg (by rw [hp]; decide)] at hno
      exact ⟨k + 1, ⟨by omega, hno⟩, by omega, S.pk⟩
  · obtain rfl : k = l.length := by omega
    rw [List.drop_length] at hno
    refine sg S (.ge (by omega) rfl rfl <| .z) fun a w S => wp_seq_k fun _ hK2 => st_else S (.t rfl) (wp_exit (then_exit (then_exit (in_here (then_normal (hK1 _ _ (sg S (.ac rfl <| .z) fun a w S => wp_ret (st_ret S (results1 S results96 (Rv.tmp rfl)) ?_))))))))
    exact ⟨by rw [← hno]; rfl, S.wd.below⟩
theorem x38 (w0 : World) (v : Value) (l : List Ent) (f : FuncId) (cs : List Value) (p : Ent → Bool) (hf : ∀ args w, (callFunc f args).run Tryz.prog w = .ok (.enter f args) w) (hr : ReadsV Ent.enc w0 f cs l p) (h : Sl Ent.enc 6 w0 w0.heap.size v l) :
    Calls Tryz.prog 38 #[v, .func (.func f) #[] cs.toArray] w0 fun e w' => e = .returned (.bool (l.any p)) ∧ Bel w0.heap.size w0 w' := by
  have hs := h
  obtain ⟨A, cap, rfl, hl, hcap, hA⟩ := h
  refine enter2 func38 rfl ntmps38 rfl fun a S => sg S (.ac rfl <| .z) fun a w S => wp_seq_k fun _ hK1 => wp_region_lit (run S (.mv rfl <| .mv rfl <| .z) fun a w S => st_y S (ys_call call96 (.cons (.t rfl) (.cons (.t rfl) .nil)) (fun _ w' W' => x96 w' _ l f cs p hf (fun w'' W'' => hr w'' ((W'.sub (List.nil_sublist _)).step W''.below)) (Sl.old W' hs))) rfl ?_)
  clear S a w
  intro a w S
  refine run S (.yy (ys_geq (.t rfl) Ev.c) rfl <| .as rfl <| .z) fun a w S => st_nil (then_normal (hK1 _ _ (wp_ret (st_ret S (results1 S results38 (Rv.tmp rfl)) ?_))))
  exact ⟨by rw [← idxW_any p l 0], S.wd.below⟩
end Go.Proofs.YtfblmkocmnbdcaaGreat
set_option linter.unusedVariables false
set_option linter.unusedSimpArgs false
set_option maxRecDepth 100000
set_option maxHeartbeats 4000000
namespace Go.Fw
theorem Line.mkEnc {s : List UInt8} {q : Int} {p : UInt64} : [Value.string (bs s), .int .i64 q, .int .u64 (p.toNat : Int)] = Line.enc ⟨s, q, p⟩ := rfl
theorem CartRd.old {w0 w : World} {L : List Chunk} {X : Cart} {s : Sls3} (W : Wd w0 L w) (h : CartRd w0 X s) : CartRd w X s := ⟨.old W h.1, .old W h.2, .old W h.3⟩
theorem read_len (l : List Ent) : ∀ k, ((l.take k).foldl readF []).length ≤ k
  | 0 => by simp
  | k + 1 => by
    have ih := read_len l k
    rw [List.take_add_one]
    cases l[k]? with
    | none => simp; omega
    | some x =>
      rw [Option.toList_some, List.foldl_append, List.foldl_cons, List.foldl_nil]
      have := readF_len ((l.take k).foldl readF []) x
      omega
theorem readF_price {acc : List Line} {e : Ent} (h : ∀ y ∈ acc, priceB y.price = true) (he : priceB e.price = true) : ∀ y ∈ readF acc e, priceB y.price = true := by
  intro y hy
  unfold readF at hy
  split at hy
  · simp at hy; subst hy; exact he
  · rename_i n hn
    split at hy
    · rcases List.mem_append.1 hy with hy | hy
      · exact h y (List.dropLast_subset _ hy)
      · simp at hy; subst hy
        unfold bestF
        split
        · exact he
        · exact h _ (List.mem_of_getLast? hn)
    · rcases List.mem_append.1 hy with hy | hy
      · exact h y hy
      · simp at hy; subst hy; exact he
theorem read_price {l : List Ent} (h : ∀ x ∈ l, priceB x.price = true) : ∀ k, ∀ y ∈ (l.take k).foldl readF [], priceB y.price = true
  | 0 => by simp
  | k + 1 => by
    have ih := read_price h k
    rw [List.take_add_one]
    cases hx : l[k]? with
    | none => simpa using ih
    | some x =>
      rw [Option.toList_some, List.foldl_append, List.foldl_cons, List.foldl_nil]
      exact readF_price ih (h x (List.mem_of_getElem? hx))
end Go.Fw
namespace Go.Proofs.YtfblmkocmnbdcaaGreat
open Go.Fw Go.Proofs Go.RowKit Go.Proofs.Tryz
theorem c105 (w0 : World) (x : Ent) (p q : Int) (g : Nat) (h0 : w0.cell? ⟨g, 0, none⟩ = some (.int .i64 p)) (h1 : w0.cell? ⟨g, 1, none⟩ = some (.int .i64 q)) :
    Calls Tryz.prog 105 #[.agg (Ent.enc x).toArray, .pointer (some ⟨g, 0, none⟩)] w0 fun e w' => e = .returned (.bool (decide (x.dot.node = p ∧ x.dot.life = q))) ∧ Bel w0.heap.size w0 w' := by
  refine enter2 func105 rfl ntmps105 rfl fun a S => wp_seq_k fun _ hK1 => wp_region_lit (st_m (op_box S (.t rfl) rfl fun g1 a w S => run S (.ac rfl <| .z) fun a w S => st_nil (then_normal (hK1 _ _ (wp_seq_k fun _ hK1 => wp_region_lit (run S (.fa underlying71 sizeOf58 1 rfl rfl rfl <| .fa underlying58 sizeOf3 1 rfl rfl rfl <| .ld gt3 0 rfl rfl rfl <| .fa underlying77 sizeOf3 0 rfl rfl rfl <| .yy (ys_ldO ⟨isAgg3, sizeOf3⟩ (.t rfl) (fun _ => h0)) rfl <| .yy (ys_eql (.t rfl) (.t rfl)) rfl <| .mv rfl <| .z) fun a w S => st_yg S rfl rfl (Yr.ys (ys_fieldN (FieldT.mk underlying71 rfl sizeOf58 rfl) (.t rfl) (i' := 1) rfl)) rfl fun a w S => st_yg S rfl rfl (Yr.ys (ys_fieldN (FieldT.mk underlying58 rfl sizeOf3 rfl) (Ev.g rfl) (i' := 2) rfl)) rfl fun a w S => st_yg S rfl rfl (Yr.ys (ys_ld ⟨isAgg3, sizeOf3⟩ (Ev.g rfl) (k := 0) rfl rfl)) rfl fun a w S => st_yg S rfl rfl (Yr.ys (ys_fieldN (FieldT.mk underlying77 rfl sizeOf3 rfl) (.t rfl) (i' := 1) rfl)) rfl fun a w S => st_yg S rfl rfl (Yr.ys (ys_ldO ⟨isAgg3, sizeOf3⟩ (Ev.g rfl) (fun _ => h1))) rfl fun a w S => st_yg S rfl rfl (Yr.ys (ys_eql (Ev.g rfl) (Ev.g rfl))) rfl fun a w S => run S (.yy (ys_and (.t rfl) (Ev.g rfl) Ev.c) rfl <| .as rfl <| .z) fun a w S => st_nil (then_normal (hK1 _ _ (wp_ret (st_ret S (results1 S results105 (Rv.tmp rfl)) ?_))))))))))
  exact ⟨by simp, S.wd.below⟩
theorem c38 (w0 : World) (v : Value) (l : List Ent) (p q : Int) (g : Nat) (h : Sl Ent.enc 6 w0 w0.heap.size v l) (h0 : w0.cell? ⟨g, 0, none⟩ = some (.int .i64 p)) (h1 : w0.cell? ⟨g, 1, none⟩ = some (.int .i64 q)) :
    Calls Tryz.prog 38 #[v, .func (.func 105) #[] #[.pointer (some ⟨g, 0, none⟩)]] w0 fun e w' => e = .returned (.bool (l.any fun x => decide (x.dot.node = p ∧ x.dot.life = q))) ∧ Bel w0.heap.size w0 w' :=
  x38 w0 v l _ [.pointer (some ⟨g, 0, none⟩)] _ call105 (fun w' W' x _ => c105 w' x p q g (Wd.cellOld W' h0) (Wd.cellOld W' h1)) h
theorem c47 (w0 : World) (v1 : Value) (A2 A3 : Option Addr) (n2 c2 n3 c3 : Nat) (l : List Ent) (p q : Int) (h : Sl Ent.enc 6 w0 w0.heap.size v1 l) :
    Calls Tryz.prog 47 #[.agg #[v1, .slice A2 n2 c2, .slice A3 n3 c3], .agg #[.int .i64 p, .int .i64 q]] w0 fun e w' => e = .returned (.bool (l.any fun x => decide (x.dot.node = p ∧ x.dot.life = q))) ∧ Bel w0.heap.size w0 w' := by
  have hs := h
  obtain ⟨A, cap, rfl, hl, hcap, hA⟩ := h
  refine enter2 func47 rfl ntmps47 rfl fun a S => wp_seq_k fun _ hK1 => wp_region_lit (st_m (op_box S (.t rfl) rfl fun g1 a w S => st_m (op_box S (.t rfl) rfl fun g2 a w S => run S (.ac rfl <| .z) fun a w S => st_nil (then_normal (hK1 _ _ (sg S (.fa underlying39 sizeOf33 0 rfl rfl rfl <| .ld gt33 1 rfl rfl rfl <| .yy (ys_mkFunc (.cons (.t rfl) .nil)) rfl <| .xx (ys_call call38 (.cons (.t rfl) (.cons (.t rfl) .nil)) (fun hp w W => c38 _ _ _ _ _ _ (by exact .old W (by assumption)) (by exact Wd.cell W (k := 0) rfl rfl) (by exact Wd.cell W (k := 0) rfl rfl))) rfl <| .as rfl <| .z) fun a w S => wp_ret (st_ret S (results1 S results47 (Rv.tmp rfl)) ?_)))))))
  exact ⟨rfl, S.wd.below⟩
theorem c46 (w0 : World) (v1 : Value) (A2 A3 : Option Addr) (n2 c2 n3 c3 : Nat) (l : List Ent) (h : Sl Ent.enc 6 w0 w0.heap.size v1 l) (hp : ∀ x ∈ l, priceB x.price = true) (hn : l.length ≤ 4194304) :
    Rets Tryz.prog 46 #[.agg #[v1, .slice A2 n2 c2, .slice A3 n3 c3]] w0 fun v L => ∃ A r, v = .slice A (readK l).length r ∧ L = [rowOf 82 3 Line.enc A r (readK l)] := by
  have hs := h
  obtain ⟨A, cap, rfl, hl, hcap, hA⟩ := h
  unfold Go.Fw.Rets
  refine enter1 func46 rfl ntmps46 rfl fun a S => wp_seq_k fun _ hK1 => wp_region_lit (st_m (op_box S (.t rfl) rfl fun g1 a w S => run S (.ac rfl <| .z) fun a w S => st_nil (then_normal (hK1 _ _ (sg S (.ac rfl <| .z) fun a w S => wp_seq_k fun _ hK1 => sg S (.fa underlying39 sizeOf33 0 rfl rfl rfl <| .ld gt33 0 rfl rfl rfl <| .ln underlying33 rfl <| .mc rfl <| .z) fun a w S => wp_block ?_)))))
  refine st_lpM (S.nil_ 82 3 Line.enc none) [3, 10] (X := Nat × Option Addr × Nat × List Line) (fun q => [(10, true, .int .i64 (q.1 : Int)), (3, true, .slice q.2.1 q.2.2.2.length q.2.2.1)]) (fun q => [rowOf 82 3 Line.enc q.2.1 q.2.2.1 q.2.2.2, .blk g1 (.cells #[.slice A l.length cap, .slice A2 n2 c2, .slice A3 n3 c3] 39)])
    (fun q => q.1 ≤ l.length ∧ q.2.2.2 = (l.take q.1).foldl readF []) (fun q => l.length - q.1) (0, none, 0, []) ⟨Nat.zero_le _, rfl⟩ ?_
  clear S
  rintro ⟨k, B, c, out⟩ a w ⟨hk, hout⟩ S
  dsimp only at hk hout S
  have hol := read_len l k
  have hop := read_price hp k
  rw [← hout] at hol hop
  by_cases hlt : k < l.length
  · obtain ⟨g, o, x, rfl, hx, hdx, hcx⟩ := row_at hA hlt
    have hpx := hp x (List.mem_of_getElem? hx)
    have rw_k : (k : Int) + 1 = ((k + 1 : Nat) : Int) := rfl
    have hnx : (l.take (k + 1)).foldl readF [] = readF out x := by rw [List.take_add_one, hx, Option.toList_some, List.foldl_append, ← hout]; rfl
    rcases List.eq_nil_or_concat out with rfl | ⟨pre, y, e⟩
    · refine sg S (.lt (by omega) rfl rfl <| .z) fun a w S => wp_seq_k fun _ hK2 => st_then S (.t rfl) (wp_skip (then_normal (hK2 _ _ (wp_seq_k fun _ hK2 => wp_block (wp_seq_k fun _ hK3 => wp_region_lit (run S (.ix underlying33 sizeOf71 (by omega) rfl rfl <| .yy (ys_ldOA ⟨isAgg71, sizeOf71⟩ (.t rfl) (vs := [_, _, _, _, _, _]) rfl (fun _ => hcx)) rfl <| .z) fun a w S => st_m (op_alloc S zeroValue71 (cs := _) rfl rfl fun g2 a w S => st_m (op_stW S sizeOf71 (.t rfl) (.t rfl) (k := 0) rfl rfl rfl (by simp [Value.oneCell']) fun a w S => st_nil (then_normal (hK3 _ _ (sg S (.mv rfl <| .ln underlying78 rfl <| .yy (ys_subI (.t rfl) Ev.c (fun _ => by unfold I64; omega)) rfl <| .as rfl <| .z) fun a w S => wp_seq_k fun _ hK3 => wp_seq_k fun _ hK4 => st_quiet S (by kernel_rfl) (by kernel_rfl) fun a S => qrun S (.mv rfl <| .yy (ys_lss (.t rfl) Ev.c) rfl <| .mv rfl <| .sk rfl rfl rfl <| .sk rfl rfl rfl <| .sk rfl rfl rfl <| .sk rfl rfl rfl <| .sk rfl rfl rfl <| .sk rfl rfl rfl <| .sk rfl rfl rfl <| .sk rfl rfl rfl <| .yy (ys_pickT (.t rfl) Ev.c) rfl <| .z) fun a S => ?_)))))))))))
      (refine q_nil ?_; intro w W; replace S := St.mk S W; clear W)
      refine then_normal (hK4 _ _ (st_then S (.t rfl) (wp_seq_k fun _ hK4 => wp_region_lit (run S (.mv rfl <| .fa underlying71 sizeOf9 0 rfl rfl rfl <| .ld gt9 0 rfl rfl rfl <| .fa underlying71 sizeOf3 4 rfl rfl rfl <| .ld gt3 0 rfl rfl rfl <| .fa underlying71 sizeOf27 5 rfl rfl rfl <| .ld gt27 0 rfl rfl rfl <| .yy (ys_bld (ps := [(0, Go.Operand.tmp 31), (1, Go.Operand.tmp 33), (2, Go.Operand.tmp 35)]) (us := [_, _, _]) bld82 (.cons (.t rfl) (.cons (.t rfl) (.cons (.t rfl) .nil))) rfl) rfl <| .z) fun a w S => st_m (op_bslice1 S underlying78 inf82 rfl rfl rfl (.t rfl) rfl rfl rfl fun g3 a w S => st_m (op_push S underlying78 inf82 rfl (k := 2) (j := 0) rfl (.t rfl) (.t rfl) rfl Go.Fw.Line.mkEnc rfl rfl (by first | omega | (simp only [List.length_append, List.length_cons, List.length_nil]; omega)) rfl rfl rfl fun A1 cap1 a w S => run S (.as rfl <| .z) fun a w S => st_nil (then_normal (hK4 _ _ (wp_exit (then_exit (in_here (then_normal (hK2 _ _ (wp_region_lit (run S (.ad (by unfold I64; omega) rfl <| .z) fun a w S => ?_)))))))))))))))
      rw [rw_k] at S
      refine run S (.mv rfl <| .z) fun a w S => st_nil (then_normal ?_)
      exact ⟨(k + 1, A1, cap1, [⟨x.item, x.qty, x.price⟩]), ⟨by dsimp only; omega, by dsimp only; rw [hnx]; rfl⟩, by dsimp only; omega, S.pk⟩
    · rw [List.concat_eq_append] at e
      subst e
      have hpy := hop y (by simp)
      have rw_n : ((pre ++ [y]).length : Int) - 1 = (pre.length : Int) := by rw [List.length_append, List.length_singleton]; omega
      have hpl : (pre ++ [y]).length = pre.length + 1 := by simp
      obtain ⟨gB, rfl⟩ := S.wd.row_at (k := 0) rfl (by have := (S.wd.room (k := 0) rfl).1; omega)
      have hye : (pre ++ [y])[pre.length]? = some y := by simp
      have hyf : ((pre ++ [y]).set pre.length ⟨y.item, x.qty, y.price⟩)[pre.length]? = some ⟨y.item, x.qty, y.price⟩ := by simp
      have hrf : readF (pre ++ [y]) x = if y.item = x.item then pre ++ [bestF y x] else pre ++ [y] ++ [⟨x.item, x.qty, x.price⟩] := by unfold readF; simp
      have rw_r : decide ((rankP y.price : Int) < (rankP x.price : Int)) = decide (rankP y.price < rankP x.price) := decide_eq_decide.2 (by omega)
      by_cases hyi : y.item = x.item
      · rw [if_pos hyi] at hrf
        have rw_i : decide (y.item ≠ x.item) = false := decide_eq_false (by simpa using hyi)
        by_cases c1 : y.qty < x.qty
        · have rw_1 : decide (y.qty < x.qty) = true := decide_eq_true c1
          have hnv : bestF y x = ⟨y.item, x.qty, x.price⟩ := by unfold bestF; rw [if_pos (.inl c1)]
          refine sg S (.lt (by omega) rfl rfl <| .z) fun a w S => wp_seq_k fun _ hK2 => st_then S (.t rfl) (wp_skip (then_normal (hK2 _ _ (wp_seq_k fun _ hK2 => wp_block (wp_seq_k fun _ hK3 => wp_region_lit (run S (.ix underlying33 sizeOf71 (by omega) rfl rfl <| .yy (ys_ldOA ⟨isAgg71, sizeOf71⟩ (.t rfl) (vs := [_, _, _, _, _, _]) rfl (fun _ => hcx)) rfl <| .z) fun a w S => st_m (op_alloc S zeroValue71 (cs := _) rfl rfl fun g2 a w S => st_m (op_stW S sizeOf71 (.t rfl) (.t rfl) (k := 0) rfl rfl rfl (by simp [Value.oneCell']) fun a w S => st_nil (then_normal (hK3 _ _ (wp_seq_k fun _ hK3 => wp_region_lit (run S (.mv rfl <| .ln underlying78 rfl <| .yy (ys_subI (.t rfl) Ev.c (fun _ => by unfold I64; omega)) rfl <| .z) fun a w S => ?_))))))))))))
          rw [rw_n] at S
          refine run S (.as rfl <| .z) fun a w S => st_nil (then_normal (hK3 _ _ (wp_seq_k fun _ hK3 => wp_seq_k fun _ hK4 => st_quiet S (by kernel_rfl) (by kernel_rfl) fun a S => qrun S (.mv rfl <| .yy (ys_F (by omega) (ys_lss (.t rfl) Ev.c)) rfl <| .mv rfl <| .gy rfl rfl (ys_move (.t rfl)) <| .gy rfl rfl (ys_move (.t rfl)) <| .gy rfl rfl (ys_ixS underlying78 sizeOf82 (.t rfl) (.t rfl) (fun _ => by omega)) <| .gy rfl rfl (ys_field (FieldT.mk underlying82 rfl sizeOf9 rfl) (.t rfl)) <| .gy rfl rfl (ys_ldW ⟨isAgg9, sizeOf9⟩ (.t rfl) (k := 1) rfl hye (fun _ => rfl) rfl) <| .gy rfl rfl (ys_fieldN (FieldT.mk underlying71 rfl sizeOf9 rfl) (.t rfl) (i' := 0) rfl) <| .gy rfl rfl (ys_ld ⟨isAgg9, sizeOf9⟩ (.t rfl) (k := 0) rfl rfl) <| .gy rfl rfl (ys_neqStr (.t rfl) (.t rfl)) <| .z) fun a S => ?_)))
          rw [rw_i] at S
          refine qrun S (.yy (ys_pickF (.t rfl) (.t rfl)) rfl <| .z) fun a S => ?_
          (refine q_nil ?_; intro w W; replace S := St.mk S W; clear W)
          refine then_normal (hK4 _ _ (st_else S (.t rfl) (wp_skip (then_normal (hK3 _ _ (wp_seq_k fun _ hK3 => st_quiet S (by kernel_rfl) (by kernel_rfl) fun a S => qrun S (.fa underlying71 sizeOf3 4 rfl rfl rfl <| .ld gt3 0 rfl rfl rfl <| .mv rfl <| .mv rfl <| .ix underlying78 sizeOf82 (by omega) rfl rfl <| .yy (ys_field (FieldT.mk underlying82 rfl sizeOf3 rfl) (.t rfl)) rfl <| .yy (ys_ldW ⟨isAgg3, sizeOf3⟩ (.t rfl) (k := 1) rfl hye (fun _ => rfl) rfl) rfl <| .yy (ys_T (by omega) (ys_gtr (.t rfl) (.t rfl))) rfl <| .mv rfl <| .sk rfl rfl rfl <| .sk rfl rfl rfl <| .sk rfl rfl rfl <| .sk rfl rfl rfl <| .sk rfl rfl rfl <| .sk rfl rfl rfl <| .sk rfl rfl rfl <| .sk rfl rfl rfl <| .sk rfl rfl rfl <| .s0 rfl rfl <| .s0 rfl rfl <| .s0 rfl rfl <| .s0 rfl rfl <| .s0 rfl rfl <| .s0 rfl rfl <| .s0 rfl rfl <| .s0 rfl rfl <| .s0 rfl rfl <| .s0 rfl rfl <| .sk rfl rfl rfl <| .yy (ys_pickT (.t rfl) Ev.c) rfl <| .z) fun a S => ?_))))))
          (refine q_nil ?_; intro w W; replace S := St.mk S W; clear W)
          refine then_normal (hK3 _ _ (st_then S (.t rfl) (h_beginE S (by kernel_rfl) 1 fun a w S => hy 0 S rfl (ys_move (.t rfl)) rfl fun a w S => hy 1 S rfl (ys_move (.t rfl)) rfl fun a w S => hy 2 S rfl (ys_move (.t rfl)) rfl fun a w S => hy 3 S rfl (ys_move (.t rfl)) rfl fun a w S => hy 4 S rfl (ys_fieldN (FieldT.mk underlying71 rfl sizeOf3 rfl) (.t rfl) (i' := 4) rfl) rfl fun a w S => ?_)))
          refine hy 5 S rfl (ys_ld ⟨isAgg3, sizeOf3⟩ (.t rfl) (k := 0) rfl rfl) rfl fun a w S => hy 6 S rfl (ys_fieldN (FieldT.mk underlying71 rfl sizeOf27 rfl) (.t rfl) (i' := 5) rfl) rfl fun a w S => hy 7 S rfl (ys_ld ⟨isAgg27, sizeOf27⟩ (.t rfl) (k := 0) rfl rfl) rfl fun a w S => hy 8 S rfl (ys_ixS underlying78 sizeOf82 (.t rfl) (.t rfl) (fun _ => by omega)) rfl fun a w S => ?_
          refine hy 9 S rfl (ys_field (FieldT.mk underlying82 rfl sizeOf3 rfl) (.t rfl)) rfl fun a w S => h_m0 (i := 10) rfl (by kernel_rfl) (op_stFld (enc := Line.enc) (size := 3) (i := pre.length) (j := 1) ⟨y.item, x.qty, y.price⟩ S Line.enc_len sizeOf3 (.t rfl) (.t rfl) rfl (k := 1) rfl hye (by omega) rfl rfl ?_)
          clear S
          intro a w S
          refine h_n1 S ?_
          refine hy 11 S rfl (ys_ixS underlying78 sizeOf82 (.t rfl) (.t rfl) (fun _ => by omega)) rfl fun a w S => hy 12 S rfl (ys_field (FieldT.mk underlying82 rfl sizeOf27 rfl) (.t rfl)) rfl fun a w S => h_m0 (i := 13) rfl (by kernel_rfl) (op_stFld (enc := Line.enc) (size := 3) (i := pre.length) (j := 2) ⟨y.item, x.qty, x.price⟩ S Line.enc_len sizeOf27 (.t rfl) (.t rfl) rfl (k := 1) rfl hyf (by omega) rfl rfl ?_)
          clear S
          intro a w S
          refine h_n1 S ?_
          refine h_done (by kernel_rfl) (in_normal (then_normal (hK2 _ _ (wp_region_lit (run S (.ad (by unfold I64; omega) rfl <| .z) fun a w S => ?_)))))
          rw [rw_k] at S
          refine run S (.mv rfl <| .z) fun a w S => st_nil (then_normal ?_)
          have e1 : ((pre ++ [y]).set pre.length ⟨y.item, x.qty, y.price⟩).set pre.length ⟨y.item, x.qty, x.price⟩ = pre ++ [⟨y.item, x.qty, x.price⟩] := by simp
          have e2 : (pre ++ [y]).length = (pre ++ [(⟨y.item, x.qty, x.price⟩ : Line)]).length := by simp
          simp only [List.set] at S
          rw [e1, e2] at S
          exact ⟨(k + 1, some ⟨gB, 0, none⟩, c, pre ++ [⟨y.item, x.qty, x.price⟩]), ⟨by dsimp only; omega, by dsimp only; rw [hnx, hrf, hnv]⟩, by dsimp only; omega, S.pk⟩
        · have rw_1 : decide (y.qty < x.qty) = false := decide_eq_false c1
          by_cases c2 : x.qty = y.qty
          · have rw_2 : decide (x.qty = y.qty) = true := decide_eq_true c2
            by_cases c3 : rankP y.price < rankP x.price
            · have rw_3 : decide (rankP y.price < rankP x.price) = true := decide_eq_true c3
              have hnv : bestF y x = ⟨y.item, x.qty, x.price⟩ := by unfold bestF; rw [if_pos (.inr ⟨c2, c3⟩)]
              refine sg S (.lt (by omega) rfl rfl <| .z) fun a w S => wp_seq_k fun _ hK2 => st_then S (.t rfl) (wp_skip (then_normal (hK2 _ _ (wp_seq_k fun _ hK2 => wp_block (wp_seq_k fun _ hK3 => wp_region_lit (run S (.ix underlying33 sizeOf71 (by omega) rfl rfl <| .yy (ys_ldOA ⟨isAgg71, sizeOf71⟩ (.t rfl) (vs := [_, _, _, _, _, _]) rfl (fun _ => hcx)) rfl <| .z) fun a w S => st_m (op_alloc S zeroValue71 (cs := _) rfl rfl fun g2 a w S => st_m (op_stW S sizeOf71 (.t rfl) (.t rfl) (k := 0) rfl rfl rfl (by simp [Value.oneCell']) fun a w S => st_nil (then_normal (hK3 _ _ (wp_seq_k fun _ hK3 => wp_region_lit (run S (.mv rfl <| .ln underlying78 rfl <| .yy (ys_subI (.t rfl) Ev.c (fun _ => by unfold I64; omega)) rfl <| .z) fun a w S => ?_))))))))))))
              rw [rw_n] at S
              refine run S (.as rfl <| .z) fun a w S => st_nil (then_normal (hK3 _ _ (wp_seq_k fun _ hK3 => wp_seq_k fun _ hK4 => st_quiet S (by kernel_rfl) (by kernel_rfl) fun a S => qrun S (.mv rfl <| .yy (ys_F (by omega) (ys_lss (.t rfl) Ev.c)) rfl <| .mv rfl <| .gy rfl rfl (ys_move (.t rfl)) <| .gy rfl rfl (ys_move (.t rfl)) <| .gy rfl rfl (ys_ixS underlying78 sizeOf82 (.t rfl) (.t rfl) (fun _ => by omega)) <| .gy rfl rfl (ys_field (FieldT.mk underlying82 rfl sizeOf9 rfl) (.t rfl)) <| .gy rfl rfl (ys_ldW ⟨isAgg9, sizeOf9⟩ (.t rfl) (k := 1) rfl hye (fun _ => rfl) rfl) <| .gy rfl rfl (ys_fieldN (FieldT.mk underlying71 rfl sizeOf9 rfl) (.t rfl) (i' := 0) rfl) <| .gy rfl rfl (ys_ld ⟨isAgg9, sizeOf9⟩ (.t rfl) (k := 0) rfl rfl) <| .gy rfl rfl (ys_neqStr (.t rfl) (.t rfl)) <| .z) fun a S => ?_)))
              rw [rw_i] at S
              refine qrun S (.yy (ys_pickF (.t rfl) (.t rfl)) rfl <| .z) fun a S => ?_
              (refine q_nil ?_; intro w W; replace S := St.mk S W; clear W)
              refine then_normal (hK4 _ _ (st_else S (.t rfl) (wp_skip (then_normal (hK3 _ _ (wp_seq_k fun _ hK3 => st_quiet S (by kernel_rfl) (by kernel_rfl) fun a S => ?_))))))
              refine qrun S (.fa underlying71 sizeOf3 4 rfl rfl rfl <| .ld gt3 0 rfl rfl rfl <| .mv rfl <| .mv rfl <| .ix underlying78 sizeOf82 (by omega) rfl rfl <| .yy (ys_field (FieldT.mk underlying82 rfl sizeOf3 rfl) (.t rfl)) rfl <| .yy (ys_ldW ⟨isAgg3, sizeOf3⟩ (.t rfl) (k := 1) rfl hye (fun _ => rfl) rfl) rfl <| .yy (ys_F (by omega) (ys_gtr (.t rfl) (.t rfl))) rfl <| .mv rfl <| .gy rfl rfl (ys_fieldN (FieldT.mk underlying71 rfl sizeOf3 rfl) (.t rfl) (i' := 4) rfl) <| .gy rfl rfl (ys_ld ⟨isAgg3, sizeOf3⟩ (.t rfl) (k := 0) rfl rfl) <| .gy rfl rfl (ys_move (.t rfl)) <| .gy rfl rfl (ys_move (.t rfl)) <| .gy rfl rfl (ys_ixS underlying78 sizeOf82 (.t rfl) (.t rfl) (fun _ => by omega)) <| .gy rfl rfl (ys_field (FieldT.mk underlying82 rfl sizeOf3 rfl) (.t rfl)) <| .gy rfl rfl (ys_ldW ⟨isAgg3, sizeOf3⟩ (.t rfl) (k := 1) rfl hye (fun _ => rfl) rfl) <| .gy rfl rfl (ys_T (by omega) (ys_eql (.t rfl) (.t rfl))) <| .gy rfl rfl (ys_move (.t rfl)) <| .gy rfl rfl (ys_fieldN (FieldT.mk underlying71 rfl sizeOf27 rfl) (.t rfl) (i' := 5) rfl) <| .gy rfl rfl (ys_ld ⟨isAgg27, sizeOf27⟩ (.t rfl) (k := 0) rfl rfl) <| .gx rfl rfl (ys_call call104 (.cons (.t rfl) .nil) (fun hp w W => c104 _ _ (by assumption))) <| .gy rfl rfl (ys_move (.t rfl)) <| .gy rfl rfl (ys_move (.t rfl)) <| .gy rfl rfl (ys_ixS underlying78 sizeOf82 (.t rfl) (.t rfl) (fun _ => by omega)) <| .gy rfl rfl (ys_field (FieldT.mk underlying82 rfl sizeOf27 rfl) (.t rfl)) <| .gy rfl rfl (ys_ldW ⟨isAgg27, sizeOf27⟩ (.t rfl) (k := 1) rfl hye (fun _ => rfl) rfl) <| .gx rfl rfl (ys_call call104 (.cons (.t rfl) .nil) (fun hp w W => c104 _ _ (by assumption))) <| .gy rfl rfl (ys_T (by omega) (ys_gtr (.t rfl) (.t rfl))) <| .gy rfl rfl (ys_pickT (.t rfl) (.t rfl)) <| .yy (ys_pickF (.t rfl) (.t rfl)) rfl <| .z) fun a S => ?_
              (refine q_nil ?_; intro w W; replace S := St.mk S W; clear W)
              refine then_normal (hK3 _ _ (st_then S (.t rfl) (h_beginE S (by kernel_rfl) 1 fun a w S => hy 0 S rfl (ys_move (.t rfl)) rfl fun a w S => hy 1 S rfl (ys_move (.t rfl)) rfl fun a w S => hy 2 S rfl (ys_move (.t rfl)) rfl fun a w S => hy 3 S rfl (ys_move (.t rfl)) rfl fun a w S => hy 4 S rfl (ys_fieldN (FieldT.mk underlying71 rfl sizeOf3 rfl) (.t rfl) (i' := 4) rfl) rfl fun a w S => ?_)))
              refine hy 5 S rfl (ys_ld ⟨isAgg3, sizeOf3⟩ (.t rfl) (k := 0) rfl rfl) rfl fun a w S => hy 6 S rfl (ys_fieldN (FieldT.mk underlying71 rfl sizeOf27 rfl) (.t rfl) (i' := 5) rfl) rfl fun a w S => hy 7 S rfl (ys_ld ⟨isAgg27, sizeOf27⟩ (.t rfl) (k := 0) rfl rfl) rfl fun a w S => hy 8 S rfl (ys_ixS underlying78 sizeOf82 (.t rfl) (.t rfl) (fun _ => by omega)) rfl fun a w S => ?_
              refine hy 9 S rfl (ys_field (FieldT.mk underlying82 rfl sizeOf3 rfl) (.t rfl)) rfl fun a w S => h_m0 (i := 10) rfl (by kernel_rfl) (op_stFld (enc := Line.enc) (size := 3) (i := pre.length) (j := 1) ⟨y.item, x.qty, y.price⟩ S Line.enc_len sizeOf3 (.t rfl) (.t rfl) rfl (k := 1) rfl hye (by omega) rfl rfl ?_)
              clear S
              intro a w S
              refine h_n1 S ?_
              refine hy 11 S rfl (ys_ixS underlying78 sizeOf82 (.t rfl) (.t rfl) (fun _ => by omega)) rfl fun a w S => hy 12 S rfl (ys_field (FieldT.mk underlying82 rfl sizeOf27 rfl) (.t rfl)) rfl fun a w S => h_m0 (i := 13) rfl (by kernel_rfl) (op_stFld (enc := Line.enc) (size := 3) (i := pre.length) (j := 2) ⟨y.item, x.qty, x.price⟩ S Line.enc_len sizeOf27 (.t rfl) (.t rfl) rfl (k := 1) rfl hyf (by omega) rfl rfl ?_)
              clear S
              intro a w S
              refine h_n1 S ?_
              refine h_done (by kernel_rfl) (in_normal (then_normal (hK2 _ _ (wp_region_lit (run S (.ad (by unfold I64; omega) rfl <| .z) fun a w S => ?_)))))
              rw [rw_k] at S
              refine run S (.mv rfl <| .z) fun a w S => st_nil (then_normal ?_)
              have e1 : ((pre ++ [y]).set pre.length ⟨y.item, x.qty, y.price⟩).set pre.length ⟨y.item, x.qty, x.price⟩ = pre ++ [⟨y.item, x.qty, x.price⟩] := by simp
              have e2 : (pre ++ [y]).length = (pre ++ [(⟨y.item, x.qty, x.price⟩ : Line)]).length := by simp
              simp only [List.set] at S
              rw [e1, e2] at S
              exact ⟨(k + 1, some ⟨gB, 0, none⟩, c, pre ++ [⟨y.item, x.qty, x.price⟩]), ⟨by dsimp only; omega, by dsimp only; rw [hnx, hrf, hnv]⟩, by dsimp only; omega, S.pk⟩
            · have rw_3 : decide (rankP y.price < rankP x.price) = false := decide_eq_false c3
              have hnv : bestF y x = y := by unfold bestF; rw [if_neg (by omega)]
              refine sg S (.lt (by omega) rfl rfl <| .z) fun a w S => wp_seq_k fun _ hK2 => st_then S (.t rfl) (wp_skip (then_normal (hK2 _ _ (wp_seq_k fun _ hK2 => wp_block (wp_seq_k fun _ hK3 => wp_region_lit (run S (.ix underlying33 sizeOf71 (by omega) rfl rfl <| .yy (ys_ldOA ⟨isAgg71, sizeOf71⟩ (.t rfl) (vs := [_, _, _, _, _, _]) rfl (fun _ => hcx)) rfl <| .z) fun a w S => st_m (op_alloc S zeroValue71 (cs := _) rfl rfl fun g2 a w S => st_m (op_stW S sizeOf71 (.t rfl) (.t rfl) (k := 0) rfl rfl rfl (by simp [Value.oneCell']) fun a w S => st_nil (then_normal (hK3 _ _ (wp_seq_k fun _ hK3 => wp_region_lit (run S (.mv rfl <| .ln underlying78 rfl <| .yy (ys_subI (.t rfl) Ev.c (fun _ => by unfold I64; omega)) rfl <| .z) fun a w S => ?_))))))))))))
              rw [rw_n] at S
              refine run S (.as rfl <| .z) fun a w S => st_nil (then_normal (hK3 _ _ (wp_seq_k fun _ hK3 => wp_seq_k fun _ hK4 => st_quiet S (by kernel_rfl) (by kernel_rfl) fun a S => qrun S (.mv rfl <| .yy (ys_F (by omega) (ys_lss (.t rfl) Ev.c)) rfl <| .mv rfl <| .gy rfl rfl (ys_move (.t rfl)) <| .gy rfl rfl (ys_move (.t rfl)) <| .gy rfl rfl (ys_ixS underlying78 sizeOf82 (.t rfl) (.t rfl) (fun _ => by omega)) <| .gy rfl rfl (ys_field (FieldT.mk underlying82 rfl sizeOf9 rfl) (.t rfl)) <| .gy rfl rfl (ys_ldW ⟨isAgg9, sizeOf9⟩ (.t rfl) (k := 1) rfl hye (fun _ => rfl) rfl) <| .gy rfl rfl (ys_fieldN (FieldT.mk underlying71 rfl sizeOf9 rfl) (.t rfl) (i' := 0) rfl) <| .gy rfl rfl (ys_ld ⟨isAgg9, sizeOf9⟩ (.t rfl) (k := 0) rfl rfl) <| .gy rfl rfl (ys_neqStr (.t rfl) (.t rfl)) <| .z) fun a S => ?_)))
              rw [rw_i] at S
              refine qrun S (.yy (ys_pickF (.t rfl) (.t rfl)) rfl <| .z) fun a S => ?_
              (refine q_nil ?_; intro w W; replace S := St.mk S W; clear W)
              refine then_normal (hK4 _ _ (st_else S (.t rfl) (wp_skip (then_normal (hK3 _ _ (wp_seq_k fun _ hK3 => st_quiet S (by kernel_rfl) (by kernel_rfl) fun a S => ?_))))))
              refine qrun S (.fa underlying71 sizeOf3 4 rfl rfl rfl <| .ld gt3 0 rfl rfl rfl <| .mv rfl <| .mv rfl <| .ix underlying78 sizeOf82 (by omega) rfl rfl <| .yy (ys_field (FieldT.mk underlying82 rfl sizeOf3 rfl) (.t rfl)) rfl <| .yy (ys_ldW ⟨isAgg3, sizeOf3⟩ (.t rfl) (k := 1) rfl hye (fun _ => rfl) rfl) rfl <| .yy (ys_F (by omega) (ys_gtr (.t rfl) (.t rfl))) rfl <| .mv rfl <| .gy rfl rfl (ys_fieldN (FieldT.mk underlying71 rfl sizeOf3 rfl) (.t rfl) (i' := 4) rfl) <| .gy rfl rfl (ys_ld ⟨isAgg3, sizeOf3⟩ (.t rfl) (k := 0) rfl rfl) <| .gy rfl rfl (ys_move (.t rfl)) <| .gy rfl rfl (ys_move (.t rfl)) <| .gy rfl rfl (ys_ixS underlying78 sizeOf82 (.t rfl) (.t rfl) (fun _ => by omega)) <| .gy rfl rfl (ys_field (FieldT.mk underlying82 rfl sizeOf3 rfl) (.t rfl)) <| .gy rfl rfl (ys_ldW ⟨isAgg3, sizeOf3⟩ (.t rfl) (k := 1) rfl hye (fun _ => rfl) rfl) <| .gy rfl rfl (ys_T (by omega) (ys_eql (.t rfl) (.t rfl))) <| .gy rfl rfl (ys_move (.t rfl)) <| .gy rfl rfl (ys_fieldN (FieldT.mk underlying71 rfl sizeOf27 rfl) (.t rfl) (i' := 5) rfl) <| .gy rfl rfl (ys_ld ⟨isAgg27, sizeOf27⟩ (.t rfl) (k := 0) rfl rfl) <| .gx rfl rfl (ys_call call104 (.cons (.t rfl) .nil) (fun hp w W => c104 _ _ (by assumption))) <| .gy rfl rfl (ys_move (.t rfl)) <| .gy rfl rfl (ys_move (.t rfl)) <| .gy rfl rfl (ys_ixS underlying78 sizeOf82 (.t rfl) (.t rfl) (fun _ => by omega)) <| .gy rfl rfl (ys_field (FieldT.mk underlying82 rfl sizeOf27 rfl) (.t rfl)) <| .gy rfl rfl (ys_ldW ⟨isAgg27, sizeOf27⟩ (.t rfl) (k := 1) rfl hye (fun _ => rfl) rfl) <| .gx rfl rfl (ys_call call104 (.cons (.t rfl) .nil) (fun hp w W => c104 _ _ (by assumption))) <| .gy rfl rfl (ys_F (by omega) (ys_gtr (.t rfl) (.t rfl))) <| .gy rfl rfl (ys_pickT (.t rfl) (.t rfl)) <| .yy (ys_pickF (.t rfl) (.t rfl)) rfl <| .z) fun a S => ?_
              (refine q_nil ?_; intro w W; replace S := St.mk S W; clear W)
              refine then_normal (hK3 _ _ (st_else S (.t rfl) (wp_skip (in_normal (then_normal (hK2 _ _ (wp_region_lit (run S (.ad (by unfold I64; omega) rfl <| .z) fun a w S => ?_))))))))
              rw [rw_k] at S
              refine run S (.mv rfl <| .z) fun a w S => st_nil (then_normal ?_)
              exact ⟨(k + 1, some ⟨gB, 0, none⟩, c, pre ++ [y]), ⟨by dsimp only; omega, by dsimp only; rw [hnx, hrf, hnv]⟩, by dsimp only; omega, S.pk⟩
          · have rw_2 : decide (x.qty = y.qty) = false := decide_eq_false c2
            have hnv : bestF y x = y := by unfold bestF; rw [if_neg (by omega)]
            refine sg S (.lt (by omega) rfl rfl <| .z) fun a w S => wp_seq_k fun _ hK2 => st_then S (.t rfl) (wp_skip (then_normal (hK2 _ _ (wp_seq_k fun _ hK2 => wp_block (wp_seq_k fun _ hK3 => wp_region_lit (run S (.ix underlying33 sizeOf71 (by omega) rfl rfl <| .yy (ys_ldOA ⟨isAgg71, sizeOf71⟩ (.t rfl) (vs := [_, _, _, _, _, _]) rfl (fun _ => hcx)) rfl <| .z) fun a w S => st_m (op_alloc S zeroValue71 (cs := _) rfl rfl fun g2 a w S => st_m (op_stW S sizeOf71 (.t rfl) (.t rfl) (k := 0) rfl rfl rfl (by simp [Value.oneCell']) fun a w S => st_nil (then_normal (hK3 _ _ (wp_seq_k fun _ hK3 => wp_region_lit (run S (.mv rfl <| .ln underlying78 rfl <| .yy (ys_subI (.t rfl) Ev.c (fun _ => by unfold I64; omega)) rfl <| .z) fun a w S => ?_))))))))))))
            rw [rw_n] at S
            refine run S (.as rfl <| .z) fun a w S => st_nil (then_normal (hK3 _ _ (wp_seq_k fun _ hK3 => wp_seq_k fun _ hK4 => st_quiet S (by kernel_rfl) (by kernel_rfl) fun a S => qrun S (.mv rfl <| .yy (ys_F (by omega) (ys_lss (.t rfl) Ev.c)) rfl <| .mv rfl <| .gy rfl rfl (ys_move (.t rfl)) <| .gy rfl rfl (ys_move (.t rfl)) <| .gy rfl rfl (ys_ixS underlying78 sizeOf82 (.t rfl) (.t rfl) (fun _ => by omega)) <| .gy rfl rfl (ys_field (FieldT.mk underlying82 rfl sizeOf9 rfl) (.t rfl)) <| .gy rfl rfl (ys_ldW ⟨isAgg9, sizeOf9⟩ (.t rfl) (k := 1) rfl hye (fun _ => rfl) rfl) <| .gy rfl rfl (ys_fieldN (FieldT.mk underlying71 rfl sizeOf9 rfl) (.t rfl) (i' := 0) rfl) <| .gy rfl rfl (ys_ld ⟨isAgg9, sizeOf9⟩ (.t rfl) (k := 0) rfl rfl) <| .gy rfl rfl (ys_neqStr (.t rfl) (.t rfl)) <| .z) fun a S => ?_)))
            rw [rw_i] at S
            refine qrun S (.yy (ys_pickF (.t rfl) (.t rfl)) rfl <| .z) fun a S => ?_
            (refine q_nil ?_; intro w W; replace S := St.mk S W; clear W)
            refine then_normal (hK4 _ _ (st_else S (.t rfl) (wp_skip (then_normal (hK3 _ _ (wp_seq_k fun _ hK3 => st_quiet S (by kernel_rfl) (by kernel_rfl) fun a S => ?_))))))
            refine qrun S (.fa underlying71 sizeOf3 4 rfl rfl rfl <| .ld gt3 0 rfl rfl rfl <| .mv rfl <| .mv rfl <| .ix underlying78 sizeOf82 (by omega) rfl rfl <| .yy (ys_field (FieldT.mk underlying82 rfl sizeOf3 rfl) (.t rfl)) rfl <| .yy (ys_ldW ⟨isAgg3, sizeOf3⟩ (.t rfl) (k := 1) rfl hye (fun _ => rfl) rfl) rfl <| .yy (ys_F (by omega) (ys_gtr (.t rfl) (.t rfl))) rfl <| .mv rfl <| .gy rfl rfl (ys_fieldN (FieldT.mk underlying71 rfl sizeOf3 rfl) (.t rfl) (i' := 4) rfl) <| .gy rfl rfl (ys_ld ⟨isAgg3, sizeOf3⟩ (.t rfl) (k := 0) rfl rfl) <| .gy rfl rfl (ys_move (.t rfl)) <| .gy rfl rfl (ys_move (.t rfl)) <| .gy rfl rfl (ys_ixS underlying78 sizeOf82 (.t rfl) (.t rfl) (fun _ => by omega)) <| .gy rfl rfl (ys_field (FieldT.mk underlying82 rfl sizeOf3 rfl) (.t rfl)) <| .gy rfl rfl (ys_ldW ⟨isAgg3, sizeOf3⟩ (.t rfl) (k := 1) rfl hye (fun _ => rfl) rfl) <| .gy rfl rfl (ys_F (by omega) (ys_eql (.t rfl) (.t rfl))) <| .gy rfl rfl (ys_move (.t rfl)) <| .sk rfl rfl rfl <| .sk rfl rfl rfl <| .sk rfl rfl rfl <| .sk rfl rfl rfl <| .sk rfl rfl rfl <| .sk rfl rfl rfl <| .sk rfl rfl rfl <| .sk rfl rfl rfl <| .sk rfl rfl rfl <| .sk rfl rfl rfl <| .gy rfl rfl (ys_pickF (.t rfl) Ev.c) <| .yy (ys_pickF (.t rfl) (.t rfl)) rfl <| .z) fun a S => ?_
            (refine q_nil ?_; intro w W; replace S := St.mk S W; clear W)
            refine then_normal (hK3 _ _ (st_else S (.t rfl) (wp_skip (in_normal (then_normal (hK2 _ _ (wp_region_lit (run S (.ad (by unfold I64; omega) rfl <| .z) fun a w S => ?_))))))))
            rw [rw_k] at S
            refine run S (.mv rfl <| .z) fun a w S => st_nil (then_normal ?_)
            exact ⟨(k + 1, some ⟨gB, 0, none⟩, c, pre ++ [y]), ⟨by dsimp only; omega, by dsimp only; rw [hnx, hrf, hnv]⟩, by dsimp only; omega, S.pk⟩
      · rw [if_neg hyi] at hrf
        have rw_i : decide (y.item ≠ x.item) = true := decide_eq_true (by simpa using hyi)
        refine sg S (.lt (by omega) rfl rfl <| .z) fun a w S => wp_seq_k fun _ hK2 => st_then S (.t rfl) (wp_skip (then_normal (hK2 _ _ (wp_seq_k fun _ hK2 => wp_block (wp_seq_k fun _ hK3 => wp_region_lit (run S (.ix underlying33 sizeOf71 (by omega) rfl rfl <| .yy (ys_ldOA ⟨isAgg71, sizeOf71⟩ (.t rfl) (vs := [_, _, _, _, _, _]) rfl (fun _ => hcx)) rfl <| .z) fun a w S => st_m (op_alloc S zeroValue71 (cs := _) rfl rfl fun g2 a w S => st_m (op_stW S sizeOf71 (.t rfl) (.t rfl) (k := 0) rfl rfl rfl (by simp [Value.oneCell']) fun a w S => st_nil (then_normal (hK3 _ _ (wp_seq_k fun _ hK3 => wp_region_lit (run S (.mv rfl <| .ln underlying78 rfl <| .yy (ys_subI (.t rfl) Ev.c (fun _ => by unfold I64; omega)) rfl <| .z) fun a w S => ?_))))))))))))
        rw [rw_n] at S
        refine run S (.as rfl <| .z) fun a w S => st_nil (then_normal (hK3 _ _ (wp_seq_k fun _ hK3 => wp_seq_k fun _ hK4 => st_quiet S (by kernel_rfl) (by kernel_rfl) fun a S => qrun S (.mv rfl <| .yy (ys_F (by omega) (ys_lss (.t rfl) Ev.c)) rfl <| .mv rfl <| .gy rfl rfl (ys_move (.t rfl)) <| .gy rfl rfl (ys_move (.t rfl)) <| .gy rfl rfl (ys_ixS underlying78 sizeOf82 (.t rfl) (.t rfl) (fun _ => by omega)) <| .gy rfl rfl (ys_field (FieldT.mk underlying82 rfl sizeOf9 rfl) (.t rfl)) <| .gy rfl rfl (ys_ldW ⟨isAgg9, sizeOf9⟩ (.t rfl) (k := 1) rfl hye (fun _ => rfl) rfl) <| .gy rfl rfl (ys_fieldN (FieldT.mk underlying71 rfl sizeOf9 rfl) (.t rfl) (i' := 0) rfl) <| .gy rfl rfl (ys_ld ⟨isAgg9, sizeOf9⟩ (.t rfl) (k := 0) rfl rfl) <| .gy rfl rfl (ys_neqStr (.t rfl) (.t rfl)) <| .z) fun a S => ?_)))
        rw [rw_i] at S
        refine qrun S (.yy (ys_pickF (.t rfl) (.t rfl)) rfl <| .z) fun a S => ?_
        (refine q_nil ?_; intro w W; replace S := St.mk S W; clear W)
        refine then_normal (hK4 _ _ (st_then S (.t rfl) (wp_seq_k fun _ hK4 => wp_region_lit (run S (.mv rfl <| .fa underlying71 sizeOf9 0 rfl rfl rfl <| .ld gt9 0 rfl rfl rfl <| .fa underlying71 sizeOf3 4 rfl rfl rfl <| .ld gt3 0 rfl rfl rfl <| .fa underlying71 sizeOf27 5 rfl rfl rfl <| .ld gt27 0 rfl rfl rfl <| .yy (ys_bld (ps := [(0, Go.Operand.tmp 31), (1, Go.Operand.tmp 33), (2, Go.Operand.tmp 35)]) (us := [_, _, _]) bld82 (.cons (.t rfl) (.cons (.t rfl) (.cons (.t rfl) .nil))) rfl) rfl <| .z) fun a w S => st_m (op_bslice1 S underlying78 inf82 rfl rfl rfl (.t rfl) rfl rfl rfl fun g3 a w S => st_m (op_push S underlying78 inf82 rfl (k := 2) (j := 0) rfl (.t rfl) (.t rfl) rfl Go.Fw.Line.mkEnc rfl rfl (by first | omega | (simp only [List.length_append, List.length_cons, List.length_nil]; omega)) rfl rfl rfl fun A1 cap1 a w S => run S (.as rfl <| .z) fun a w S => st_nil (then_normal (hK4 _ _ (wp_exit (then_exit (in_here (then_normal (hK2 _ _ (wp_region_lit (run S (.ad (by unfold I64; omega) rfl <| .z) fun a w S => ?_)))))))))))))))
        rw [rw_k] at S
        refine run S (.mv rfl <| .z) fun a w S => st_nil (then_normal ?_)
        exact ⟨(k + 1, A1, cap1, pre ++ [y] ++ [⟨x.item, x.qty, x.price⟩]), ⟨by dsimp only; omega, by dsimp only; rw [hnx, hrf]⟩, by dsimp only; omega, S.pk⟩
  obtain rfl : k = l.length := by omega
  rw [List.take_length, readK_fold] at hout
  subst hout
  refine sg S (.ge (by omega) rfl rfl <| .z) fun a w S => wp_seq_k fun _ hK2 => st_else S (.t rfl) (wp_exit (then_exit (then_exit (in_here (then_normal (hK1 _ _ (sg S (.mv rfl <| .as rfl <| .z) fun a w S => wp_ret (st_ret S (results1 S results46 (Rv.tmp rfl)) ?_))))))))
  exact ⟨_, _, rfl, S.wd.pk, _, _, rfl, rfl⟩
end Go.Proofs.YtfblmkocmnbdcaaGreat
set_option linter.unusedVariables false
set_option linter.unusedSimpArgs false
namespace Go.Fw
open Go.RowKit
theorem items_tri (p : Option (List UInt8)) (a : List UInt8) (l : List Ent) : itemsFrom p l ≤ (if p = some a then 0 else 1) + itemsFrom (some a) l := by
  cases l with
  | nil => simp [itemsFrom]
  | cons e r =>
    rw [itemsFrom, itemsFrom]
    by_cases h1 : p = some a
    · rw [h1]; omega
    · rw [if_neg h1]; split <;> omega
theorem items_sub {s l : List Ent} (h : s.Sublist l) : ∀ p, itemsFrom p s ≤ itemsFrom p l := by
  induction h with
  | slnil => exact fun _ => Nat.le_refl _
  | cons a _ ih => intro p; rw [itemsFrom]; exact Nat.le_trans (items_tri p a.item _) (Nat.add_le_add_left (ih _) _)
  | cons_cons a _ ih => intro p; rw [itemsFrom, itemsFrom]; exact Nat.add_le_add_left (ih _) _
theorem prune_ok {c : Cart} (h : CartOk c) (p q : Int) : CartOk (pruneK c p q) := by
  refine ⟨prune_can (can_nf h.ctx) (can_len h.ctx).1 (can_len h.ctx).2 p q, Nat.le_trans (List.length_filter_le _ _) h.len, fun e he => ?_, h.order.filter _, ?_, ?_⟩
  · obtain ⟨h1, h2⟩ := List.mem_filter.1 he
    obtain ⟨k1, k2, k3, k4⟩ := h.each e h1
    refine ⟨k1, k2, k3, ?_⟩
    show (c.ctx.prune p q).covers e.dot = true
    rw [prune_covers, k4]
    exact h2
  · exact (List.Sublist.map _ (List.filter_sublist ..)).nodup h.dots
  · exact Nat.le_trans (items_sub (List.filter_sublist ..) none) h.items
end Go.Fw
set_option linter.unusedVariables false
set_option linter.unusedSimpArgs false
set_option maxRecDepth 100000
set_option maxHeartbeats 4000000
namespace Go.Fw
def updA : Upd := ⟨[107], ⟨0, 1, 1⟩, [97], 2, 0, Cart.zero⟩
theorem readK_len (l : List Ent) : (readK l).length ≤ l.length := by
  unfold readK
  rw [List.length_map, ← items_runs l.length l (Nat.le_refl _)]
  exact itemsFrom_le l none
theorem updA_ok : (applyU updA).2 = 0 := by decide
theorem updA_read : (readK (applyU updA).1.ents).length = 1 := by decide
end Go.Fw
namespace Go.Proofs.YtfblmkocmnbdcaaGreat
open Go.Fw Go.Proofs Go.RowKit Go.Proofs.Tryz
theorem c12 (w0 : World) (v1 v2 v3 v4 v5 : Value) (h : Hist) (ka kb : UInt64) (p q0 : Int) (h1 : Sl encS 1 w0 w0.heap.size v1 h.items) (h2 : Sl encI 1 w0 w0.heap.size v2 h.qtys) (h3 : Sl encU 1 w0 w0.heap.size v3 h.prices) (h4 : Sl encI 1 w0 w0.heap.size v4 h.nodes) (h5 : Sl encU 1 w0 w0.heap.size v5 h.saws) :
    Calls Tryz.prog 12 #[.agg #[v1, v2, v3, v4, v5], .int .u64 (ka.toNat : Int), .int .u64 (kb.toNat : Int), .agg #[.int .i64 p, .int .i64 q0]] w0 fun e w' => e = .returned (.bool true) ∧ Bel w0.heap.size w0 w' := by
  have s1 := h1
  have s2 := h2
  have s3 := h3
  have s4 := h4
  have s5 := h5
  obtain ⟨A, cap, rfl, _⟩ := h1
  obtain ⟨B, capB, rfl, _⟩ := h2
  obtain ⟨C, capC, rfl, _⟩ := h3
  obtain ⟨D, capD, rfl, _⟩ := h4
  obtain ⟨E, capE, rfl, _⟩ := h5
  refine enter4 func12 rfl ntmps12 rfl fun a S => wp_seq_k fun _ hK1 => wp_region_lit (st_m (op_box S (.t rfl) rfl fun g1 a w S => st_m (op_box S (.t rfl) rfl fun g2 a w S => run S (.ac rfl <| .z) fun a w S => st_nil (then_normal (hK1 _ _ (wp_seq_k fun _ hK1 => wp_region_lit (run S (.la gt26 1 rfl rfl rfl <| .z) fun a w S => ?_)))))))
  (refine st_m (op_calls S call13 (.cons (.t rfl) .nil) (c13 _ _ _ _ _ _ _ (by exact .old S.wd (by assumption)) (by exact .old S.wd (by assumption)) (by exact .old S.wd (by assumption)) (by exact .old S.wd (by assumption)) (by exact .old S.wd (by assumption))) rfl ?_); clear S a w; rintro _ _ ⟨A1, r1, A'1, r'1, st1, up1, w11, bs1, rfl, rfl, hr11, hr21, hr31, hr41⟩ a w S)
  refine run S (.mv rfl <| .ex rfl rfl <| .ex rfl rfl <| .as rfl <| .z) fun a w S => ?_
  have hsl : st1.length ≤ 12 := by have := play_states h; rw [← hr11, List.length_map] at this; exact this
  have hsl2 : st1.length ≤ 64 := by omega
  have ok := play_ok h h.many
  change PlayOk (playK h) at ok
  have rw_st := hr11
  have iX : InH (playK h).up (pickK (playK h).st ka) := pick_inH ok.st ka _
  have iY : InH (playK h).up (pickK (playK h).st kb) := pick_inH ok.st kb _
  obtain ⟨X, rw_X⟩ : ∃ X, pickK (playK h).st ka = X := ⟨_, rfl⟩
  obtain ⟨Y, rw_Y⟩ : ∃ X, pickK (playK h).st kb = X := ⟨_, rfl⟩
  rw [rw_X] at iX
  rw [rw_Y] at iY
  have hX := iX.ok.ctx
  have hY := iY.ok.ctx
  obtain ⟨z1, z2, z3⟩ := cart_lens iX.ok
  have hpr : ∀ x ∈ X.ents, priceB x.price = true := fun x hx => (iX.ok.each x hx).price
  have rw_d : ∀ c : Cart, decide (c = c) = true := fun c => decide_eq_true rfl
  have rw_dl : ∀ c : List Line, decide (c = c) = true := fun c => decide_eq_true rfl
  have rw_b : ∀ b : Bool, (b != b) = false := fun b => by simp
  refine run S (.as rfl <| .z) fun a w S => st_nil (then_normal (hK1 _ _ (wp_seq_k fun _ hK1 => wp_region_lit (run S (.mv rfl <| .mv rfl <| .z) fun a w S => ?_))))
  (refine st_m (op_calls S call14 (.cons (.t rfl) (.cons (.t rfl) .nil)) (c14 _ _ _ _ (by exact Sl.of_own S.wd (k := 0) rfl (fun _ => rfl)) (by exact carts_rd (by assumption) S.wd (k := 2) rfl) (by assumption)) rfl ?_); clear S a w; rintro _ _ ⟨A11, r11, A21, r21, A31, r31, rfl, rfl⟩ a w S)
  simp only [List.nil_append] at S
  rw [rw_st] at S
  rw [rw_X] at S
  refine run S (.mv rfl <| .mv rfl <| .z) fun a w S => ?_
  (refine st_m (op_calls S call14 (.cons (.t rfl) (.cons (.t rfl) .nil)) (c14 _ _ _ _ (by exact Sl.of_own S.wd (k := 3) rfl (fun _ => rfl)) (by exact carts_rd (by assumption) S.wd (k := 5) rfl) (by assumption)) rfl ?_); clear S a w; rintro _ _ ⟨A12, r12, A22, r22, A32, r32, rfl, rfl⟩ a w S)
  simp only [List.nil_append] at S
  rw [rw_st] at S
  rw [rw_Y] at S
  refine st_m (op_alloc S zeroValue39 (cs := _) rfl rfl fun g3 a w S => st_m (op_alloc S zeroValue39 (cs := _) rfl rfl fun g4 a w S => st_m (op_stW S sizeOf39 (.t rfl) (.t rfl) (k := 1) rfl rfl rfl (by simp [Value.oneCell']) fun a w S => st_m (op_stW S sizeOf39 (.t rfl) (.t rfl) (k := 0) rfl rfl rfl (by simp [Value.oneCell']) fun a w S => st_nil (then_normal (hK1 _ _ (wp_seq_k fun _ hK1 => wp_region_lit (run S (.la gt39 1 rfl rfl rfl <| .z) fun a w S => ?_))))))))
  (refine st_m (op_calls S call20 (.cons (.t rfl) .nil) (c20 _ _ _ _ _ (by exact Sl.of_own S.wd (k := 5) rfl (fun _ => rfl)) (by exact ⟨(by exact Sl.of_own S.wd (k := 6) rfl (fun _ => rfl)), (by exact Sl.of_own S.wd (k := 7) rfl (fun _ => rfl))⟩) (by omega) (by omega) (by omega)) rfl ?_); clear S a w; rintro _ _ ⟨A13, r13, A23, r23, A33, r33, rfl, rfl⟩ a w S)
  (refine st_m (op_calls S call44 (.cons (.t rfl) .nil) (c44 _ _ _ _ _ _ _ _ _ (by exact Sl.of_own S.wd (k := 0) rfl (fun _ => rfl)) (by assumption) (by omega)) rfl ?_); clear S a w; rintro _ _ ⟨A2, r2, rfl, rfl⟩ a w S)
  refine run S (.as rfl <| .z) fun a w S => st_nil (then_normal (hK1 _ _ (wp_seq_k fun _ hK1 => wp_seq_k fun _ hK2 => h_begin0 S (by kernel_rfl) fun a w S => hy 0 S rfl (ys_move (.t rfl)) rfl fun a w S => hy 1 S rfl (ys_ldA ⟨isAgg39, sizeOf39⟩ (.t rfl) (k := 5) rfl rfl) rfl fun a w S => ?_)))
  (refine h_m (i := 2) rfl (by kernel_rfl) (op_calls S call46 (.cons (.t rfl) .nil) (c46 _ _ _ _ _ _ _ _ _ (by exact Sl.of_own S.wd (k := 9) rfl (fun _ => rfl)) (by assumption) (by omega)) rfl ?_); clear S a w; rintro _ _ ⟨A3, r3, rfl, rfl⟩ a w S; refine h_n2 S ?_)
  refine h_q (i := 3) S (by repeat (first | exact List.Sublist.refl _ | exact List.nil_sublist _ | refine .cons_cons _ ?_ | refine .cons _ ?_)) rfl (by kernel_rfl) (ys_call call45 (.cons (.t rfl) (.cons (.t rfl) .nil)) (fun hp w W => c45 _ _ _ _ _ (by exact Sl.of_own W (k := 1) rfl (fun _ => rfl)) (by exact Sl.of_own W (k := 0) rfl (fun _ => rfl)))) rfl fun a w S => ?_
  simp only [List.nil_append] at S
  refine hy 4 S rfl (ys_not (.t rfl)) rfl fun a w S => hy 5 S rfl (ys_move (.t rfl)) rfl fun a w S => hyt 6 S rfl rfl rfl (ys_ldA ⟨isAgg39, sizeOf39⟩ (.t rfl) (k := 6) rfl rfl) rfl fun a w S => hyt 7 S rfl rfl rfl (ys_ldA ⟨isAgg77, sizeOf77⟩ (.t rfl) (k := 16) rfl rfl) rfl fun a w S => hyt 9 S rfl rfl rfl (ys_ldA ⟨isAgg39, sizeOf39⟩ (.t rfl) (k := 6) rfl rfl) rfl fun a w S => ?_
  refine hyt 10 S rfl rfl rfl (ys_ldA ⟨isAgg77, sizeOf77⟩ (.t rfl) (k := 16) rfl rfl) rfl fun a w S => h_qf (i := 8) S (by repeat (first | exact List.Sublist.refl _ | exact List.nil_sublist _ | refine .cons_cons _ ?_ | refine .cons _ ?_)) rfl (by kernel_rfl) rfl rfl (ys_call call47 (.cons (.t rfl) (.cons (.t rfl) .nil)) (fun hp w W => c47 _ _ _ _ _ _ _ _ _ _ _ (by exact Sl.of_own W (k := 10) rfl (fun _ => rfl)))) rfl fun a w S => h_qf (i := 11) S (by repeat (first | exact List.Sublist.refl _ | exact List.nil_sublist _ | refine .cons_cons _ ?_ | refine .cons _ ?_)) rfl (by kernel_rfl) rfl rfl (ys_call call48 (.cons (.t rfl) (.cons (.t rfl) .nil)) (fun hp w W => c48 _ _ _ _ _ _ _ _ _ _ _ (by exact Sl.of_own W (k := 10) rfl (fun _ => rfl)))) rfl fun a w S => hyt 12 S rfl rfl rfl (ys_neqB underlying4 (Ev.g rfl) (Ev.g rfl)) rfl fun a w S => ?_
  rw [rw_b] at S
  refine hy 13 S rfl (ys_pickF (.t rfl) (.t rfl)) rfl fun a w S => hy 14 S rfl (ys_move (.t rfl)) rfl fun a w S => hyt 15 S rfl rfl rfl (ys_ldA ⟨isAgg39, sizeOf39⟩ (.t rfl) (k := 6) rfl rfl) rfl fun a w S => hyt 16 S rfl rfl rfl (ys_ldA ⟨isAgg39, sizeOf39⟩ (.t rfl) (k := 5) rfl rfl) rfl fun a w S => hyt 18 S rfl rfl rfl (ys_ldA ⟨isAgg39, sizeOf39⟩ (.t rfl) (k := 6) rfl rfl) rfl fun a w S => ?_
  refine hyt 19 S rfl rfl rfl (ys_ldA ⟨isAgg39, sizeOf39⟩ (.t rfl) (k := 5) rfl rfl) rfl fun a w S => h_qf (i := 17) S (by repeat (first | exact List.Sublist.refl _ | exact List.nil_sublist _ | refine .cons_cons _ ?_ | refine .cons _ ?_)) rfl (by kernel_rfl) rfl rfl (ys_call call42 (.cons (.t rfl) (.cons (.t rfl) .nil)) (fun hp w W => c42 _ _ _ _ _ _ _ _ _ (by exact Sl.of_own W (k := 10) rfl (fun _ => rfl)) (by exact ⟨(by exact Sl.of_own W (k := 11) rfl (fun _ => rfl)), (by exact Sl.of_own W (k := 12) rfl (fun _ => rfl))⟩) (by exact Sl.of_own W (k := 7) rfl (fun _ => rfl)) (by exact ⟨(by exact Sl.of_own W (k := 8) rfl (fun _ => rfl)), (by exact Sl.of_own W (k := 9) rfl (fun _ => rfl))⟩) (by assumption) (by assumption))) rfl fun a w S => ?_
  refine h_qf (i := 20) S (by repeat (first | exact List.Sublist.refl _ | exact List.nil_sublist _ | refine .cons_cons _ ?_ | refine .cons _ ?_)) rfl (by kernel_rfl) rfl rfl (ys_call call49 (.cons (.t rfl) (.cons (.t rfl) .nil)) (fun hp w W => c49 _ _ _ _ _ _ _ _ _ (by exact Sl.of_own W (k := 10) rfl (fun _ => rfl)) (by exact ⟨(by exact Sl.of_own W (k := 11) rfl (fun _ => rfl)), (by exact Sl.of_own W (k := 12) rfl (fun _ => rfl))⟩) (by exact Sl.of_own W (k := 7) rfl (fun _ => rfl)) (by exact ⟨(by exact Sl.of_own W (k := 8) rfl (fun _ => rfl)), (by exact Sl.of_own W (k := 9) rfl (fun _ => rfl))⟩) (by assumption) (by assumption))) rfl fun a w S => hyt 21 S rfl rfl rfl (ys_neqB underlying4 (Ev.g rfl) (Ev.g rfl)) rfl fun a w S => ?_
  rw [rw_b] at S
  refine hy 22 S rfl (ys_pickF (.t rfl) (.t rfl)) rfl fun a w S => h_done (by kernel_rfl) (then_normal (hK2 _ _ (st_else S (.t rfl) (wp_skip (then_normal (hK1 _ _ (wp_seq_k fun _ hK1 => sg S (.mv rfl <| .ln underlying78 rfl <| .mc rfl <| .z) fun a w S => wp_block ?_)))))))
  refine st_lpM S [57] (X := Nat × List Line) (fun q => [(57, true, .int .i64 (q.1 : Int))]) (fun q => [rowOf 82 3 Line.enc A2 r2 q.2, .blk g3 (.cells #[.slice A11 X.ents.length r11, .slice A21 X.ctx.marks.length r21, .slice A31 X.ctx.cloud.length r31] 39), rowOf 71 6 Ent.enc A11 r11 X.ents, rowOf 122 3 Dot.enc A21 r21 X.ctx.marks, rowOf 58 3 Dot.enc A31 r31 X.ctx.cloud, .blk g2 (.cells #[.int .i64 p, .int .i64 q0] 77)])
    (fun q => q.1 ≤ (readK X.ents).length ∧ q.2.length = (readK X.ents).length) (fun q => (readK X.ents).length - q.1) (0, readK X.ents) ⟨Nat.zero_le _, rfl⟩ ?_
  clear S
  rintro ⟨m, cur⟩ a w ⟨hm, hcur⟩ S
  dsimp only at hm hcur S
  by_cases hml : m < (readK X.ents).length
  · obtain ⟨y, hy⟩ : ∃ y, cur[m]? = some y := ⟨_, List.getElem?_eq_getElem (by omega)⟩
    obtain ⟨gL, rfl⟩ := S.wd.row_at (k := 0) rfl (by have := (S.wd.room (k := 0) rfl).1; omega)
    have hrl := readK_len X.ents
    have hxl := iX.ok.len
    have rw_m : (m : Int) + 1 = ((m + 1 : Nat) : Int) := rfl
    refine sg S (.lt (by omega) rfl rfl <| .z) fun a w S => wp_seq_k fun _ hK2 => st_then S (.t rfl) (wp_skip (then_normal (hK2 _ _ (wp_seq_k fun _ hK2 => wp_block (sg S (.mv rfl <| .as rfl <| .z) fun a w S => wp_region_lit (run S (.mv rfl <| .mv rfl <| .ix underlying78 sizeOf82 (by omega) rfl rfl <| .yy (ys_field (FieldT.mk underlying82 rfl sizeOf9 rfl) (.t rfl)) rfl <| .z) fun a w S => st_m (op_stFld (enc := Line.enc) (size := 3) (i := m) (j := 0) ⟨[33], y.qty, y.price⟩ S Line.enc_len sizeOf9 (.t rfl) Ev.c rfl (k := 0) rfl hy (by omega) rfl rfl ?_)))))))
    clear S
    intro a w S
    refine st_nil (in_normal (then_normal (hK2 _ _ (wp_region_lit (run S (.ad (by unfold I64; omega) rfl <| .z) fun a w S => ?_)))))
    rw [rw_m] at S
    refine run S (.mv rfl <| .z) fun a w S => st_nil (then_normal ?_)
    exact ⟨(m + 1, cur.set m ⟨[33], y.qty, y.price⟩), ⟨by dsimp only; omega, by simp [hcur]⟩, by dsimp only; omega, S.pk⟩
  obtain ⟨y1, y2, y3⟩ := cart_lens (prune_ok iX.ok p q0)
  have rw_u : #[Value.string ⟨#[107]⟩, .int .i64 0, .int .i64 1, .int .i64 1, .string ⟨#[97]⟩, .int .i64 2, .int .u64 0, .slice none 0 0, .slice none 0 0, .slice none 0 0] = (Upd.enc updA (.slice none 0 0) (.slice none 0 0) (.slice none 0 0)).toArray := rfl
  have rw_a := updA_ok
  have hz1 : Sl Ent.enc 6 w0 w0.heap.size (.slice none 0 0) updA.seen.ents := Sl.nil_
  have hz2 : RdCtx w0 w0.heap.size (.slice none 0 0) (.slice none 0 0) updA.seen.ctx := ⟨Sl.nil_, Sl.nil_⟩
  have rw_r : ((readK (applyU updA).1.ents).length : Int) = 1 := by rw [updA_read]; rfl
  have hpo : ∀ x ∈ (applyU updA).1.ents, priceB x.price = true := fun x hx => ((applyU_ok updA_ok).2.2.2.each x hx).price
  have hlo := (applyU_ok updA_ok).2.2.2.len
  refine sg S (.ge (by omega) rfl rfl <| .z) fun a w S => wp_seq_k fun _ hK2 => st_else S (.t rfl) (wp_exit (then_exit (then_exit (in_here (then_normal (hK1 _ _ (wp_seq_k fun _ hK1 => wp_region_lit (run S (.la gt39 1 rfl rfl rfl <| .la gt77 5 rfl rfl rfl <| .z) fun a w S => ?_))))))))
  (refine st_m (op_calls S call50 (.cons (.t rfl) (.cons (.t rfl) .nil)) (c50 _ _ _ _ _ _ _ (by exact Sl.of_own S.wd (k := 2) rfl (fun _ => rfl)) (by exact ⟨(by exact Sl.of_own S.wd (k := 3) rfl (fun _ => rfl)), (by exact Sl.of_own S.wd (k := 4) rfl (fun _ => rfl))⟩) (by omega) (by omega) (by omega)) rfl ?_); clear S a w; rintro _ _ ⟨A14, r14, A24, r24, A34, r34, rfl, rfl⟩ a w S)
  refine st_m (op_alloc S zeroValue39 (cs := _) rfl rfl fun g5 a w S => st_m (op_stW S sizeOf39 (.t rfl) (.t rfl) (k := 0) rfl rfl rfl (by simp [Value.oneCell']) fun a w S => st_nil (then_normal (hK1 _ _ (wp_seq_k fun _ hK1 => wp_seq_k fun _ hK3 => h_begin0 S (by kernel_rfl) fun a w S => hy 0 S rfl (ys_ldA ⟨isAgg39, sizeOf39⟩ (.t rfl) (k := 0) rfl rfl) rfl fun a w S => hy 1 S rfl (ys_ldA ⟨isAgg39, sizeOf39⟩ (.t rfl) (k := 5) rfl rfl) rfl fun a w S => hy 2 S rfl (ys_ldA ⟨isAgg77, sizeOf77⟩ (.t rfl) (k := 9) rfl rfl) rfl fun a w S => ?_)))))
  (refine h_m (i := 3) rfl (by kernel_rfl) (op_calls S call51 (.cons (.t rfl) (.cons (.t rfl) .nil)) (c51 _ _ _ _ _ _ _ (by exact Sl.of_own S.wd (k := 6) rfl (fun _ => rfl)) (by exact ⟨(by exact Sl.of_own S.wd (k := 7) rfl (fun _ => rfl)), (by exact Sl.of_own S.wd (k := 8) rfl (fun _ => rfl))⟩) (by omega) (by omega) (by omega)) rfl ?_); clear S a w; rintro _ _ ⟨A15, r15, A25, r25, A35, r35, rfl, rfl⟩ a w S; refine h_n2 S ?_)
  refine h_q (i := 4) S (by repeat (first | exact List.Sublist.refl _ | exact List.nil_sublist _ | refine .cons_cons _ ?_ | refine .cons _ ?_)) rfl (by kernel_rfl) (ys_call call17 (.cons (.t rfl) (.cons (.t rfl) .nil)) (fun hp w W => c17 _ _ _ _ _ _ _ _ _ (by exact Sl.of_own W (k := 4) rfl (fun _ => rfl)) (by exact ⟨(by exact Sl.of_own W (k := 5) rfl (fun _ => rfl)), (by exact Sl.of_own W (k := 6) rfl (fun _ => rfl))⟩) (by exact Sl.of_own W (k := 0) rfl (fun _ => rfl)) (by exact ⟨(by exact Sl.of_own W (k := 1) rfl (fun _ => rfl)), (by exact Sl.of_own W (k := 2) rfl (fun _ => rfl))⟩))) rfl fun a w S => ?_
  simp only [List.nil_append] at S
  refine hy 5 S rfl (ys_not (.t rfl)) rfl fun a w S => h_done (by kernel_rfl) (then_normal (hK3 _ _ (st_else S (.t rfl) (wp_skip (then_normal (hK1 _ _ (wp_seq_k fun _ hK1 => wp_region_lit (run S (.la gt39 3 rfl rfl rfl <| .z) fun a w S => ?_))))))))
  (replace S := S.pull 6 rfl; try simp only [List.set_cons_zero, List.set_cons_succ, List.eraseIdx_cons_succ, List.eraseIdx_cons_zero] at S; replace S := S.pull 6 rfl; try simp only [List.set_cons_zero, List.set_cons_succ, List.eraseIdx_cons_succ, List.eraseIdx_cons_zero] at S; replace S := S.pull 6 rfl; try simp only [List.set_cons_zero, List.set_cons_succ, List.eraseIdx_cons_succ, List.eraseIdx_cons_zero] at S; refine st_m (op_callO S call32 (.cons (.t rfl) .nil) (c32 S.wd (by first | assumption | omega | (dsimp only; omega) | exact Sl.nil_ | exact .old S.wd (by assumption) | exact Sl.of_own S.wd (k := 0) rfl (fun _ => rfl) | exact Sl.of_own S.wd (k := 1) rfl (fun _ => rfl) | exact Sl.of_own S.wd (k := 2) rfl (fun _ => rfl) | exact Sl.of_own S.wd (k := 3) rfl (fun _ => rfl) | exact Sl.of_own S.wd (k := 4) rfl (fun _ => rfl) | exact Sl.of_own S.wd (k := 5) rfl (fun _ => rfl) | exact Sl.of_own S.wd (k := 6) rfl (fun _ => rfl) | exact Sl.of_own S.wd (k := 7) rfl (fun _ => rfl) | exact Sl.of_own S.wd (k := 8) rfl (fun _ => rfl) | exact Sl.of_own S.wd (k := 9) rfl (fun _ => rfl) | exact Sl.of_own S.wd (k := 10) rfl (fun _ => rfl) | exact Sl.of_own S.wd (k := 11) rfl (fun _ => rfl) | exact Sl.of_own S.wd (k := 12) rfl (fun _ => rfl) | (simp at *; omega)) (by first | assumption | omega | (dsimp only; omega) | exact Sl.nil_ | exact .old S.wd (by assumption) | exact Sl.of_own S.wd (k := 0) rfl (fun _ => rfl) | exact Sl.of_own S.wd (k := 1) rfl (fun _ => rfl) | exact Sl.of_own S.wd (k := 2) rfl (fun _ => rfl) | exact Sl.of_own S.wd (k := 3) rfl (fun _ => rfl) | exact Sl.of_own S.wd (k := 4) rfl (fun _ => rfl) | exact Sl.of_own S.wd (k := 5) rfl (fun _ => rfl) | exact Sl.of_own S.wd (k := 6) rfl (fun _ => rfl) | exact Sl.of_own S.wd (k := 7) rfl (fun _ => rfl) | exact Sl.of_own S.wd (k := 8) rfl (fun _ => rfl) | exact Sl.of_own S.wd (k := 9) rfl (fun _ => rfl) | exact Sl.of_own S.wd (k := 10) rfl (fun _ => rfl) | exact Sl.of_own S.wd (k := 11) rfl (fun _ => rfl) | exact Sl.of_own S.wd (k := 12) rfl (fun _ => rfl) | (simp at *; omega)) (by first | assumption | omega | (dsimp only; omega) | exact Sl.nil_ | exact .old S.wd (by assumption) | exact Sl.of_own S.wd (k := 0) rfl (fun _ => rfl) | exact Sl.of_own S.wd (k := 1) rfl (fun _ => rfl) | exact Sl.of_own S.wd (k := 2) rfl (fun _ => rfl) | exact Sl.of_own S.wd (k := 3) rfl (fun _ => rfl) | exact Sl.of_own S.wd (k := 4) rfl (fun _ => rfl) | exact Sl.of_own S.wd (k := 5) rfl (fun _ => rfl) | exact Sl.of_own S.wd (k := 6) rfl (fun _ => rfl) | exact Sl.of_own S.wd (k := 7) rfl (fun _ => rfl) | exact Sl.of_own S.wd (k := 8) rfl (fun _ => rfl) | exact Sl.of_own S.wd (k := 9) rfl (fun _ => rfl) | exact Sl.of_own S.wd (k := 10) rfl (fun _ => rfl) | exact Sl.of_own S.wd (k := 11) rfl (fun _ => rfl) | exact Sl.of_own S.wd (k := 12) rfl (fun _ => rfl) | (simp at *; omega))) rfl ?_) <;> clear S a w)
  rintro _ _ ⟨rfl, rfl⟩ a w S
  refine st_nil (then_normal (hK1 _ _ (wp_seq_k fun _ hK1 => wp_region_lit (run S (.yy (ys_bld (ps := [(1, _), (2, _)]) (us := [_, _, _]) bld58 (.cons Ev.c (.cons Ev.c .nil)) rfl) rfl <| .yy (ys_bld (ps := [(0, _), (1, Go.Operand.tmp 77), (2, _), (3, _)]) (us := [_, _, _, _, _, _, _, _, _, _]) bld60 (.cons Ev.c (.cons (.t rfl) (.cons Ev.c (.cons Ev.c .nil)))) rfl) rfl <| .z) fun a w S => ?_))))
  rw [rw_u] at S
  (refine st_m (op_calls S call29 (.cons (.t rfl) .nil) (c29 _ _ _ _ _ (by exact Sl.nil_) (by exact .old S.wd (by assumption))) rfl ?_); clear S a w; rintro _ _ ⟨A16, r16, A26, r26, A36, r36, rfl, rfl⟩ a w S)
  rw [rw_a] at S
  refine run S (.mv rfl <| .ex rfl rfl <| .ex rfl rfl <| .z) fun a w S => st_m (op_alloc S zeroValue39 (cs := _) rfl rfl fun g6 a w S => st_m (op_stW S sizeOf39 (.t rfl) (.t rfl) (k := 0) rfl rfl rfl (by simp [Value.oneCell']) fun a w S => run S (.as rfl <| .z) fun a w S => st_nil (then_normal (hK1 _ _ (wp_seq_k fun _ hK1 => h_begin0 S (by kernel_rfl) fun a w S => hy 0 S rfl (ys_ldA ⟨isAgg39, sizeOf39⟩ (.t rfl) (k := 9) rfl rfl) rfl fun a w S => hy 2 S rfl (ys_ldA ⟨isAgg39, sizeOf39⟩ (.t rfl) (k := 9) rfl rfl) rfl fun a w S => ?_)))))
  (refine h_m (i := 1) rfl (by kernel_rfl) (op_calls S call44 (.cons (.t rfl) .nil) (c44 _ _ _ _ _ _ _ _ _ (by exact Sl.of_own S.wd (k := 10) rfl (fun _ => rfl)) (by assumption) (by omega)) rfl ?_); clear S a w; rintro _ _ ⟨A4, r4, rfl, rfl⟩ a w S; refine h_n2 S ?_)
  (refine h_m (i := 3) rfl (by kernel_rfl) (op_calls S call46 (.cons (.t rfl) .nil) (c46 _ _ _ _ _ _ _ _ _ (by exact Sl.of_own S.wd (k := 11) rfl (fun _ => rfl)) (by assumption) (by omega)) rfl ?_); clear S a w; rintro _ _ ⟨A5, r5, rfl, rfl⟩ a w S; refine h_n2 S ?_)
  refine h_q (i := 4) S (by repeat (first | exact List.Sublist.refl _ | exact List.nil_sublist _ | refine .cons_cons _ ?_ | refine .cons _ ?_)) rfl (by kernel_rfl) (ys_call call45 (.cons (.t rfl) (.cons (.t rfl) .nil)) (fun hp w W => c45 _ _ _ _ _ (by exact Sl.of_own W (k := 1) rfl (fun _ => rfl)) (by exact Sl.of_own W (k := 0) rfl (fun _ => rfl)))) rfl fun a w S => ?_
  simp only [List.nil_append] at S
  refine hy 5 S rfl (ys_move (.t rfl)) rfl fun a w S => hyt 6 S rfl rfl rfl (ys_move (.t rfl)) rfl fun a w S => hyt 7 S rfl rfl rfl (ys_T (by omega) (ys_eql (.t rfl) Ev.c)) rfl fun a w S => hy 8 S rfl (ys_pickT (.t rfl) (.t rfl)) rfl fun a w S => hy 9 S rfl (ys_move (.t rfl)) rfl fun a w S => ?_
  refine hyt 10 S rfl rfl rfl (ys_ldA ⟨isAgg39, sizeOf39⟩ (.t rfl) (k := 2) rfl rfl) rfl fun a w S => ?_
  (refine h_mg (i := 11) S rfl (by kernel_rfl) rfl rfl (op_calls S call44 (.cons (.t rfl) .nil) (c44 _ _ _ _ _ _ _ _ _ (by exact Sl.of_own S.wd (k := 3) rfl (fun _ => rfl)) (by assumption) (by omega)) rfl ?_); clear S a w; rintro _ _ ⟨A6, r6, rfl, rfl⟩ a w S; refine h_n2 S ?_)
  refine hyt 12 S rfl rfl rfl (ys_lenS underlying78 (.t rfl)) rfl fun a w S => ?_
  rw [rw_r] at S
  refine hyt 13 S rfl rfl rfl (ys_T (by omega) (ys_eql (.t rfl) Ev.c)) rfl fun a w S => hy 14 S rfl (ys_pickT (.t rfl) (.t rfl)) rfl fun a w S => hy 15 S rfl (ys_assign (.t rfl)) rfl fun a w S => h_done (by kernel_rfl) (then_normal (hK1 _ _ (wp_ret (st_ret S (results1 S results12 (Rv.tmp rfl)) ?_))))
  exact ⟨rfl, S.wd.below⟩
end Go.Proofs.YtfblmkocmnbdcaaGreat
