/- Contracts and laws that the statement Rno leans on, part 3. -/
import Derived.Test.YtakpdbmdfnialaaRnoK2
import Derived.ScopeJumps
import Derived.LoopN
set_option linter.unusedVariables false
set_option linter.unusedSimpArgs false
set_option maxRecDepth 100000
set_option maxHeartbeats 4000000
namespace Go.Fw
theorem may_and (x y z : Int) : (decide (0 ≤ x) && decide (x < 8) && decide (1 ≤ y) && decide (y ≤ 1099511627776) && decide (1 ≤ z) && decide (z ≤ 1099511627776)) = mayD ⟨x, y, z⟩ := by
  rw [Bool.eq_iff_iff]
  simp [mayD]
  omega
theorem less_neither {a b : List UInt8} (h : Op.bytesLess a b = false) (h' : Op.bytesLess b a = false) : a = b := by
  refine Decidable.byContradiction fun hne => ?_
  rcases less_total hne with h1 | h1
  · rw [h] at h1; cases h1
  · rw [h'] at h1; cases h1
theorem ord_or (a b : Gon) : orI (cmpB a.key b.key) (orI (cmpI a.dt.node b.dt.node) (cmpI a.dt.life b.dt.life)) = ordG a b := by
  unfold orI cmpB cmpI ordG ltG sameG ltM
  by_cases h1 : Op.bytesLess a.key b.key = true
  · simp [h1]
  · by_cases h2 : a.key = b.key
    · have h3 : Op.bytesLess b.key b.key = false := less_irr _
      by_cases h4 : a.dt.node < b.dt.node
      · simp [h2, h3, h4]
      · by_cases h5 : b.dt.node < a.dt.node
        · have h6 : ¬ a.dt.node = b.dt.node := by omega
          simp [h2, h3, h4, h5, h6]
        · have h6 : a.dt.node = b.dt.node := by omega
          by_cases h7 : a.dt.life < b.dt.life
          · simp [h2, h3, h6, h7]
          · by_cases h8 : b.dt.life < a.dt.life
            · have h9 : ¬ a.dt.life = b.dt.life := by omega
              simp [h2, h3, h6, h7, h8, h9]
            · have h9 : a.dt.life = b.dt.life := by omega
              simp [h2, h3, h6, h9]
    · simp [h1, h2]
end Go.Fw
namespace Go.Proofs.Ytakpdbmdfnialaa
open Go.Fw Go.Proofs Go.RowKit Go.Proofs.Try
theorem c85 (w0 : World) (l : List UInt8) : Calls Try.prog 85 #[.string (bs l)] w0 fun e w' => e = .returned (.bool false) ∧ Bel w0.heap.size w0 w' := by
  refine enter1 func85 rfl ntmps85 rfl fun a S => sg S (.ac rfl <| .z) fun a w S => sg S (.mv rfl <| .mv rfl <| .yy (ys_neqStr (.t rfl) (.t rfl)) rfl <| .as rfl <| .z) fun a w S => wp_ret (st_ret S (results1 S results85 (Rv.tmp rfl)) ?_)
  exact ⟨by simp, S.wd.below⟩
theorem c65 (w0 : World) (l m : List UInt8) : Calls Try.prog 65 #[.string (bs l), .string (bs m)] w0 fun e w' => e = .returned (.int .i64 (cmpB l m)) ∧ Bel w0.heap.size w0 w' := by
  refine enter2 func65 rfl ntmps65 rfl fun a S => sg S (.ac rfl <| .z) fun a w S => sg S (.mv rfl <| .xx (ys_call call85 (.cons (.t rfl) .nil) (fun hp w W => c85 _ _)) rfl <| .as rfl <| .z) fun a w S => sg S (.mv rfl <| .xx (ys_call call85 (.cons (.t rfl) .nil) (fun hp w W => c85 _ _)) rfl <| .as rfl <| .z) fun a w S => wp_seq_k fun _ hK1 => sg S (.mv rfl <| .z) fun a w S => st_else S (.t rfl) (wp_skip (then_normal (hK1 _ _ (wp_seq_k fun _ hK1 => sg S (.mv rfl <| .z) fun a w S => st_else S (.t rfl) (wp_skip (then_normal (hK1 _ _ (wp_seq_k fun _ hK1 => sg S (.mv rfl <| .mv rfl <| .yy (ys_lssStr (.t rfl) (.t rfl)) rfl <| .z) fun a w S => ?_))))))))
  refine st_cond S (.t rfl) (fun h1 => ?_) (fun h1 => ?_)
  refine sg S (.ac rfl <| .z) fun a w S => wp_ret (then_ret (st_ret S (results1 S results65 (Rv.tmp rfl)) ?_))
  rotate_left
  refine wp_skip (then_normal (hK1 _ _ (wp_seq_k fun _ hK1 => sg S (.mv rfl <| .mv rfl <| .yy (ys_gtrStr (.t rfl) (.t rfl)) rfl <| .z) fun a w S => ?_)))
  refine st_cond S (.t rfl) (fun h2 => ?_) (fun h2 => ?_)
  refine sg S (.ac rfl <| .z) fun a w S => wp_ret (then_ret (st_ret S (results1 S results65 (Rv.tmp rfl)) ?_))
  rotate_left
  refine wp_skip (then_normal (hK1 _ _ (sg S (.ac rfl <| .z) fun a w S => wp_ret (st_ret S (results1 S results65 (Rv.tmp rfl)) ?_))))
  rotate_left
  · exact ⟨by rw [cmpB, if_pos h1], S.wd.below⟩
  · exact ⟨by rw [cmpB, if_neg (by rw [h1]; simp), if_neg (less_ne h2).symm], S.wd.below⟩
  · exact ⟨by rw [cmpB, if_neg (by rw [h1]; simp), if_pos (less_neither h1 h2)], S.wd.below⟩
theorem c27 (w0 : World) (x y z : Int) : Calls Try.prog 27 #[.agg #[.int .i64 x, .int .i64 y, .int .i64 z]] w0 fun e w' => e = .returned (.bool (mayD ⟨x, y, z⟩)) ∧ Bel w0.heap.size w0 w' := by
  refine enter1 func27 rfl ntmps27 rfl fun a S => wp_seq_k fun _ hK1 => wp_region_lit (st_m (op_box S (.t rfl) rfl fun g1 a w S => run S (.ac rfl <| .z) fun a w S => st_nil (then_normal (hK1 _ _ (wp_seq_k fun _ hK1 => wp_region_lit (run S (.fa underlying23 sizeOf3 0 rfl rfl rfl <| .ld gt3 0 rfl rfl rfl <| .yy (ys_geq (.t rfl) Ev.c) rfl <| .mv rfl <| .z) fun a w S => st_yg S rfl rfl (Yr.ys (ys_fieldN (FieldT.mk underlying23 rfl sizeOf3 rfl) (.t rfl) (i' := 0) rfl)) rfl fun a w S => st_yg S rfl rfl (Yr.ys (ys_ld ⟨isAgg3, sizeOf3⟩ (Ev.g rfl) (k := 0) rfl rfl)) rfl fun a w S => st_yg S rfl rfl (Yr.ys (ys_lss (Ev.g rfl) Ev.c)) rfl fun a w S => run S (.yy (ys_and (.t rfl) (Ev.g rfl) Ev.c) rfl <| .mv rfl <| .z) fun a w S => st_yg S rfl rfl (Yr.ys (ys_fieldN (FieldT.mk underlying23 rfl sizeOf3 rfl) (.t rfl) (i' := 1) rfl)) rfl fun a w S => st_yg S rfl rfl (Yr.ys (ys_ld ⟨isAgg3, sizeOf3⟩ (Ev.g rfl) (k := 0) rfl rfl)) rfl fun a w S => st_yg S rfl rfl (Yr.ys (ys_geq (Ev.g rfl) Ev.c)) rfl fun a w S => run S (.yy (ys_and (.t rfl) (Ev.g rfl) Ev.c) rfl <| .mv rfl <| .z) fun a w S => st_yg S rfl rfl (Yr.ys (ys_fieldN (FieldT.mk underlying23 rfl sizeOf3 rfl) (.t rfl) (i' := 1) rfl)) rfl fun a w S => st_yg S rfl rfl (Yr.ys (ys_ld ⟨isAgg3, sizeOf3⟩ (Ev.g rfl) (k := 0) rfl rfl)) rfl fun a w S => st_yg S rfl rfl (Yr.ys (ys_leq (Ev.g rfl) Ev.c)) rfl fun a w S => ?_))))))
  refine run S (.yy (ys_and (.t rfl) (Ev.g rfl) Ev.c) rfl <| .mv rfl <| .z) fun a w S => st_yg S rfl rfl (Yr.ys (ys_fieldN (FieldT.mk underlying23 rfl sizeOf3 rfl) (.t rfl) (i' := 2) rfl)) rfl fun a w S => st_yg S rfl rfl (Yr.ys (ys_ld ⟨isAgg3, sizeOf3⟩ (Ev.g rfl) (k := 0) rfl rfl)) rfl fun a w S => st_yg S rfl rfl (Yr.ys (ys_geq (Ev.g rfl) Ev.c)) rfl fun a w S => run S (.yy (ys_and (.t rfl) (Ev.g rfl) Ev.c) rfl <| .mv rfl <| .z) fun a w S => st_yg S rfl rfl (Yr.ys (ys_fieldN (FieldT.mk underlying23 rfl sizeOf3 rfl) (.t rfl) (i' := 2) rfl)) rfl fun a w S => st_yg S rfl rfl (Yr.ys (ys_ld ⟨isAgg3, sizeOf3⟩ (Ev.g rfl) (k := 0) rfl rfl)) rfl fun a w S => st_yg S rfl rfl (Yr.ys (ys_leq (Ev.g rfl) Ev.c)) rfl fun a w S => run S (.yy (ys_and (.t rfl) (Ev.g rfl) Ev.c) rfl <| .as rfl <| .z) fun a w S => st_nil (then_normal (hK1 _ _ (wp_ret (st_ret S (results1 S results27 (Rv.tmp rfl)) ?_))))
  exact ⟨by rw [may_and], S.wd.below⟩
theorem c30 (w0 : World) (a b : Gon) : Calls Try.prog 30 #[.agg (Gon.enc a).toArray, .agg (Gon.enc b).toArray] w0 fun e w' => e = .returned (.int .i64 (ordG a b)) ∧ Bel w0.heap.size w0 w' := by
  refine enter2 func30 rfl ntmps30 rfl fun a S => wp_seq_k fun _ hK1 => wp_region_lit (st_m (op_box S (.t rfl) rfl fun g1 a w S => st_m (op_box S (.t rfl) rfl fun g2 a w S => run S (.ac rfl <| .z) fun a w S => st_nil (then_normal (hK1 _ _ (wp_seq_k fun _ hK1 => h_begin0 S (by kernel_rfl) fun a w S => hy 0 S rfl (ys_fieldN (FieldT.mk underlying74 rfl sizeOf9 rfl) (.t rfl) (i' := 0) rfl) rfl fun a w S => hy 1 S rfl (ys_ld ⟨isAgg9, sizeOf9⟩ (.t rfl) (k := 1) rfl rfl) rfl fun a w S => hy 2 S rfl (ys_fieldN (FieldT.mk underlying74 rfl sizeOf9 rfl) (.t rfl) (i' := 0) rfl) rfl fun a w S => ?_))))))
  refine hy 3 S rfl (ys_ld ⟨isAgg9, sizeOf9⟩ (.t rfl) (k := 0) rfl rfl) rfl fun a w S => hy 5 S rfl (ys_fieldN (FieldT.mk underlying74 rfl sizeOf23 rfl) (.t rfl) (i' := 1) rfl) rfl fun a w S => hy 6 S rfl (ys_fieldN (FieldT.mk underlying23 rfl sizeOf3 rfl) (.t rfl) (i' := 1) rfl) rfl fun a w S => hy 7 S rfl (ys_ld ⟨isAgg3, sizeOf3⟩ (.t rfl) (k := 1) rfl rfl) rfl fun a w S => ?_
  refine hy 8 S rfl (ys_fieldN (FieldT.mk underlying74 rfl sizeOf23 rfl) (.t rfl) (i' := 1) rfl) rfl fun a w S => hy 9 S rfl (ys_fieldN (FieldT.mk underlying23 rfl sizeOf3 rfl) (.t rfl) (i' := 1) rfl) rfl fun a w S => hy 10 S rfl (ys_ld ⟨isAgg3, sizeOf3⟩ (.t rfl) (k := 0) rfl rfl) rfl fun a w S => hy 12 S rfl (ys_fieldN (FieldT.mk underlying74 rfl sizeOf23 rfl) (.t rfl) (i' := 1) rfl) rfl fun a w S => ?_
  refine hy 13 S rfl (ys_fieldN (FieldT.mk underlying23 rfl sizeOf3 rfl) (.t rfl) (i' := 2) rfl) rfl fun a w S => hy 14 S rfl (ys_ld ⟨isAgg3, sizeOf3⟩ (.t rfl) (k := 1) rfl rfl) rfl fun a w S => hy 15 S rfl (ys_fieldN (FieldT.mk underlying74 rfl sizeOf23 rfl) (.t rfl) (i' := 1) rfl) rfl fun a w S => hy 16 S rfl (ys_fieldN (FieldT.mk underlying23 rfl sizeOf3 rfl) (.t rfl) (i' := 2) rfl) rfl fun a w S => ?_
  refine hy 17 S rfl (ys_ld ⟨isAgg3, sizeOf3⟩ (.t rfl) (k := 0) rfl rfl) rfl fun a w S => h_q (i := 4) S (by repeat (first | exact List.Sublist.refl _ | exact List.nil_sublist _ | refine .cons_cons _ ?_ | refine .cons _ ?_)) rfl (by kernel_rfl) (ys_call call65 (.cons (.t rfl) (.cons (.t rfl) .nil)) (fun hp w W => c65 _ _ _)) rfl fun a w S => h_q (i := 11) S (by repeat (first | exact List.Sublist.refl _ | exact List.nil_sublist _ | refine .cons_cons _ ?_ | refine .cons _ ?_)) rfl (by kernel_rfl) (ys_call call66 (.cons (.t rfl) (.cons (.t rfl) .nil)) (fun hp w W => c66 _ _ _)) rfl fun a w S => h_q (i := 18) S (by repeat (first | exact List.Sublist.refl _ | exact List.nil_sublist _ | refine .cons_cons _ ?_ | refine .cons _ ?_)) rfl (by kernel_rfl) (ys_call call66 (.cons (.t rfl) (.cons (.t rfl) .nil)) (fun hp w W => c66 _ _ _)) rfl fun a w S => ?_
  (refine h_m (i := 19) rfl (by kernel_rfl) (op_bsliceZ (ps := [(0, Go.Operand.tmp 9), (1, Go.Operand.tmp 16), (2, Go.Operand.tmp 23)]) (us := [_, _, _]) S underlying127 sizeOf3 zeroValue3 rfl rfl (.cons (.t rfl) (.cons (.t rfl) (.cons (.t rfl) .nil))) rfl rfl ?_); clear S a w; intro g3 a w S; refine h_n2 S ?_)
  refine h_q (i := 20) S (by repeat (first | exact List.Sublist.refl _ | exact List.nil_sublist _ | refine .cons_cons _ ?_ | refine .cons _ ?_)) rfl (by kernel_rfl) (ys_call call64 (.cons (.t rfl) .nil) (fun hp w W => d64 _ _ _ _ _ (by exact Wd.cell W (k := 0) rfl rfl) (by exact Wd.cell W (k := 0) rfl rfl) (by exact Wd.cell W (k := 0) rfl rfl))) rfl fun a w S => hy 21 S rfl (ys_assign (.t rfl)) rfl fun a w S => h_done (by kernel_rfl) (then_normal (hK1 _ _ (wp_ret (st_ret S (results1 S results30 (Rv.tmp rfl)) ?_))))
  exact ⟨by rw [ord_or], S.wd.below⟩
end Go.Proofs.Ytakpdbmdfnialaa
set_option linter.unusedVariables false
set_option linter.unusedSimpArgs false
set_option maxRecDepth 100000
namespace Go.Proofs.Ytakpdbmdfnialaa
open Go.Fw Go.Proofs Go.RowKit Go.Proofs.Try
set_option maxHeartbeats 1000000 in
theorem k31 {α : Type} {enc : α → List Value} (he : ∀ x, (enc x).length = 4) (h1 : ∀ x, ∀ u ∈ enc x, u.oneCell' = true) {w0 w : World} {L : List Chunk} {A : Option Addr} {cap gv : Nat} {l : List α} {x : α} {vs : List Value} {E' : TypeId}
    (W : Wd w0 (rowOf 74 4 enc A cap l :: .blk gv (.cells vs.toArray E') :: L) w) (hvs : vs = enc x) (i : Nat) (hi : i ≤ l.length) (hn : l.length ≤ 4194304) :
    RetsO Try.prog 31 #[.slice A l.length cap, .int .i64 (i : Int), .slice (some ⟨gv, 0, none⟩) 1 1] w0 w fun v L' => ∃ A' c', v = .slice A' (l.length + 1) c' ∧ L' = rowOf 74 4 enc A' c' (l.take i ++ x :: l.drop i) :: L := by
  obtain ⟨hlc, hcm⟩ := W.room (k := 0) rfl
  have hf1 : ∀ u ∈ l.flatMap enc, u.oneCell' = true := fun u hu => by
    obtain ⟨y, _, hy⟩ := List.mem_flatMap.1 hu
    exact h1 y u hy
  have hd1 : ∀ u ∈ (l.drop i).flatMap enc, u.oneCell' = true := fun u hu => by
    obtain ⟨y, _, hy⟩ := List.mem_flatMap.1 hu
    exact h1 y u hy
  have hx := he x
  have hfl := flat_len he l
  have hdl := flat_len he (l.drop i)
  have hdi : (l.drop i).length = l.length - i := List.length_drop
  have rw_1 : ((1 : Nat) : Int) = 1 := rfl
  unfold RetsO
  refine enterW3 W func31 rfl ntmps31 rfl fun a S => ?_
  by_cases hil : i = l.length
  · refine sg S (.ac rfl <| .z) fun a w S => sg S (.mv rfl <| .mv rfl <| .yy (ys_slLo underlying34 sizeOf74 (.t rfl) (.t rfl) (fun _ => by first | omega | (simp; done) | (simp; omega))) rfl <| .z) fun a w S => wp_seq_k fun _ hK1 => wp_region_lit (run S (.mv rfl <| .ln underlying34 rfl <| .z) fun a w S => ?_)
    rw [rw_1] at S
    refine run S (.as rfl <| .z) fun a w S => st_nil (then_normal (hK1 _ _ (wp_seq_k fun _ hK1 => sg S (.mv rfl <| .yy (ys_F (by omega) (ys_eql (.t rfl) Ev.c)) rfl <| .z) fun a w S => st_else S (.t rfl) (wp_skip (then_normal (hK1 _ _ (sg S (.mv rfl <| .ln underlying34 rfl <| .as rfl <| .z) fun a w S => wp_seq_k fun _ hK1 => sg S (.mv rfl <| .mv rfl <| .yy (ys_T (by omega) (ys_eql (.t rfl) (.t rfl))) rfl <| .z) fun a w S => st_then S (.t rfl) (wp_seq_k fun _ hK2 => wp_region_lit (run S (.mv rfl <| .mv rfl <| .z) fun a w S => ?_)))))))))
    refine st_m (op_extend [x] S underlying34 underlying34 (.inr ⟨_, rfl⟩) inf74 rfl (k := 0) rfl (.t rfl) (.t rfl) (by
      have h := Src.blk (P := Try.prog) (size := 4) (m := 1) (c := 1) S.wd (k := 1) rfl (by rw [hvs, he]) (by rw [hvs]; exact h1 x)
      simpa [hvs] using h) (by simp; omega) rfl rfl rfl ?_)
    clear S
    intro A1 cap1 a w S
    refine run S (.as rfl <| .z) fun a w S => st_nil (then_normal (hK2 _ _ (wp_ret (then_ret (st_ret S (results1 S results31 (Rv.tmp rfl)) ?_)))))
    refine ⟨_, rowOf 74 4 enc A1 cap1 (l ++ [x]) :: L, rfl, S.wd.sub (by repeat (first | exact List.Sublist.refl _ | exact List.nil_sublist _ | refine .cons_cons _ ?_ | refine .cons _ ?_)), A1, cap1, by simp, ?_⟩
    rw [hil, List.take_length, List.drop_length]
  by_cases hroom : l.length + 1 ≤ cap
  · have rw_2 : (l.length : Int) + 1 = ((l.length + 1 : Nat) : Int) := by omega
    have rw_3 : (i : Int) + 1 = ((i + 1 : Nat) : Int) := by omega
    obtain ⟨g, cs, rfl, hcs, _, hcm', htk, W2⟩ := S.wd.open_row (k := 0) rfl (by omega)
    replace S := St.mk S.kn W2
    clear W W2
    have hlen : cs.length = cap * 4 := hcs
    refine sg S (.ac rfl <| .z) fun a w S => sg S (.mv rfl <| .mv rfl <| .yy (ys_slLoB underlying34 sizeOf74 (.t rfl) (.t rfl) (fun _ => by omega)) rfl <| .z) fun a w S => wp_seq_k fun _ hK1 => wp_region_lit (run S (.mv rfl <| .ln underlying34 rfl <| .z) fun a w S => ?_)
    rw [rw_1] at S
    refine run S (.as rfl <| .z) fun a w S => st_nil (then_normal (hK1 _ _ (wp_seq_k fun _ hK1 => sg S (.mv rfl <| .yy (ys_F (by omega) (ys_eql (.t rfl) Ev.c)) rfl <| .z) fun a w S => st_else S (.t rfl) (wp_skip (then_normal (hK1 _ _ (sg S (.mv rfl <| .ln underlying34 rfl <| .as rfl <| .z) fun a w S => wp_seq_k fun _ hK1 => sg S (.mv rfl <| .mv rfl <| .yy (ys_F (by omega) (ys_eql (.t rfl) (.t rfl))) rfl <| .z) fun a w S => st_else S (.t rfl) (wp_skip (then_normal (hK1 _ _ (wp_seq_k fun _ hK1 => wp_seq_k fun _ hK2 => wp_region_lit (run S (.mv rfl <| .mv rfl <| .yy (ys_addI (.t rfl) (.t rfl) (fun _ => by unfold I64; omega)) rfl <| .z) fun a w S => ?_))))))))))))
    rw [rw_2] at S
    refine run S (.mv rfl <| .yy (ys_cap underlying34 (.t rfl)) rfl <| .yy (ys_F (by omega) (ys_gtr (.t rfl) (.t rfl))) rfl <| .z) fun a w S => st_nil (then_normal (hK2 _ _ (st_else S (.t rfl) (wp_skip (then_normal (hK1 _ _ (wp_seq_k fun _ hK1 => wp_region_lit (run S (.mv rfl <| .mv rfl <| .mv rfl <| .yy (ys_addI (.t rfl) (.t rfl) (fun _ => by unfold I64; omega)) rfl <| .z) fun a w S => ?_))))))))
    rw [rw_2] at S
    refine run S (.yy (ys_slHi underlying34 sizeOf74 (.t rfl) (.t rfl) (fun _ => by first | omega | (simp; done) | (simp; omega))) rfl <| .as rfl <| .z) fun a w S => st_nil (then_normal (hK1 _ _ (wp_seq_k fun _ hK1 => wp_seq_k fun _ hK2 => wp_region_lit (run S (.mv rfl <| .mv rfl <| .mv rfl <| .mv rfl <| .yy (ys_addI (.t rfl) (.t rfl) (fun _ => by unfold I64; omega)) rfl <| .z) fun a w S => ?_))))
    rw [rw_3] at S
    refine run S (.yy (ys_slLoB underlying34 sizeOf74 (.t rfl) (.t rfl) (fun _ => by omega)) rfl <| .z) fun a w S => st_y S (Yr.ys (ys_overlaps (tS := 34) (tR := 4) (ka := 1) (kb := 0) func67 (by kernel_rfl) (by kernel_rfl) (by kernel_rfl) (by kernel_rfl) underlying34 sizeOf74 (.t rfl) (.t rfl) rfl rfl (by decide) (fun h => by rw [h] at hlen; simp at hlen; omega))) rfl ?_
    clear S
    intro a w S
    refine run S (.nt rfl <| .z) fun a w S => st_nil (then_normal (hK2 _ _ (st_then S (.t rfl) (wp_seq_k fun _ hK2 => h_begin S (by kernel_rfl) [] fun a w S => hy 0 S rfl (ys_move (.t rfl)) rfl fun a w S => hy 1 S rfl (ys_move (.t rfl)) rfl fun a w S => hy 2 S rfl (ys_move (.t rfl)) rfl fun a w S => hy 3 S rfl (ys_addI (.t rfl) (.t rfl) (fun _ => by unfold I64; omega)) rfl fun a w S => ?_))))
    rw [rw_3] at S
    refine hy 4 S rfl (ys_slLoB underlying34 sizeOf74 (.t rfl) (.t rfl) (fun _ => by omega)) rfl fun a w S => hy 5 S rfl (ys_move (.t rfl)) rfl fun a w S => hy 6 S rfl (ys_move (.t rfl)) rfl fun a w S => hy 7 S rfl (ys_slLoB underlying34 sizeOf74 (.t rfl) (.t rfl) (fun _ => by omega)) rfl fun a w S => ?_
    have hnew : (cs.drop (0 + i * 4)).take ((l.length - i) * 4) = (l.drop i).flatMap enc := by
      rw [← flat_drop he, ← htk, Nat.zero_add, List.drop_take, ← Nat.sub_mul]
    refine h_m (i := 8) rfl (by kernel_rfl) (op_copyG (m := l.length - i) (q := l.length + 1 - i) S underlying34 sizeOf74 (.t rfl) (.t rfl) (k := 0) rfl (fun W => rfl) (by omega) (first_blk S.wd (k := 0) rfl (by omega)) (by rw [hnew]; omega) (by rw [hnew]; exact hd1) rfl ?_)
    clear S
    intro a w S
    refine h_n1 S ?_
    rw [hnew] at S
    refine h_done (by kernel_rfl) (then_normal (hK2 _ _ (wp_seq_k fun _ hK2 => wp_region_lit (run S (.mv rfl <| .mv rfl <| .yy (ys_slLoB underlying34 sizeOf74 (.t rfl) (.t rfl) (fun _ => by omega)) rfl <| .mv rfl <| .z) fun a w S => st_m (op_copyG (m := 1) (q := 1) S underlying34 sizeOf74 (.t rfl) (.t rfl) (k := 0) rfl (fun W => rfl) (by omega) (first_blk S.wd (k := 1) rfl (by rw [hvs]; omega)) (by rw [lay_len, hvs]; simp; omega) (by rw [hvs]; exact fun u hu => h1 x u (by simpa using List.mem_of_mem_take hu)) rfl ?_)))))
    clear S
    intro a w S
    have hv3 : (vs.drop 0).take (1 * 4) = enc x := by rw [List.drop_zero, hvs, List.take_of_length_le (by omega)]
    rw [hv3] at S
    refine st_nil ?_
    rw [rw_1] at S
    refine then_normal (hK2 _ _ (sg S (.mv rfl <| .as rfl <| .z) fun a w S => wp_ret (then_ret (st_ret S (results1 S results31 (Rv.tmp rfl)) ?_))))
    have hfin := (ins_cells (cs := cs) (a := (l.take i).flatMap enc) (x := enc x) (d := (l.drop i).flatMap enc) (o := 0 + i * 4) (by rw [Nat.zero_add, ← flat_take he, ← htk, List.take_take, Nat.min_eq_left (Nat.mul_le_mul_right _ hi)]) (by omega) (by omega)).2
    have W3 := S.wd.close_row (k := 0) rfl (size := 4) (l.length + 1) cap ((l.take i ++ x :: l.drop i).flatMap enc) (by omega) (by rw [lay_len, lay_len]; exact hlen) (by omega) hcm' (by
      rw [List.flatMap_append, List.flatMap_cons, ← List.append_assoc, ← hfin, hx]
      rw [show (i + 1) * 4 = i * 4 + 4 by omega, Nat.zero_add, Nat.zero_add, Nat.add_assoc (i * 4) 4]
      congr 1
      omega)
    refine ⟨_, .row 74 4 (some ⟨g, 0, none⟩) (l.length + 1) cap ((l.take i ++ x :: l.drop i).flatMap enc) :: L, rfl, W3.sub (by repeat (first | exact List.Sublist.refl _ | exact List.nil_sublist _ | refine .cons_cons _ ?_ | refine .cons _ ?_)), some ⟨g, 0, none⟩, cap, rfl, ?_⟩
    simp only [rowOf]
    congr 2
    simp; omega
  · have rw_4 : (l.length : Int) + 1 - i = ((l.length + 1 - i : Nat) : Int) := by omega
    have rw_3 : (i : Int) + 1 = ((i + 1 : Nat) : Int) := by omega
    obtain ⟨ga, rfl⟩ := S.wd.row_at (k := 0) rfl (by omega)
    clear W
    refine sg S (.ac rfl <| .z) fun a w S => sg S (.mv rfl <| .mv rfl <| .yy (ys_slLoB underlying34 sizeOf74 (.t rfl) (.t rfl) (fun _ => by omega)) rfl <| .z) fun a w S => wp_seq_k fun _ hK1 => wp_region_lit (run S (.mv rfl <| .ln underlying34 rfl <| .z) fun a w S => ?_)
    rw [rw_1] at S
    refine run S (.as rfl <| .z) fun a w S => st_nil (then_normal (hK1 _ _ (wp_seq_k fun _ hK1 => sg S (.mv rfl <| .yy (ys_F (by omega) (ys_eql (.t rfl) Ev.c)) rfl <| .z) fun a w S => st_else S (.t rfl) (wp_skip (then_normal (hK1 _ _ (sg S (.mv rfl <| .ln underlying34 rfl <| .as rfl <| .z) fun a w S => wp_seq_k fun _ hK1 => sg S (.mv rfl <| .mv rfl <| .yy (ys_F (by omega) (ys_eql (.t rfl) (.t rfl))) rfl <| .z) fun a w S => st_else S (.t rfl) (wp_skip (then_normal (hK1 _ _ (wp_seq_k fun _ hK1 => sg S (.mv rfl <| .mv rfl <| .yy (ys_addI (.t rfl) (.t rfl) (fun _ => by unfold I64; omega)) rfl <| .mv rfl <| .yy (ys_cap underlying34 (.t rfl)) rfl <| .yy (ys_T (by omega) (ys_gtr (.t rfl) (.t rfl))) rfl <| .z) fun a w S => st_then S (.t rfl) (wp_seq_k fun _ hK2 => wp_region_lit (run S (.mv rfl <| .mv rfl <| .yy (ys_slHi underlying34 sizeOf74 (.t rfl) (.t rfl) (fun _ => by first | omega | (simp; done) | (simp; omega))) rfl <| .mv rfl <| .mv rfl <| .yy (ys_addI (.t rfl) (.t rfl) (fun _ => by unfold I64; omega)) rfl <| .mv rfl <| .yy (ys_subI (.t rfl) (.t rfl) (fun _ => by unfold I64; omega)) rfl <| .z) fun a w S => ?_)))))))))))))
    rw [rw_4] at S
    refine st_m (op_appZ (i := i) (z := l.length + 1 - i) S underlying34 underlying3 inf74 rfl (by simp [Value.cells, Value.oneCell']) (k := 0) rfl (.t rfl) (.t rfl) hi (by omega) (by omega) rfl rfl hf1 rfl ?_)
    clear S
    intro g cs cap' a w hcs hcap' hcm' htk hcs1 S
    have hlen : cs.length = cap' * 4 := hcs
    clear hcs
    refine run S (.as rfl <| .z) fun a w S => st_nil (then_normal (hK2 _ _ (wp_seq_k fun _ hK2 => wp_region_lit (run S (.mv rfl <| .mv rfl <| .yy (ys_slLoB underlying34 sizeOf74 (.t rfl) (.t rfl) (fun _ => by omega)) rfl <| .mv rfl <| .z) fun a w S => st_m (op_copyG (m := 1) (q := 1) S underlying34 sizeOf74 (.t rfl) (.t rfl) (k := 0) rfl (fun W => rfl) (by omega) (first_blk S.wd (k := 2) rfl (by rw [hvs]; omega)) (by rw [hvs]; simp; omega) (by rw [hvs]; exact fun u hu => h1 x u (by simpa using List.mem_of_mem_take hu)) rfl ?_)))))
    clear S
    intro a w S
    have hv3 : (vs.drop 0).take (1 * 4) = enc x := by rw [List.drop_zero, hvs, List.take_of_length_le (by omega)]
    rw [hv3] at S
    refine st_nil ?_
    rw [rw_1] at S
    refine then_normal (hK2 _ _ (wp_seq_k fun _ hK2 => h_begin S (by kernel_rfl) [] fun a w S => hy 0 S rfl (ys_move (.t rfl)) rfl fun a w S => hy 1 S rfl (ys_move (.t rfl)) rfl fun a w S => hy 2 S rfl (ys_move (.t rfl)) rfl fun a w S => hy 3 S rfl (ys_addI (.t rfl) (.t rfl) (fun _ => by unfold I64; omega)) rfl fun a w S => ?_))
    rw [rw_3] at S
    refine hy 4 S rfl (ys_slLoB underlying34 sizeOf74 (.t rfl) (.t rfl) (fun _ => by omega)) rfl fun a w S => hy 5 S rfl (ys_move (.t rfl)) rfl fun a w S => hy 6 S rfl (ys_move (.t rfl)) rfl fun a w S => hy 7 S rfl (ys_slLoB underlying34 sizeOf74 (.t rfl) (.t rfl) (fun _ => by omega)) rfl fun a w S => ?_
    have hnew : (l.drop i).take (l.length - i) = l.drop i := List.take_of_length_le (by simp)
    refine h_m (i := 8) rfl (by kernel_rfl) (op_copyG (m := l.length - i) (q := l.length - i) S underlying34 sizeOf74 (.t rfl) (.t rfl) (k := 0) rfl (fun W => rfl) (by omega) (first_row he S.wd (k := 1) rfl (by omega)) (by rw [hnew, lay_len]; omega) (by rw [hnew]; exact hd1) rfl ?_)
    clear S
    intro a w S
    refine h_n1 S ?_
    rw [hnew] at S
    refine h_done (by kernel_rfl) (then_normal (hK2 _ _ (sg S (.mv rfl <| .as rfl <| .z) fun a w S => wp_ret (then_ret (st_ret S (results1 S results31 (Rv.tmp rfl)) ?_)))))
    have hfin := (ins_cells (cs := cs) (a := (l.take i).flatMap enc) (x := enc x) (d := (l.drop i).flatMap enc) (o := 0 + i * 4) (by rw [Nat.zero_add, htk, flat_take he]) (by omega) (by omega)).1
    have W3 := S.wd.close_row (k := 0) rfl (size := 4) (l.length + 1) cap' ((l.take i ++ x :: l.drop i).flatMap enc) (by omega) (by rw [lay_len, lay_len]; exact hlen) (by omega) hcm' (by
      rw [List.flatMap_append, List.flatMap_cons, ← List.append_assoc, ← hfin, hx]
      rw [show (i + 1) * 4 = i * 4 + 4 by omega, Nat.zero_add, Nat.zero_add, Nat.add_assoc (i * 4) 4]
      congr 1
      omega)
    refine ⟨_, .row 74 4 (some ⟨g, 0, none⟩) (l.length + 1) cap' ((l.take i ++ x :: l.drop i).flatMap enc) :: L, rfl, W3.sub (by repeat (first | exact List.Sublist.refl _ | exact List.nil_sublist _ | refine .cons_cons _ ?_ | refine .cons _ ?_)), some ⟨g, 0, none⟩, cap', ?_, ?_⟩
    · congr 1
      omega
    · simp only [rowOf]
      congr 2
      simp; omega
end Go.Proofs.Ytakpdbmdfnialaa
set_option linter.unusedVariables false
set_option linter.unusedSimpArgs false
namespace Go.Fw
open Go.RowKit
def SlIn {α : Type} (enc : α → List Value) (size : Nat) (w1 : World) (bs : List Nat) (v : Value) (l : List α) : Prop :=
  ∃ A cap, v = .slice A l.length cap ∧ l.length ≤ cap ∧ cap ≤ 9223372036854775807 ∧ (0 < l.length → ∃ g o, A = some ⟨g, o, none⟩ ∧ g ∈ bs ∧ ∀ k x, l[k]? = some x → ∀ j u, (enc x)[j]? = some u → w1.cell? ⟨g, o + k * size + j, none⟩ = some u)
def Chunk.blocks : Chunk → List Nat
  | .blk b _ => [b]
  | .row _ _ A _ cap _ => if cap = 0 then [] else (A.map (·.block)).toList
  | .ice _ bs => bs
section
variable {w0 w w1 : World} {L cs : List Chunk} {k e size : Nat} {bs bs' : List Nat}
variable {α : Type} {enc : α → List Value} {v : Value} {l : List α}
theorem ice_cell (W : Wd w0 L w) (hk : L[k]? = some (.ice w1 bs)) {g o : Nat} (hg : g ∈ bs) : w.cell? ⟨g, o, none⟩ = w1.cell? ⟨g, o, none⟩ := by
  have h := (W.get hk g hg).2.2
  simp only [World.cell?, h]
theorem SlIn.sl (h : SlIn enc size w1 bs v l) (W : Wd w0 L w) (hk : L[k]? = some (.ice w1 bs)) : Sl enc size w w.heap.size v l := by
  obtain ⟨A, cap, rfl, h1, h2, h3⟩ := h
  refine ⟨A, cap, rfl, h1, h2, fun hp => ?_⟩
  obtain ⟨g, o, rfl, hg, hc⟩ := h3 hp
  exact ⟨g, o, rfl, (W.get hk g hg).2.1, fun k x hx j u hu => (ice_cell W hk hg).trans (hc k x hx j u hu)⟩
theorem SlIn.row {A : Option Addr} {cap : Nat} (W : Wd w0 L w) (hk : L[k]? = some (rowOf e size enc A cap l)) (he : ∀ x, (enc x).length = size) (hb : ∀ b ∈ Chunk.blocks (rowOf e size enc A cap l), b ∈ bs') : SlIn enc size w bs' (.slice A l.length cap) l := by
  obtain ⟨A', cap', hv, h1, h2, h3⟩ := Sl.of_own W hk he
  cases hv
  refine ⟨A, cap, rfl, h1, h2, fun hp => ?_⟩
  obtain ⟨g, o, rfl, hg, hc⟩ := h3 hp
  exact ⟨g, o, rfl, hb g (by simp [Chunk.blocks, rowOf, show cap ≠ 0 by omega]), hc⟩
theorem SlIn.nil_ {c : Nat} : SlIn enc size w1 bs (.slice none 0 0) [] := ⟨none, 0, rfl, by simp, by simp, fun h => by simp at h⟩
end
structure Sls3 where
  a1 : Option Addr
  n1 : Nat
  c1 : Nat
  a2 : Option Addr
  n2 : Nat
  c2 : Nat
  a3 : Option Addr
  n3 : Nat
  c3 : Nat
abbrev SCart := Cart × Sls3
abbrev SUpd := Upd × Sls3
abbrev SCart.enc (p : SCart) : List Value := [.slice p.2.a1 p.2.n1 p.2.c1, .slice p.2.a2 p.2.n2 p.2.c2, .slice p.2.a3 p.2.n3 p.2.c3]
theorem SCart.enc_len (p : SCart) : (SCart.enc p).length = 3 := rfl
theorem SCart.enc_one (p : SCart) : ∀ u ∈ SCart.enc p, u.oneCell' = true := fun u hu => by simp [SCart.enc] at hu; rcases hu with rfl | rfl | rfl <;> rfl
abbrev SUpd.enc (p : SUpd) : List Value := Upd.enc p.1 (.slice p.2.a1 p.2.n1 p.2.c1) (.slice p.2.a2 p.2.n2 p.2.c2) (.slice p.2.a3 p.2.n3 p.2.c3)
theorem SUpd.enc_len (p : SUpd) : (SUpd.enc p).length = 10 := rfl
theorem SUpd.enc_one (p : SUpd) : ∀ u ∈ SUpd.enc p, u.oneCell' = true := fun u hu => by simp [SUpd.enc, Upd.enc] at hu; rcases hu with rfl | rfl | rfl | rfl | rfl | rfl | rfl | rfl | rfl | rfl <;> rfl
structure CartRd (w : World) (X : Cart) (s : Sls3) : Prop where
  ents : Sl Ent.enc 6 w w.heap.size (.slice s.a1 s.n1 s.c1) X.ents
  marks : Sl Dot.enc 3 w w.heap.size (.slice s.a2 s.n2 s.c2) X.ctx.marks
  cloud : Sl Dot.enc 3 w w.heap.size (.slice s.a3 s.n3 s.c3) X.ctx.cloud
section
variable {w0 w w1 : World} {L : List Chunk} {k : Nat} {bs bs' : List Nat} {X : Cart} {s : Sls3}
theorem CartRd.ctx (h : CartRd w X s) : RdCtx w w.heap.size (.slice s.a2 s.n2 s.c2) (.slice s.a3 s.n3 s.c3) X.ctx := ⟨h.marks, h.cloud⟩
end
end Go.Fw
set_option linter.unusedVariables false
set_option linter.unusedSimpArgs false
set_option maxRecDepth 100000
set_option maxHeartbeats 4000000
namespace Go.Fw
theorem marksG_yes {l : List Gon} {k : List UInt8} {i : Nat} {x : Gon} (h : l[i]? = some x) (hk : x.key = k) : marksG (l.take (i + 1)) k = marksG (l.take i) k ++ [x.dt] := by
  unfold marksG
  rw [List.take_add_one, h, Option.toList_some, List.filter_append, List.map_append]
  simp [hk]
theorem marksG_no {l : List Gon} {k : List UInt8} {i : Nat} {x : Gon} (h : l[i]? = some x) (hk : ¬ x.key = k) : marksG (l.take (i + 1)) k = marksG (l.take i) k := by
  unfold marksG
  rw [List.take_add_one, h, Option.toList_some, List.filter_append, List.map_append]
  simp [hk]
theorem marksG_take (l : List Gon) (k : List UInt8) (i : Nat) : (marksG (l.take i) k).length ≤ l.length := by
  have := marksG_len (l.take i) k
  rw [List.length_take] at this
  omega
end Go.Fw
namespace Go.Proofs.Ytakpdbmdfnialaa
open Go.Fw Go.Proofs Go.RowKit Go.Proofs.Try
theorem c32 (w0 : World) (v1 : Value) (l : List Gon) (h : Sl Gon.enc 4 w0 w0.heap.size v1 l) (hn : l.length ≤ 4194304) :
    Rets Try.prog 32 #[v1] w0 fun v L => ∃ A c, v = .slice A l.length c ∧ L = [rowOf 74 4 Gon.enc A c l] := by
  have h0 := h
  obtain ⟨A, cap, rfl, hl, hcap, hA⟩ := h
  unfold Go.Fw.Rets
  refine enter1 func32 rfl ntmps32 rfl fun a S => sg S (.ac rfl <| .z) fun a w S => wp_seq_k fun _ hK1 => sg S (.mv rfl <| .yy (ys_sNil underlying34 (.t rfl) Ev.c) rfl <| .z) fun a w S => ?_
  refine st_cond S (.t rfl) (fun h1 => ?_) (fun h1 => ?_)
  refine sg S (.ac rfl <| .z) fun a w S => wp_ret (then_ret (st_ret S (results1 S results32 (Rv.tmp rfl)) ?_))
  rotate_left
  refine wp_skip (then_normal (hK1 _ _ (wp_seq_k fun _ hK1 => wp_region_lit (st_m (op_bslice0 S underlying34 sizeOf74 rfl fun g1 a w S => run S (.mv rfl <| .z) fun a w S => st_m (op_extend _ (S.nil_ 74 _ Go.Fw.Gon.enc _) underlying34 underlying34 (.inr ⟨_, rfl⟩) inf74 rfl (k := 0) rfl (.t rfl) (.t rfl) (Src.sl (Sl.old S.wd h0) (by decide) Go.Fw.Gon.enc_len Go.Fw.Gon.enc_one) (by first | omega | (simp only [List.length_append, List.length_cons, List.length_nil]; omega) | (simp; omega)) rfl rfl rfl fun A1 cap1 a w S => ?_))))))
  simp only [List.nil_append] at S
  refine run S (.as rfl <| .z) fun a w S => st_nil (then_normal (hK1 _ _ (wp_ret (st_ret S (results1 S results32 (Rv.tmp rfl)) ?_))))
  rotate_left
  · have hnil : l = [] := by
      refine List.eq_nil_of_length_eq_zero (Decidable.byContradiction fun hne => ?_)
      obtain ⟨g, o, rfl, _⟩ := hA (by omega)
      cases h1
    subst hnil
    exact ⟨_, _, rfl, (S.nil_ 74 4 Gon.enc none).wd.sub (by repeat (first | exact List.Sublist.refl _ | exact List.nil_sublist _ | refine .cons_cons _ ?_ | refine .cons _ ?_)), none, 0, rfl, rfl⟩
  · try simp only [List.nil_append] at S ⊢
    exact ⟨_, _, rfl, S.wd.sub (by repeat (first | exact List.Sublist.refl _ | exact List.nil_sublist _ | refine .cons_cons _ ?_ | refine .cons _ ?_)), _, _, rfl, rfl⟩
theorem c21 (w0 : World) (g : Nat) (b : Bool) (h : w0.cell? ⟨g, 0, none⟩ = some (.bool b)) :
    Calls Try.prog 21 #[.pointer (some ⟨g, 0, none⟩)] w0 fun e w' => e = .returned (.bool b) ∧ Bel w0.heap.size w0 w' := by
  refine enter1 func21 rfl ntmps21 rfl fun a S => sg S (.ac rfl <| .z) fun a w S => sg S (.mv rfl <| .yy (ys_pNotS underlying33 (.t rfl) Ev.c) rfl <| .mv rfl <| .gy rfl rfl (ys_move (.t rfl)) <| .gy rfl rfl (ys_nilc (.t rfl)) <| .gy rfl rfl (ys_fieldN (FieldT.mk underlying36 rfl sizeOf4 rfl) (.t rfl) (i' := 0) rfl) <| .gy rfl rfl (ys_ldO ⟨isAgg4, sizeOf4⟩ (.t rfl) (fun _ => h)) <| .yy (ys_pickT (.t rfl) (.t rfl)) rfl <| .as rfl <| .z) fun a w S => wp_ret (st_ret S (results1 S results21 (Rv.tmp rfl)) ?_)
  exact ⟨rfl, S.wd.below⟩
theorem d21 (w0 : World) : Calls Try.prog 21 #[.pointer none] w0 fun e w' => e = .returned (.bool false) ∧ Bel w0.heap.size w0 w' := by
  refine enter1 func21 rfl ntmps21 rfl fun a S => sg S (.ac rfl <| .z) fun a w S => sg S (.mv rfl <| .yy (ys_pNotN underlying33 (.t rfl) Ev.c) rfl <| .mv rfl <| .sk rfl rfl rfl <| .sk rfl rfl rfl <| .sk rfl rfl rfl <| .sk rfl rfl rfl <| .yy (ys_pickF (.t rfl) Ev.c) rfl <| .as rfl <| .z) fun a w S => wp_ret (st_ret S (results1 S results21 (Rv.tmp rfl)) ?_)
  exact ⟨rfl, S.wd.below⟩
theorem c11 (w0 : World) (g : Nat) (v : Value) (l : List Gon) (h0 : w0.cell? ⟨g, 0, none⟩ = some (.bool true)) (h1 : w0.cell? ⟨g, 1, none⟩ = some v) (h : Sl Gon.enc 4 w0 w0.heap.size v l) (hn : l.length ≤ 4194304) :
    Rets Try.prog 11 #[.pointer (some ⟨g, 0, none⟩)] w0 fun v L => ∃ A c, v = .slice A l.length c ∧ L = [rowOf 74 4 Gon.enc A c l] := by
  unfold Go.Fw.Rets
  refine enter1 func11 rfl ntmps11 rfl fun a S => sg S (.ac rfl <| .z) fun a w S => wp_seq_k fun _ hK1 => sg S (.mv rfl <| .xx (ys_call call21 (.cons (.t rfl) .nil) (fun hp w W => c21 _ _ _ (by exact Wd.cellOld W (by assumption)))) rfl <| .nt rfl <| .z) fun a w S => st_else S (.t rfl) (wp_skip (then_normal (hK1 _ _ (wp_seq_k fun _ hK1 => wp_region_lit (run S (.mv rfl <| .yy (ys_nilc (.t rfl)) rfl <| .fa underlying36 sizeOf34 1 rfl rfl rfl <| .yy (ys_ldO ⟨isAgg34, sizeOf34⟩ (.t rfl) (fun _ => h1)) rfl <| .z) fun a w S => ?_)))))
  (refine st_m (op_calls S call32 (.cons (.t rfl) .nil) (c32 _ _ _ (by exact .old S.wd (by assumption)) (by assumption)) rfl ?_); clear S a w; rintro _ _ ⟨A1, c1, rfl, rfl⟩ a w S)
  refine run S (.as rfl <| .z) fun a w S => st_nil (then_normal (hK1 _ _ (wp_ret (st_ret S (results1 S results11 (Rv.tmp rfl)) ?_))))
  exact ⟨_, _, rfl, S.wd.pk, _, _, rfl, rfl⟩
theorem c10 (w0 : World) (g : Nat) (v : Value) (l : List Gon) (k : List UInt8) (h0 : w0.cell? ⟨g, 0, none⟩ = some (.bool true)) (h1 : w0.cell? ⟨g, 1, none⟩ = some v) (h : Sl Gon.enc 4 w0 w0.heap.size v l) (hn : l.length ≤ 4194304) :
    Rets Try.prog 10 #[.pointer (some ⟨g, 0, none⟩), .string (bs k)] w0 fun v L => ∃ A c, v = .slice A (marksG l k).length c ∧ L = [rowOf 23 3 Dot.enc A c (marksG l k)] := by
  unfold Go.Fw.Rets
  refine enter2 func10 rfl ntmps10 rfl fun a S => sg S (.ac rfl <| .z) fun a w S => sg S (.ac rfl <| .z) fun a w S => wp_seq_k fun _ hK1 => wp_seq_k fun _ hK2 => wp_region_lit (run S (.mv rfl <| .z) fun a w S => ?_)
  (refine st_m (op_calls S call11 (.cons (.t rfl) .nil) (c11 _ _ _ _ (by exact Wd.cellOld S.wd (by assumption)) (by exact Wd.cellOld S.wd (by assumption)) (by exact .old S.wd (by assumption)) (by assumption)) rfl ?_); clear S a w; rintro _ _ ⟨A1, c1, rfl, rfl⟩ a w S)
  refine run S (.ln underlying34 rfl <| .mc rfl <| .z) fun a w S => st_nil (then_normal (hK2 _ _ (wp_block ?_)))
  refine st_lpM (S.nil_ 23 3 Dot.enc none) [5, 11] (X := Nat × Option Addr × Nat) (fun q => [(5, true, .slice q.2.1 (marksG (l.take q.1) k).length q.2.2), (11, true, .int .i64 (q.1 : Int))])
    (fun q => [rowOf 23 3 Dot.enc q.2.1 q.2.2 (marksG (l.take q.1) k), rowOf 74 4 Gon.enc A1 c1 l]) (fun q => q.1 ≤ l.length) (fun q => l.length - q.1) (0, none, 0) (Nat.zero_le _) ?_
  clear S
  rintro ⟨i, B, cB⟩ a w hi S
  dsimp only at hi S
  have hml := marksG_take l k i
  by_cases hlt : i < l.length
  · obtain ⟨ga, rfl⟩ := S.wd.row_at (k := 1) rfl (by have := (S.wd.room (k := 1) rfl).1; omega)
    obtain ⟨x, hx⟩ : ∃ x, l[i]? = some x := ⟨l[i], List.getElem?_eq_getElem hlt⟩
    by_cases hk : x.key = k
    · have rw_k := decide_eq_true hk
      have hst := marksG_yes hx hk
      refine sg S (.lt (by omega) rfl rfl <| .z) fun a w S => wp_seq_k fun _ hK2 => st_then S (.t rfl) (wp_skip (then_normal (hK2 _ _ (wp_seq_k fun _ hK2 => wp_block (wp_seq_k fun _ hK3 => wp_region_lit (run S (.ix underlying34 sizeOf74 (by omega) rfl rfl <| .yy (ys_ldWA ⟨isAgg74, sizeOf74⟩ (.t rfl) (k := 1) rfl hx (fun _ => rfl)) rfl <| .z) fun a w S => st_m (op_alloc S zeroValue74 (cs := _) rfl rfl fun g1 a w S => st_m (op_stW S sizeOf74 (.t rfl) (.t rfl) (k := 0) rfl rfl rfl (by simp [Value.oneCell']) fun a w S => st_nil (then_normal (hK3 _ _ (wp_seq_k fun _ hK3 => wp_region_lit (run S (.fa underlying74 sizeOf9 0 rfl rfl rfl <| .ld gt9 0 rfl rfl rfl <| .mv rfl <| .yy (ys_eqlStr (.t rfl) (.t rfl)) rfl <| .z) fun a w S => ?_))))))))))))
      rw [rw_k] at S
      refine st_nil (then_normal (hK3 _ _ (st_then S (.t rfl) (wp_region_lit (run S (.mv rfl <| .fa underlying74 sizeOf23 1 rfl rfl rfl <| .la gt23 0 rfl rfl rfl <| .z) fun a w S => st_m (op_bslice1 S underlying25 inf23 rfl rfl rfl (.t rfl) rfl rfl rfl fun g2 a w S => st_m (op_push S underlying25 inf23 rfl (k := 2) (j := 0) rfl (.t rfl) (.t rfl) rfl rfl rfl rfl (by first | omega | (simp only [List.length_append, List.length_cons, List.length_nil]; omega)) rfl rfl rfl fun A1 cap1 a w S => run S (.as rfl <| .z) fun a w S => st_nil (in_normal (then_normal (hK2 _ _ (wp_region_lit (run S (.ad (by unfold I64; omega) rfl <| .mv rfl <| .z) fun a w S => st_nil (then_normal ?_)))))))))))))
      exact ⟨(i + 1, A1, cap1), by dsimp only; omega, by dsimp only; omega, by dsimp only; rw [hst]; exact S.pk⟩
    · have rw_k := decide_eq_false hk
      have hst := marksG_no hx hk
      refine sg S (.lt (by omega) rfl rfl <| .z) fun a w S => wp_seq_k fun _ hK2 => st_then S (.t rfl) (wp_skip (then_normal (hK2 _ _ (wp_seq_k fun _ hK2 => wp_block (wp_seq_k fun _ hK3 => wp_region_lit (run S (.ix underlying34 sizeOf74 (by omega) rfl rfl <| .yy (ys_ldWA ⟨isAgg74, sizeOf74⟩ (.t rfl) (k := 1) rfl hx (fun _ => rfl)) rfl <| .z) fun a w S => st_m (op_alloc S zeroValue74 (cs := _) rfl rfl fun g1 a w S => st_m (op_stW S sizeOf74 (.t rfl) (.t rfl) (k := 0) rfl rfl rfl (by simp [Value.oneCell']) fun a w S => st_nil (then_normal (hK3 _ _ (wp_seq_k fun _ hK3 => wp_region_lit (run S (.fa underlying74 sizeOf9 0 rfl rfl rfl <| .ld gt9 0 rfl rfl rfl <| .mv rfl <| .yy (ys_eqlStr (.t rfl) (.t rfl)) rfl <| .z) fun a w S => ?_))))))))))))
      rw [rw_k] at S
      refine st_nil (then_normal (hK3 _ _ (st_else S (.t rfl) (wp_skip (in_normal (then_normal (hK2 _ _ (wp_region_lit (run S (.ad (by unfold I64; omega) rfl <| .mv rfl <| .z) fun a w S => st_nil (then_normal ?_))))))))))
      exact ⟨(i + 1, B, cB), by dsimp only; omega, by dsimp only; omega, by dsimp only; rw [hst]; exact S.pk⟩
  obtain rfl : i = l.length := by omega
  rw [List.take_length] at S
  refine sg S (.ge (by omega) rfl rfl <| .z) fun a w S => wp_seq_k fun _ hK2 => st_else S (.t rfl) (wp_exit (then_exit (then_exit (in_here (then_normal (hK1 _ _ (sg S (.mv rfl <| .as rfl <| .z) fun a w S => wp_ret (st_ret S (results1 S results10 (Rv.tmp rfl)) ?_))))))))
  exact ⟨_, _, rfl, S.wd.pk, _, _, rfl, rfl⟩
theorem c34 (w0 : World) : Rets Try.prog 34 #[] w0 fun v L => ∃ g, v = .pointer (some ⟨g, 0, none⟩) ∧ L = [.blk g (.cells #[.bool true, .slice none 0 0] 36)] := by
  unfold Go.Fw.Rets
  refine enter0 func34 rfl ntmps34 rfl fun a S => sg S (.ac rfl <| .z) fun a w S => wp_seq_k fun _ hK1 => wp_region_lit (run S (.yy (ys_bld (ps := [(0, _)]) (us := [_, _]) bld36 (.cons Ev.c .nil) rfl) rfl <| .z) fun a w S => st_m (op_box S (.t rfl) rfl fun g1 a w S => run S (.as rfl <| .z) fun a w S => st_nil (then_normal (hK1 _ _ (wp_ret (st_ret S (results1 S results34 (Rv.tmp rfl)) ?_))))))
  exact ⟨_, _, rfl, S.wd.pk, _, rfl, rfl⟩
theorem c29 (w0 : World) (v1 : Value) (l : List Gon) (x : Gon) (h : Sl Gon.enc 4 w0 w0.heap.size v1 l) (hl : l.Pairwise ltG) (hn : l.length ≤ 4194304) :
    Calls Try.prog 29 #[v1, .agg (Gon.enc x).toArray, .func (.func 30) #[] #[]] w0 fun e w' => e = .returned (.tuple #[.int .i64 (posG l x : Nat), .bool (hasG l x)]) ∧ Bel w0.heap.size w0 w' := by
  obtain ⟨A, cap, rfl, hl0, hcap, hA⟩ := h
  have hpl := posG_le l x
  refine enter3 func29 rfl ntmps29 rfl fun a S => wp_seq_k fun _ hK1 => wp_region_lit (st_m (op_box S (.t rfl) rfl fun g1 a w S => run S (.ac rfl <| .ac rfl <| .z) fun a w S => st_nil (then_normal (hK1 _ _ (sg S (.mv rfl <| .ln underlying34 rfl <| .as rfl <| .z) fun a w S => sg S (.mv rfl <| .ac rfl <| .as rfl <| .z) fun a w S => wp_seq_k fun _ hK1 => wp_block ?_)))))
  refine st_lpM S [9, 10] (X := Nat × Nat) (fun q => [(9, true, .int .i64 (q.1 : Int)), (10, true, .int .i64 (q.2 : Int))]) (fun _ => [.blk g1 (.cells (Gon.enc x).toArray 74)]) (fun q => q.1 ≤ posG l x ∧ posG l x ≤ q.2 ∧ q.2 ≤ l.length) (fun q => q.2 - q.1) (0, l.length) ⟨Nat.zero_le _, hpl, Nat.le_refl _⟩ ?_
  clear S
  rintro ⟨i, j⟩ a w ⟨hi, hj, hjl⟩ S
  dsimp only at hi hj hjl S
  by_cases hlt : i < j
  · have hlt2 : (i + j) / 2 < l.length := by omega
    obtain ⟨g, o, m, rfl, hmm, hd', hc⟩ := row_at hA hlt2
    have hpos := posG_lt (e := x) hl _ m hmm
    have hol := ordG_lt (a := m) (b := x)
    clear hA
    have rw_h : ((i : Int) + j) / 2 = (((i + j) / 2 : Nat) : Int) := by omega
    have rw_h1 : (((i + j) / 2 : Nat) : Int) + 1 = (((i + j) / 2 + 1 : Nat) : Int) := rfl
    refine wp_seq_k fun _ hK2 => sg S (.mv rfl <| .mv rfl <| .lt (by omega) rfl rfl <| .z) fun a w S => st_then S (.t rfl) (wp_skip (then_normal (hK2 _ _ (wp_block (wp_seq_k fun _ hK2 => wp_region_lit (run S (.mv rfl <| .mv rfl <| .yy (ys_addI (.t rfl) (.t rfl) (fun _ => by unfold I64; omega)) rfl <| .yy (ys_cvU underlying3 underlying104 (.t rfl) (fun _ => by omega)) rfl <| .yy (ys_shrC (m := 1) (c := 2) (.t rfl) Ev.c rfl rfl) rfl <| .z) fun a w S => ?_))))))
    rw [rw_h] at S
    refine run S (.yy (ys_cvI underlying104 underlying3 (.t rfl) (fun _ => by unfold I64; omega)) rfl <| .as rfl <| .z) fun a w S => st_nil (then_normal (hK2 _ _ (wp_seq_k fun _ hK2 => st_quiet S (by kernel_rfl) (by kernel_rfl) fun a S => qrun S (.mv rfl <| .mv rfl <| .mv rfl <| .ix underlying34 sizeOf74 (by omega) rfl rfl <| .yy (ys_ldOA ⟨isAgg74, sizeOf74⟩ (.t rfl) (vs := [_, _, _, _]) rfl (fun _ => hc)) rfl <| .la gt74 0 rfl rfl rfl <| .xx (ys_callV (.t rfl) call30 (.cons (.t rfl) (.cons (.t rfl) .nil)) (fun hp w W => c30 _ _ _)) rfl <| .yy (ys_lss (.t rfl) Ev.c) rfl <| .z) fun a S => ?_)))
    (refine q_nil ?_; intro w W; replace S := St.mk S W; clear W)
    refine then_normal (hK2 _ _ ?_)
    refine st_if S (.t rfl) (fun h1 => ?_) (fun h1 => ?_)
    refine wp_region_lit (run S (.mv rfl <| .ad (by unfold I64; omega) rfl <| .z) fun a w S => ?_)
    rw [rw_h1] at S
    refine run S (.as rfl <| .z) fun a w S => st_nil (in_normal (then_normal ?_))
    rotate_left
    refine wp_region_lit (run S (.mv rfl <| .as rfl <| .z) fun a w S => st_nil (in_normal (then_normal ?_)))
    rotate_left
    · exact ⟨((i + j) / 2 + 1, j), ⟨by dsimp only; have := hpos.1 (hol.1 h1); omega, hj, hjl⟩, by dsimp only; omega, S.pk⟩
    · have : ¬ (i + j) / 2 < posG l x := fun h => h1 (hol.2 (hpos.2 h))
      exact ⟨(i, (i + j) / 2), ⟨hi, by dsimp only; omega, by dsimp only; omega⟩, by dsimp only; omega, S.pk⟩
  · obtain rfl : i = posG l x := by omega
    by_cases hin : posG l x < l.length
    · obtain ⟨g, o, m, rfl, hmm, hd', hc⟩ := row_at hA hin
      have hoe := ordG_eq (a := m) (b := x)
      clear hA
      refine wp_seq_k fun _ hK2 => sg S (.mv rfl <| .mv rfl <| .ge (by omega) rfl rfl <| .z) fun a w S => st_else S (.t rfl) (wp_exit (then_exit (then_exit (in_here (then_normal (hK1 _ _ (wp_seq_k fun _ hK1 => st_quiet S (by kernel_rfl) (by kernel_rfl) fun a S => qrun S (.mv rfl <| .mv rfl <| .mv rfl <| .lt (by omega) rfl rfl <| .mv rfl <| .gy rfl rfl (ys_move (.t rfl)) <| .gy rfl rfl (ys_move (.t rfl)) <| .gy rfl rfl (ys_move (.t rfl)) <| .gy rfl rfl (ys_ixS underlying34 sizeOf74 (.t rfl) (.t rfl) (fun _ => by omega)) <| .gy rfl rfl (ys_ldOA ⟨isAgg74, sizeOf74⟩ (.t rfl) (vs := [_, _, _, _]) rfl (fun _ => hc)) <| .gy rfl rfl (ys_ldA ⟨isAgg74, sizeOf74⟩ (.t rfl) (k := 0) rfl rfl) <| .gx rfl rfl (ys_callV (.t rfl) call30 (.cons (.t rfl) (.cons (.t rfl) .nil)) (fun hp w W => c30 _ _ _)) <| .gy rfl rfl (ys_eql (.t rfl) Ev.c) <| .yy (ys_pickT (.t rfl) (.t rfl)) rfl <| .as rfl <| .as rfl <| .z) fun a S => ?_)))))))
      (refine q_nil ?_; intro w W; replace S := St.mk S W; clear W)
      refine then_normal (hK1 _ _ (wp_ret (st_ret S (results2 S results29 (Rv.tmp rfl) (Rv.tmp rfl)) ?_)))
      refine ⟨?_, S.wd.below⟩
      have e : hasG l x = decide (ordG m x = 0) := by
        unfold hasG
        simp only [hmm]
        exact decide_eq_decide.2 hoe.symm
      rw [e]
    · refine wp_seq_k fun _ hK2 => sg S (.mv rfl <| .mv rfl <| .ge (by omega) rfl rfl <| .z) fun a w S => st_else S (.t rfl) (wp_exit (then_exit (then_exit (in_here (then_normal (hK1 _ _ (wp_seq_k fun _ hK1 => st_quiet S (by kernel_rfl) (by kernel_rfl) fun a S => qrun S (.mv rfl <| .mv rfl <| .mv rfl <| .ge (by omega) rfl rfl <| .mv rfl <| .sk rfl rfl rfl <| .sk rfl rfl rfl <| .sk rfl rfl rfl <| .sk rfl rfl rfl <| .sk rfl rfl rfl <| .sk rfl rfl rfl <| .sk rfl rfl rfl <| .sk rfl rfl rfl <| .yy (ys_pickF (.t rfl) Ev.c) rfl <| .as rfl <| .as rfl <| .z) fun a S => ?_)))))))
      (refine q_nil ?_; intro w W; replace S := St.mk S W; clear W)
      refine then_normal (hK1 _ _ (wp_ret (st_ret S (results2 S results29 (Rv.tmp rfl) (Rv.tmp rfl)) ?_)))
      refine ⟨?_, S.wd.below⟩
      have e : hasG l x = false := by
        unfold hasG
        rw [List.getElem?_eq_none (by omega)]
      rw [e]
end Go.Proofs.Ytakpdbmdfnialaa
set_option linter.unusedVariables false
set_option linter.unusedSimpArgs false
set_option maxRecDepth 100000
set_option maxHeartbeats 4000000
namespace Go.Proofs.Ytakpdbmdfnialaa
open Go.Fw Go.Proofs Go.RowKit Go.Proofs.Try
abbrev tabP (g : Nat) (A : Option Addr) (cap : Nat) (l : List Gon) (L : List Chunk) : List Chunk := .blk g (.cells #[.bool true, .slice A l.length cap] 36) :: rowOf 74 4 Gon.enc A cap l :: L
theorem c9 {w0 w : World} {L : List Chunk} {g cap : Nat} {A : Option Addr} {l : List Gon} {k : List UInt8} {x y z : Int} (W : Wd w0 (tabP g A cap l L) w) (hT : TabOk l) (hl : l.length ≤ 1048576) (hk : k.length ≤ 1048576) :
    RetsO Try.prog 9 #[.pointer (some ⟨g, 0, none⟩), .string (bs k), .agg #[.int .i64 x, .int .i64 y, .int .i64 z]] w0 w fun u L' => ∃ A2 e2, u = .int .i64 (putG l k ⟨x, y, z⟩).2 ∧ L' = tabP g A2 e2 (putG l k ⟨x, y, z⟩).1 L := by
  cases hm : mayD ⟨x, y, z⟩ with
  | false =>
    have e : putG l k ⟨x, y, z⟩ = (l, 1) := by unfold putG; rw [if_pos hm]
    have rw_m := hm
    unfold Go.Fw.RetsO
    refine enterW3 W func9 rfl ntmps9 rfl fun a S => wp_seq_k fun _ hK1 => wp_region_lit (st_m (op_box S (.t rfl) rfl fun g1 a w S => run S (.ac rfl <| .z) fun a w S => st_nil (then_normal (hK1 _ _ (wp_seq_k fun _ hK1 => wp_block (sg S (.mv rfl <| .xx (ys_call call21 (.cons (.t rfl) .nil) (fun hp w W => c21 _ _ _ (by exact Wd.cell W (k := 1) rfl rfl))) rfl <| .nt rfl <| .as rfl <| .z) fun a w S => st_else S (.t rfl) (wp_seq_k fun _ hK2 => wp_region_lit (run S (.la gt23 0 rfl rfl rfl <| .xx (ys_call call27 (.cons (.t rfl) .nil) (fun hp w W => c27 _ _ _ _)) rfl <| .z) fun a w S => ?_))))))))
    rw [rw_m] at S
    refine run S (.nt rfl <| .as rfl <| .z) fun a w S => st_nil (then_normal (hK2 _ _ (st_then S (.t rfl) (sg S (.ac rfl <| .z) fun a w S => wp_ret (in_ret (then_ret (st_ret S (results1 S results9 (Rv.tmp rfl)) ?_)))))))
    rw [e]
    exact ⟨_, _, rfl, S.wd.pk, A, cap, rfl, rfl⟩
  | true =>
    have rw_m := hm
    cases hn : nameB k with
    | false =>
      have e : putG l k ⟨x, y, z⟩ = (l, 6) := by unfold putG; rw [if_neg (by rw [hm]; simp), if_pos hn]
      have rw_n := hn
      unfold Go.Fw.RetsO
      refine enterW3 W func9 rfl ntmps9 rfl fun a S => wp_seq_k fun _ hK1 => wp_region_lit (st_m (op_box S (.t rfl) rfl fun g1 a w S => run S (.ac rfl <| .z) fun a w S => st_nil (then_normal (hK1 _ _ (wp_seq_k fun _ hK1 => wp_block (sg S (.mv rfl <| .xx (ys_call call21 (.cons (.t rfl) .nil) (fun hp w W => c21 _ _ _ (by exact Wd.cell W (k := 1) rfl rfl))) rfl <| .nt rfl <| .as rfl <| .z) fun a w S => st_else S (.t rfl) (wp_seq_k fun _ hK2 => wp_region_lit (run S (.la gt23 0 rfl rfl rfl <| .xx (ys_call call27 (.cons (.t rfl) .nil) (fun hp w W => c27 _ _ _ _)) rfl <| .z) fun a w S => ?_))))))))
      rw [rw_m] at S
      refine run S (.nt rfl <| .as rfl <| .z) fun a w S => st_nil (then_normal (hK2 _ _ (st_else S (.t rfl) (wp_seq_k fun _ hK2 => wp_region_lit (run S (.mv rfl <| .xx (ys_call call28 (.cons (.t rfl) .nil) (fun hp w W => c28 _ _ (by assumption))) rfl <| .z) fun a w S => ?_)))))
      rw [rw_n] at S
      refine run S (.nt rfl <| .as rfl <| .z) fun a w S => st_nil (then_normal (hK2 _ _ (st_then S (.t rfl) (sg S (.ac rfl <| .z) fun a w S => wp_ret (in_ret (then_ret (st_ret S (results1 S results9 (Rv.tmp rfl)) ?_)))))))
      rw [e]
      exact ⟨_, _, rfl, S.wd.pk, A, cap, rfl, rfl⟩
    | true =>
      have rw_n := hn
      have rw_e : #[Value.string (bs k), .int .i64 x, .int .i64 y, .int .i64 z] = (Gon.enc ⟨k, ⟨x, y, z⟩⟩).toArray := rfl
      have hs := hT.sorted
      have hpl := posG_le l ⟨k, ⟨x, y, z⟩⟩
      have ha := any_hasG (e := ⟨k, ⟨x, y, z⟩⟩) hs
      cases hh : hasG l ⟨k, ⟨x, y, z⟩⟩ with
      | true =>
        have rw_h := hh
        have e : putG l k ⟨x, y, z⟩ = (l, 61) := by unfold putG; rw [if_neg (by rw [hm]; simp), if_neg (by rw [hn]; simp), if_pos (by rw [← ha]; exact hh)]
        unfold Go.Fw.RetsO
        refine enterW3 W func9 rfl ntmps9 rfl fun a S => wp_seq_k fun _ hK1 => wp_region_lit (st_m (op_box S (.t rfl) rfl fun g1 a w S => run S (.ac rfl <| .z) fun a w S => st_nil (then_normal (hK1 _ _ (wp_seq_k fun _ hK1 => wp_block (sg S (.mv rfl <| .xx (ys_call call21 (.cons (.t rfl) .nil) (fun hp w W => c21 _ _ _ (by exact Wd.cell W (k := 1) rfl rfl))) rfl <| .nt rfl <| .as rfl <| .z) fun a w S => st_else S (.t rfl) (wp_seq_k fun _ hK2 => wp_region_lit (run S (.la gt23 0 rfl rfl rfl <| .xx (ys_call call27 (.cons (.t rfl) .nil) (fun hp w W => c27 _ _ _ _)) rfl <| .z) fun a w S => ?_))))))))
        rw [rw_m] at S
        refine run S (.nt rfl <| .as rfl <| .z) fun a w S => st_nil (then_normal (hK2 _ _ (st_else S (.t rfl) (wp_seq_k fun _ hK2 => wp_region_lit (run S (.mv rfl <| .xx (ys_call call28 (.cons (.t rfl) .nil) (fun hp w W => c28 _ _ (by assumption))) rfl <| .z) fun a w S => ?_)))))
        rw [rw_n] at S
        refine run S (.nt rfl <| .as rfl <| .z) fun a w S => st_nil (then_normal (hK2 _ _ (st_else S (.t rfl) (wp_skip (in_normal (then_normal (hK1 _ _ (wp_seq_k fun _ hK1 => wp_region_lit (run S (.mv rfl <| .la gt23 0 rfl rfl rfl <| .yy (ys_bld (ps := [(0, Go.Operand.tmp 22), (1, Go.Operand.tmp 23)]) (us := [_, _, _, _]) bld74 (.cons (.t rfl) (.cons (.t rfl) .nil)) rfl) rfl <| .z) fun a w S => ?_)))))))))
        rw [rw_e] at S
        refine st_m (op_alloc S zeroValue74 (cs := _) rfl rfl fun g2 a w S => ?_)
        rw [rw_e] at S
        refine st_m (op_stW S sizeOf74 (.t rfl) (.t rfl) (k := 0) rfl rfl rfl (by simp [Value.oneCell']) fun a w S => ?_)
        rw [rw_e] at S
        refine st_nil ?_
        rw [rw_e] at S
        refine then_normal (hK1 _ _ ?_)
        rw [rw_e] at S
        refine wp_seq_k fun _ hK1 => ?_
        rw [rw_e] at S
        refine st_quiet S (by kernel_rfl) (by kernel_rfl) fun a S => ?_
        rw [rw_e] at S
        refine qrun S (.mv rfl <| .z) fun a S => ?_
        rw [rw_e] at S
        refine qrun S (.yy (ys_nilc (.t rfl)) rfl <| .z) fun a S => ?_
        rw [rw_e] at S
        refine qrun S (.fa underlying36 sizeOf34 1 rfl rfl rfl <| .z) fun a S => ?_
        rw [rw_e] at S
        refine qrun S (.ld gt34 2 rfl rfl rfl <| .z) fun a S => ?_
        rw [rw_e] at S
        refine qrun S (.la gt74 0 rfl rfl rfl <| .z) fun a S => ?_
        rw [rw_e] at S
        refine qrun S (.xx (ys_call call29 (.cons (.t rfl) (.cons (.t rfl) (.cons Ev.f .nil))) (fun hp w W => c29 _ _ _ _ (by exact Sl.of_own W (k := 3) rfl (fun _ => rfl)) (by assumption) (by omega))) rfl <| .z) fun a S => ?_
        rw [rw_e] at S
        rw [rw_h] at S
        refine qrun S (.mv rfl <| .z) fun a S => ?_
        rw [rw_e] at S
        refine qrun S (.ex rfl rfl <| .z) fun a S => ?_
        rw [rw_e] at S
        refine qrun S (.ex rfl rfl <| .z) fun a S => ?_
        rw [rw_e] at S
        refine qrun S (.as rfl <| .z) fun a S => ?_
        rw [rw_e] at S
        refine qrun S (.as rfl <| .z) fun a S => ?_
        rw [rw_e] at S
        (refine q_nil ?_; intro w W; replace S := St.mk S W; clear W)
        rw [rw_e] at S
        refine then_normal (hK1 _ _ ?_)
        rw [rw_e] at S
        refine wp_seq_k fun _ hK1 => ?_
        rw [rw_e] at S
        refine wp_seq_k fun _ hK2 => ?_
        rw [rw_e] at S
        refine wp_region_lit ?_
        rw [rw_e] at S
        refine run S (.mv rfl <| .z) fun a w S => ?_
        rw [rw_e] at S
        refine st_nil ?_
        rw [rw_e] at S
        refine then_normal (hK2 _ _ ?_)
        rw [rw_e] at S
        refine st_then S (.t rfl) ?_
        rw [rw_e] at S
        refine wp_seq_k fun _ hK2 => ?_
        rw [rw_e] at S
        refine wp_region_lit ?_
        rw [rw_e] at S
        refine run S (.ac rfl <| .z) fun a w S => ?_
        rw [rw_e] at S
        refine st_nil ?_
        rw [rw_e] at S
        refine then_normal (hK2 _ _ ?_)
        rw [rw_e] at S
        refine wp_ret ?_
        rw [rw_e] at S
        refine then_ret ?_
        rw [rw_e] at S
        refine st_ret S (results1 S results9 (Rv.tmp rfl)) ?_
        rw [rw_e] at S
        rw [e]
        exact ⟨_, _, rfl, S.wd.pk, A, cap, rfl, rfl⟩
      | false =>
        have rw_h := hh
        have halt_r := trivial
        unfold Go.Fw.RetsO
        refine enterW3 W func9 rfl ntmps9 rfl fun a S => wp_seq_k fun _ hK1 => wp_region_lit (st_m (op_box S (.t rfl) rfl fun g1 a w S => run S (.ac rfl <| .z) fun a w S => st_nil (then_normal (hK1 _ _ (wp_seq_k fun _ hK1 => wp_block (sg S (.mv rfl <| .xx (ys_call call21 (.cons (.t rfl) .nil) (fun hp w W => c21 _ _ _ (by exact Wd.cell W (k := 1) rfl rfl))) rfl <| .nt rfl <| .as rfl <| .z) fun a w S => st_else S (.t rfl) (wp_seq_k fun _ hK2 => wp_region_lit (run S (.la gt23 0 rfl rfl rfl <| .xx (ys_call call27 (.cons (.t rfl) .nil) (fun hp w W => c27 _ _ _ _)) rfl <| .z) fun a w S => ?_))))))))
        rw [rw_m] at S
        refine run S (.nt rfl <| .as rfl <| .z) fun a w S => st_nil (then_normal (hK2 _ _ (st_else S (.t rfl) (wp_seq_k fun _ hK2 => wp_region_lit (run S (.mv rfl <| .xx (ys_call call28 (.cons (.t rfl) .nil) (fun hp w W => c28 _ _ (by assumption))) rfl <| .z) fun a w S => ?_)))))
        rw [rw_n] at S
        refine run S (.nt rfl <| .as rfl <| .z) fun a w S => st_nil (then_normal (hK2 _ _ (st_else S (.t rfl) (wp_skip (in_normal (then_normal (hK1 _ _ (wp_seq_k fun _ hK1 => wp_region_lit (run S (.mv rfl <| .la gt23 0 rfl rfl rfl <| .yy (ys_bld (ps := [(0, Go.Operand.tmp 22), (1, Go.Operand.tmp 23)]) (us := [_, _, _, _]) bld74 (.cons (.t rfl) (.cons (.t rfl) .nil)) rfl) rfl <| .z) fun a w S => ?_)))))))))
        rw [rw_e] at S
        refine st_m (op_alloc S zeroValue74 (cs := _) rfl rfl fun g2 a w S => ?_)
        rw [rw_e] at S
        refine st_m (op_stW S sizeOf74 (.t rfl) (.t rfl) (k := 0) rfl rfl rfl (by simp [Value.oneCell']) fun a w S => ?_)
        rw [rw_e] at S
        refine st_nil ?_
        rw [rw_e] at S
        refine then_normal (hK1 _ _ ?_)
        rw [rw_e] at S
        refine wp_seq_k fun _ hK1 => ?_
        rw [rw_e] at S
        refine st_quiet S (by kernel_rfl) (by kernel_rfl) fun a S => ?_
        rw [rw_e] at S
        refine qrun S (.mv rfl <| .z) fun a S => ?_
        rw [rw_e] at S
        refine qrun S (.yy (ys_nilc (.t rfl)) rfl <| .z) fun a S => ?_
        rw [rw_e] at S
        refine qrun S (.fa underlying36 sizeOf34 1 rfl rfl rfl <| .z) fun a S => ?_
        rw [rw_e] at S
        refine qrun S (.ld gt34 2 rfl rfl rfl <| .z) fun a S => ?_
        rw [rw_e] at S
        refine qrun S (.la gt74 0 rfl rfl rfl <| .z) fun a S => ?_
        rw [rw_e] at S
        refine qrun S (.xx (ys_call call29 (.cons (.t rfl) (.cons (.t rfl) (.cons Ev.f .nil))) (fun hp w W => c29 _ _ _ _ (by exact Sl.of_own W (k := 3) rfl (fun _ => rfl)) (by assumption) (by omega))) rfl <| .z) fun a S => ?_
        rw [rw_e] at S
        rw [rw_h] at S
        refine qrun S (.mv rfl <| .z) fun a S => ?_
        rw [rw_e] at S
        refine qrun S (.ex rfl rfl <| .z) fun a S => ?_
        rw [rw_e] at S
        refine qrun S (.ex rfl rfl <| .z) fun a S => ?_
        rw [rw_e] at S
        refine qrun S (.as rfl <| .z) fun a S => ?_
        rw [rw_e] at S
        refine qrun S (.as rfl <| .z) fun a S => ?_
        rw [rw_e] at S
        (refine q_nil ?_; intro w W; replace S := St.mk S W; clear W)
        rw [rw_e] at S
        refine then_normal (hK1 _ _ ?_)
        rw [rw_e] at S
        refine wp_seq_k fun _ hK1 => ?_
        rw [rw_e] at S
        refine wp_seq_k fun _ hK2 => ?_
        rw [rw_e] at S
        refine wp_region_lit ?_
        rw [rw_e] at S
        refine run S (.mv rfl <| .z) fun a w S => ?_
        rw [rw_e] at S
        refine st_nil ?_
        rw [rw_e] at S
        refine then_normal (hK2 _ _ ?_)
        rw [rw_e] at S
        refine st_else S (.t rfl) ?_
        rw [rw_e] at S
        refine wp_skip ?_
        rw [rw_e] at S
        refine then_normal (hK1 _ _ ?_)
        rw [rw_e] at S
        refine wp_seq_k fun _ hK1 => ?_
        rw [rw_e] at S
        clear halt_r
        have hold_r := trivial
        refine h_begin S (by kernel_rfl) [.blk g2 (.cells (Gon.enc ⟨k, ⟨x, y, z⟩⟩).toArray 74)] ?_
        clear S
        intro a w S
        have e : putG l k ⟨x, y, z⟩ = (l.take (posG l ⟨k, ⟨x, y, z⟩⟩) ++ ⟨k, ⟨x, y, z⟩⟩ :: l.drop (posG l ⟨k, ⟨x, y, z⟩⟩), 0) := by
          unfold putG; rw [if_neg (by rw [hm]; simp), if_neg (by rw [hn]; simp), if_neg (by rw [← ha, hh]; simp), insG_at hs hh]
        have el : (l.take (posG l ⟨k, ⟨x, y, z⟩⟩) ++ (⟨k, ⟨x, y, z⟩⟩ : Gon) :: l.drop (posG l ⟨k, ⟨x, y, z⟩⟩)).length = l.length + 1 := by simp; omega
        refine hy 0 S rfl (ys_move (.t rfl)) rfl fun a w S => ?_
        rw [rw_e] at S ⊢
        refine hy 1 S rfl (ys_move (.t rfl)) rfl fun a w S => ?_
        rw [rw_e] at S ⊢
        refine hy 2 S rfl (ys_nilc (.t rfl)) rfl fun a w S => ?_
        rw [rw_e] at S ⊢
        refine hy 3 S rfl (ys_fieldN (FieldT.mk underlying36 rfl sizeOf34 rfl) (.t rfl) (i' := 1) rfl) rfl fun a w S => ?_
        rw [rw_e] at S ⊢
        refine hy 5 S rfl (ys_move (.t rfl)) rfl fun a w S => ?_
        rw [rw_e] at S ⊢
        refine hy 6 S rfl (ys_ldA ⟨isAgg74, sizeOf74⟩ (.t rfl) (k := 0) rfl rfl) rfl fun a w S => ?_
        rw [rw_e] at S ⊢
        refine h_split (i := 4) (j := 7) (by kernel_rfl) rfl rfl ?_ ?_
        (refine op_y S (Yr.ys (ys_ld ⟨isAgg34, sizeOf34⟩ (.t rfl) (k := 2) rfl rfl)) rfl ?_; clear S a w; intro a w S; refine h_n1 S ?_)
        rw [rw_e] at S ⊢
        (refine h_m (i := 7) rfl (by kernel_rfl) (op_bslice1 S underlying34 inf74 rfl rfl rfl (.t rfl) rfl rfl rfl ?_); clear S a w; intro g3 a w S; refine h_n1 S ?_)
        rw [rw_e] at S ⊢
        rotate_left
        (refine op_bslice1 S underlying34 inf74 rfl rfl rfl (.t rfl) rfl rfl rfl ?_; clear S a w; intro g3 a w S; refine h_n1 S ?_)
        rw [rw_e] at S ⊢
        refine h_q (i := 4) S (by repeat (first | exact List.Sublist.refl _ | exact List.nil_sublist _ | refine .cons_cons _ ?_ | refine .cons _ ?_)) rfl (by kernel_rfl) (Yr.ys (ys_ld ⟨isAgg34, sizeOf34⟩ (.t rfl) (k := 3) rfl rfl)) rfl fun a w S => ?_
        rw [rw_e] at S ⊢
        rotate_left
        · (replace S := S.pull 4 rfl; try simp only [List.set_cons_zero, List.set_cons_succ, List.eraseIdx_cons_succ, List.eraseIdx_cons_zero] at S)
          refine h_m (i := 8) rfl (by kernel_rfl) (op_callO S call31 (.cons (.t rfl) (.cons (.t rfl) (.cons (.t rfl) .nil))) (k31 (enc := Gon.enc) (x := (⟨k, ⟨x, y, z⟩⟩ : Gon)) Gon.enc_len Gon.enc_one S.wd rfl (posG l ⟨k, ⟨x, y, z⟩⟩) hpl (by omega)) rfl ?_)
          clear S
          rintro _ _ ⟨A1, e1, rfl, rfl⟩ a w S
          refine h_n1 S ?_
          refine hy 9 S rfl (ys_nilc (.t rfl)) rfl fun a w S => ?_
          rw [rw_e] at S ⊢
          refine hy 10 S rfl (ys_fieldN (FieldT.mk underlying36 rfl sizeOf34 rfl) (.t rfl) (i' := 1) rfl) rfl fun a w S => ?_
          rw [rw_e] at S ⊢
          (refine h_m0 (i := 11) rfl (by kernel_rfl) (op_st S sizeOf34 (.t rfl) (.t rfl) (k := 3) rfl rfl (by simp) ?_); clear S a w; intro a w S; refine h_n1 S ?_)
          rw [rw_e] at S ⊢
          refine h_done (by kernel_rfl) ?_
          rw [rw_e] at S
          refine then_normal (hK1 _ _ ?_)
          rw [rw_e] at S
          refine wp_seq_k fun _ hK1 => ?_
          rw [rw_e] at S
          refine wp_region_lit ?_
          rw [rw_e] at S
          refine run S (.ac rfl <| .z) fun a w S => ?_
          rw [rw_e] at S
          refine st_nil ?_
          rw [rw_e] at S
          refine then_normal (hK1 _ _ ?_)
          rw [rw_e] at S
          refine wp_ret ?_
          rw [rw_e] at S
          refine st_ret S (results1 S results9 (Rv.tmp rfl)) ?_
          rw [rw_e] at S
          rw [e]
          dsimp only
          refine ⟨_, tabP g A1 e1 (l.take (posG l ⟨k, ⟨x, y, z⟩⟩) ++ (⟨k, ⟨x, y, z⟩⟩ : Gon) :: l.drop (posG l ⟨k, ⟨x, y, z⟩⟩)) L, rfl, ?_, A1, e1, rfl, rfl⟩
          unfold tabP
          rw [el]
          exact S.wd.pk
        · (replace S := S.pull 4 rfl; try simp only [List.set_cons_zero, List.set_cons_succ, List.eraseIdx_cons_succ, List.eraseIdx_cons_zero] at S)
          refine h_m (i := 8) rfl (by kernel_rfl) (op_callO S call31 (.cons (.t rfl) (.cons (.t rfl) (.cons (.t rfl) .nil))) (k31 (enc := Gon.enc) (x := (⟨k, ⟨x, y, z⟩⟩ : Gon)) Gon.enc_len Gon.enc_one S.wd rfl (posG l ⟨k, ⟨x, y, z⟩⟩) hpl (by omega)) rfl ?_)
          clear S
          rintro _ _ ⟨A1, e1, rfl, rfl⟩ a w S
          refine h_n1 S ?_
          refine hy 9 S rfl (ys_nilc (.t rfl)) rfl fun a w S => ?_
          rw [rw_e] at S ⊢
          refine hy 10 S rfl (ys_fieldN (FieldT.mk underlying36 rfl sizeOf34 rfl) (.t rfl) (i' := 1) rfl) rfl fun a w S => ?_
          rw [rw_e] at S ⊢
          (refine h_m0 (i := 11) rfl (by kernel_rfl) (op_st S sizeOf34 (.t rfl) (.t rfl) (k := 3) rfl rfl (by simp) ?_); clear S a w; intro a w S; refine h_n1 S ?_)
          rw [rw_e] at S ⊢
          refine h_done (by kernel_rfl) ?_
          rw [rw_e] at S
          refine then_normal (hK1 _ _ ?_)
          rw [rw_e] at S
          refine wp_seq_k fun _ hK1 => ?_
          rw [rw_e] at S
          refine wp_region_lit ?_
          rw [rw_e] at S
          refine run S (.ac rfl <| .z) fun a w S => ?_
          rw [rw_e] at S
          refine st_nil ?_
          rw [rw_e] at S
          refine then_normal (hK1 _ _ ?_)
          rw [rw_e] at S
          refine wp_ret ?_
          rw [rw_e] at S
          refine st_ret S (results1 S results9 (Rv.tmp rfl)) ?_
          rw [rw_e] at S
          rw [e]
          dsimp only
          refine ⟨_, tabP g A1 e1 (l.take (posG l ⟨k, ⟨x, y, z⟩⟩) ++ (⟨k, ⟨x, y, z⟩⟩ : Gon) :: l.drop (posG l ⟨k, ⟨x, y, z⟩⟩)) L, rfl, ?_, A1, e1, rfl, rfl⟩
          unfold tabP
          rw [el]
          exact S.wd.pk
end Go.Proofs.Ytakpdbmdfnialaa
set_option linter.unusedVariables false
set_option linter.unusedSimpArgs false
namespace Go.Fw
open Go.RowKit Go.Sort Go.Proofs
abbrev MEnt := {e : Ent // mayD e.dot = true}
instance : Inhabited MEnt := ⟨⟨⟨[], ⟨0, 1, 1⟩, 0, 0⟩, rfl⟩⟩
abbrev MEnt.enc (e : MEnt) : List Value := Ent.enc e.1
end Go.Fw
set_option linter.unusedVariables false
set_option linter.unusedSimpArgs false
namespace Go.Ft
open Go.RowKit
abbrev bs (l : List UInt8) : ByteArray := ⟨l.toArray⟩
section ops
variable {P : Program} {n : Nat} {w0 : World} {K : KL} {L : List Chunk} {b : Bool} {dst : Option Tmp} {ty : TypeId} {pos : String} {aft : Array Edge} {gd : Option (Nat × Bool)}
end ops
section
variable {P : Program} {n : Nat} {w0 : World} {K : KL} {L : List Chunk} {ty : TypeId} {pos : String} {aft : Array Edge} {gd : Option (Nat × Bool)} {a : Act} {w : World} {Z : Act → World → Prop} {Q : Exit → Act → World → Prop} {d : Nat}
end
section
variable {P : Program} {n : Nat} {w0 : World} {K : KL} {L : List Chunk} {ty : TypeId} {pos : String} {aft : Array Edge} {gd : Option (Nat × Bool)} {a : Act} {w : World} {Z : Act → World → Prop} {Q : Exit → Act → World → Prop} {d : Nat}
end
section
variable {P : Program} {n : Nat} {w0 : World} {K : KL} {L : List Chunk} {ty : TypeId} {pos : String} {aft : Array Edge} {gd : Option (Nat × Bool)} {a : Act} {w : World} {Z : Act → World → Prop} {Q : Exit → Act → World → Prop} {d : Nat}
end
section
variable {P : Program} {Q : Exit → Act → World → Prop} {J : Act → World → Prop} {l i : Nat} {a : Act} {w : World}
end
section ops
variable {P : Program} {n : Nat} {w0 : World} {K : KL} {L : List Chunk} {b : Bool} {dst : Option Tmp} {ty : TypeId} {pos : String} {aft : Array Edge} {gd : Option (Nat × Bool)}
end ops
end Go.Ft
set_option linter.unusedVariables false
set_option linter.unusedSimpArgs false
namespace Go.Ft
open Go.RowKit
section ops
variable {P : Program} {n : Nat} {w0 : World} {K : KL} {L : List Chunk} {b : Bool} {dst : Option Tmp} {ty : TypeId} {pos : String} {aft : Array Edge} {gd : Option (Nat × Bool)}
end ops
section
variable {n : Nat} {w0 : World} {K : KL} {L : List Chunk} {a : Act} {w : World} {c : Chunk}
end
theorem Wd.cell {w0 w : World} {L : List Chunk} (W : Wd w0 L w) {k g i : Nat} {cs : List Value} {e : TypeId} {fr : Nat × Nat} {v : Value} (hk : L[k]? = some (.blk g (.cells cs.toArray e fr))) (hc : nth cs i = some v) : w.cell? ⟨g, i, none⟩ = some v := by
  rw [cell_of_row w g i _ e fr (W.get hk).2]
  rw [nth_eq] at hc
  simpa using hc
section split
variable {P : Program} {Q : Exit → Act → World → Prop} {n : Nat} {w0 : World} {K : KL} {L Lr : List Chunk} {a : Act} {w : World} {ops : Array Oper} {fuel : Nat} {listed : Array Bool} {md : Region.Mode}
end split
section
variable {P : Program} {n : Nat} {w0 : World} {K : KL} {L : List Chunk} {ty : TypeId} {pos : String} {aft : Array Edge} {gd : Option (Nat × Bool)} {a : Act} {w : World} {Z : Act → World → Prop} {Q : Exit → Act → World → Prop} {d : Nat}
end
end Go.Ft
set_option linter.unusedVariables false
set_option linter.unusedSimpArgs false
namespace Go.Ft
open Go.RowKit
def ltM (a b : Dot) : Prop := a.node < b.node ∨ (a.node = b.node ∧ a.life < b.life)
def ltC (a b : Dot) : Prop := a.node < b.node ∨ (a.node = b.node ∧ (a.life < b.life ∨ (a.life = b.life ∧ a.count < b.count)))
theorem belowC_iff (a b : Dot) : belowD a b = true ↔ ltC a b := by
  simp only [belowD, ltC]
  split
  · simp; omega
  · split <;> simp <;> omega
structure Nf (C : Ctx) : Prop where
  marks : C.marks.Pairwise ltM
  cloud : C.cloud.Pairwise ltC
  mayM : ∀ x ∈ C.marks, mayD x = true
  mayC : ∀ x ∈ C.cloud, mayD x = true
  gap : ∀ x ∈ C.cloud, markOf C.marks x.node x.life + 1 < x.count
end Go.Ft
set_option linter.unusedVariables false
set_option linter.unusedSimpArgs false
namespace Go.Ft
open Go.RowKit
structure Ent where
  item : List UInt8
  dot : Dot
  qty : Int
  price : UInt64
deriving DecidableEq
abbrev Ent.enc (e : Ent) : List Value := [.string (bs e.item), .int .i64 e.dot.node, .int .i64 e.dot.life, .int .i64 e.dot.count, .int .i64 e.qty, .int .u64 (e.price.toNat : Int)]
structure Cart where
  ents : List Ent
  ctx : Ctx
deriving DecidableEq
abbrev Cart.zero : Cart := ⟨[], ⟨[], []⟩⟩
structure Line where
  item : List UInt8
  qty : Int
  price : UInt64
deriving DecidableEq
abbrev Line.enc (e : Line) : List Value := [.string (bs e.item), .int .i64 e.qty, .int .u64 (e.price.toNat : Int)]
def ltE (a b : Ent) : Prop := Op.bytesLess a.item b.item = true ∨ (a.item = b.item ∧ ltC a.dot b.dot)
instance (a b : Ent) : Decidable (ltE a b) := decidable_of_iff (Op.bytesLess a.item b.item = true ∨ (a.item = b.item ∧ belowD a.dot b.dot = true)) (by rw [belowC_iff]; rfl)
def clashE (a b : Cart) : Prop := ∃ x ∈ a.ents, ∃ y ∈ b.ents, x.dot = y.dot ∧ x ≠ y
instance (a b : Cart) : Decidable (clashE a b) := by unfold clashE; infer_instance
end Go.Ft
set_option linter.unusedVariables false
set_option linter.unusedSimpArgs false
set_option maxRecDepth 100000
set_option maxHeartbeats 4000000
namespace Go.Fw
theorem filter_yes {α : Type} {p : α → Bool} {l : List α} {k : Nat} {x : α} (h : l[k]? = some x) (hp : p x = true) : (l.take (k + 1)).filter p = (l.take k).filter p ++ [x] := by
  rw [List.take_add_one, h, Option.toList_some]
  simp [hp]
theorem filter_no {α : Type} {p : α → Bool} {l : List α} {k : Nat} {x : α} (h : l[k]? = some x) (hp : p x = false) : (l.take (k + 1)).filter p = (l.take k).filter p := by
  rw [List.take_add_one, h, Option.toList_some]
  simp [hp]
theorem filter_take {α : Type} (p : α → Bool) (l : List α) (k : Nat) : ((l.take k).filter p).length ≤ l.length := by
  have h1 := List.length_filter_le p (l.take k)
  have h2 : (l.take k).length ≤ l.length := by rw [List.length_take]; omega
  omega
end Go.Fw
namespace Go.Proofs.Ytakpdbmdfnialaa
open Go.Fw Go.Proofs Go.RowKit Go.Proofs.Try
end Go.Proofs.Ytakpdbmdfnialaa
set_option linter.unusedVariables false
set_option linter.unusedSimpArgs false
set_option maxRecDepth 100000
set_option maxHeartbeats 4000000
namespace Go.Fw
theorem cart_same {X Y : Cart} : (decide (X.ents = Y.ents) && decide (X.ctx = Y.ctx)) = decide (X = Y) := by
  cases X; cases Y; simp
theorem any_no {α : Type} {p : α → Bool} {l : List α} {k : Nat} {x : α} (h : l[k]? = some x) (hn : (l.take k).any p = false) (hp : p x = false) : (l.take (k + 1)).any p = false := by
  rw [List.take_add_one, h, Option.toList_some, List.any_append, hn]
  simp [hp]
theorem any_yes {α : Type} {p : α → Bool} {l : List α} {k : Nat} {x : α} (h : l[k]? = some x) (hp : p x = true) : l.any p = true := List.any_eq_true.2 ⟨x, List.mem_of_getElem? h, hp⟩
end Go.Fw
namespace Go.Proofs.Ytakpdbmdfnialaa
open Go.Fw Go.Proofs Go.RowKit Go.Proofs.Try
theorem c24 (w0 : World) (v1 v2 v3 : Value) (X : Cart) (p q : Int) (h : Sl Ent.enc 6 w0 w0.heap.size v1 X.ents) (hr : RdCtx w0 w0.heap.size v2 v3 X.ctx) (hl1 : X.ents.length ≤ 1048576) (hl2 : X.ctx.marks.length ≤ 1048576) (hl3 : X.ctx.cloud.length ≤ 1048576) :
    Rets Try.prog 24 #[.agg #[v1, v2, v3], .agg #[.int .i64 p, .int .i64 q]] w0 fun v L => ∃ A1 r1 A2 r2 A3 r3, v = .agg #[.slice A1 (pruneK X p q).ents.length r1, .slice A2 (pruneK X p q).ctx.marks.length r2, .slice A3 (pruneK X p q).ctx.cloud.length r3] ∧
      L = [rowOf 69 6 Ent.enc A1 r1 (pruneK X p q).ents, rowOf 23 3 Dot.enc A2 r2 (pruneK X p q).ctx.marks, rowOf 67 3 Dot.enc A3 r3 (pruneK X p q).ctx.cloud] := by
  have hs := h
  have hrr := hr
  obtain ⟨A, cap, rfl, hl, hcap, hA⟩ := h
  obtain ⟨⟨A2, cap2, rfl, _⟩, ⟨A3, cap3, rfl, _⟩⟩ := hr
  unfold Go.Fw.Rets
  refine enter2 func24 rfl ntmps24 rfl fun a S => wp_seq_k fun _ hK1 => wp_region_lit (st_m (op_box S (.t rfl) rfl fun g1 a w S => st_m (op_box S (.t rfl) rfl fun g2 a w S => st_m (op_alloc S zeroValue30 (cs := _) rfl rfl fun g3 a w S => st_nil (then_normal (hK1 _ _ (wp_seq_k fun _ hK1 => wp_region_lit (run S (.fa underlying30 sizeOf28 1 rfl rfl rfl <| .la gt28 2 rfl rfl rfl <| .la gt58 1 rfl rfl rfl <| .z) fun a w S => ?_))))))))
  (refine st_m (op_calls S call62 (.cons (.t rfl) (.cons (.t rfl) .nil)) (c62 _ _ _ _ _ _ (by exact .old S.wd (by assumption)) (by assumption) (by assumption)) rfl ?_); clear S a w; rintro _ _ ⟨A11, r11, A21, r21, rfl, rfl⟩ a w S)
  refine run S (.yy (ys_bld (ps := [(1, Go.Operand.tmp 11)]) (us := [_, _, _]) bld30 (.cons (.t rfl) .nil) rfl) rfl <| .z) fun a w S => st_m (op_alloc S zeroValue30 (cs := _) rfl rfl fun g4 a w S => st_m (op_stW S sizeOf30 (.t rfl) (.t rfl) (k := 0) rfl rfl rfl (by simp [Value.oneCell']) fun a w S => st_nil (then_normal (hK1 _ _ (wp_seq_k fun _ hK1 => sg S (.fa underlying30 sizeOf24 0 rfl rfl rfl <| .ld gt24 5 rfl rfl rfl <| .ln underlying24 rfl <| .mc rfl <| .z) fun a w S => wp_block ?_)))))
  refine st_lpM (S.nil_ 69 6 Ent.enc none) [16] (X := Nat × Option Addr × Nat) (fun t => [(16, true, .int .i64 (t.1 : Int))])
    (fun t => [rowOf 69 6 Ent.enc t.2.1 t.2.2 (keepE p q (X.ents.take t.1)), .blk g4 (.cells #[.slice t.2.1 (keepE p q (X.ents.take t.1)).length t.2.2, .slice A11 (keep p q X.ctx.marks).length r11, .slice A21 (keep p q X.ctx.cloud).length r21] 30), rowOf 67 3 Dot.enc A21 r21 (keep p q X.ctx.cloud), rowOf 23 3 Dot.enc A11 r11 (keep p q X.ctx.marks), .blk g3 (.cells #[.slice none 0 0, .slice none 0 0, .slice none 0 0] 30), .blk g2 (.cells #[.int .i64 p, .int .i64 q] 58), .blk g1 (.cells #[.slice A X.ents.length cap, .slice A2 X.ctx.marks.length cap2, .slice A3 X.ctx.cloud.length cap3] 30)])
    (fun t => t.1 ≤ X.ents.length) (fun t => X.ents.length - t.1) (0, none, 0) (Nat.zero_le _) ?_
  clear S
  rintro ⟨k, D, cD⟩ a w hk S
  dsimp only at hk S
  have hol : (keepE p q (X.ents.take k)).length ≤ X.ents.length := filter_take _ X.ents k
  by_cases hlt : k < X.ents.length
  · obtain ⟨g, o, x, rfl, hx, hd, hc⟩ := row_at hA hlt
    refine sg S (.lt (by omega) rfl rfl <| .z) fun a w S => wp_seq_k fun _ hK2 => st_then S (.t rfl) (wp_skip (then_normal (hK2 _ _ (wp_seq_k fun _ hK2 => wp_block (wp_seq_k fun _ hK3 => wp_region_lit (run S (.ix underlying24 sizeOf69 (by omega) rfl rfl <| .yy (ys_ldOA ⟨isAgg69, sizeOf69⟩ (.t rfl) (vs := [_, _, _, _, _, _]) rfl (fun _ => hc)) rfl <| .z) fun a w S => st_m (op_alloc S zeroValue69 (cs := _) rfl rfl fun g5 a w S => st_m (op_stW S sizeOf69 (.t rfl) (.t rfl) (k := 0) rfl rfl rfl (by simp [Value.oneCell']) fun a w S => st_nil (then_normal (hK3 _ _ (wp_seq_k fun _ hK3 => wp_region_lit (run S (.fa underlying69 sizeOf67 1 rfl rfl rfl <| .fa underlying67 sizeOf3 1 rfl rfl rfl <| .ld gt3 0 rfl rfl rfl <| .fa underlying58 sizeOf3 0 rfl rfl rfl <| .ld gt3 6 rfl rfl rfl <| .yy (ys_neq (.t rfl) (.t rfl)) rfl <| .mv rfl <| .z) fun a w S => st_yf S rfl rfl (Yr.ys (ys_fieldN (FieldT.mk underlying69 rfl sizeOf67 rfl) (.t rfl) (i' := 1) rfl)) rfl fun a w S => st_yf S rfl rfl (Yr.ys (ys_fieldN (FieldT.mk underlying67 rfl sizeOf3 rfl) (Ev.g rfl) (i' := 2) rfl)) rfl fun a w S => st_yf S rfl rfl (Yr.ys (ys_ld ⟨isAgg3, sizeOf3⟩ (Ev.g rfl) (k := 0) rfl rfl)) rfl fun a w S => st_yf S rfl rfl (Yr.ys (ys_fieldN (FieldT.mk underlying58 rfl sizeOf3 rfl) (.t rfl) (i' := 1) rfl)) rfl fun a w S => ?_))))))))))))
    refine st_yf S rfl rfl (Yr.ys (ys_ld ⟨isAgg3, sizeOf3⟩ (Ev.g rfl) (k := 6) rfl rfl)) rfl fun a w S => st_yf S rfl rfl (Yr.ys (ys_neq (Ev.g rfl) (Ev.g rfl))) rfl fun a w S => run S (.yy (ys_or (.t rfl) Ev.c (Ev.g rfl)) rfl <| .z) fun a w S => st_nil (then_normal (hK3 _ _ ?_))
    refine st_cond S (.t rfl) (fun h1 => ?_) (fun h1 => ?_)
    refine wp_region_lit (run S (.fa underlying30 sizeOf24 0 rfl rfl rfl <| .ld gt24 2 rfl rfl rfl <| .la gt69 0 rfl rfl rfl <| .z) fun a w S => st_m (op_bslice1 S underlying24 inf69 rfl rfl rfl (.t rfl) rfl rfl rfl fun g6 a w S => st_m (op_push S underlying24 inf69 rfl (k := 2) (j := 0) rfl (.t rfl) (.t rfl) rfl rfl rfl rfl (by first | omega | (simp only [List.length_append, List.length_cons, List.length_nil]; omega)) rfl rfl rfl fun A1 cap1 a w S => run S (.fa underlying30 sizeOf24 0 rfl rfl rfl <| .z) fun a w S => st_m (op_st S sizeOf24 (.t rfl) (.t rfl) (k := 3) rfl rfl (by simp) fun a w S => st_nil (in_normal (then_normal (hK2 _ _ (wp_region_lit (run S (.ad (by unfold I64; omega) rfl <| .mv rfl <| .z) fun a w S => st_nil (then_normal ?_))))))))))
    rotate_left
    refine wp_skip (in_normal (then_normal (hK2 _ _ (wp_region_lit (run S (.ad (by unfold I64; omega) rfl <| .mv rfl <| .z) fun a w S => st_nil (then_normal ?_))))))
    rotate_left
    · have hst : keepE p q (X.ents.take (k + 1)) = keepE p q (X.ents.take k) ++ [x] := filter_yes hx (by simp at h1 ⊢; omega)
      exact ⟨(k + 1, A1, cap1), by dsimp only; omega, by dsimp only; omega, by dsimp only; rw [hst]; exact S.pk⟩
    · have hst : keepE p q (X.ents.take (k + 1)) = keepE p q (X.ents.take k) := filter_no hx (by simp at h1 ⊢; omega)
      exact ⟨(k + 1, D, cD), by dsimp only; omega, by dsimp only; omega, by dsimp only; rw [hst]; exact S.pk⟩
  obtain rfl : k = X.ents.length := by omega
  rw [List.take_length] at S
  refine sg S (.ge (by omega) rfl rfl <| .z) fun a w S => wp_seq_k fun _ hK2 => st_else S (.t rfl) (wp_exit (then_exit (then_exit (in_here (then_normal (hK1 _ _ (wp_seq_k fun _ hK1 => wp_region_lit (run S (.la gt30 1 rfl rfl rfl <| .z) fun a w S => st_m (op_stW S sizeOf30 (.t rfl) (.t rfl) (k := 4) rfl rfl rfl (by simp [Value.oneCell']) fun a w S => st_nil (then_normal (hK1 _ _ (wp_ret (st_ret S (results1 S results24 (Rv.cell (k := 4) ⟨isAgg30, sizeOf30⟩ rfl rfl rfl)) ?_)))))))))))))
  exact ⟨_, _, rfl, S.wd.pk, _, _, _, _, _, _, rfl, rfl⟩
theorem c8 (w0 : World) (v1 v2 v3 v4 v5 v6 : Value) (X Y : Cart) (h : Sl Ent.enc 6 w0 w0.heap.size v1 X.ents) (hr : RdCtx w0 w0.heap.size v2 v3 X.ctx) (h' : Sl Ent.enc 6 w0 w0.heap.size v4 Y.ents) (hr' : RdCtx w0 w0.heap.size v5 v6 Y.ctx) :
    Calls Try.prog 8 #[.agg #[v1, v2, v3], .agg #[v4, v5, v6]] w0 fun e w' => e = .returned (.bool (decide (X = Y))) ∧ Bel w0.heap.size w0 w' := by
  have hs := h
  have hrr := hr
  have hs' := h'
  have hrr' := hr'
  obtain ⟨A, cap, rfl, hl, hcap, hA⟩ := h
  obtain ⟨⟨A2, cap2, rfl, _⟩, ⟨A3, cap3, rfl, _⟩⟩ := hr
  obtain ⟨B, capB, rfl, hlB, hcapB, hB⟩ := h'
  obtain ⟨⟨B2, capB2, rfl, _⟩, ⟨B3, capB3, rfl, _⟩⟩ := hr'
  refine enter2 func8 rfl ntmps8 rfl fun a S => wp_seq_k fun _ hK1 => wp_region_lit (st_m (op_box S (.t rfl) rfl fun g1 a w S => st_m (op_box S (.t rfl) rfl fun g2 a w S => run S (.ac rfl <| .z) fun a w S => st_nil (then_normal (hK1 _ _ (wp_seq_k fun _ hK1 => wp_region_lit (run S (.fa underlying30 sizeOf24 0 rfl rfl rfl <| .ld gt24 1 rfl rfl rfl <| .fa underlying30 sizeOf24 0 rfl rfl rfl <| .ld gt24 0 rfl rfl rfl <| .xx (ys_call call25 (.cons (.t rfl) (.cons (.t rfl) .nil)) (fun hp w W => c25 _ _ _ _ _ (by exact .old W (by assumption)) (by exact .old W (by assumption)))) rfl <| .mv rfl <| .z) fun a w S => st_yg S rfl rfl (Yr.ys (ys_fieldN (FieldT.mk underlying30 rfl sizeOf28 rfl) (.t rfl) (i' := 1) rfl)) rfl fun a w S => st_yg S rfl rfl (Yr.ys (ys_ldA ⟨isAgg28, sizeOf28⟩ (Ev.g rfl) (k := 1) rfl rfl)) rfl fun a w S => st_yg S rfl rfl (Yr.ys (ys_fieldN (FieldT.mk underlying30 rfl sizeOf28 rfl) (.t rfl) (i' := 1) rfl)) rfl fun a w S => st_yg S rfl rfl (Yr.ys (ys_ldA ⟨isAgg28, sizeOf28⟩ (Ev.g rfl) (k := 0) rfl rfl)) rfl fun a w S => st_yg S rfl rfl (ys_call call26 (.cons (Ev.g rfl) (.cons (Ev.g rfl) .nil)) (fun hp w W => c26 _ _ _ _ _ _ _ (by exact .old W (by assumption)) (by exact .old W (by assumption)))) rfl fun a w S => run S (.yy (ys_and (.t rfl) (Ev.g rfl) Ev.c) rfl <| .as rfl <| .z) fun a w S => st_nil (then_normal (hK1 _ _ (wp_ret ?_))))))))))
  refine st_ret S (results1 S results8 (Rv.tmp rfl)) ?_
  exact ⟨by rw [cart_same], S.wd.below⟩
theorem c50 (w0 : World) (v1 v2 v3 v4 v5 v6 : Value) (X Y : Cart) (h : Sl Ent.enc 6 w0 w0.heap.size v1 X.ents) (hr : RdCtx w0 w0.heap.size v2 v3 X.ctx) (h' : Sl Ent.enc 6 w0 w0.heap.size v4 Y.ents) (hr' : RdCtx w0 w0.heap.size v5 v6 Y.ctx) :
    Calls Try.prog 50 #[.agg #[v1, v2, v3], .agg #[v4, v5, v6]] w0 fun e w' => e = .returned (.bool (decide (X = Y))) ∧ Bel w0.heap.size w0 w' := by
  have hs := h
  have hrr := hr
  have hs' := h'
  have hrr' := hr'
  obtain ⟨A, cap, rfl, hl, hcap, hA⟩ := h
  obtain ⟨⟨A2, cap2, rfl, _⟩, ⟨A3, cap3, rfl, _⟩⟩ := hr
  obtain ⟨B, capB, rfl, hlB, hcapB, hB⟩ := h'
  obtain ⟨⟨B2, capB2, rfl, _⟩, ⟨B3, capB3, rfl, _⟩⟩ := hr'
  obtain ⟨q1, q2⟩ := hrr
  obtain ⟨q3, q4⟩ := hrr'
  by_cases h1 : X.ents = Y.ents
  · have rw_1 := decide_eq_true h1
    by_cases h2 : X.ctx.marks = Y.ctx.marks
    · have rw_2 := decide_eq_true h2
      refine enter2 func50 rfl ntmps50 rfl fun a S => wp_seq_k fun _ hK1 => wp_region_lit (st_m (op_box S (.t rfl) rfl fun g1 a w S => st_m (op_box S (.t rfl) rfl fun g2 a w S => run S (.ac rfl <| .z) fun a w S => st_nil (then_normal (hK1 _ _ (wp_seq_k fun _ hK1 => wp_region_lit (run S (.fa underlying30 sizeOf24 0 rfl rfl rfl <| .ld gt24 1 rfl rfl rfl <| .fa underlying30 sizeOf24 0 rfl rfl rfl <| .ld gt24 0 rfl rfl rfl <| .xx (ys_call call25 (.cons (.t rfl) (.cons (.t rfl) .nil)) (fun hp w W => c25 _ _ _ _ _ (by exact .old W (by assumption)) (by exact .old W (by assumption)))) rfl <| .z) fun a w S => ?_)))))))
      rw [rw_1] at S
      refine run S (.mv rfl <| .gy rfl rfl (ys_fieldN (FieldT.mk underlying30 rfl sizeOf28 rfl) (.t rfl) (i' := 1) rfl) <| .gy rfl rfl (ys_fieldN (FieldT.mk underlying28 rfl sizeOf25 rfl) (.t rfl) (i' := 1) rfl) <| .gy rfl rfl (ys_ld ⟨isAgg25, sizeOf25⟩ (.t rfl) (k := 1) rfl rfl) <| .gy rfl rfl (ys_fieldN (FieldT.mk underlying30 rfl sizeOf28 rfl) (.t rfl) (i' := 1) rfl) <| .gy rfl rfl (ys_fieldN (FieldT.mk underlying28 rfl sizeOf25 rfl) (.t rfl) (i' := 1) rfl) <| .gy rfl rfl (ys_ld ⟨isAgg25, sizeOf25⟩ (.t rfl) (k := 0) rfl rfl) <| .gx rfl rfl (ys_call call35 (.cons (.t rfl) (.cons (.t rfl) .nil)) (fun hp w W => c35 _ _ _ _ _ (by exact .old W (by assumption)) (by exact .old W (by assumption)))) <| .z) fun a w S => ?_
      rw [rw_2] at S
      refine run S (.yy (ys_pickT (.t rfl) (.t rfl)) rfl <| .mv rfl <| .gy rfl rfl (ys_fieldN (FieldT.mk underlying30 rfl sizeOf28 rfl) (.t rfl) (i' := 1) rfl) <| .gy rfl rfl (ys_fieldN (FieldT.mk underlying28 rfl sizeOf26 rfl) (.t rfl) (i' := 2) rfl) <| .gy rfl rfl (ys_ld ⟨isAgg26, sizeOf26⟩ (.t rfl) (k := 1) rfl rfl) <| .gy rfl rfl (ys_fieldN (FieldT.mk underlying30 rfl sizeOf28 rfl) (.t rfl) (i' := 1) rfl) <| .gy rfl rfl (ys_fieldN (FieldT.mk underlying28 rfl sizeOf26 rfl) (.t rfl) (i' := 2) rfl) <| .gy rfl rfl (ys_ld ⟨isAgg26, sizeOf26⟩ (.t rfl) (k := 0) rfl rfl) <| .gx rfl rfl (ys_call call63 (.cons (.t rfl) (.cons (.t rfl) .nil)) (fun hp w W => c63 _ _ _ _ _ (by exact .old W (by assumption)) (by exact .old W (by assumption)))) <| .yy (ys_pickT (.t rfl) (.t rfl)) rfl <| .as rfl <| .z) fun a w S => st_nil (then_normal (hK1 _ _ (wp_ret (st_ret S (results1 S results50 (Rv.tmp rfl)) ?_))))
      refine ⟨?_, S.wd.below⟩
      have e : decide (X.ctx.cloud = Y.ctx.cloud) = decide (X = Y) := by
        obtain ⟨l, ⟨m, c⟩⟩ := X
        obtain ⟨l', ⟨m', c'⟩⟩ := Y
        dsimp only at h1 h2
        subst h1 h2
        simp
      rw [e]
    · have rw_2 := decide_eq_false h2
      refine enter2 func50 rfl ntmps50 rfl fun a S => wp_seq_k fun _ hK1 => wp_region_lit (st_m (op_box S (.t rfl) rfl fun g1 a w S => st_m (op_box S (.t rfl) rfl fun g2 a w S => run S (.ac rfl <| .z) fun a w S => st_nil (then_normal (hK1 _ _ (wp_seq_k fun _ hK1 => wp_region_lit (run S (.fa underlying30 sizeOf24 0 rfl rfl rfl <| .ld gt24 1 rfl rfl rfl <| .fa underlying30 sizeOf24 0 rfl rfl rfl <| .ld gt24 0 rfl rfl rfl <| .xx (ys_call call25 (.cons (.t rfl) (.cons (.t rfl) .nil)) (fun hp w W => c25 _ _ _ _ _ (by exact .old W (by assumption)) (by exact .old W (by assumption)))) rfl <| .z) fun a w S => ?_)))))))
      rw [rw_1] at S
      refine run S (.mv rfl <| .gy rfl rfl (ys_fieldN (FieldT.mk underlying30 rfl sizeOf28 rfl) (.t rfl) (i' := 1) rfl) <| .gy rfl rfl (ys_fieldN (FieldT.mk underlying28 rfl sizeOf25 rfl) (.t rfl) (i' := 1) rfl) <| .gy rfl rfl (ys_ld ⟨isAgg25, sizeOf25⟩ (.t rfl) (k := 1) rfl rfl) <| .gy rfl rfl (ys_fieldN (FieldT.mk underlying30 rfl sizeOf28 rfl) (.t rfl) (i' := 1) rfl) <| .gy rfl rfl (ys_fieldN (FieldT.mk underlying28 rfl sizeOf25 rfl) (.t rfl) (i' := 1) rfl) <| .gy rfl rfl (ys_ld ⟨isAgg25, sizeOf25⟩ (.t rfl) (k := 0) rfl rfl) <| .gx rfl rfl (ys_call call35 (.cons (.t rfl) (.cons (.t rfl) .nil)) (fun hp w W => c35 _ _ _ _ _ (by exact .old W (by assumption)) (by exact .old W (by assumption)))) <| .z) fun a w S => ?_
      rw [rw_2] at S
      refine run S (.yy (ys_pickT (.t rfl) (.t rfl)) rfl <| .mv rfl <| .sk rfl rfl rfl <| .sk rfl rfl rfl <| .sk rfl rfl rfl <| .sk rfl rfl rfl <| .sk rfl rfl rfl <| .sk rfl rfl rfl <| .sk rfl rfl rfl <| .yy (ys_pickF (.t rfl) Ev.c) rfl <| .as rfl <| .z) fun a w S => st_nil (then_normal (hK1 _ _ (wp_ret (st_ret S (results1 S results50 (Rv.tmp rfl)) ?_))))
      exact ⟨by rw [decide_eq_false (fun h => h2 (by rw [h]))], S.wd.below⟩
  · have rw_1 := decide_eq_false h1
    refine enter2 func50 rfl ntmps50 rfl fun a S => wp_seq_k fun _ hK1 => wp_region_lit (st_m (op_box S (.t rfl) rfl fun g1 a w S => st_m (op_box S (.t rfl) rfl fun g2 a w S => run S (.ac rfl <| .z) fun a w S => st_nil (then_normal (hK1 _ _ (wp_seq_k fun _ hK1 => wp_region_lit (run S (.fa underlying30 sizeOf24 0 rfl rfl rfl <| .ld gt24 1 rfl rfl rfl <| .fa underlying30 sizeOf24 0 rfl rfl rfl <| .ld gt24 0 rfl rfl rfl <| .xx (ys_call call25 (.cons (.t rfl) (.cons (.t rfl) .nil)) (fun hp w W => c25 _ _ _ _ _ (by exact .old W (by assumption)) (by exact .old W (by assumption)))) rfl <| .z) fun a w S => ?_)))))))
    rw [rw_1] at S
    refine run S (.mv rfl <| .sk rfl rfl rfl <| .sk rfl rfl rfl <| .sk rfl rfl rfl <| .sk rfl rfl rfl <| .sk rfl rfl rfl <| .sk rfl rfl rfl <| .sk rfl rfl rfl <| .yy (ys_pickF (.t rfl) Ev.c) rfl <| .mv rfl <| .sk rfl rfl rfl <| .sk rfl rfl rfl <| .sk rfl rfl rfl <| .sk rfl rfl rfl <| .sk rfl rfl rfl <| .sk rfl rfl rfl <| .sk rfl rfl rfl <| .yy (ys_pickF (.t rfl) Ev.c) rfl <| .as rfl <| .z) fun a w S => st_nil (then_normal (hK1 _ _ (wp_ret (st_ret S (results1 S results50 (Rv.tmp rfl)) ?_))))
    exact ⟨by rw [decide_eq_false (fun h => h1 (by rw [h]))], S.wd.below⟩
end Go.Proofs.Ytakpdbmdfnialaa
set_option linter.unusedVariables false
set_option linter.unusedSimpArgs false
set_option maxRecDepth 100000
set_option maxHeartbeats 4000000
namespace Go.Fw
theorem over_no {ms : List Dot} {C : Ctx} {i : Nat} {m : Dot} (h : ms[i]? = some m) (hn : (ms.take i).any (overG C) = false) (hm : ¬ m.count < C.top m.node m.life) : (ms.take (i + 1)).any (overG C) = false :=
  any_no h hn (decide_eq_false hm)
theorem over_yes {ms : List Dot} {C : Ctx} {i : Nat} {m : Dot} (h : ms[i]? = some m) (hm : m.count < C.top m.node m.life) : ms.any (overG C) = true := any_yes h (decide_eq_true hm)
theorem pruneL_snoc {ms : List Dot} {c : Cart} {i : Nat} {m : Dot} (h : ms[i]? = some m) : pruneL (ms.take (i + 1)) c = pruneK (pruneL (ms.take i) c) m.node m.life := by
  unfold pruneL
  rw [List.take_add_one, h, Option.toList_some, List.foldl_append]
  rfl
theorem cart_len3 {c : Cart} (h : CartOk c) : c.ents.length ≤ 64 ∧ c.ctx.marks.length ≤ 64 ∧ c.ctx.cloud.length ≤ 64 := ⟨h.len, (can_len h.ctx).1, (can_len h.ctx).2⟩
end Go.Fw
namespace Go.Proofs.Ytakpdbmdfnialaa
open Go.Fw Go.Proofs Go.RowKit Go.Proofs.Try
theorem c7 (w0 : World) (g : Nat) (v : Value) (l : List Gon) (k : List UInt8) (v1 v2 v3 : Value) (X : Cart) (h0 : w0.cell? ⟨g, 0, none⟩ = some (.bool true)) (h1 : w0.cell? ⟨g, 1, none⟩ = some v) (h : Sl Gon.enc 4 w0 w0.heap.size v l) (hn : l.length ≤ 4194304)
    (hs : Sl Ent.enc 6 w0 w0.heap.size v1 X.ents) (hr : RdCtx w0 w0.heap.size v2 v3 X.ctx) :
    Rets Try.prog 7 #[.pointer (some ⟨g, 0, none⟩), .string (bs k), .agg #[v1, v2, v3]] w0 fun v L => ∃ A1 r1 A2 r2 A3 r3, v = .tuple #[.agg #[.slice A1 (cleanG (marksG l k) X).1.ents.length r1, .slice A2 (cleanG (marksG l k) X).1.ctx.marks.length r2, .slice A3 (cleanG (marksG l k) X).1.ctx.cloud.length r3], .int .i64 (cleanG (marksG l k) X).2] ∧
      L = [rowOf 69 6 Ent.enc A1 r1 (cleanG (marksG l k) X).1.ents, rowOf 23 3 Dot.enc A2 r2 (cleanG (marksG l k) X).1.ctx.marks, rowOf 67 3 Dot.enc A3 r3 (cleanG (marksG l k) X).1.ctx.cloud] := by
  have hss := hs
  have hrr := hr
  obtain ⟨A, cap, rfl, hl, hcap, hA⟩ := hs
  obtain ⟨⟨A2, cap2, rfl, _⟩, ⟨A3, cap3, rfl, _⟩⟩ := hr
  have hml := marksG_len l k
  by_cases hc : canE X = 0
  rotate_left
  · have rw_c : decide (canE X = 0) = false := decide_eq_false hc
    have e : cleanG (marksG l k) X = (Cart.zero, canE X) := by unfold cleanG; rw [if_neg hc]
    unfold Go.Fw.Rets
    refine enter3 func7 rfl ntmps7 rfl fun a S => wp_seq_k fun _ hK1 => wp_region_lit (st_m (op_box S (.t rfl) rfl fun g1 a w S => st_m (op_alloc S zeroValue30 (cs := _) rfl rfl fun g2 a w S => run S (.ac rfl <| .z) fun a w S => st_nil (then_normal (hK1 _ _ (wp_seq_k fun _ hK1 => sg S (.mv rfl <| .xx (ys_call call21 (.cons (.t rfl) .nil) (fun hp w W => c21 _ _ _ (by exact Wd.cellOld W (by assumption)))) rfl <| .nt rfl <| .z) fun a w S => st_else S (.t rfl) (wp_skip (then_normal (hK1 _ _ (wp_seq_k fun _ hK1 => sg S (.la gt30 1 rfl rfl rfl <| .xx (ys_call call22 (.cons (.t rfl) .nil) (fun hp w W => c22 _ _ _ _ _ (by exact .old W (by assumption)) (by exact .old W (by assumption)))) rfl <| .as rfl <| .z) fun a w S => sg S (.mv rfl <| .yy (ys_T (by omega) (ys_neq (.t rfl) Ev.c)) rfl <| .z) fun a w S => st_then S (.t rfl) (wp_seq_k fun _ hK2 => wp_region_lit (run S (.yy (ys_bld (ps := []) (us := [_, _, _]) bld30 .nil rfl) rfl <| .mv rfl <| .z) fun a w S => st_m (op_stW S sizeOf30 (.t rfl) (.t rfl) (k := 0) rfl rfl rfl (by simp [Value.oneCell']) fun a w S => run S (.as rfl <| .z) fun a w S => st_nil (then_normal (hK2 _ _ (wp_ret (then_ret ?_)))))))))))))))))
    refine st_ret S (results2 S results7 (Rv.cell (k := 0) ⟨isAgg30, sizeOf30⟩ rfl rfl rfl) (Rv.tmp rfl)) ?_
    rw [e]
    exact ⟨_, _, rfl, (((S.nil_ 67 3 Dot.enc none).nil_ 23 3 Dot.enc none).nil_ 69 6 Ent.enc none).wd.sub (by repeat (first | exact List.Sublist.refl _ | exact List.nil_sublist _ | refine .cons_cons _ ?_ | refine .cons _ ?_)), none, 0, none, 0, none, 0, rfl, rfl⟩
  have hX := (canE_ok X).1 hc
  have rw_c := hc
  unfold Go.Fw.Rets
  refine enter3 func7 rfl ntmps7 rfl fun a S => wp_seq_k fun _ hK1 => wp_region_lit (st_m (op_box S (.t rfl) rfl fun g1 a w S => st_m (op_alloc S zeroValue30 (cs := _) rfl rfl fun g2 a w S => run S (.ac rfl <| .z) fun a w S => st_nil (then_normal (hK1 _ _ (wp_seq_k fun _ hK1 => sg S (.mv rfl <| .xx (ys_call call21 (.cons (.t rfl) .nil) (fun hp w W => c21 _ _ _ (by exact Wd.cellOld W (by assumption)))) rfl <| .nt rfl <| .z) fun a w S => st_else S (.t rfl) (wp_skip (then_normal (hK1 _ _ (wp_seq_k fun _ hK1 => wp_seq_k fun _ hK2 => wp_region_lit (run S (.la gt30 1 rfl rfl rfl <| .xx (ys_call call22 (.cons (.t rfl) .nil) (fun hp w W => c22 _ _ _ _ _ (by exact .old W (by assumption)) (by exact .old W (by assumption)))) rfl <| .z) fun a w S => ?_)))))))))))
  rw [rw_c] at S
  refine run S (.as rfl <| .z) fun a w S => st_nil (then_normal (hK2 _ _ (sg S (.mv rfl <| .yy (ys_F (by omega) (ys_neq (.t rfl) Ev.c)) rfl <| .z) fun a w S => st_else S (.t rfl) (wp_skip (then_normal (hK1 _ _ (wp_seq_k fun _ hK1 => wp_region_lit (run S (.mv rfl <| .mv rfl <| .z) fun a w S => ?_))))))))
  (refine st_m (op_calls S call10 (.cons (.t rfl) (.cons (.t rfl) .nil)) (c10 _ _ _ _ _ (by exact Wd.cellOld S.wd (by assumption)) (by exact Wd.cellOld S.wd (by assumption)) (by exact .old S.wd (by assumption)) (by assumption)) rfl ?_); clear S a w; rintro _ _ ⟨A1, c1, rfl, rfl⟩ a w S)
  refine run S (.as rfl <| .z) fun a w S => st_nil (then_normal (hK1 _ _ (wp_seq_k fun _ hK1 => sg S (.mv rfl <| .ln underlying25 rfl <| .mc rfl <| .z) fun a w S => wp_block ?_)))
  generalize marksG l k = ms at *
  refine st_lpM S [7, 29] (X := Nat) (fun i => [(7, true, .int .i64 0), (29, true, .int .i64 (i : Int))]) (fun _ => [rowOf 23 3 Dot.enc A1 c1 ms, .blk g2 (.cells #[.slice none 0 0, .slice none 0 0, .slice none 0 0] 30), .blk g1 (.cells #[.slice A X.ents.length cap, .slice A2 X.ctx.marks.length cap2, .slice A3 X.ctx.cloud.length cap3] 30)]) (fun i => i ≤ ms.length ∧ (ms.take i).any (overG X.ctx) = false) (fun i => ms.length - i) 0 ⟨Nat.zero_le _, by simp⟩ ?_
  clear S
  rintro i a w ⟨hi, hno⟩ S
  by_cases hlt : i < ms.length
  · obtain ⟨ga, rfl⟩ := S.wd.row_at (k := 0) rfl (by have := (S.wd.room (k := 0) rfl).1; omega)
    obtain ⟨m, hm⟩ : ∃ m, ms[i]? = some m := ⟨ms[i], List.getElem?_eq_getElem hlt⟩
    by_cases ho : m.count < X.ctx.top m.node m.life
    · have e : cleanG ms X = (Cart.zero, 50) := by unfold cleanG; rw [if_pos hc, if_pos (over_yes hm ho)]
      have rw_o := decide_eq_true ho
      refine sg S (.lt (by omega) rfl rfl <| .z) fun a w S => wp_seq_k fun _ hK2 => st_then S (.t rfl) (wp_skip (then_normal (hK2 _ _ (wp_seq_k fun _ hK2 => wp_block (wp_seq_k fun _ hK3 => wp_region_lit (run S (.ix underlying25 sizeOf23 (by omega) rfl rfl <| .yy (ys_ldWA ⟨isAgg23, sizeOf23⟩ (.t rfl) (k := 0) rfl hm (fun _ => rfl)) rfl <| .z) fun a w S => st_m (op_alloc S zeroValue23 (cs := _) rfl rfl fun g3 a w S => st_m (op_stW S sizeOf23 (.t rfl) (.t rfl) (k := 0) rfl rfl rfl (by simp [Value.oneCell']) fun a w S => st_nil (then_normal (hK3 _ _ (wp_seq_k fun _ hK3 => st_quiet S (by kernel_rfl) (by kernel_rfl) fun a S => qrun S (.fa underlying30 sizeOf28 1 rfl rfl rfl <| .la gt28 3 rfl rfl rfl <| .fa underlying23 sizeOf3 0 rfl rfl rfl <| .ld gt3 0 rfl rfl rfl <| .fa underlying23 sizeOf3 1 rfl rfl rfl <| .ld gt3 0 rfl rfl rfl <| .yy (ys_bld (ps := [(0, Go.Operand.tmp 36), (1, Go.Operand.tmp 38)]) (us := [_, _]) bld58 (.cons (.t rfl) (.cons (.t rfl) .nil)) rfl) rfl <| .xx (ys_call call23 (.cons (.t rfl) (.cons (.t rfl) .nil)) (fun hp w W => c23 _ _ _ _ _ _ (by exact .old W (by assumption)))) rfl <| .fa underlying23 sizeOf3 2 rfl rfl rfl <| .ld gt3 0 rfl rfl rfl <| .yy (ys_T (by omega) (ys_gtr (.t rfl) (.t rfl))) rfl <| .z) fun a S => ?_)))))))))))
      (refine q_nil ?_; intro w W; replace S := St.mk S W; clear W)
      refine then_normal (hK3 _ _ (st_then S (.t rfl) (wp_seq_k fun _ hK3 => wp_region_lit (run S (.yy (ys_bld (ps := []) (us := [_, _, _]) bld30 .nil rfl) rfl <| .z) fun a w S => st_m (op_stW S sizeOf30 (.t rfl) (.t rfl) (k := 2) rfl rfl rfl (by simp [Value.oneCell']) fun a w S => run S (.ac rfl <| .z) fun a w S => st_nil (then_normal (hK3 _ _ (wp_ret (in_ret (then_ret (then_ret (in_ret (then_ret (st_ret S (results2 S results7 (Rv.cell (k := 2) ⟨isAgg30, sizeOf30⟩ rfl rfl rfl) (Rv.tmp rfl)) ?_))))))))))))))
      rw [e]
      exact ⟨_, _, rfl, (((S.nil_ 67 3 Dot.enc none).nil_ 23 3 Dot.enc none).nil_ 69 6 Ent.enc none).wd.sub (by repeat (first | exact List.Sublist.refl _ | exact List.nil_sublist _ | refine .cons_cons _ ?_ | refine .cons _ ?_)), none, 0, none, 0, none, 0, rfl, rfl⟩
    · have rw_o := decide_eq_false ho
      refine sg S (.lt (by omega) rfl rfl <| .z) fun a w S => wp_seq_k fun _ hK2 => st_then S (.t rfl) (wp_skip (then_normal (hK2 _ _ (wp_seq_k fun _ hK2 => wp_block (wp_seq_k fun _ hK3 => wp_region_lit (run S (.ix underlying25 sizeOf23 (by omega) rfl rfl <| .yy (ys_ldWA ⟨isAgg23, sizeOf23⟩ (.t rfl) (k := 0) rfl hm (fun _ => rfl)) rfl <| .z) fun a w S => st_m (op_alloc S zeroValue23 (cs := _) rfl rfl fun g3 a w S => st_m (op_stW S sizeOf23 (.t rfl) (.t rfl) (k := 0) rfl rfl rfl (by simp [Value.oneCell']) fun a w S => st_nil (then_normal (hK3 _ _ (wp_seq_k fun _ hK3 => st_quiet S (by kernel_rfl) (by kernel_rfl) fun a S => qrun S (.fa underlying30 sizeOf28 1 rfl rfl rfl <| .la gt28 3 rfl rfl rfl <| .fa underlying23 sizeOf3 0 rfl rfl rfl <| .ld gt3 0 rfl rfl rfl <| .fa underlying23 sizeOf3 1 rfl rfl rfl <| .ld gt3 0 rfl rfl rfl <| .yy (ys_bld (ps := [(0, Go.Operand.tmp 36), (1, Go.Operand.tmp 38)]) (us := [_, _]) bld58 (.cons (.t rfl) (.cons (.t rfl) .nil)) rfl) rfl <| .xx (ys_call call23 (.cons (.t rfl) (.cons (.t rfl) .nil)) (fun hp w W => c23 _ _ _ _ _ _ (by exact .old W (by assumption)))) rfl <| .fa underlying23 sizeOf3 2 rfl rfl rfl <| .ld gt3 0 rfl rfl rfl <| .yy (ys_F (by omega) (ys_gtr (.t rfl) (.t rfl))) rfl <| .z) fun a S => ?_)))))))))))
      (refine q_nil ?_; intro w W; replace S := St.mk S W; clear W)
      refine then_normal (hK3 _ _ (st_else S (.t rfl) (wp_skip (in_normal (then_normal (hK2 _ _ (wp_region_lit (run S (.ad (by unfold I64; omega) rfl <| .mv rfl <| .z) fun a w S => st_nil (then_normal ?_)))))))))
      exact ⟨i + 1, ⟨by omega, over_no hm hno ho⟩, by omega, S.pk⟩
  obtain rfl : i = ms.length := by omega
  rw [List.take_length] at hno
  have e := clean_of hX hno
  have hl1 := cart_len3 hX
  have rw_p := prune_none hX 0
  refine sg S (.ge (by omega) rfl rfl <| .z) fun a w S => wp_seq_k fun _ hK2 => st_else S (.t rfl) (wp_exit (then_exit (then_exit (in_here (then_normal (hK1 _ _ (wp_seq_k fun _ hK1 => wp_region_lit (run S (.la gt30 2 rfl rfl rfl <| .yy (ys_bld (ps := [(0, _)]) (us := [_, _]) bld58 (.cons Ev.c .nil) rfl) rfl <| .z) fun a w S => ?_))))))))
  (refine st_m (op_calls S call24 (.cons (.t rfl) (.cons (.t rfl) .nil)) (c24 _ _ _ _ _ _ _ (by exact .old S.wd (by assumption)) (by exact .old S.wd (by assumption)) (by omega) (by omega) (by omega)) rfl ?_); clear S a w; rintro _ _ ⟨A11, r11, A21, r21, A31, r31, rfl, rfl⟩ a w S)
  rw [rw_p] at S
  refine st_m (op_stW S sizeOf30 (.t rfl) (.t rfl) (k := 5) rfl rfl rfl (by simp [Value.oneCell']) fun a w S => st_nil (then_normal (hK1 _ _ (wp_seq_k fun _ hK1 => sg S (.mv rfl <| .ln underlying25 rfl <| .mc rfl <| .z) fun a w S => wp_block ?_))))
  refine st_lpM S [51] (X := Nat × Option Addr × Nat × Option Addr × Nat × Option Addr × Nat) (fun q => [(51, true, .int .i64 (q.1 : Int))]) (fun q => [rowOf 69 6 Ent.enc q.2.1 q.2.2.1 (pruneL (ms.take q.1) X).ents, rowOf 23 3 Dot.enc q.2.2.2.1 q.2.2.2.2.1 (pruneL (ms.take q.1) X).ctx.marks, rowOf 67 3 Dot.enc q.2.2.2.2.2.1 q.2.2.2.2.2.2 (pruneL (ms.take q.1) X).ctx.cloud, rowOf 23 3 Dot.enc A1 c1 ms, .blk g2 (.cells #[.slice none 0 0, .slice none 0 0, .slice none 0 0] 30), .blk g1 (.cells #[.slice q.2.1 (pruneL (ms.take q.1) X).ents.length q.2.2.1, .slice q.2.2.2.1 (pruneL (ms.take q.1) X).ctx.marks.length q.2.2.2.2.1, .slice q.2.2.2.2.2.1 (pruneL (ms.take q.1) X).ctx.cloud.length q.2.2.2.2.2.2] 30)]) (fun q => q.1 ≤ ms.length) (fun q => ms.length - q.1) (0, A11, r11, A21, r21, A31, r31) (Nat.zero_le _) ?_
  clear S
  rintro ⟨i, q1, r1, q2, r2, q3, r3⟩ a w hi S
  dsimp only at hi S
  have hpl := pruneL_ok (ms.take i) hX
  have hpn := cart_len3 hpl
  by_cases hlt : i < ms.length
  · obtain ⟨ga, rfl⟩ := S.wd.row_at (k := 3) rfl (by have := (S.wd.room (k := 3) rfl).1; omega)
    obtain ⟨m, hm⟩ : ∃ m, ms[i]? = some m := ⟨ms[i], List.getElem?_eq_getElem hlt⟩
    have hst := pruneL_snoc (c := X) hm
    generalize pruneL (ms.take i) X = Y at *
    refine sg S (.lt (by omega) rfl rfl <| .z) fun a w S => wp_seq_k fun _ hK3 => st_then S (.t rfl) (wp_skip (then_normal (hK3 _ _ (wp_seq_k fun _ hK3 => wp_block (wp_seq_k fun _ hK4 => wp_region_lit (run S (.ix underlying25 sizeOf23 (by omega) rfl rfl <| .yy (ys_ldWA ⟨isAgg23, sizeOf23⟩ (.t rfl) (k := 3) rfl hm (fun _ => rfl)) rfl <| .z) fun a w S => st_m (op_alloc S zeroValue23 (cs := _) rfl rfl fun g3 a w S => st_m (op_stW S sizeOf23 (.t rfl) (.t rfl) (k := 0) rfl rfl rfl (by simp [Value.oneCell']) fun a w S => st_nil (then_normal (hK4 _ _ (wp_region_lit (run S (.la gt30 6 rfl rfl rfl <| .fa underlying23 sizeOf3 0 rfl rfl rfl <| .ld gt3 0 rfl rfl rfl <| .fa underlying23 sizeOf3 1 rfl rfl rfl <| .ld gt3 0 rfl rfl rfl <| .yy (ys_bld (ps := [(0, Go.Operand.tmp 57), (1, Go.Operand.tmp 59)]) (us := [_, _]) bld58 (.cons (.t rfl) (.cons (.t rfl) .nil)) rfl) rfl <| .z) fun a w S => ?_))))))))))))
    (refine st_m (op_calls S call24 (.cons (.t rfl) (.cons (.t rfl) .nil)) (c24 _ _ _ _ _ _ _ (by exact Sl.of_own S.wd (k := 1) rfl (fun _ => rfl)) (by exact ⟨(by exact Sl.of_own S.wd (k := 2) rfl (fun _ => rfl)), (by exact Sl.of_own S.wd (k := 3) rfl (fun _ => rfl))⟩) (by omega) (by omega) (by omega)) rfl ?_); clear S a w; rintro _ _ ⟨A12, r12, A22, r22, A32, r32, rfl, rfl⟩ a w S)
    refine st_m (op_stW S sizeOf30 (.t rfl) (.t rfl) (k := 9) rfl rfl rfl (by simp [Value.oneCell']) fun a w S => st_nil (in_normal (then_normal (hK3 _ _ (wp_region_lit (run S (.ad (by unfold I64; omega) rfl <| .mv rfl <| .z) fun a w S => st_nil (then_normal ?_)))))))
    exact ⟨(i + 1, A12, r12, A22, r22, A32, r32), by dsimp only; omega, by dsimp only; omega, by dsimp only; rw [hst]; exact S.pk⟩
  obtain rfl : i = ms.length := by omega
  rw [List.take_length] at S
  refine sg S (.ge (by omega) rfl rfl <| .z) fun a w S => wp_seq_k fun _ hK3 => st_else S (.t rfl) (wp_exit (then_exit (then_exit (in_here (then_normal (hK1 _ _ (wp_seq_k fun _ hK1 => wp_region_lit (run S (.la gt30 5 rfl rfl rfl <| .z) fun a w S => st_m (op_stW S sizeOf30 (.t rfl) (.t rfl) (k := 4) rfl rfl rfl (by simp [Value.oneCell']) fun a w S => run S (.ac rfl <| .z) fun a w S => st_nil (then_normal (hK1 _ _ (wp_ret (st_ret S (results2 S results7 (Rv.cell (k := 4) ⟨isAgg30, sizeOf30⟩ rfl rfl rfl) (Rv.tmp rfl)) ?_)))))))))))))
  rw [e]
  exact ⟨_, _, rfl, S.wd.pk, _, _, _, _, _, _, rfl, rfl⟩
end Go.Proofs.Ytakpdbmdfnialaa
set_option linter.unusedVariables false
set_option linter.unusedSimpArgs false
set_option maxRecDepth 100000
set_option maxHeartbeats 4000000
namespace Go.Fw
def idxW {α : Type} (p : α → Bool) : Nat → List α → Int
  | _, [] => -1
  | k, y :: r => if p y then (k : Int) else idxW p (k + 1) r
theorem idxW_any {α : Type} (p : α → Bool) : ∀ (l : List α) (k : Nat), decide (0 ≤ idxW p k l) = l.any p
  | [], k => rfl
  | y :: r, k => by
    unfold idxW
    by_cases h : p y = true
    · rw [if_pos h, List.any_cons, h, Bool.true_or]
      exact decide_eq_true (by omega)
    · rw [if_neg h, idxW_any p r (k + 1), List.any_cons, Bool.eq_false_iff.2 h, Bool.false_or]
end Go.Fw
namespace Go.Proofs.Ytakpdbmdfnialaa
open Go.Fw Go.Proofs Go.RowKit Go.Proofs.Try
def ReadsV {α : Type} (enc : α → List Value) (w0 : World) (f : FuncId) (cs : List Value) (l : List α) (p : α → Bool) : Prop := ∀ w', Wd w0 [] w' → ∀ x ∈ l, Calls Try.prog f ([Value.agg (enc x).toArray] ++ cs).toArray w' fun e w'' => e = .returned (.bool (p x)) ∧ Bel w'.heap.size w' w''
theorem x88 (w0 : World) (v : Value) (l : List Ent) (f : FuncId) (cs : List Value) (p : Ent → Bool) (hf : ∀ args w, (callFunc f args).run Try.prog w = .ok (.enter f args) w) (hr : ReadsV Ent.enc w0 f cs l p) (h : Sl Ent.enc 6 w0 w0.heap.size v l) :
    Calls Try.prog 88 #[v, .func (.func f) #[] cs.toArray] w0 fun e w' => e = .returned (.int .i64 (idxW p 0 l)) ∧ Bel w0.heap.size w0 w' := by
  obtain ⟨A, cap, rfl, hl, hcap, hA⟩ := h
  refine enter2 func88 rfl ntmps88 rfl fun a S => sg S (.ac rfl <| .z) fun a w S => wp_seq_k fun _ hK1 => sg S (.mv rfl <| .ln underlying24 rfl <| .mc rfl <| .z) fun a w S => wp_block ?_
  refine st_lpM S [4, 5, 8] (X := Nat) (fun k => [(8, true, .int .i64 (k : Int))]) (fun _ => []) (fun k => k ≤ l.length ∧ idxW p k (l.drop k) = idxW p 0 l) (fun k => l.length - k) 0 ⟨Nat.zero_le _, rfl⟩ ?_
  clear S
  intro k a w ⟨hk, hno⟩ S
  by_cases hlt : k < l.length
  · obtain ⟨gq, oq, x, rfl, hx, hd, hcc⟩ := row_at hA hlt
    rw [hd] at hno
    have hrx := fun w' W' => hr w' W' x (List.mem_of_getElem? hx)
    refine sg S (.lt (by omega) rfl rfl <| .z) fun a w S => wp_seq_k fun _ hK2 => st_then S (.t rfl) (wp_skip (then_normal (hK2 _ _ (wp_seq_k fun _ hK2 => wp_block (sg S (.mv rfl <| .as rfl <| .z) fun a w S => wp_seq_k fun _ hK3 => wp_region_lit (run S (.mv rfl <| .mv rfl <| .mv rfl <| .ix underlying24 sizeOf69 (by omega) rfl rfl <| .yy (ys_ldOA ⟨isAgg69, sizeOf69⟩ (.t rfl) (vs := [_, _, _, _, _, _]) rfl (fun _ => hcc)) rfl <| .z) fun a w S => st_y S (ys_callVC (cs := cs) (vs := [.agg (Ent.enc x).toArray]) (v := .bool (p x)) (.t rfl) hf (.cons (.t rfl) .nil) (fun _ w' W' => hrx w' (W'.sub (List.nil_sublist _)))) rfl ?_))))))
    clear S a w
    intro a w S
    cases hp : p x with
    | true =>
      rw [hp] at S
      refine st_nil (then_normal (hK3 _ _ (st_then S (.t rfl) (sg S (.mv rfl <| .as rfl <| .z) fun a w S => wp_ret (in_ret (then_ret (then_ret (in_ret (then_ret (st_ret S (results1 S results88 (Rv.tmp rfl)) ?_))))))))))
      refine ⟨?_, S.wd.below⟩
      rw [← hno, idxW, if_pos hp]
    | false =>
      rw [hp] at S
      refine st_nil (then_normal (hK3 _ _ (st_else S (.t rfl) (wp_skip (in_normal (then_normal (hK2 _ _ (wp_region_lit (run S (.ad (by unfold I64; omega) rfl <| .mv rfl <| .z) fun a w S => st_nil (then_normal ?_))))))))))
      rw [idxW, if_neg (by rw [hp]; decide)] at hno
      exact ⟨k + 1, ⟨by omega, hno⟩, by omega, S.pk⟩
  · obtain rfl : k = l.length := by omega
    rw [List.drop_length] at hno
    refine sg S (.ge (by omega) rfl rfl <| .z) fun a w S => wp_seq_k fun _ hK2 => st_else S (.t rfl) (wp_exit (then_exit (then_exit (in_here (then_normal (hK1 _ _ (sg S (.ac rfl <| .z) fun a w S => wp_ret (st_ret S (results1 S results88 (Rv.tmp rfl)) ?_))))))))
    exact ⟨by rw [← hno]; rfl, S.wd.below⟩
theorem x74 (w0 : World) (v : Value) (l : List Ent) (f : FuncId) (cs : List Value) (p : Ent → Bool) (hf : ∀ args w, (callFunc f args).run Try.prog w = .ok (.enter f args) w) (hr : ReadsV Ent.enc w0 f cs l p) (h : Sl Ent.enc 6 w0 w0.heap.size v l) :
    Calls Try.prog 74 #[v, .func (.func f) #[] cs.toArray] w0 fun e w' => e = .returned (.bool (l.any p)) ∧ Bel w0.heap.size w0 w' := by
  have hs := h
  obtain ⟨A, cap, rfl, hl, hcap, hA⟩ := h
  refine enter2 func74 rfl ntmps74 rfl fun a S => sg S (.ac rfl <| .z) fun a w S => wp_seq_k fun _ hK1 => wp_region_lit (run S (.mv rfl <| .mv rfl <| .z) fun a w S => st_y S (ys_call call88 (.cons (.t rfl) (.cons (.t rfl) .nil)) (fun _ w' W' => x88 w' _ l f cs p hf (fun w'' W'' => hr w'' ((W'.sub (List.nil_sublist _)).step W''.below)) (Sl.old W' hs))) rfl ?_)
  clear S a w
  intro a w S
  refine run S (.yy (ys_geq (.t rfl) Ev.c) rfl <| .as rfl <| .z) fun a w S => st_nil (then_normal (hK1 _ _ (wp_ret (st_ret S (results1 S results74 (Rv.tmp rfl)) ?_))))
  exact ⟨by rw [← idxW_any p l 0], S.wd.below⟩
end Go.Proofs.Ytakpdbmdfnialaa
set_option linter.unusedVariables false
set_option linter.unusedSimpArgs false
set_option maxRecDepth 100000
set_option maxHeartbeats 4000000
namespace Go.Fw
theorem CartRd.old {w0 w : World} {L : List Chunk} {X : Cart} {s : Sls3} (W : Wd w0 L w) (h : CartRd w0 X s) : CartRd w X s := ⟨.old W h.1, .old W h.2, .old W h.3⟩
end Go.Fw
namespace Go.Proofs.Ytakpdbmdfnialaa
open Go.Fw Go.Proofs Go.RowKit Go.Proofs.Try
theorem c75 (w0 : World) (x : Ent) (p q : Int) (g : Nat) (h0 : w0.cell? ⟨g, 0, none⟩ = some (.int .i64 p)) (h1 : w0.cell? ⟨g, 1, none⟩ = some (.int .i64 q)) :
    Calls Try.prog 75 #[.agg (Ent.enc x).toArray, .pointer (some ⟨g, 0, none⟩)] w0 fun e w' => e = .returned (.bool (decide (x.dot.node = p ∧ x.dot.life = q))) ∧ Bel w0.heap.size w0 w' := by
  refine enter2 func75 rfl ntmps75 rfl fun a S => wp_seq_k fun _ hK1 => wp_region_lit (st_m (op_box S (.t rfl) rfl fun g1 a w S => run S (.ac rfl <| .z) fun a w S => st_nil (then_normal (hK1 _ _ (wp_seq_k fun _ hK1 => wp_region_lit (run S (.fa underlying69 sizeOf67 1 rfl rfl rfl <| .fa underlying67 sizeOf3 1 rfl rfl rfl <| .ld gt3 0 rfl rfl rfl <| .fa underlying58 sizeOf3 0 rfl rfl rfl <| .yy (ys_ldO ⟨isAgg3, sizeOf3⟩ (.t rfl) (fun _ => h0)) rfl <| .yy (ys_eql (.t rfl) (.t rfl)) rfl <| .mv rfl <| .z) fun a w S => st_yg S rfl rfl (Yr.ys (ys_fieldN (FieldT.mk underlying69 rfl sizeOf67 rfl) (.t rfl) (i' := 1) rfl)) rfl fun a w S => st_yg S rfl rfl (Yr.ys (ys_fieldN (FieldT.mk underlying67 rfl sizeOf3 rfl) (Ev.g rfl) (i' := 2) rfl)) rfl fun a w S => st_yg S rfl rfl (Yr.ys (ys_ld ⟨isAgg3, sizeOf3⟩ (Ev.g rfl) (k := 0) rfl rfl)) rfl fun a w S => st_yg S rfl rfl (Yr.ys (ys_fieldN (FieldT.mk underlying58 rfl sizeOf3 rfl) (.t rfl) (i' := 1) rfl)) rfl fun a w S => st_yg S rfl rfl (Yr.ys (ys_ldO ⟨isAgg3, sizeOf3⟩ (Ev.g rfl) (fun _ => h1))) rfl fun a w S => st_yg S rfl rfl (Yr.ys (ys_eql (Ev.g rfl) (Ev.g rfl))) rfl fun a w S => run S (.yy (ys_and (.t rfl) (Ev.g rfl) Ev.c) rfl <| .as rfl <| .z) fun a w S => st_nil (then_normal (hK1 _ _ (wp_ret (st_ret S (results1 S results75 (Rv.tmp rfl)) ?_))))))))))
  exact ⟨by simp, S.wd.below⟩
theorem c74 (w0 : World) (v : Value) (l : List Ent) (p q : Int) (g : Nat) (h : Sl Ent.enc 6 w0 w0.heap.size v l) (h0 : w0.cell? ⟨g, 0, none⟩ = some (.int .i64 p)) (h1 : w0.cell? ⟨g, 1, none⟩ = some (.int .i64 q)) :
    Calls Try.prog 74 #[v, .func (.func 75) #[] #[.pointer (some ⟨g, 0, none⟩)]] w0 fun e w' => e = .returned (.bool (l.any fun x => decide (x.dot.node = p ∧ x.dot.life = q))) ∧ Bel w0.heap.size w0 w' :=
  x74 w0 v l _ [.pointer (some ⟨g, 0, none⟩)] _ call75 (fun w' W' x _ => c75 w' x p q g (Wd.cellOld W' h0) (Wd.cellOld W' h1)) h
theorem c52 (w0 : World) (v1 : Value) (A2 A3 : Option Addr) (n2 c2 n3 c3 : Nat) (l : List Ent) (p q : Int) (h : Sl Ent.enc 6 w0 w0.heap.size v1 l) :
    Calls Try.prog 52 #[.agg #[v1, .slice A2 n2 c2, .slice A3 n3 c3], .agg #[.int .i64 p, .int .i64 q]] w0 fun e w' => e = .returned (.bool (l.any fun x => decide (x.dot.node = p ∧ x.dot.life = q))) ∧ Bel w0.heap.size w0 w' := by
  have hs := h
  obtain ⟨A, cap, rfl, hl, hcap, hA⟩ := h
  refine enter2 func52 rfl ntmps52 rfl fun a S => wp_seq_k fun _ hK1 => wp_region_lit (st_m (op_box S (.t rfl) rfl fun g1 a w S => st_m (op_box S (.t rfl) rfl fun g2 a w S => run S (.ac rfl <| .z) fun a w S => st_nil (then_normal (hK1 _ _ (sg S (.fa underlying30 sizeOf24 0 rfl rfl rfl <| .ld gt24 1 rfl rfl rfl <| .yy (ys_mkFunc (.cons (.t rfl) .nil)) rfl <| .xx (ys_call call74 (.cons (.t rfl) (.cons (.t rfl) .nil)) (fun hp w W => c74 _ _ _ _ _ _ (by exact .old W (by assumption)) (by exact Wd.cell W (k := 0) rfl rfl) (by exact Wd.cell W (k := 0) rfl rfl))) rfl <| .as rfl <| .z) fun a w S => wp_ret (st_ret S (results1 S results52 (Rv.tmp rfl)) ?_)))))))
  exact ⟨rfl, S.wd.below⟩
end Go.Proofs.Ytakpdbmdfnialaa
set_option linter.unusedVariables false
set_option linter.unusedSimpArgs false
set_option maxRecDepth 100000
set_option maxHeartbeats 4000000
namespace Go.Fw
def CartsRd (w : World) (l : List SCart) : Prop := ∀ x ∈ l, CartRd w x.1 x.2
theorem CartsRd.old {w0 w : World} {L : List Chunk} {l : List SCart} (W : Wd w0 L w) (h : CartsRd w0 l) : CartsRd w l := fun x hx => (h x hx).old W
theorem CartRd.wd {w0 w : World} {X : Cart} {s : Sls3} (h : CartRd w0 X s) (W : Wd w0 [] w) : CartRd w X s := h.old W
end Go.Fw
namespace Go.Proofs.Ytakpdbmdfnialaa
open Go.Fw Go.Proofs Go.RowKit Go.Proofs.Try
theorem c76 (w0 : World) (v1 : Value) (l : List Dot) (x y z : Int) (h : Sl Dot.enc 3 w0 w0.heap.size v1 l) :
    Calls Try.prog 76 #[v1, .agg #[.int .i64 x, .int .i64 y, .int .i64 z]] w0 fun e w' => e = .returned (.int .i64 (idxFrom ⟨x, y, z⟩ 0 l)) ∧ Bel w0.heap.size w0 w' := by
  obtain ⟨A, cap, rfl, hl, hcap, hA⟩ := h
  refine enter2 func76 rfl ntmps76 rfl fun a S => wp_seq_k fun _ hK1 => wp_region_lit (st_m (op_box S (.t rfl) rfl fun g1 a w S => run S (.ac rfl <| .z) fun a w S => st_nil (then_normal (hK1 _ _ (wp_seq_k fun _ hK1 => sg S (.mv rfl <| .ln underlying25 rfl <| .mc rfl <| .z) fun a w S => wp_block ?_)))))
  refine st_lpK S (X := Nat) (fun k => [(8, true, .int .i64 (k : Int))]) (fun _ L => L) (fun k => k ≤ l.length ∧ idxFrom ⟨x, y, z⟩ k (l.drop k) = idxFrom ⟨x, y, z⟩ 0 l) (fun k => l.length - k) 0 ⟨Nat.zero_le _, rfl⟩ ?_
  clear S
  intro k a w ⟨hk, hno⟩ S
  by_cases hlt : k < l.length
  · obtain ⟨g, o, m, rfl, hm, hd, hc⟩ := row_at hA hlt
    clear hA
    refine sg S (.lt (by omega) rfl rfl <| .z) fun a w S => wp_seq_k fun _ hK2 => st_then S (.t rfl) (wp_skip (then_normal (hK2 _ _ (wp_seq_k fun _ hK2 => wp_block (sg S (.mv rfl <| .as rfl <| .z) fun a w S => wp_seq_k fun _ hK3 => st_quiet S (by kernel_rfl) (by kernel_rfl) fun a S => qrun S (.la gt23 0 rfl rfl rfl <| .mv rfl <| .mv rfl <| .ix underlying25 sizeOf23 (by omega) rfl rfl <| .yy (ys_ldOA ⟨isAgg23, sizeOf23⟩ (.t rfl) (vs := [_, _, _]) rfl (fun _ => hc)) rfl <| .yy (ys_eqA (.t rfl) (.t rfl) eq23) rfl <| .z) fun a S => ?_)))))
    (refine q_nil ?_; intro w W; replace S := St.mk S W; clear W)
    refine then_normal (hK3 _ _ ?_)
    refine st_if S (.t rfl) (fun h1 => ?_) (fun h1 => ?_)
    refine sg S (.mv rfl <| .as rfl <| .z) fun a w S => wp_ret (in_ret (then_ret (then_ret (in_ret (then_ret (st_ret S (results1 S results76 (Rv.tmp rfl)) ?_))))))
    rotate_left
    refine wp_skip (in_normal (then_normal (hK2 _ _ (wp_region_lit (run S (.ad (by unfold I64; omega) rfl <| .mv rfl <| .z) fun a w S => st_nil (then_normal ?_))))))
    rotate_left
    · refine ⟨?_, S.wd.below⟩
      obtain ⟨rfl, rfl, rfl⟩ := h1
      rw [← hno, hd, idxFrom, if_pos rfl]
    · rw [hd, idxFrom, if_neg (fun e => h1 (by cases e; exact ⟨rfl, rfl, rfl⟩))] at hno
      exact ⟨k + 1, ⟨by omega, hno⟩, by omega, S.wk⟩
  · refine sg S (.ge (by omega) rfl rfl <| .z) fun a w S => wp_seq_k fun _ hK2 => st_else S (.t rfl) (wp_exit (then_exit (then_exit (in_here (then_normal (hK1 _ _ (sg S (.ac rfl <| .z) fun a w S => wp_ret (st_ret S (results1 S results76 (Rv.tmp rfl)) ?_))))))))
    refine ⟨?_, S.wd.below⟩
    rw [← hno, List.drop_eq_nil_of_le (by omega)]; rfl
theorem c55 (w0 : World) (v1 : Value) (l : List Dot) (x y z : Int) (h : Sl Dot.enc 3 w0 w0.heap.size v1 l) :
    Calls Try.prog 55 #[v1, .agg #[.int .i64 x, .int .i64 y, .int .i64 z]] w0 fun e w' => e = .returned (.bool (decide ((⟨x, y, z⟩ : Dot) ∈ l))) ∧ Bel w0.heap.size w0 w' := by
  refine enter2 func55 rfl ntmps55 rfl fun a S => wp_seq_k fun _ hK1 => wp_region_lit (st_m (op_box S (.t rfl) rfl fun g1 a w S => run S (.ac rfl <| .z) fun a w S => st_nil (then_normal (hK1 _ _ (sg S (.mv rfl <| .la gt23 0 rfl rfl rfl <| .xx (ys_call call76 (.cons (.t rfl) (.cons (.t rfl) .nil)) (fun hp w W => c76 _ _ _ _ _ _ (by exact .old W (by assumption)))) rfl <| .yy (ys_geq (.t rfl) Ev.c) rfl <| .as rfl <| .z) fun a w S => wp_ret (st_ret S (results1 S results55 (Rv.tmp rfl)) ?_))))))
  refine ⟨?_, S.wd.below⟩
  rw [idx_mem]
theorem x73 (w0 : World) (v : Value) (l : List SCart) (f : FuncId) (cs : List Value) (p : SCart → Bool) (hf : ∀ args w, (callFunc f args).run Try.prog w = .ok (.enter f args) w) (hr : ReadsV SCart.enc w0 f cs l p) (h : Sl SCart.enc 3 w0 w0.heap.size v l) :
    Calls Try.prog 73 #[v, .func (.func f) #[] cs.toArray] w0 fun e w' => e = .returned (.int .i64 (idxW p 0 l)) ∧ Bel w0.heap.size w0 w' := by
  obtain ⟨A, cap, rfl, hl, hcap, hA⟩ := h
  refine enter2 func73 rfl ntmps73 rfl fun a S => sg S (.ac rfl <| .z) fun a w S => wp_seq_k fun _ hK1 => sg S (.mv rfl <| .ln underlying56 rfl <| .mc rfl <| .z) fun a w S => wp_block ?_
  refine st_lpM S [4, 5, 8] (X := Nat) (fun k => [(8, true, .int .i64 (k : Int))]) (fun _ => []) (fun k => k ≤ l.length ∧ idxW p k (l.drop k) = idxW p 0 l) (fun k => l.length - k) 0 ⟨Nat.zero_le _, rfl⟩ ?_
  clear S
  intro k a w ⟨hk, hno⟩ S
  by_cases hlt : k < l.length
  · obtain ⟨gq, oq, x, rfl, hx, hd, hcc⟩ := row_at hA hlt
    rw [hd] at hno
    have hrx := fun w' W' => hr w' W' x (List.mem_of_getElem? hx)
    refine sg S (.lt (by omega) rfl rfl <| .z) fun a w S => wp_seq_k fun _ hK2 => st_then S (.t rfl) (wp_skip (then_normal (hK2 _ _ (wp_seq_k fun _ hK2 => wp_block (sg S (.mv rfl <| .as rfl <| .z) fun a w S => wp_seq_k fun _ hK3 => wp_region_lit (run S (.mv rfl <| .mv rfl <| .mv rfl <| .ix underlying56 sizeOf30 (by omega) rfl rfl <| .yy (ys_ldOA ⟨isAgg30, sizeOf30⟩ (.t rfl) (vs := [_, _, _]) rfl (fun _ => hcc)) rfl <| .z) fun a w S => st_y S (ys_callVC (cs := cs) (vs := [.agg (SCart.enc x).toArray]) (v := .bool (p x)) (.t rfl) hf (.cons (.t rfl) .nil) (fun _ w' W' => hrx w' (W'.sub (List.nil_sublist _)))) rfl ?_))))))
    clear S a w
    intro a w S
    cases hp : p x with
    | true =>
      rw [hp] at S
      refine st_nil (then_normal (hK3 _ _ (st_then S (.t rfl) (sg S (.mv rfl <| .as rfl <| .z) fun a w S => wp_ret (in_ret (then_ret (then_ret (in_ret (then_ret (st_ret S (results1 S results73 (Rv.tmp rfl)) ?_))))))))))
      refine ⟨?_, S.wd.below⟩
      rw [← hno, idxW, if_pos hp]
    | false =>
      rw [hp] at S
      refine st_nil (then_normal (hK3 _ _ (st_else S (.t rfl) (wp_skip (in_normal (then_normal (hK2 _ _ (wp_region_lit (run S (.ad (by unfold I64; omega) rfl <| .mv rfl <| .z) fun a w S => st_nil (then_normal ?_))))))))))
      rw [idxW, if_neg (by rw [hp]; decide)] at hno
      exact ⟨k + 1, ⟨by omega, hno⟩, by omega, S.pk⟩
  · obtain rfl : k = l.length := by omega
    rw [List.drop_length] at hno
    refine sg S (.ge (by omega) rfl rfl <| .z) fun a w S => wp_seq_k fun _ hK2 => st_else S (.t rfl) (wp_exit (then_exit (then_exit (in_here (then_normal (hK1 _ _ (sg S (.ac rfl <| .z) fun a w S => wp_ret (st_ret S (results1 S results73 (Rv.tmp rfl)) ?_))))))))
    exact ⟨by rw [← hno]; rfl, S.wd.below⟩
theorem x48 (w0 : World) (v : Value) (l : List SCart) (f : FuncId) (cs : List Value) (p : SCart → Bool) (hf : ∀ args w, (callFunc f args).run Try.prog w = .ok (.enter f args) w) (hr : ReadsV SCart.enc w0 f cs l p) (h : Sl SCart.enc 3 w0 w0.heap.size v l) :
    Calls Try.prog 48 #[v, .func (.func f) #[] cs.toArray] w0 fun e w' => e = .returned (.bool (l.any p)) ∧ Bel w0.heap.size w0 w' := by
  have hs := h
  obtain ⟨A, cap, rfl, hl, hcap, hA⟩ := h
  refine enter2 func48 rfl ntmps48 rfl fun a S => sg S (.ac rfl <| .z) fun a w S => wp_seq_k fun _ hK1 => wp_region_lit (run S (.mv rfl <| .mv rfl <| .z) fun a w S => st_y S (ys_call call73 (.cons (.t rfl) (.cons (.t rfl) .nil)) (fun _ w' W' => x73 w' _ l f cs p hf (fun w'' W'' => hr w'' ((W'.sub (List.nil_sublist _)).step W''.below)) (Sl.old W' hs))) rfl ?_)
  clear S a w
  intro a w S
  refine run S (.yy (ys_geq (.t rfl) Ev.c) rfl <| .as rfl <| .z) fun a w S => st_nil (then_normal (hK1 _ _ (wp_ret (st_ret S (results1 S results48 (Rv.tmp rfl)) ?_))))
  exact ⟨by rw [← idxW_any p l 0], S.wd.below⟩
end Go.Proofs.Ytakpdbmdfnialaa
set_option linter.unusedVariables false
set_option linter.unusedSimpArgs false
set_option maxRecDepth 100000
set_option maxHeartbeats 4000000
namespace Go.Fw
def badG (l : List Cart) : Int := match l.find? (fun c => decide (canE c ≠ 0)) with
  | some c => canE c
  | none => 0
theorem bad_none {l : List Cart} (h : ∀ c ∈ l, canE c = 0) : badG l = 0 := by
  unfold badG
  rw [List.find?_eq_none.2 fun x hx => by rw [h x hx]; simp]
theorem bad_at : ∀ {l : List Cart} {i : Nat} {c : Cart}, (∀ x ∈ l.take i, canE x = 0) → l[i]? = some c → canE c ≠ 0 → badG l = canE c
  | [], i, c, _, h, _ => by simp at h
  | y :: r, 0, c, _, h, hc => by
    simp at h
    subst h
    unfold badG
    rw [List.find?_cons_of_pos (by simpa using hc)]
  | y :: r, i + 1, c, hn, h, hc => by
    have hy := hn y (by simp)
    have ih := bad_at (l := r) (i := i) (c := c) (fun x hx => hn x (by simp [hx])) (by simpa using h) hc
    unfold badG at ih ⊢
    rw [List.find?_cons_of_neg (by simp [hy])]
    exact ih
theorem ready_def (l : List Cart) (p q : Int) : readyG l p q = if mayD ⟨p, q, 1⟩ = false then (⟨0, 0, 0⟩, 1) else if badG l ≠ 0 then (⟨0, 0, 0⟩, badG l) else match l with
    | [] => (⟨0, 0, 0⟩, 200)
    | c :: r => if (r.all fun x => decide (c = x)) = false then (⟨0, 0, 0⟩, 200) else if livesK c p q = true then (⟨0, 0, 0⟩, 201) else if c.ctx.top p q = 0 then (⟨0, 0, 0⟩, 62)
      else if (c.ctx.cloud.any fun d => decide (d.node = p ∧ d.life = q)) = true then (⟨0, 0, 0⟩, 202) else (⟨p, q, c.ctx.top p q⟩, 0) := by
  unfold readyG badG
  by_cases h1 : mayD ⟨p, q, 1⟩ = false
  · rw [if_pos h1, if_pos h1]
  · rw [if_neg h1, if_neg h1]
    cases hf : l.find? (fun c => decide (canE c ≠ 0)) with
    | some c =>
      have := List.find?_some hf
      simp at this
      simp [this]
    | none =>
      dsimp only
      rw [if_neg (fun h => h rfl)]
      cases l <;> rfl
end Go.Fw
namespace Go.Proofs.Ytakpdbmdfnialaa
open Go.Fw Go.Proofs Go.RowKit Go.Proofs.Try
theorem c43 (w0 : World) (f : Nat) (cs : Array Value) (e : Int) : Rets Try.prog 43 #[.func (.func f) #[] cs, .int .i64 e] w0 fun u L => ∃ g, u = .agg #[.func (.func f) #[] cs, .func (.func 72) #[] #[.pointer (some ⟨g, 0, none⟩)]] ∧ L = [.blk g (.cells #[.int .i64 e] 38)] := by
  unfold Go.Fw.Rets
  refine enter2 func43 rfl ntmps43 rfl fun a S => wp_seq_k fun _ hK1 => wp_region_lit (st_m (op_box1 S (.t rfl) rfl rfl fun g1 a w S => st_m (op_alloc S zeroValue91 (cs := _) rfl rfl fun g2 a w S => st_nil (then_normal (hK1 _ _ (wp_seq_k fun _ hK1 => wp_region_lit (run S (.mv rfl <| .yy (ys_mkFunc (.cons (.t rfl) .nil)) rfl <| .yy (ys_bld (ps := [(0, Go.Operand.tmp 5), (1, Go.Operand.tmp 6)]) (us := [_, _]) bld91 (.cons (.t rfl) (.cons (.t rfl) .nil)) rfl) rfl <| .z) fun a w S => st_m (op_stW S sizeOf91 (.t rfl) (.t rfl) (k := 0) rfl rfl rfl (by simp [Value.oneCell']) fun a w S => st_nil (then_normal (hK1 _ _ (wp_ret (st_ret S (results1 S results43 (Rv.cell (k := 0) ⟨isAgg91, sizeOf91⟩ rfl rfl rfl)) ?_))))))))))))
  exact ⟨_, _, rfl, S.wd.pk, _, rfl, rfl⟩
theorem c72 (w0 : World) (g : Nat) (e : Int) (h : w0.cell? ⟨g, 0, none⟩ = some (.int .i64 e)) : Calls Try.prog 72 #[.pointer (some ⟨g, 0, none⟩)] w0 fun u w' => u = .returned (.int .i64 e) ∧ Bel w0.heap.size w0 w' := by
  refine enter1 func72 rfl ntmps72 rfl fun a S => sg S (.ac rfl <| .z) fun a w S => sg S (.yy (ys_ldO ⟨isAgg38, sizeOf38⟩ (.t rfl) (fun _ => h)) rfl <| .as rfl <| .z) fun a w S => wp_ret (st_ret S (results1 S results72 (Rv.tmp rfl)) ?_)
  exact ⟨rfl, S.wd.below⟩
theorem c44 (w0 : World) (g : Nat) (p q : Int) (h0 : w0.cell? ⟨g, 0, none⟩ = some (.int .i64 p)) (h1 : w0.cell? ⟨g, 1, none⟩ = some (.int .i64 q)) :
    Calls Try.prog 44 #[.pointer (some ⟨g, 0, none⟩)] w0 fun u w' => u = .returned (.bool (mayD ⟨p, q, 1⟩)) ∧ Bel w0.heap.size w0 w' := by
  refine enter1 func44 rfl ntmps44 rfl fun a S => sg S (.ac rfl <| .z) fun a w S => sg S (.fa underlying58 sizeOf3 0 rfl rfl rfl <| .yy (ys_ldO ⟨isAgg3, sizeOf3⟩ (.t rfl) (fun _ => h0)) rfl <| .fa underlying58 sizeOf3 1 rfl rfl rfl <| .yy (ys_ldO ⟨isAgg3, sizeOf3⟩ (.t rfl) (fun _ => h1)) rfl <| .yy (ys_bld (ps := [(0, Go.Operand.tmp 3), (1, Go.Operand.tmp 5), (2, _)]) (us := [_, _, _]) bld23 (.cons (.t rfl) (.cons (.t rfl) (.cons Ev.c .nil))) rfl) rfl <| .xx (ys_call call27 (.cons (.t rfl) .nil) (fun hp w W => c27 _ _ _ _)) rfl <| .as rfl <| .z) fun a w S => wp_ret (st_ret S (results1 S results44 (Rv.tmp rfl)) ?_)
  exact ⟨rfl, S.wd.below⟩
theorem c46 (w0 : World) (g : Nat) (e : Int) (h : w0.cell? ⟨g, 0, none⟩ = some (.int .i64 e)) : Calls Try.prog 46 #[.pointer (some ⟨g, 0, none⟩)] w0 fun u w' => u = .returned (.int .i64 e) ∧ Bel w0.heap.size w0 w' := by
  refine enter1 func46 rfl ntmps46 rfl fun a S => sg S (.ac rfl <| .z) fun a w S => sg S (.yy (ys_ldO ⟨isAgg38, sizeOf38⟩ (.t rfl) (fun _ => h)) rfl <| .as rfl <| .z) fun a w S => wp_ret (st_ret S (results1 S results46 (Rv.tmp rfl)) ?_)
  exact ⟨rfl, S.wd.below⟩
theorem c45 {w0 w : World} {L : List Chunk} {g1 g4 : Nat} {v : Value} {l : List SCart} (W : Wd w0 (.blk g1 (.cells #[v] 56) :: .blk g4 (.cells #[.int .i64 0] 38) :: L) w) (h : Sl SCart.enc 3 w0 w0.heap.size v l) (hc : CartsRd w0 l) :
    RetsO Try.prog 45 #[.pointer (some ⟨g1, 0, none⟩), .pointer (some ⟨g4, 0, none⟩)] w0 w fun u L' => u = .bool (decide (badG (l.map (·.1)) = 0)) ∧ L' = .blk g1 (.cells #[v] 56) :: .blk g4 (.cells #[.int .i64 (badG (l.map (·.1)))] 38) :: L := by
  obtain ⟨A, cap, rfl, hl, hcap, hA⟩ := id h
  unfold Go.Fw.RetsO
  refine enterW2 W func45 rfl ntmps45 rfl fun a S => sg S (.ac rfl <| .z) fun a w S => wp_seq_k fun _ hK1 => sg S (.ld gt56 0 rfl rfl rfl <| .ln underlying56 rfl <| .mc rfl <| .z) fun a w S => wp_block ?_
  refine st_lpM S [2, 7] (X := Nat) (fun i => [(2, true, .bool false), (7, true, .int .i64 (i : Int))]) (fun _ => .blk g1 (.cells #[.slice A l.length cap] 56) :: .blk g4 (.cells #[.int .i64 0] 38) :: L) (fun i => i ≤ l.length ∧ ∀ x ∈ (l.map (·.1)).take i, canE x = 0) (fun i => l.length - i) 0 ⟨Nat.zero_le _, by simp⟩ ?_
  clear S
  rintro i a w ⟨hi, hno⟩ S
  by_cases hlt : i < l.length
  · obtain ⟨gq, oq, x, rfl, hx, hd, hcx⟩ := row_at hA hlt
    have r1 := (hc x (List.mem_of_getElem? hx)).ents
    have r2 := (hc x (List.mem_of_getElem? hx)).ctx
    have e1 : (l.map (·.1))[i]? = some x.1 := by rw [List.getElem?_map, hx]; rfl
    by_cases he : canE x.1 = 0
    · have rw_e := he
      refine sg S (.lt (by omega) rfl rfl <| .z) fun a w S => wp_seq_k fun _ hK2 => st_then S (.t rfl) (wp_skip (then_normal (hK2 _ _ (wp_seq_k fun _ hK2 => wp_block (wp_seq_k fun _ hK3 => wp_region_lit (run S (.ix underlying56 sizeOf30 (by omega) rfl rfl <| .yy (ys_ldOA ⟨isAgg30, sizeOf30⟩ (.t rfl) (vs := [_, _, _]) rfl (fun _ => hcx)) rfl <| .z) fun a w S => st_m (op_alloc S zeroValue30 (cs := _) rfl rfl fun g2 a w S => st_m (op_stW S sizeOf30 (.t rfl) (.t rfl) (k := 0) rfl rfl rfl (by simp [Value.oneCell']) fun a w S => st_nil (then_normal (hK3 _ _ (wp_seq_k fun _ hK3 => wp_region_lit (run S (.la gt30 0 rfl rfl rfl <| .xx (ys_call call22 (.cons (.t rfl) .nil) (fun hp w W => c22 _ _ _ _ _ (by exact .old W (by assumption)) (by exact .old W (by assumption)))) rfl <| .z) fun a w S => ?_))))))))))))
      rw [rw_e] at S
      refine st_m (op_st S sizeOf38 (.t rfl) (.t rfl) (k := 2) rfl rfl (by simp) fun a w S => st_nil (then_normal (hK3 _ _ (sg S (.ld gt38 2 rfl rfl rfl <| .yy (ys_F (by omega) (ys_neq (.t rfl) Ev.c)) rfl <| .z) fun a w S => st_else S (.t rfl) (wp_skip (in_normal (then_normal (hK2 _ _ (wp_region_lit (run S (.ad (by unfold I64; omega) rfl <| .mv rfl <| .z) fun a w S => st_nil (then_normal ?_)))))))))))
      refine ⟨i + 1, ⟨by omega, fun y hy => ?_⟩, by omega, S.pk⟩
      rw [List.take_add_one, e1, Option.toList_some, List.mem_append, List.mem_singleton] at hy
      rcases hy with hy | rfl
      · exact hno y hy
      · exact he
    · have rw_e : decide (canE x.1 = 0) = false := decide_eq_false he
      have eb := bad_at hno e1 he
      refine sg S (.lt (by omega) rfl rfl <| .z) fun a w S => wp_seq_k fun _ hK2 => st_then S (.t rfl) (wp_skip (then_normal (hK2 _ _ (wp_seq_k fun _ hK2 => wp_block (wp_seq_k fun _ hK3 => wp_region_lit (run S (.ix underlying56 sizeOf30 (by omega) rfl rfl <| .yy (ys_ldOA ⟨isAgg30, sizeOf30⟩ (.t rfl) (vs := [_, _, _]) rfl (fun _ => hcx)) rfl <| .z) fun a w S => st_m (op_alloc S zeroValue30 (cs := _) rfl rfl fun g2 a w S => st_m (op_stW S sizeOf30 (.t rfl) (.t rfl) (k := 0) rfl rfl rfl (by simp [Value.oneCell']) fun a w S => st_nil (then_normal (hK3 _ _ (wp_seq_k fun _ hK3 => wp_region_lit (run S (.la gt30 0 rfl rfl rfl <| .xx (ys_call call22 (.cons (.t rfl) .nil) (fun hp w W => c22 _ _ _ _ _ (by exact .old W (by assumption)) (by exact .old W (by assumption)))) rfl <| .z) fun a w S => st_m (op_st S sizeOf38 (.t rfl) (.t rfl) (k := 2) rfl rfl (by simp) fun a w S => st_nil (then_normal (hK3 _ _ (sg S (.ld gt38 2 rfl rfl rfl <| .yy (ys_T (by omega) (ys_neq (.t rfl) Ev.c)) rfl <| .z) fun a w S => st_then S (.t rfl) (sg S (.ac rfl <| .z) fun a w S => wp_ret (in_ret (then_ret (then_ret (in_ret (then_ret (st_ret S (results1 S results45 (Rv.tmp rfl)) ?_)))))))))))))))))))))))
      rw [eb, decide_eq_false he]
      exact ⟨_, _, rfl, S.wd.pk, rfl, rfl⟩
  obtain rfl : i = l.length := by omega
  have eb : badG (l.map (·.1)) = 0 := bad_none fun c hc' => hno c (by rw [List.take_of_length_le (by simp)]; exact hc')
  refine sg S (.ge (by omega) rfl rfl <| .z) fun a w S => wp_seq_k fun _ hK2 => st_else S (.t rfl) (wp_exit (then_exit (then_exit (in_here (then_normal (hK1 _ _ (sg S (.ac rfl <| .z) fun a w S => wp_ret (st_ret S (results1 S results45 (Rv.tmp rfl)) ?_))))))))
  rw [eb]
  exact ⟨_, _, rfl, S.wd.pk, rfl, rfl⟩
theorem c49 (w0 : World) (g : Nat) (v : Value) (c x : SCart) (r : List SCart) (h0 : w0.cell? ⟨g, 0, none⟩ = some v) (h : Sl SCart.enc 3 w0 w0.heap.size v (c :: r)) (hc : CartRd w0 c.1 c.2) (hx : CartRd w0 x.1 x.2) :
    Calls Try.prog 49 #[.agg (SCart.enc x).toArray, .pointer (some ⟨g, 0, none⟩)] w0 fun u w' => u = .returned (.bool (!decide (x.1 = c.1))) ∧ Bel w0.heap.size w0 w' := by
  obtain ⟨A, cap, rfl, hl, hcap, hA⟩ := id h
  have r1 := hc.ents
  have r2 := hc.ctx
  have r3 := hx.ents
  have r4 := hx.ctx
  obtain ⟨gq, oq, y, rfl, hy, hd, hcc⟩ := row_at hA (show 0 < (c :: r).length by simp)
  obtain rfl : c = y := by simpa using hy
  have hlen : 0 < (c :: r).length := by simp
  refine enter2 func49 rfl ntmps49 rfl fun a S => wp_seq_k fun _ hK1 => wp_region_lit (st_m (op_box S (.t rfl) rfl fun g1 a w S => run S (.ac rfl <| .z) fun a w S => st_nil (then_normal (hK1 _ _ (wp_seq_k fun _ hK1 => st_quiet S (by kernel_rfl) (by kernel_rfl) fun a S => qrun S (.la gt30 0 rfl rfl rfl <| .yy (ys_ldO ⟨isAgg56, sizeOf56⟩ (.t rfl) (fun _ => h0)) rfl <| .yy (ys_ixS (j := 0) underlying56 sizeOf30 (.t rfl) Ev.c (fun _ => by omega)) rfl <| .yy (ys_ldOA ⟨isAgg30, sizeOf30⟩ (.t rfl) (vs := [_, _, _]) rfl (fun _ => hcc)) rfl <| .xx (ys_call call50 (.cons (.t rfl) (.cons (.t rfl) .nil)) (fun hp w W => c50 _ _ _ _ _ _ _ _ _ (by exact .old W (by assumption)) (by exact .old W (by assumption)) (by exact .old W (by assumption)) (by exact .old W (by assumption)))) rfl <| .nt rfl <| .as rfl <| .z) fun a S => ?_)))))
  (refine q_nil ?_; intro w W; replace S := St.mk S W; clear W)
  refine then_normal (hK1 _ _ (wp_ret (st_ret S (results1 S results49 (Rv.tmp rfl)) ?_)))
  exact ⟨rfl, S.wd.below⟩
theorem c51 (w0 : World) (g1 g2 : Nat) (v : Value) (c : SCart) (r : List SCart) (p q : Int) (h0 : w0.cell? ⟨g1, 0, none⟩ = some v) (h1 : w0.cell? ⟨g2, 0, none⟩ = some (.int .i64 p)) (h2 : w0.cell? ⟨g2, 1, none⟩ = some (.int .i64 q)) (h : Sl SCart.enc 3 w0 w0.heap.size v (c :: r)) (hc : CartRd w0 c.1 c.2) :
    Calls Try.prog 51 #[.pointer (some ⟨g1, 0, none⟩), .pointer (some ⟨g2, 0, none⟩)] w0 fun u w' => u = .returned (.bool (!livesK c.1 p q)) ∧ Bel w0.heap.size w0 w' := by
  obtain ⟨A, cap, rfl, hl, hcap, hA⟩ := id h
  have r1 := hc.ents
  have r2 := hc.ctx
  obtain ⟨gq, oq, y, rfl, hy, hd, hcc⟩ := row_at hA (show 0 < (c :: r).length by simp)
  obtain rfl : c = y := by simpa using hy
  have hlen : 0 < (c :: r).length := by simp
  have hact : ∀ j u, [Value.int .i64 p, .int .i64 q][j]? = some u → w0.cell? ⟨g2, 0 + j, none⟩ = some u := fun j u h => by
    rw [Nat.zero_add]
    match j, h with
    | 0, h => cases h; exact h1
    | 1, h => cases h; exact h2
    | j + 2, h => simp at h
  refine enter2 func51 rfl ntmps51 rfl fun a S => sg S (.ac rfl <| .z) fun a w S => wp_seq_k fun _ hK1 => st_quiet S (by kernel_rfl) (by kernel_rfl) fun a S => qrun S (.yy (ys_ldO ⟨isAgg56, sizeOf56⟩ (.t rfl) (fun _ => h0)) rfl <| .yy (ys_ixS (j := 0) underlying56 sizeOf30 (.t rfl) Ev.c (fun _ => by omega)) rfl <| .yy (ys_ldOA ⟨isAgg30, sizeOf30⟩ (.t rfl) (vs := [_, _, _]) rfl (fun _ => hcc)) rfl <| .yy (ys_ldOA ⟨isAgg58, sizeOf58⟩ (.t rfl) (vs := [_, _]) rfl (fun _ => hact)) rfl <| .xx (ys_call call52 (.cons (.t rfl) (.cons (.t rfl) .nil)) (fun hp w W => c52 _ _ _ _ _ _ _ _ _ _ _ (by exact .old W (by assumption)))) rfl <| .nt rfl <| .as rfl <| .z) fun a S => ?_
  (refine q_nil ?_; intro w W; replace S := St.mk S W; clear W)
  refine then_normal (hK1 _ _ (wp_ret (st_ret S (results1 S results51 (Rv.tmp rfl)) ?_)))
  exact ⟨rfl, S.wd.below⟩
theorem c54 (w0 : World) (g1 g5 : Nat) (v : Value) (c : SCart) (r : List SCart) (p q n : Int) (h0 : w0.cell? ⟨g1, 0, none⟩ = some v) (h1 : w0.cell? ⟨g5, 0, none⟩ = some (.int .i64 p)) (h2 : w0.cell? ⟨g5, 1, none⟩ = some (.int .i64 q)) (h3 : w0.cell? ⟨g5, 2, none⟩ = some (.int .i64 n)) (h : Sl SCart.enc 3 w0 w0.heap.size v (c :: r)) (hc : CartRd w0 c.1 c.2) :
    Calls Try.prog 54 #[.pointer (some ⟨g1, 0, none⟩), .pointer (some ⟨g5, 0, none⟩)] w0 fun u w' => u = .returned (.bool (decide ((⟨p, q, n⟩ : Dot) ∈ c.1.ctx.marks))) ∧ Bel w0.heap.size w0 w' := by
  obtain ⟨A, cap, rfl, hl, hcap, hA⟩ := id h
  have r1 := hc.marks
  obtain ⟨gq, oq, y, rfl, hy, hd, hcc⟩ := row_at hA (show 0 < (c :: r).length by simp)
  obtain rfl : c = y := by simpa using hy
  have hlen : 0 < (c :: r).length := by simp
  have hctx : ∀ j u, [Value.slice c.2.a2 c.2.n2 c.2.c2, .slice c.2.a3 c.2.n3 c.2.c3][j]? = some u → w0.cell? ⟨gq, oq + 0 * 3 + 1 + j, none⟩ = some u := fun j u h => by
    have := hcc (j + 1) u (by simpa [SCart.enc] using h)
    rw [show oq + 0 * 3 + 1 + j = oq + 0 * 3 + (j + 1) by omega]
    exact this
  have hmk : w0.cell? ⟨gq, oq + 0 * 3 + 1 + 0, none⟩ = some (.slice c.2.a2 c.2.n2 c.2.c2) := hctx 0 _ rfl
  have hm3 : ∀ j u, [Value.int .i64 p, .int .i64 q, .int .i64 n][j]? = some u → w0.cell? ⟨g5, 0 + j, none⟩ = some u := fun j u h => by
    rw [Nat.zero_add]
    match j, h with
    | 0, h => cases h; exact h1
    | 1, h => cases h; exact h2
    | 2, h => cases h; exact h3
    | j + 3, h => simp at h
  refine enter2 func54 rfl ntmps54 rfl fun a S => sg S (.ac rfl <| .z) fun a w S => wp_seq_k fun _ hK1 => st_quiet S (by kernel_rfl) (by kernel_rfl) fun a S => qrun S (.yy (ys_ldO ⟨isAgg56, sizeOf56⟩ (.t rfl) (fun _ => h0)) rfl <| .yy (ys_ixS (j := 0) underlying56 sizeOf30 (.t rfl) Ev.c (fun _ => by omega)) rfl <| .yy (ys_field (FieldT.mk underlying30 rfl sizeOf28 rfl) (.t rfl)) rfl <| .yy (ys_field (FieldT.mk underlying28 rfl sizeOf25 rfl) (.t rfl)) rfl <| .yy (ys_ldO ⟨isAgg25, sizeOf25⟩ (.t rfl) (fun _ => hctx _ _ rfl)) rfl <| .yy (ys_ldOA ⟨isAgg23, sizeOf23⟩ (.t rfl) (vs := [_, _, _]) rfl (fun _ => hm3)) rfl <| .xx (ys_call call55 (.cons (.t rfl) (.cons (.t rfl) .nil)) (fun hp w W => c55 _ _ _ _ _ _ (by exact .old W (by assumption)))) rfl <| .as rfl <| .z) fun a S => ?_
  (refine q_nil ?_; intro w W; replace S := St.mk S W; clear W)
  refine then_normal (hK1 _ _ (wp_ret (st_ret S (results1 S results54 (Rv.tmp rfl)) ?_)))
  exact ⟨rfl, S.wd.below⟩
theorem c53 {w0 w : World} {L : List Chunk} {g1 g2 g5 : Nat} {v : Value} {c : SCart} {r : List SCart} {p q n : Int} (W : Wd w0 (.blk g1 (.cells #[v] 56) :: .blk g2 (.cells #[.int .i64 p, .int .i64 q] 58) :: .blk g5 (.cells #[.int .i64 p, .int .i64 q, .int .i64 n] 23) :: L) w) (h : Sl SCart.enc 3 w0 w0.heap.size v (c :: r)) (hc : CartRd w0 c.1 c.2) :
    RetsO Try.prog 53 #[.pointer (some ⟨g1, 0, none⟩), .pointer (some ⟨g2, 0, none⟩), .pointer (some ⟨g5, 0, none⟩)] w0 w fun u L' => u = .bool (decide (0 < c.1.ctx.top p q)) ∧ L' = .blk g1 (.cells #[v] 56) :: .blk g2 (.cells #[.int .i64 p, .int .i64 q] 58) :: .blk g5 (.cells #[.int .i64 p, .int .i64 q, .int .i64 (c.1.ctx.top p q)] 23) :: L := by
  obtain ⟨A, cap, rfl, hl, hcap, hA⟩ := id h
  have r1 := hc.ents
  have r2 := hc.ctx
  obtain ⟨gq, oq, y, rfl, hy, hd, hcc⟩ := row_at hA (show 0 < (c :: r).length by simp)
  obtain rfl : c = y := by simpa using hy
  have hlen : 0 < (c :: r).length := by simp
  have hctx : ∀ j u, [Value.slice c.2.a2 c.2.n2 c.2.c2, .slice c.2.a3 c.2.n3 c.2.c3][j]? = some u → w0.cell? ⟨gq, oq + 0 * 3 + 1 + j, none⟩ = some u := fun j u h => by
    have := hcc (j + 1) u (by simpa [SCart.enc] using h)
    rw [show oq + 0 * 3 + 1 + j = oq + 0 * 3 + (j + 1) by omega]
    exact this
  have hmk : w0.cell? ⟨gq, oq + 0 * 3 + 1 + 0, none⟩ = some (.slice c.2.a2 c.2.n2 c.2.c2) := hctx 0 _ rfl
  unfold Go.Fw.RetsO
  refine enterW3 W Try.func53 rfl Try.ntmps53 rfl fun a S => ?_
  refine wp_seq_k fun _ hK1 => ?_
  refine wp_region_lit ?_
  (refine st_y S (Yr.ys (ys_assign Ev.c)) rfl ?_; clear S a; intro a w S)
  refine st_nil ?_
  (refine (then_normal (hK1 _ _ ?_)); clear hK1)
  refine wp_seq_k fun _ hK1 => ?_
  (refine h_beginE S (by kernel_rfl) 2 ?_; clear S a w; intro a w S)
  (refine h_y (i := 0) S (by repeat (first | exact List.Sublist.refl _ | exact List.nil_sublist _ | refine .cons_cons _ ?_ | refine .cons _ ?_)) rfl (by kernel_rfl) (by kernel_rfl) (by kernel_rfl) (fun _ _ _ _ h => h) (ys_ld ⟨Try.isAgg56, Try.sizeOf56⟩ (Ev.t rfl) (k := 0) rfl rfl) rfl ?_; clear S a w; intro a w S)
  (refine h_y (i := 1) S (by repeat (first | exact List.Sublist.refl _ | exact List.nil_sublist _ | refine .cons_cons _ ?_ | refine .cons _ ?_)) rfl (by kernel_rfl) (by kernel_rfl) (by kernel_rfl) (fun _ _ _ _ h => h) (ys_ixS (j := 0) Try.underlying56 Try.sizeOf30 (Ev.t rfl) Ev.c (fun _ => by omega)) rfl ?_; clear S a w; intro a w S)
  (refine h_y (i := 2) S (by repeat (first | exact List.Sublist.refl _ | exact List.nil_sublist _ | refine .cons_cons _ ?_ | refine .cons _ ?_)) rfl (by kernel_rfl) (by kernel_rfl) (by kernel_rfl) (fun _ _ _ _ h => h) (ys_field (FieldT.mk Try.underlying30 rfl Try.sizeOf28 rfl) (Ev.t rfl)) rfl ?_; clear S a w; intro a w S)
  (refine h_y (i := 3) S (by repeat (first | exact List.Sublist.refl _ | exact List.nil_sublist _ | refine .cons_cons _ ?_ | refine .cons _ ?_)) rfl (by kernel_rfl) (by kernel_rfl) (by kernel_rfl) (fun _ _ _ _ h => h) (ys_ldOA ⟨Try.isAgg28, Try.sizeOf28⟩ (Ev.t rfl) (vs := [_, _]) rfl (fun _ => hctx)) rfl ?_; clear S a w; intro a w S)
  (refine h_y (i := 4) S (by repeat (first | exact List.Sublist.refl _ | exact List.nil_sublist _ | refine .cons_cons _ ?_ | refine .cons _ ?_)) rfl (by kernel_rfl) (by kernel_rfl) (by kernel_rfl) (fun _ _ _ _ h => h) (ys_ldA ⟨Try.isAgg58, Try.sizeOf58⟩ (Ev.t rfl) (k := 1) rfl rfl) rfl ?_; clear S a w; intro a w S)
  (refine h_q (i := 5) S (by repeat (first | exact List.Sublist.refl _ | exact List.nil_sublist _ | refine .cons_cons _ ?_ | refine .cons _ ?_)) rfl (by kernel_rfl) (ys_call Try.call23 (EvL.cons (Ev.t rfl) (EvL.cons (Ev.t rfl) EvL.nil)) (fun hp w W => c23 _ _ _ _ _ _ (by exact .old W (by assumption)))) rfl ?_; clear S a w; intro a w S)
  (refine h_y (i := 6) S (by repeat (first | exact List.Sublist.refl _ | exact List.nil_sublist _ | refine .cons_cons _ ?_ | refine .cons _ ?_)) rfl (by kernel_rfl) (by kernel_rfl) (by kernel_rfl) (fun _ _ _ _ h => h) (ys_fieldN (FieldT.mk Try.underlying23 rfl Try.sizeOf3 rfl) (Ev.t rfl) (i' := 2) rfl) rfl ?_; clear S a w; intro a w S)
  (refine h_m0 (i := 7) rfl (by kernel_rfl) (op_st S Try.sizeOf3 (Ev.t rfl) (Ev.t rfl) (k := 2) rfl rfl (by simp) ?_); clear S a w; intro a w S; refine h_on S _ (List.Sublist.refl _) (by repeat (first | exact List.Sublist.refl _ | exact List.nil_sublist _ | refine .cons_cons _ ?_ | refine .cons _ ?_)) ?_)
  refine h_done (by kernel_rfl) ?_
  (refine (then_normal (hK1 _ _ ?_)); clear hK1)
  refine wp_seq_k fun _ hK1 => ?_
  refine wp_region_lit ?_
  (refine st_y S (Yr.ys (ys_fieldN (FieldT.mk Try.underlying23 rfl Try.sizeOf3 rfl) (Ev.t rfl) (i' := 2) rfl)) rfl ?_; clear S a w; intro a w S)
  (refine st_y S (Yr.ys (ys_ld ⟨Try.isAgg3, Try.sizeOf3⟩ (Ev.t rfl) (k := 2) rfl rfl)) rfl ?_; clear S a w; intro a w S)
  (refine st_y S (Yr.ys (ys_gtr (Ev.t rfl) Ev.c)) rfl ?_; clear S a w; intro a w S)
  (refine st_y S (Yr.ys (ys_assign (Ev.t rfl))) rfl ?_; clear S a w; intro a w S)
  refine st_nil ?_
  (refine (then_normal (hK1 _ _ ?_)); clear hK1)
  refine wp_ret ?_
  refine st_ret S (results1 S Try.results53 (Rv.tmp rfl)) ?_
  exact ⟨_, _, rfl, S.wd.picks (by repeat (first | exact Picks.nil | (refine Picks.rest ?_; (repeat (first | exact List.Sublist.refl _ | refine List.Sublist.cons_cons _ ?_ | refine List.Sublist.cons _ ?_)); done) | refine Picks.take 0 rfl ?_ | refine Picks.take 1 rfl ?_ | refine Picks.take 2 rfl ?_ | refine Picks.take 3 rfl ?_ | refine Picks.take 4 rfl ?_ | refine Picks.take 5 rfl ?_ | refine Picks.take 6 rfl ?_ | refine Picks.take 7 rfl ?_ | refine Picks.take 8 rfl ?_ | refine Picks.take 9 rfl ?_ | refine Picks.take 10 rfl ?_ | refine Picks.take 11 rfl ?_)), rfl, rfl⟩
end Go.Proofs.Ytakpdbmdfnialaa
set_option linter.unusedVariables false
set_option linter.unusedSimpArgs false
set_option maxRecDepth 100000
set_option maxHeartbeats 4000000
namespace Go.Fw
def allS : List Cart → Bool
  | [] => false
  | c :: r => r.all fun x => decide (c = x)
theorem allS_any (c : SCart) (r : List SCart) : (!((c :: r).any fun x => !decide (x.1 = c.1))) = allS ((c :: r).map (·.1)) := by
  unfold allS
  rw [Bool.eq_iff_iff, Bool.not_eq_true', List.any_eq_false, List.map_cons]
  dsimp only
  rw [List.all_eq_true]
  constructor
  · intro h x hx
    obtain ⟨y, hy, rfl⟩ := List.mem_map.1 hx
    have := h y (by simp [hy])
    simp at this
    exact decide_eq_true this.symm
  · intro h x hx
    rcases List.mem_cons.1 hx with rfl | hx
    · simp
    · have := of_decide_eq_true (h x.1 (List.mem_map.2 ⟨x, hx, rfl⟩))
      simp [this]
theorem ready_may {l : List Cart} {p q : Int} (h : mayD ⟨p, q, 1⟩ = false) : readyG l p q = (⟨0, 0, 0⟩, 1) := by rw [ready_def, if_pos h]
theorem ready_bad {l : List Cart} {p q : Int} (h : mayD ⟨p, q, 1⟩ = true) (hb : badG l ≠ 0) : readyG l p q = (⟨0, 0, 0⟩, badG l) := by rw [ready_def, if_neg (by rw [h]; simp), if_pos hb]
theorem ready_all {l : List Cart} {p q : Int} (h : mayD ⟨p, q, 1⟩ = true) (hb : badG l = 0) (ha : allS l = false) : readyG l p q = (⟨0, 0, 0⟩, 200) := by
  rw [ready_def, if_neg (by rw [h]; simp), if_neg (fun k => k hb)]
  cases l with
  | nil => rfl
  | cons c r =>
    have ha' : (r.all fun x => decide (c = x)) = false := ha
    dsimp only; rw [if_pos ha']
theorem ready_rest {c : Cart} {r : List Cart} {p q : Int} (h : mayD ⟨p, q, 1⟩ = true) (hb : badG (c :: r) = 0) (ha : allS (c :: r) = true) : readyG (c :: r) p q = if livesK c p q = true then (⟨0, 0, 0⟩, 201) else if c.ctx.top p q = 0 then (⟨0, 0, 0⟩, 62)
      else if (c.ctx.cloud.any fun d => decide (d.node = p ∧ d.life = q)) = true then (⟨0, 0, 0⟩, 202) else (⟨p, q, c.ctx.top p q⟩, 0) := by
  have ha' : (r.all fun x => decide (c = x)) = true := ha
  rw [ready_def, if_neg (by rw [h]; simp), if_neg (fun k => k hb)]
  dsimp only
  rw [if_neg (by rw [ha']; simp)]
theorem bad_can {l : List Cart} (h : badG l = 0) : ∀ c ∈ l, canE c = 0 := by
  intro c hc
  unfold badG at h
  cases hf : l.find? (fun c => decide (canE c ≠ 0)) with
  | some x =>
    rw [hf] at h
    have := List.find?_some hf
    simp at this
    exact absurd h this
  | none =>
    rw [List.find?_eq_none] at hf
    have := hf c hc
    simpa using this
end Go.Fw
namespace Go.Proofs.Ytakpdbmdfnialaa
open Go.Fw Go.Proofs Go.RowKit Go.Proofs.Try
theorem c48 (w0 : World) (v : Value) (c : SCart) (r : List SCart) (g : Nat) (h : Sl SCart.enc 3 w0 w0.heap.size v (c :: r)) (hc : CartsRd w0 (c :: r)) (h0 : w0.cell? ⟨g, 0, none⟩ = some v) :
    Calls Try.prog 48 #[v, .func (.func 49) #[] #[.pointer (some ⟨g, 0, none⟩)]] w0 fun e w' => e = .returned (.bool ((c :: r).any fun x => !decide (x.1 = c.1))) ∧ Bel w0.heap.size w0 w' :=
  x48 w0 v (c :: r) _ [.pointer (some ⟨g, 0, none⟩)] (fun x => !decide (x.1 = c.1)) call49 (fun w' W' x hx => c49 w' g v c x r (Wd.cellOld W' h0) (Sl.old W' h) ((hc c (by simp)).old W') ((hc x hx).old W')) h
theorem c47 (w0 : World) (g : Nat) (v : Value) (l : List SCart) (h0 : w0.cell? ⟨g, 0, none⟩ = some v) (h : Sl SCart.enc 3 w0 w0.heap.size v l) (hc : CartsRd w0 l) :
    Calls Try.prog 47 #[.pointer (some ⟨g, 0, none⟩)] w0 fun u w' => u = .returned (.bool (allS (l.map (·.1)))) ∧ Bel w0.heap.size w0 w' := by
  have hs := h
  cases l with
  | nil =>
    obtain ⟨A, cap, rfl, _⟩ := h
    refine enter1 func47 rfl ntmps47 rfl fun a S => sg S (.ac rfl <| .z) fun a w S => sg S (.yy (ys_ldO ⟨isAgg56, sizeOf56⟩ (.t rfl) (fun _ => h0)) rfl <| .ln underlying56 rfl <| .yy (ys_gtr (.t rfl) Ev.c) rfl <| .mv rfl <| .sk rfl rfl rfl <| .sk rfl rfl rfl <| .sk rfl rfl rfl <| .sk rfl rfl rfl <| .yy (ys_pickF (.t rfl) Ev.c) rfl <| .as rfl <| .z) fun a w S => wp_ret (st_ret S (results1 S results47 (Rv.tmp rfl)) ?_)
    exact ⟨rfl, S.wd.below⟩
  | cons c r =>
    obtain ⟨A, cap, rfl, _⟩ := h
    have rw_l : decide (((c :: r).length : Int) > 0) = true := decide_eq_true (by simp)
    refine enter1 func47 rfl ntmps47 rfl fun a S => sg S (.ac rfl <| .z) fun a w S => wp_seq_k fun _ hK1 => wp_region_lit (run S (.yy (ys_ldO ⟨isAgg56, sizeOf56⟩ (.t rfl) (fun _ => h0)) rfl <| .ln underlying56 rfl <| .yy (ys_gtr (.t rfl) Ev.c) rfl <| .z) fun a w S => ?_)
    rw [rw_l] at S
    refine run S (.mv rfl <| .gy rfl rfl (ys_ldO ⟨isAgg56, sizeOf56⟩ (.t rfl) (fun _ => h0)) <| .gy rfl rfl (ys_mkFunc (.cons (.t rfl) .nil)) <| .gx rfl rfl (ys_call call48 (.cons (.t rfl) (.cons (.t rfl) .nil)) (fun hp w W => c48 _ _ _ _ _ (by exact .old W (by assumption)) (by exact .old W (by assumption)) (by exact Wd.cellOld W (by assumption)))) <| .gy rfl rfl (ys_not (.t rfl)) <| .yy (ys_pickT (.t rfl) (.t rfl)) rfl <| .as rfl <| .z) fun a w S => st_nil (then_normal (hK1 _ _ (wp_ret (st_ret S (results1 S results47 (Rv.tmp rfl)) ?_))))
    exact ⟨by rw [allS_any], S.wd.below⟩
theorem c42 {w0 w : World} {L : List Chunk} {gr g1 g2 g4 g5 e1 e3 e4 e5 e6 : Nat} {v : Value} {l : List SCart} {p q : Int}
    (W : Wd w0 (.blk gr (.cells #[.func (.func 44) #[] #[.pointer (some ⟨g2, 0, none⟩)], .func (.func 72) #[] #[.pointer (some ⟨e1, 0, none⟩)],
        .func (.func 45) #[] #[.pointer (some ⟨g1, 0, none⟩), .pointer (some ⟨g4, 0, none⟩)], .func (.func 46) #[] #[.pointer (some ⟨g4, 0, none⟩)],
        .func (.func 47) #[] #[.pointer (some ⟨g1, 0, none⟩)], .func (.func 72) #[] #[.pointer (some ⟨e3, 0, none⟩)],
        .func (.func 51) #[] #[.pointer (some ⟨g1, 0, none⟩), .pointer (some ⟨g2, 0, none⟩)], .func (.func 72) #[] #[.pointer (some ⟨e4, 0, none⟩)],
        .func (.func 53) #[] #[.pointer (some ⟨g1, 0, none⟩), .pointer (some ⟨g2, 0, none⟩), .pointer (some ⟨g5, 0, none⟩)], .func (.func 72) #[] #[.pointer (some ⟨e5, 0, none⟩)],
        .func (.func 54) #[] #[.pointer (some ⟨g1, 0, none⟩), .pointer (some ⟨g5, 0, none⟩)], .func (.func 72) #[] #[.pointer (some ⟨e6, 0, none⟩)]] 91) ::
      .blk g1 (.cells #[v] 56) :: .blk g2 (.cells #[.int .i64 p, .int .i64 q] 58) :: .blk g4 (.cells #[.int .i64 0] 38) :: .blk g5 (.cells #[.int .i64 p, .int .i64 q, .int .i64 0] 23) ::
      .blk e1 (.cells #[.int .i64 1] 38) :: .blk e3 (.cells #[.int .i64 200] 38) :: .blk e4 (.cells #[.int .i64 201] 38) :: .blk e5 (.cells #[.int .i64 62] 38) :: .blk e6 (.cells #[.int .i64 202] 38) :: L) w)
    (h : Sl SCart.enc 3 w0 w0.heap.size v l) (hc : CartsRd w0 l) :
    RetsO Try.prog 42 #[.slice (some ⟨gr, 0, none⟩) 6 6] w0 w fun u L' => ∃ n, u = .int .i64 (readyG (l.map (·.1)) p q).2 ∧ L' = .blk g5 (.cells #[.int .i64 p, .int .i64 q, .int .i64 n] 23) :: L ∧ ((readyG (l.map (·.1)) p q).2 = 0 → (readyG (l.map (·.1)) p q).1 = ⟨p, q, n⟩) := by
  have hs := h
  have rw_1 : (0 : Int) + 1 = ((1 : Nat) : Int) := rfl
  have rw_2 : ((1 : Nat) : Int) + 1 = ((2 : Nat) : Int) := rfl
  have rw_3 : ((2 : Nat) : Int) + 1 = ((3 : Nat) : Int) := rfl
  have rw_4 : ((3 : Nat) : Int) + 1 = ((4 : Nat) : Int) := rfl
  have rw_5 : ((4 : Nat) : Int) + 1 = ((5 : Nat) : Int) := rfl
  have rw_6 : ((5 : Nat) : Int) + 1 = ((6 : Nat) : Int) := rfl
  cases hm : mayD ⟨p, q, 1⟩ with
  | false =>
    have rw_m := hm
    unfold Go.Fw.RetsO
    refine enterW1 W func42 rfl ntmps42 rfl fun a S => sg S (.ac rfl <| .z) fun a w S => wp_seq_k fun _ hK1 => sg S (.mv rfl <| .ln underlying113 rfl <| .mc rfl <| .z) fun a w S => wp_block (st_rounds 7 (st_round (sg S (.lt (by omega) rfl rfl <| .z) fun a w S => wp_seq_k fun _ hK2 => st_then S (.t rfl) (wp_skip (then_normal (hK2 _ _ (wp_seq_k fun _ hK2 => wp_block (wp_seq_k fun _ hK3 => wp_region_lit (run S (.yy (ys_ixS (j := 0) underlying113 sizeOf91 (.t rfl) (.t rfl) (fun _ => by omega)) rfl <| .la gt91 0 rfl rfl rfl <| .z) fun a w S => st_m (op_alloc S zeroValue91 (cs := _) rfl rfl fun g3 a w S => st_m (op_stW S sizeOf91 (.t rfl) (.t rfl) (k := 0) rfl rfl rfl (by simp [Value.oneCell']) fun a w S => st_nil (then_normal (hK3 _ _ (wp_seq_k fun _ hK3 => wp_region_lit (run S (.fa underlying91 sizeOf45 0 rfl rfl rfl <| .ld gt45 0 rfl rfl rfl <| .xx (ys_callVC (cs := [_]) (.t rfl) call44 .nil (fun hp w W => c44 _ _ _ _ (by exact Wd.cell W (k := 3) rfl rfl) (by exact Wd.cell W (k := 3) rfl rfl))) rfl <| .z) fun a w S => ?_)))))))))))))))
    rw [rw_m] at S
    refine run S (.nt rfl <| .z) fun a w S => st_nil (then_normal (hK3 _ _ (st_then S (.t rfl) (sg S (.fa underlying91 sizeOf89 1 rfl rfl rfl <| .ld gt89 0 rfl rfl rfl <| .xx (ys_callVC (cs := [_]) (.t rfl) call72 .nil (fun hp w W => c72 _ _ _ (by exact Wd.cell W (k := 6) rfl rfl))) rfl <| .as rfl <| .z) fun a w S => wp_ret (in_ret (then_ret (then_ret (in_ret (then_ret (st_ret S (results1 S results42 (Rv.tmp rfl)) ?_))))))))))
    rw [ready_may hm]
    exact ⟨_, _, rfl, S.wd.pk, _, rfl, rfl, fun k => by cases k⟩
  | true =>
  have rw_m := hm
  by_cases hb : badG (l.map (·.1)) = 0
  rotate_left
  · have rw_b := decide_eq_false hb
    unfold Go.Fw.RetsO
    refine enterW1 W func42 rfl ntmps42 rfl fun a S => sg S (.ac rfl <| .z) fun a w S => wp_seq_k fun _ hK1 => sg S (.mv rfl <| .ln underlying113 rfl <| .mc rfl <| .z) fun a w S => wp_block (st_rounds 7 (st_round (sg S (.lt (by omega) rfl rfl <| .z) fun a w S => wp_seq_k fun _ hK2 => st_then S (.t rfl) (wp_skip (then_normal (hK2 _ _ (wp_seq_k fun _ hK2 => wp_block (wp_seq_k fun _ hK3 => wp_region_lit (run S (.yy (ys_ixS (j := 0) underlying113 sizeOf91 (.t rfl) (.t rfl) (fun _ => by omega)) rfl <| .la gt91 0 rfl rfl rfl <| .z) fun a w S => st_m (op_alloc S zeroValue91 (cs := _) rfl rfl fun g3 a w S => st_m (op_stW S sizeOf91 (.t rfl) (.t rfl) (k := 0) rfl rfl rfl (by simp [Value.oneCell']) fun a w S => st_nil (then_normal (hK3 _ _ (wp_seq_k fun _ hK3 => wp_region_lit (run S (.fa underlying91 sizeOf45 0 rfl rfl rfl <| .ld gt45 0 rfl rfl rfl <| .xx (ys_callVC (cs := [_]) (.t rfl) call44 .nil (fun hp w W => c44 _ _ _ _ (by exact Wd.cell W (k := 3) rfl rfl) (by exact Wd.cell W (k := 3) rfl rfl))) rfl <| .z) fun a w S => ?_)))))))))))))))
    rw [rw_m] at S
    refine run S (.nt rfl <| .z) fun a w S => st_nil (then_normal (hK3 _ _ (st_else S (.t rfl) (wp_skip (in_normal (then_normal (hK2 _ _ (wp_region_lit (run S (.ad (by unfold I64; omega) rfl <| .z) fun a w S => ?_)))))))))
    rw [rw_1] at S
    refine run S (.mv rfl <| .z) fun a w S => st_nil (then_normal (st_round (sg S (.lt (by omega) rfl rfl <| .z) fun a w S => wp_seq_k fun _ hK2 => st_then S (.t rfl) (wp_skip (then_normal (hK2 _ _ (wp_seq_k fun _ hK2 => wp_block (wp_seq_k fun _ hK3 => wp_region_lit (run S (.yy (ys_ixS (j := 1) underlying113 sizeOf91 (.t rfl) (.t rfl) (fun _ => by omega)) rfl <| .la gt91 1 rfl rfl rfl <| .z) fun a w S => st_m (op_alloc S zeroValue91 (cs := _) rfl rfl fun g6 a w S => st_m (op_stW S sizeOf91 (.t rfl) (.t rfl) (k := 0) rfl rfl rfl (by simp [Value.oneCell']) fun a w S => st_nil (then_normal (hK3 _ _ (wp_seq_k fun _ hK3 => wp_region_lit (run S (.fa underlying91 sizeOf45 0 rfl rfl rfl <| .ld gt45 0 rfl rfl rfl <| .z) fun a w S => ?_)))))))))))))))
    (replace S := S.pull 5 rfl; try simp only [List.set_cons_zero, List.set_cons_succ, List.eraseIdx_cons_succ, List.eraseIdx_cons_zero] at S; replace S := S.pull 4 rfl; try simp only [List.set_cons_zero, List.set_cons_succ, List.eraseIdx_cons_succ, List.eraseIdx_cons_zero] at S; refine st_m (op_callVO (cs := [_, _]) S (.t rfl) call45 .nil (c45 S.wd (by first | assumption | omega | (dsimp only; omega) | exact Sl.nil_ | exact .old S.wd (by assumption) | exact Sl.of_own S.wd (k := 0) rfl (fun _ => rfl) | exact Sl.of_own S.wd (k := 1) rfl (fun _ => rfl) | exact Sl.of_own S.wd (k := 2) rfl (fun _ => rfl) | exact Sl.of_own S.wd (k := 3) rfl (fun _ => rfl) | exact Sl.of_own S.wd (k := 4) rfl (fun _ => rfl) | exact Sl.of_own S.wd (k := 5) rfl (fun _ => rfl) | exact Sl.of_own S.wd (k := 6) rfl (fun _ => rfl) | exact Sl.of_own S.wd (k := 7) rfl (fun _ => rfl) | exact Sl.of_own S.wd (k := 8) rfl (fun _ => rfl) | exact Sl.of_own S.wd (k := 9) rfl (fun _ => rfl) | exact Sl.of_own S.wd (k := 10) rfl (fun _ => rfl) | exact Sl.of_own S.wd (k := 11) rfl (fun _ => rfl) | (simp; done) | (simp at *; omega)) (by first | assumption | omega | (dsimp only; omega) | exact Sl.nil_ | exact .old S.wd (by assumption) | exact Sl.of_own S.wd (k := 0) rfl (fun _ => rfl) | exact Sl.of_own S.wd (k := 1) rfl (fun _ => rfl) | exact Sl.of_own S.wd (k := 2) rfl (fun _ => rfl) | exact Sl.of_own S.wd (k := 3) rfl (fun _ => rfl) | exact Sl.of_own S.wd (k := 4) rfl (fun _ => rfl) | exact Sl.of_own S.wd (k := 5) rfl (fun _ => rfl) | exact Sl.of_own S.wd (k := 6) rfl (fun _ => rfl) | exact Sl.of_own S.wd (k := 7) rfl (fun _ => rfl) | exact Sl.of_own S.wd (k := 8) rfl (fun _ => rfl) | exact Sl.of_own S.wd (k := 9) rfl (fun _ => rfl) | exact Sl.of_own S.wd (k := 10) rfl (fun _ => rfl) | exact Sl.of_own S.wd (k := 11) rfl (fun _ => rfl) | (simp; done) | (simp at *; omega))) rfl ?_) <;> clear S a w)
    rintro _ _ ⟨rfl, rfl⟩ a w S
    rw [rw_b] at S
    refine run S (.nt rfl <| .z) fun a w S => st_nil (then_normal (hK3 _ _ (st_then S (.t rfl) (sg S (.fa underlying91 sizeOf89 1 rfl rfl rfl <| .ld gt89 2 rfl rfl rfl <| .xx (ys_callVC (cs := [_]) (.t rfl) call46 .nil (fun hp w W => c46 _ _ _ (by exact Wd.cell W (k := 1) rfl rfl))) rfl <| .as rfl <| .z) fun a w S => wp_ret (in_ret (then_ret (then_ret (in_ret (then_ret (st_ret S (results1 S results42 (Rv.tmp rfl)) ?_))))))))))
    rw [ready_bad hm hb]
    exact ⟨_, _, rfl, S.wd.pk, _, rfl, rfl, fun k => absurd k hb⟩
  have rw_b := decide_eq_true hb
  have rw_bb := hb
  cases ha : allS (l.map (·.1)) with
  | false =>
    have rw_a := ha
    unfold Go.Fw.RetsO
    refine enterW1 W func42 rfl ntmps42 rfl fun a S => sg S (.ac rfl <| .z) fun a w S => wp_seq_k fun _ hK1 => sg S (.mv rfl <| .ln underlying113 rfl <| .mc rfl <| .z) fun a w S => wp_block (st_rounds 7 (st_round (sg S (.lt (by omega) rfl rfl <| .z) fun a w S => wp_seq_k fun _ hK2 => st_then S (.t rfl) (wp_skip (then_normal (hK2 _ _ (wp_seq_k fun _ hK2 => wp_block (wp_seq_k fun _ hK3 => wp_region_lit (run S (.yy (ys_ixS (j := 0) underlying113 sizeOf91 (.t rfl) (.t rfl) (fun _ => by omega)) rfl <| .la gt91 0 rfl rfl rfl <| .z) fun a w S => st_m (op_alloc S zeroValue91 (cs := _) rfl rfl fun g3 a w S => st_m (op_stW S sizeOf91 (.t rfl) (.t rfl) (k := 0) rfl rfl rfl (by simp [Value.oneCell']) fun a w S => st_nil (then_normal (hK3 _ _ (wp_seq_k fun _ hK3 => wp_region_lit (run S (.fa underlying91 sizeOf45 0 rfl rfl rfl <| .ld gt45 0 rfl rfl rfl <| .xx (ys_callVC (cs := [_]) (.t rfl) call44 .nil (fun hp w W => c44 _ _ _ _ (by exact Wd.cell W (k := 3) rfl rfl) (by exact Wd.cell W (k := 3) rfl rfl))) rfl <| .z) fun a w S => ?_)))))))))))))))
    rw [rw_m] at S
    refine run S (.nt rfl <| .z) fun a w S => st_nil (then_normal (hK3 _ _ (st_else S (.t rfl) (wp_skip (in_normal (then_normal (hK2 _ _ (wp_region_lit (run S (.ad (by unfold I64; omega) rfl <| .z) fun a w S => ?_)))))))))
    rw [rw_1] at S
    refine run S (.mv rfl <| .z) fun a w S => st_nil (then_normal (st_round (sg S (.lt (by omega) rfl rfl <| .z) fun a w S => wp_seq_k fun _ hK2 => st_then S (.t rfl) (wp_skip (then_normal (hK2 _ _ (wp_seq_k fun _ hK2 => wp_block (wp_seq_k fun _ hK3 => wp_region_lit (run S (.yy (ys_ixS (j := 1) underlying113 sizeOf91 (.t rfl) (.t rfl) (fun _ => by omega)) rfl <| .la gt91 1 rfl rfl rfl <| .z) fun a w S => st_m (op_alloc S zeroValue91 (cs := _) rfl rfl fun g6 a w S => st_m (op_stW S sizeOf91 (.t rfl) (.t rfl) (k := 0) rfl rfl rfl (by simp [Value.oneCell']) fun a w S => st_nil (then_normal (hK3 _ _ (wp_seq_k fun _ hK3 => wp_region_lit (run S (.fa underlying91 sizeOf45 0 rfl rfl rfl <| .ld gt45 0 rfl rfl rfl <| .z) fun a w S => ?_)))))))))))))))
    (replace S := S.pull 5 rfl; try simp only [List.set_cons_zero, List.set_cons_succ, List.eraseIdx_cons_succ, List.eraseIdx_cons_zero] at S; replace S := S.pull 4 rfl; try simp only [List.set_cons_zero, List.set_cons_succ, List.eraseIdx_cons_succ, List.eraseIdx_cons_zero] at S; refine st_m (op_callVO (cs := [_, _]) S (.t rfl) call45 .nil (c45 S.wd (by first | assumption | omega | (dsimp only; omega) | exact Sl.nil_ | exact .old S.wd (by assumption) | exact Sl.of_own S.wd (k := 0) rfl (fun _ => rfl) | exact Sl.of_own S.wd (k := 1) rfl (fun _ => rfl) | exact Sl.of_own S.wd (k := 2) rfl (fun _ => rfl) | exact Sl.of_own S.wd (k := 3) rfl (fun _ => rfl) | exact Sl.of_own S.wd (k := 4) rfl (fun _ => rfl) | exact Sl.of_own S.wd (k := 5) rfl (fun _ => rfl) | exact Sl.of_own S.wd (k := 6) rfl (fun _ => rfl) | exact Sl.of_own S.wd (k := 7) rfl (fun _ => rfl) | exact Sl.of_own S.wd (k := 8) rfl (fun _ => rfl) | exact Sl.of_own S.wd (k := 9) rfl (fun _ => rfl) | exact Sl.of_own S.wd (k := 10) rfl (fun _ => rfl) | exact Sl.of_own S.wd (k := 11) rfl (fun _ => rfl) | (simp; done) | (simp at *; omega)) (by first | assumption | omega | (dsimp only; omega) | exact Sl.nil_ | exact .old S.wd (by assumption) | exact Sl.of_own S.wd (k := 0) rfl (fun _ => rfl) | exact Sl.of_own S.wd (k := 1) rfl (fun _ => rfl) | exact Sl.of_own S.wd (k := 2) rfl (fun _ => rfl) | exact Sl.of_own S.wd (k := 3) rfl (fun _ => rfl) | exact Sl.of_own S.wd (k := 4) rfl (fun _ => rfl) | exact Sl.of_own S.wd (k := 5) rfl (fun _ => rfl) | exact Sl.of_own S.wd (k := 6) rfl (fun _ => rfl) | exact Sl.of_own S.wd (k := 7) rfl (fun _ => rfl) | exact Sl.of_own S.wd (k := 8) rfl (fun _ => rfl) | exact Sl.of_own S.wd (k := 9) rfl (fun _ => rfl) | exact Sl.of_own S.wd (k := 10) rfl (fun _ => rfl) | exact Sl.of_own S.wd (k := 11) rfl (fun _ => rfl) | (simp; done) | (simp at *; omega))) rfl ?_) <;> clear S a w)
    rintro _ _ ⟨rfl, rfl⟩ a w S
    rw [rw_b] at S
    rw [rw_bb] at S
    refine run S (.nt rfl <| .z) fun a w S => st_nil (then_normal (hK3 _ _ (st_else S (.t rfl) (wp_skip (in_normal (then_normal (hK2 _ _ (wp_region_lit (run S (.ad (by unfold I64; omega) rfl <| .z) fun a w S => ?_)))))))))
    rw [rw_2] at S
    refine run S (.mv rfl <| .z) fun a w S => st_nil (then_normal (st_round (sg S (.lt (by omega) rfl rfl <| .z) fun a w S => wp_seq_k fun _ hK2 => st_then S (.t rfl) (wp_skip (then_normal (hK2 _ _ (wp_seq_k fun _ hK2 => wp_block (wp_seq_k fun _ hK3 => wp_region_lit (run S (.yy (ys_ixS (j := 2) underlying113 sizeOf91 (.t rfl) (.t rfl) (fun _ => by omega)) rfl <| .la gt91 4 rfl rfl rfl <| .z) fun a w S => st_m (op_alloc S zeroValue91 (cs := _) rfl rfl fun g7 a w S => st_m (op_stW S sizeOf91 (.t rfl) (.t rfl) (k := 0) rfl rfl rfl (by simp [Value.oneCell']) fun a w S => st_nil (then_normal (hK3 _ _ (wp_seq_k fun _ hK3 => wp_region_lit (run S (.fa underlying91 sizeOf45 0 rfl rfl rfl <| .ld gt45 0 rfl rfl rfl <| .xx (ys_callVC (cs := [_]) (.t rfl) call47 .nil (fun hp w W => c47 _ _ _ _ (by exact Wd.cell W (k := 1) rfl rfl) (by exact .old W (by assumption)) (by exact .old W (by assumption)))) rfl <| .z) fun a w S => ?_)))))))))))))))
    rw [rw_a] at S
    refine run S (.nt rfl <| .z) fun a w S => st_nil (then_normal (hK3 _ _ (st_then S (.t rfl) (sg S (.fa underlying91 sizeOf89 1 rfl rfl rfl <| .ld gt89 0 rfl rfl rfl <| .xx (ys_callVC (cs := [_]) (.t rfl) call72 .nil (fun hp w W => c72 _ _ _ (by exact Wd.cell W (k := 9) rfl rfl))) rfl <| .as rfl <| .z) fun a w S => wp_ret (in_ret (then_ret (then_ret (in_ret (then_ret (st_ret S (results1 S results42 (Rv.tmp rfl)) ?_))))))))))
    rw [ready_all hm hb ha]
    exact ⟨_, _, rfl, S.wd.pk, _, rfl, rfl, fun k => by cases k⟩
  | true =>
  have rw_a := ha
  cases l with
  | nil => cases ha
  | cons c r =>
  have hcc := hc c (by simp)
  have hcan : canL c.1.ctx = true := can_ctx (bad_can hb c.1 (by simp))
  have er := ready_rest (c := c.1) (r := r.map (·.1)) hm (by rw [← List.map_cons (f := fun x : SCart => x.1)]; exact hb) (by rw [← List.map_cons (f := fun x : SCart => x.1)]; exact ha)
  rw [← List.map_cons (f := fun x : SCart => x.1)] at er
  cases hlv : livesK c.1 p q with
  | true =>
    have rw_lv := hlv
    rw [if_pos hlv] at er
    unfold Go.Fw.RetsO
    refine enterW1 W func42 rfl ntmps42 rfl fun a S => sg S (.ac rfl <| .z) fun a w S => wp_seq_k fun _ hK1 => sg S (.mv rfl <| .ln underlying113 rfl <| .mc rfl <| .z) fun a w S => wp_block (st_rounds 7 (st_round (sg S (.lt (by omega) rfl rfl <| .z) fun a w S => wp_seq_k fun _ hK2 => st_then S (.t rfl) (wp_skip (then_normal (hK2 _ _ (wp_seq_k fun _ hK2 => wp_block (wp_seq_k fun _ hK3 => wp_region_lit (run S (.yy (ys_ixS (j := 0) underlying113 sizeOf91 (.t rfl) (.t rfl) (fun _ => by omega)) rfl <| .la gt91 0 rfl rfl rfl <| .z) fun a w S => st_m (op_alloc S zeroValue91 (cs := _) rfl rfl fun g3 a w S => st_m (op_stW S sizeOf91 (.t rfl) (.t rfl) (k := 0) rfl rfl rfl (by simp [Value.oneCell']) fun a w S => st_nil (then_normal (hK3 _ _ (wp_seq_k fun _ hK3 => wp_region_lit (run S (.fa underlying91 sizeOf45 0 rfl rfl rfl <| .ld gt45 0 rfl rfl rfl <| .xx (ys_callVC (cs := [_]) (.t rfl) call44 .nil (fun hp w W => c44 _ _ _ _ (by exact Wd.cell W (k := 3) rfl rfl) (by exact Wd.cell W (k := 3) rfl rfl))) rfl <| .z) fun a w S => ?_)))))))))))))))
    rw [rw_m] at S
    refine run S (.nt rfl <| .z) fun a w S => st_nil (then_normal (hK3 _ _ (st_else S (.t rfl) (wp_skip (in_normal (then_normal (hK2 _ _ (wp_region_lit (run S (.ad (by unfold I64; omega) rfl <| .z) fun a w S => ?_)))))))))
    rw [rw_1] at S
    refine run S (.mv rfl <| .z) fun a w S => st_nil (then_normal (st_round (sg S (.lt (by omega) rfl rfl <| .z) fun a w S => wp_seq_k fun _ hK2 => st_then S (.t rfl) (wp_skip (then_normal (hK2 _ _ (wp_seq_k fun _ hK2 => wp_block (wp_seq_k fun _ hK3 => wp_region_lit (run S (.yy (ys_ixS (j := 1) underlying113 sizeOf91 (.t rfl) (.t rfl) (fun _ => by omega)) rfl <| .la gt91 1 rfl rfl rfl <| .z) fun a w S => st_m (op_alloc S zeroValue91 (cs := _) rfl rfl fun g6 a w S => st_m (op_stW S sizeOf91 (.t rfl) (.t rfl) (k := 0) rfl rfl rfl (by simp [Value.oneCell']) fun a w S => st_nil (then_normal (hK3 _ _ (wp_seq_k fun _ hK3 => wp_region_lit (run S (.fa underlying91 sizeOf45 0 rfl rfl rfl <| .ld gt45 0 rfl rfl rfl <| .z) fun a w S => ?_)))))))))))))))
    (replace S := S.pull 5 rfl; try simp only [List.set_cons_zero, List.set_cons_succ, List.eraseIdx_cons_succ, List.eraseIdx_cons_zero] at S; replace S := S.pull 4 rfl; try simp only [List.set_cons_zero, List.set_cons_succ, List.eraseIdx_cons_succ, List.eraseIdx_cons_zero] at S; refine st_m (op_callVO (cs := [_, _]) S (.t rfl) call45 .nil (c45 S.wd (by first | assumption | omega | (dsimp only; omega) | exact Sl.nil_ | exact .old S.wd (by assumption) | exact Sl.of_own S.wd (k := 0) rfl (fun _ => rfl) | exact Sl.of_own S.wd (k := 1) rfl (fun _ => rfl) | exact Sl.of_own S.wd (k := 2) rfl (fun _ => rfl) | exact Sl.of_own S.wd (k := 3) rfl (fun _ => rfl) | exact Sl.of_own S.wd (k := 4) rfl (fun _ => rfl) | exact Sl.of_own S.wd (k := 5) rfl (fun _ => rfl) | exact Sl.of_own S.wd (k := 6) rfl (fun _ => rfl) | exact Sl.of_own S.wd (k := 7) rfl (fun _ => rfl) | exact Sl.of_own S.wd (k := 8) rfl (fun _ => rfl) | exact Sl.of_own S.wd (k := 9) rfl (fun _ => rfl) | exact Sl.of_own S.wd (k := 10) rfl (fun _ => rfl) | exact Sl.of_own S.wd (k := 11) rfl (fun _ => rfl) | (simp; done) | (simp at *; omega)) (by first | assumption | omega | (dsimp only; omega) | exact Sl.nil_ | exact .old S.wd (by assumption) | exact Sl.of_own S.wd (k := 0) rfl (fun _ => rfl) | exact Sl.of_own S.wd (k := 1) rfl (fun _ => rfl) | exact Sl.of_own S.wd (k := 2) rfl (fun _ => rfl) | exact Sl.of_own S.wd (k := 3) rfl (fun _ => rfl) | exact Sl.of_own S.wd (k := 4) rfl (fun _ => rfl) | exact Sl.of_own S.wd (k := 5) rfl (fun _ => rfl) | exact Sl.of_own S.wd (k := 6) rfl (fun _ => rfl) | exact Sl.of_own S.wd (k := 7) rfl (fun _ => rfl) | exact Sl.of_own S.wd (k := 8) rfl (fun _ => rfl) | exact Sl.of_own S.wd (k := 9) rfl (fun _ => rfl) | exact Sl.of_own S.wd (k := 10) rfl (fun _ => rfl) | exact Sl.of_own S.wd (k := 11) rfl (fun _ => rfl) | (simp; done) | (simp at *; omega))) rfl ?_) <;> clear S a w)
    rintro _ _ ⟨rfl, rfl⟩ a w S
    rw [rw_b] at S
    rw [rw_bb] at S
    refine run S (.nt rfl <| .z) fun a w S => st_nil (then_normal (hK3 _ _ (st_else S (.t rfl) (wp_skip (in_normal (then_normal (hK2 _ _ (wp_region_lit (run S (.ad (by unfold I64; omega) rfl <| .z) fun a w S => ?_)))))))))
    rw [rw_2] at S
    refine run S (.mv rfl <| .z) fun a w S => st_nil (then_normal (st_round (sg S (.lt (by omega) rfl rfl <| .z) fun a w S => wp_seq_k fun _ hK2 => st_then S (.t rfl) (wp_skip (then_normal (hK2 _ _ (wp_seq_k fun _ hK2 => wp_block (wp_seq_k fun _ hK3 => wp_region_lit (run S (.yy (ys_ixS (j := 2) underlying113 sizeOf91 (.t rfl) (.t rfl) (fun _ => by omega)) rfl <| .la gt91 4 rfl rfl rfl <| .z) fun a w S => st_m (op_alloc S zeroValue91 (cs := _) rfl rfl fun g7 a w S => st_m (op_stW S sizeOf91 (.t rfl) (.t rfl) (k := 0) rfl rfl rfl (by simp [Value.oneCell']) fun a w S => st_nil (then_normal (hK3 _ _ (wp_seq_k fun _ hK3 => wp_region_lit (run S (.fa underlying91 sizeOf45 0 rfl rfl rfl <| .ld gt45 0 rfl rfl rfl <| .xx (ys_callVC (cs := [_]) (.t rfl) call47 .nil (fun hp w W => c47 _ _ _ _ (by exact Wd.cell W (k := 1) rfl rfl) (by exact .old W (by assumption)) (by exact .old W (by assumption)))) rfl <| .z) fun a w S => ?_)))))))))))))))
    rw [rw_a] at S
    refine run S (.nt rfl <| .z) fun a w S => st_nil (then_normal (hK3 _ _ (st_else S (.t rfl) (wp_skip (in_normal (then_normal (hK2 _ _ (wp_region_lit (run S (.ad (by unfold I64; omega) rfl <| .z) fun a w S => ?_)))))))))
    rw [rw_3] at S
    refine run S (.mv rfl <| .z) fun a w S => st_nil (then_normal (st_round (sg S (.lt (by omega) rfl rfl <| .z) fun a w S => wp_seq_k fun _ hK2 => st_then S (.t rfl) (wp_skip (then_normal (hK2 _ _ (wp_seq_k fun _ hK2 => wp_block (wp_seq_k fun _ hK3 => wp_region_lit (run S (.yy (ys_ixS (j := 3) underlying113 sizeOf91 (.t rfl) (.t rfl) (fun _ => by omega)) rfl <| .la gt91 5 rfl rfl rfl <| .z) fun a w S => st_m (op_alloc S zeroValue91 (cs := _) rfl rfl fun g8 a w S => st_m (op_stW S sizeOf91 (.t rfl) (.t rfl) (k := 0) rfl rfl rfl (by simp [Value.oneCell']) fun a w S => st_nil (then_normal (hK3 _ _ (wp_seq_k fun _ hK3 => wp_region_lit (run S (.fa underlying91 sizeOf45 0 rfl rfl rfl <| .ld gt45 0 rfl rfl rfl <| .xx (ys_callVC (cs := [_, _]) (.t rfl) call51 .nil (fun hp w W => c51 _ _ _ _ _ _ _ _ (by exact Wd.cell W (k := 2) rfl rfl) (by exact Wd.cell W (k := 7) rfl rfl) (by exact Wd.cell W (k := 7) rfl rfl) (by exact .old W (by assumption)) (by exact .old W (by assumption)))) rfl <| .z) fun a w S => ?_)))))))))))))))
    rw [rw_lv] at S
    refine run S (.nt rfl <| .z) fun a w S => st_nil (then_normal (hK3 _ _ (st_then S (.t rfl) (sg S (.fa underlying91 sizeOf89 1 rfl rfl rfl <| .ld gt89 0 rfl rfl rfl <| .xx (ys_callVC (cs := [_]) (.t rfl) call72 .nil (fun hp w W => c72 _ _ _ (by exact Wd.cell W (k := 11) rfl rfl))) rfl <| .as rfl <| .z) fun a w S => wp_ret (in_ret (then_ret (then_ret (in_ret (then_ret (st_ret S (results1 S results42 (Rv.tmp rfl)) ?_))))))))))
    rw [er]
    exact ⟨_, _, rfl, S.wd.pk, _, rfl, rfl, fun k => by cases k⟩
  | false =>
  have rw_lv := hlv
  rw [if_neg (by rw [hlv]; simp)] at er
  have htn := top_nonneg (can_nf hcan) p q
  by_cases ht : c.1.ctx.top p q = 0
  · have rw_t : decide (0 < c.1.ctx.top p q) = false := decide_eq_false (by omega)
    rw [if_pos ht] at er
    unfold Go.Fw.RetsO
    refine enterW1 W func42 rfl ntmps42 rfl fun a S => sg S (.ac rfl <| .z) fun a w S => wp_seq_k fun _ hK1 => sg S (.mv rfl <| .ln underlying113 rfl <| .mc rfl <| .z) fun a w S => wp_block (st_rounds 7 (st_round (sg S (.lt (by omega) rfl rfl <| .z) fun a w S => wp_seq_k fun _ hK2 => st_then S (.t rfl) (wp_skip (then_normal (hK2 _ _ (wp_seq_k fun _ hK2 => wp_block (wp_seq_k fun _ hK3 => wp_region_lit (run S (.yy (ys_ixS (j := 0) underlying113 sizeOf91 (.t rfl) (.t rfl) (fun _ => by omega)) rfl <| .la gt91 0 rfl rfl rfl <| .z) fun a w S => st_m (op_alloc S zeroValue91 (cs := _) rfl rfl fun g3 a w S => st_m (op_stW S sizeOf91 (.t rfl) (.t rfl) (k := 0) rfl rfl rfl (by simp [Value.oneCell']) fun a w S => st_nil (then_normal (hK3 _ _ (wp_seq_k fun _ hK3 => wp_region_lit (run S (.fa underlying91 sizeOf45 0 rfl rfl rfl <| .ld gt45 0 rfl rfl rfl <| .xx (ys_callVC (cs := [_]) (.t rfl) call44 .nil (fun hp w W => c44 _ _ _ _ (by exact Wd.cell W (k := 3) rfl rfl) (by exact Wd.cell W (k := 3) rfl rfl))) rfl <| .z) fun a w S => ?_)))))))))))))))
    rw [rw_m] at S
    refine run S (.nt rfl <| .z) fun a w S => st_nil (then_normal (hK3 _ _ (st_else S (.t rfl) (wp_skip (in_normal (then_normal (hK2 _ _ (wp_region_lit (run S (.ad (by unfold I64; omega) rfl <| .z) fun a w S => ?_)))))))))
    rw [rw_1] at S
    refine run S (.mv rfl <| .z) fun a w S => st_nil (then_normal (st_round (sg S (.lt (by omega) rfl rfl <| .z) fun a w S => wp_seq_k fun _ hK2 => st_then S (.t rfl) (wp_skip (then_normal (hK2 _ _ (wp_seq_k fun _ hK2 => wp_block (wp_seq_k fun _ hK3 => wp_region_lit (run S (.yy (ys_ixS (j := 1) underlying113 sizeOf91 (.t rfl) (.t rfl) (fun _ => by omega)) rfl <| .la gt91 1 rfl rfl rfl <| .z) fun a w S => st_m (op_alloc S zeroValue91 (cs := _) rfl rfl fun g6 a w S => st_m (op_stW S sizeOf91 (.t rfl) (.t rfl) (k := 0) rfl rfl rfl (by simp [Value.oneCell']) fun a w S => st_nil (then_normal (hK3 _ _ (wp_seq_k fun _ hK3 => wp_region_lit (run S (.fa underlying91 sizeOf45 0 rfl rfl rfl <| .ld gt45 0 rfl rfl rfl <| .z) fun a w S => ?_)))))))))))))))
    (replace S := S.pull 5 rfl; try simp only [List.set_cons_zero, List.set_cons_succ, List.eraseIdx_cons_succ, List.eraseIdx_cons_zero] at S; replace S := S.pull 4 rfl; try simp only [List.set_cons_zero, List.set_cons_succ, List.eraseIdx_cons_succ, List.eraseIdx_cons_zero] at S; refine st_m (op_callVO (cs := [_, _]) S (.t rfl) call45 .nil (c45 S.wd (by first | assumption | omega | (dsimp only; omega) | exact Sl.nil_ | exact .old S.wd (by assumption) | exact Sl.of_own S.wd (k := 0) rfl (fun _ => rfl) | exact Sl.of_own S.wd (k := 1) rfl (fun _ => rfl) | exact Sl.of_own S.wd (k := 2) rfl (fun _ => rfl) | exact Sl.of_own S.wd (k := 3) rfl (fun _ => rfl) | exact Sl.of_own S.wd (k := 4) rfl (fun _ => rfl) | exact Sl.of_own S.wd (k := 5) rfl (fun _ => rfl) | exact Sl.of_own S.wd (k := 6) rfl (fun _ => rfl) | exact Sl.of_own S.wd (k := 7) rfl (fun _ => rfl) | exact Sl.of_own S.wd (k := 8) rfl (fun _ => rfl) | exact Sl.of_own S.wd (k := 9) rfl (fun _ => rfl) | exact Sl.of_own S.wd (k := 10) rfl (fun _ => rfl) | exact Sl.of_own S.wd (k := 11) rfl (fun _ => rfl) | (simp; done) | (simp at *; omega)) (by first | assumption | omega | (dsimp only; omega) | exact Sl.nil_ | exact .old S.wd (by assumption) | exact Sl.of_own S.wd (k := 0) rfl (fun _ => rfl) | exact Sl.of_own S.wd (k := 1) rfl (fun _ => rfl) | exact Sl.of_own S.wd (k := 2) rfl (fun _ => rfl) | exact Sl.of_own S.wd (k := 3) rfl (fun _ => rfl) | exact Sl.of_own S.wd (k := 4) rfl (fun _ => rfl) | exact Sl.of_own S.wd (k := 5) rfl (fun _ => rfl) | exact Sl.of_own S.wd (k := 6) rfl (fun _ => rfl) | exact Sl.of_own S.wd (k := 7) rfl (fun _ => rfl) | exact Sl.of_own S.wd (k := 8) rfl (fun _ => rfl) | exact Sl.of_own S.wd (k := 9) rfl (fun _ => rfl) | exact Sl.of_own S.wd (k := 10) rfl (fun _ => rfl) | exact Sl.of_own S.wd (k := 11) rfl (fun _ => rfl) | (simp; done) | (simp at *; omega))) rfl ?_) <;> clear S a w)
    rintro _ _ ⟨rfl, rfl⟩ a w S
    rw [rw_b] at S
    rw [rw_bb] at S
    refine run S (.nt rfl <| .z) fun a w S => st_nil (then_normal (hK3 _ _ (st_else S (.t rfl) (wp_skip (in_normal (then_normal (hK2 _ _ (wp_region_lit (run S (.ad (by unfold I64; omega) rfl <| .z) fun a w S => ?_)))))))))
    rw [rw_2] at S
    refine run S (.mv rfl <| .z) fun a w S => st_nil (then_normal (st_round (sg S (.lt (by omega) rfl rfl <| .z) fun a w S => wp_seq_k fun _ hK2 => st_then S (.t rfl) (wp_skip (then_normal (hK2 _ _ (wp_seq_k fun _ hK2 => wp_block (wp_seq_k fun _ hK3 => wp_region_lit (run S (.yy (ys_ixS (j := 2) underlying113 sizeOf91 (.t rfl) (.t rfl) (fun _ => by omega)) rfl <| .la gt91 4 rfl rfl rfl <| .z) fun a w S => st_m (op_alloc S zeroValue91 (cs := _) rfl rfl fun g7 a w S => st_m (op_stW S sizeOf91 (.t rfl) (.t rfl) (k := 0) rfl rfl rfl (by simp [Value.oneCell']) fun a w S => st_nil (then_normal (hK3 _ _ (wp_seq_k fun _ hK3 => wp_region_lit (run S (.fa underlying91 sizeOf45 0 rfl rfl rfl <| .ld gt45 0 rfl rfl rfl <| .xx (ys_callVC (cs := [_]) (.t rfl) call47 .nil (fun hp w W => c47 _ _ _ _ (by exact Wd.cell W (k := 1) rfl rfl) (by exact .old W (by assumption)) (by exact .old W (by assumption)))) rfl <| .z) fun a w S => ?_)))))))))))))))
    rw [rw_a] at S
    refine run S (.nt rfl <| .z) fun a w S => st_nil (then_normal (hK3 _ _ (st_else S (.t rfl) (wp_skip (in_normal (then_normal (hK2 _ _ (wp_region_lit (run S (.ad (by unfold I64; omega) rfl <| .z) fun a w S => ?_)))))))))
    rw [rw_3] at S
    refine run S (.mv rfl <| .z) fun a w S => st_nil (then_normal (st_round (sg S (.lt (by omega) rfl rfl <| .z) fun a w S => wp_seq_k fun _ hK2 => st_then S (.t rfl) (wp_skip (then_normal (hK2 _ _ (wp_seq_k fun _ hK2 => wp_block (wp_seq_k fun _ hK3 => wp_region_lit (run S (.yy (ys_ixS (j := 3) underlying113 sizeOf91 (.t rfl) (.t rfl) (fun _ => by omega)) rfl <| .la gt91 5 rfl rfl rfl <| .z) fun a w S => st_m (op_alloc S zeroValue91 (cs := _) rfl rfl fun g8 a w S => st_m (op_stW S sizeOf91 (.t rfl) (.t rfl) (k := 0) rfl rfl rfl (by simp [Value.oneCell']) fun a w S => st_nil (then_normal (hK3 _ _ (wp_seq_k fun _ hK3 => wp_region_lit (run S (.fa underlying91 sizeOf45 0 rfl rfl rfl <| .ld gt45 0 rfl rfl rfl <| .xx (ys_callVC (cs := [_, _]) (.t rfl) call51 .nil (fun hp w W => c51 _ _ _ _ _ _ _ _ (by exact Wd.cell W (k := 2) rfl rfl) (by exact Wd.cell W (k := 7) rfl rfl) (by exact Wd.cell W (k := 7) rfl rfl) (by exact .old W (by assumption)) (by exact .old W (by assumption)))) rfl <| .z) fun a w S => ?_)))))))))))))))
    rw [rw_lv] at S
    refine run S (.nt rfl <| .z) fun a w S => st_nil (then_normal (hK3 _ _ (st_else S (.t rfl) (wp_skip (in_normal (then_normal (hK2 _ _ (wp_region_lit (run S (.ad (by unfold I64; omega) rfl <| .z) fun a w S => ?_)))))))))
    rw [rw_4] at S
    refine run S (.mv rfl <| .z) fun a w S => st_nil (then_normal (st_round (sg S (.lt (by omega) rfl rfl <| .z) fun a w S => wp_seq_k fun _ hK2 => st_then S (.t rfl) (wp_skip (then_normal (hK2 _ _ (wp_seq_k fun _ hK2 => wp_block (wp_seq_k fun _ hK3 => wp_region_lit (run S (.yy (ys_ixS (j := 4) underlying113 sizeOf91 (.t rfl) (.t rfl) (fun _ => by omega)) rfl <| .la gt91 6 rfl rfl rfl <| .z) fun a w S => st_m (op_alloc S zeroValue91 (cs := _) rfl rfl fun g9 a w S => st_m (op_stW S sizeOf91 (.t rfl) (.t rfl) (k := 0) rfl rfl rfl (by simp [Value.oneCell']) fun a w S => st_nil (then_normal (hK3 _ _ (wp_seq_k fun _ hK3 => wp_region_lit (run S (.fa underlying91 sizeOf45 0 rfl rfl rfl <| .ld gt45 0 rfl rfl rfl <| .z) fun a w S => ?_)))))))))))))))
    (replace S := S.pull 9 rfl; try simp only [List.set_cons_zero, List.set_cons_succ, List.eraseIdx_cons_succ, List.eraseIdx_cons_zero] at S; replace S := S.pull 9 rfl; try simp only [List.set_cons_zero, List.set_cons_succ, List.eraseIdx_cons_succ, List.eraseIdx_cons_zero] at S; replace S := S.pull 5 rfl; try simp only [List.set_cons_zero, List.set_cons_succ, List.eraseIdx_cons_succ, List.eraseIdx_cons_zero] at S; refine st_m (op_callVO (cs := [_, _, _]) S (.t rfl) call53 .nil (c53 S.wd (by first | assumption | omega | (dsimp only; omega) | exact Sl.nil_ | exact .old S.wd (by assumption) | exact Sl.of_own S.wd (k := 0) rfl (fun _ => rfl) | exact Sl.of_own S.wd (k := 1) rfl (fun _ => rfl) | exact Sl.of_own S.wd (k := 2) rfl (fun _ => rfl) | exact Sl.of_own S.wd (k := 3) rfl (fun _ => rfl) | exact Sl.of_own S.wd (k := 4) rfl (fun _ => rfl) | exact Sl.of_own S.wd (k := 5) rfl (fun _ => rfl) | exact Sl.of_own S.wd (k := 6) rfl (fun _ => rfl) | exact Sl.of_own S.wd (k := 7) rfl (fun _ => rfl) | exact Sl.of_own S.wd (k := 8) rfl (fun _ => rfl) | exact Sl.of_own S.wd (k := 9) rfl (fun _ => rfl) | exact Sl.of_own S.wd (k := 10) rfl (fun _ => rfl) | exact Sl.of_own S.wd (k := 11) rfl (fun _ => rfl) | exact Sl.of_own S.wd (k := 12) rfl (fun _ => rfl) | exact Sl.of_own S.wd (k := 13) rfl (fun _ => rfl) | exact Sl.of_own S.wd (k := 14) rfl (fun _ => rfl) | (simp; done) | (simp at *; omega)) (by first | assumption | omega | (dsimp only; omega) | exact Sl.nil_ | exact .old S.wd (by assumption) | exact Sl.of_own S.wd (k := 0) rfl (fun _ => rfl) | exact Sl.of_own S.wd (k := 1) rfl (fun _ => rfl) | exact Sl.of_own S.wd (k := 2) rfl (fun _ => rfl) | exact Sl.of_own S.wd (k := 3) rfl (fun _ => rfl) | exact Sl.of_own S.wd (k := 4) rfl (fun _ => rfl) | exact Sl.of_own S.wd (k := 5) rfl (fun _ => rfl) | exact Sl.of_own S.wd (k := 6) rfl (fun _ => rfl) | exact Sl.of_own S.wd (k := 7) rfl (fun _ => rfl) | exact Sl.of_own S.wd (k := 8) rfl (fun _ => rfl) | exact Sl.of_own S.wd (k := 9) rfl (fun _ => rfl) | exact Sl.of_own S.wd (k := 10) rfl (fun _ => rfl) | exact Sl.of_own S.wd (k := 11) rfl (fun _ => rfl) | exact Sl.of_own S.wd (k := 12) rfl (fun _ => rfl) | exact Sl.of_own S.wd (k := 13) rfl (fun _ => rfl) | exact Sl.of_own S.wd (k := 14) rfl (fun _ => rfl) | (simp; done) | (simp at *; omega))) rfl ?_) <;> clear S a w)
    rintro _ _ ⟨rfl, rfl⟩ a w S
    rw [rw_t] at S
    refine run S (.nt rfl <| .z) fun a w S => st_nil (then_normal (hK3 _ _ (st_then S (.t rfl) (sg S (.fa underlying91 sizeOf89 1 rfl rfl rfl <| .ld gt89 3 rfl rfl rfl <| .xx (ys_callVC (cs := [_]) (.t rfl) call72 .nil (fun hp w W => c72 _ _ _ (by exact Wd.cell W (k := 13) rfl rfl))) rfl <| .as rfl <| .z) fun a w S => wp_ret (in_ret (then_ret (then_ret (in_ret (then_ret (st_ret S (results1 S results42 (Rv.tmp rfl)) ?_))))))))))
    rw [er]
    exact ⟨_, _, rfl, S.wd.pk, _, rfl, rfl, fun k => by cases k⟩
  have rw_t : decide (0 < c.1.ctx.top p q) = true := decide_eq_true (by omega)
  rw [if_neg ht] at er
  have hgap := no_gap (can_nf hcan) (p := p) (q := q) ht
  cases hg : (c.1.ctx.cloud.any fun d => decide (d.node = p ∧ d.life = q)) with
  | true =>
    rw [hg] at hgap
    have rw_g := hgap
    rw [if_pos hg] at er
    unfold Go.Fw.RetsO
    refine enterW1 W func42 rfl ntmps42 rfl fun a S => sg S (.ac rfl <| .z) fun a w S => wp_seq_k fun _ hK1 => sg S (.mv rfl <| .ln underlying113 rfl <| .mc rfl <| .z) fun a w S => wp_block (st_rounds 7 (st_round (sg S (.lt (by omega) rfl rfl <| .z) fun a w S => wp_seq_k fun _ hK2 => st_then S (.t rfl) (wp_skip (then_normal (hK2 _ _ (wp_seq_k fun _ hK2 => wp_block (wp_seq_k fun _ hK3 => wp_region_lit (run S (.yy (ys_ixS (j := 0) underlying113 sizeOf91 (.t rfl) (.t rfl) (fun _ => by omega)) rfl <| .la gt91 0 rfl rfl rfl <| .z) fun a w S => st_m (op_alloc S zeroValue91 (cs := _) rfl rfl fun g3 a w S => st_m (op_stW S sizeOf91 (.t rfl) (.t rfl) (k := 0) rfl rfl rfl (by simp [Value.oneCell']) fun a w S => st_nil (then_normal (hK3 _ _ (wp_seq_k fun _ hK3 => wp_region_lit (run S (.fa underlying91 sizeOf45 0 rfl rfl rfl <| .ld gt45 0 rfl rfl rfl <| .xx (ys_callVC (cs := [_]) (.t rfl) call44 .nil (fun hp w W => c44 _ _ _ _ (by exact Wd.cell W (k := 3) rfl rfl) (by exact Wd.cell W (k := 3) rfl rfl))) rfl <| .z) fun a w S => ?_)))))))))))))))
    rw [rw_m] at S
    refine run S (.nt rfl <| .z) fun a w S => st_nil (then_normal (hK3 _ _ (st_else S (.t rfl) (wp_skip (in_normal (then_normal (hK2 _ _ (wp_region_lit (run S (.ad (by unfold I64; omega) rfl <| .z) fun a w S => ?_)))))))))
    rw [rw_1] at S
    refine run S (.mv rfl <| .z) fun a w S => st_nil (then_normal (st_round (sg S (.lt (by omega) rfl rfl <| .z) fun a w S => wp_seq_k fun _ hK2 => st_then S (.t rfl) (wp_skip (then_normal (hK2 _ _ (wp_seq_k fun _ hK2 => wp_block (wp_seq_k fun _ hK3 => wp_region_lit (run S (.yy (ys_ixS (j := 1) underlying113 sizeOf91 (.t rfl) (.t rfl) (fun _ => by omega)) rfl <| .la gt91 1 rfl rfl rfl <| .z) fun a w S => st_m (op_alloc S zeroValue91 (cs := _) rfl rfl fun g6 a w S => st_m (op_stW S sizeOf91 (.t rfl) (.t rfl) (k := 0) rfl rfl rfl (by simp [Value.oneCell']) fun a w S => st_nil (then_normal (hK3 _ _ (wp_seq_k fun _ hK3 => wp_region_lit (run S (.fa underlying91 sizeOf45 0 rfl rfl rfl <| .ld gt45 0 rfl rfl rfl <| .z) fun a w S => ?_)))))))))))))))
    (replace S := S.pull 5 rfl; try simp only [List.set_cons_zero, List.set_cons_succ, List.eraseIdx_cons_succ, List.eraseIdx_cons_zero] at S; replace S := S.pull 4 rfl; try simp only [List.set_cons_zero, List.set_cons_succ, List.eraseIdx_cons_succ, List.eraseIdx_cons_zero] at S; refine st_m (op_callVO (cs := [_, _]) S (.t rfl) call45 .nil (c45 S.wd (by first | assumption | omega | (dsimp only; omega) | exact Sl.nil_ | exact .old S.wd (by assumption) | exact Sl.of_own S.wd (k := 0) rfl (fun _ => rfl) | exact Sl.of_own S.wd (k := 1) rfl (fun _ => rfl) | exact Sl.of_own S.wd (k := 2) rfl (fun _ => rfl) | exact Sl.of_own S.wd (k := 3) rfl (fun _ => rfl) | exact Sl.of_own S.wd (k := 4) rfl (fun _ => rfl) | exact Sl.of_own S.wd (k := 5) rfl (fun _ => rfl) | exact Sl.of_own S.wd (k := 6) rfl (fun _ => rfl) | exact Sl.of_own S.wd (k := 7) rfl (fun _ => rfl) | exact Sl.of_own S.wd (k := 8) rfl (fun _ => rfl) | exact Sl.of_own S.wd (k := 9) rfl (fun _ => rfl) | exact Sl.of_own S.wd (k := 10) rfl (fun _ => rfl) | exact Sl.of_own S.wd (k := 11) rfl (fun _ => rfl) | (simp; done) | (simp at *; omega)) (by first | assumption | omega | (dsimp only; omega) | exact Sl.nil_ | exact .old S.wd (by assumption) | exact Sl.of_own S.wd (k := 0) rfl (fun _ => rfl) | exact Sl.of_own S.wd (k := 1) rfl (fun _ => rfl) | exact Sl.of_own S.wd (k := 2) rfl (fun _ => rfl) | exact Sl.of_own S.wd (k := 3) rfl (fun _ => rfl) | exact Sl.of_own S.wd (k := 4) rfl (fun _ => rfl) | exact Sl.of_own S.wd (k := 5) rfl (fun _ => rfl) | exact Sl.of_own S.wd (k := 6) rfl (fun _ => rfl) | exact Sl.of_own S.wd (k := 7) rfl (fun _ => rfl) | exact Sl.of_own S.wd (k := 8) rfl (fun _ => rfl) | exact Sl.of_own S.wd (k := 9) rfl (fun _ => rfl) | exact Sl.of_own S.wd (k := 10) rfl (fun _ => rfl) | exact Sl.of_own S.wd (k := 11) rfl (fun _ => rfl) | (simp; done) | (simp at *; omega))) rfl ?_) <;> clear S a w)
    rintro _ _ ⟨rfl, rfl⟩ a w S
    rw [rw_b] at S
    rw [rw_bb] at S
    refine run S (.nt rfl <| .z) fun a w S => st_nil (then_normal (hK3 _ _ (st_else S (.t rfl) (wp_skip (in_normal (then_normal (hK2 _ _ (wp_region_lit (run S (.ad (by unfold I64; omega) rfl <| .z) fun a w S => ?_)))))))))
    rw [rw_2] at S
    refine run S (.mv rfl <| .z) fun a w S => st_nil (then_normal (st_round (sg S (.lt (by omega) rfl rfl <| .z) fun a w S => wp_seq_k fun _ hK2 => st_then S (.t rfl) (wp_skip (then_normal (hK2 _ _ (wp_seq_k fun _ hK2 => wp_block (wp_seq_k fun _ hK3 => wp_region_lit (run S (.yy (ys_ixS (j := 2) underlying113 sizeOf91 (.t rfl) (.t rfl) (fun _ => by omega)) rfl <| .la gt91 4 rfl rfl rfl <| .z) fun a w S => st_m (op_alloc S zeroValue91 (cs := _) rfl rfl fun g7 a w S => st_m (op_stW S sizeOf91 (.t rfl) (.t rfl) (k := 0) rfl rfl rfl (by simp [Value.oneCell']) fun a w S => st_nil (then_normal (hK3 _ _ (wp_seq_k fun _ hK3 => wp_region_lit (run S (.fa underlying91 sizeOf45 0 rfl rfl rfl <| .ld gt45 0 rfl rfl rfl <| .xx (ys_callVC (cs := [_]) (.t rfl) call47 .nil (fun hp w W => c47 _ _ _ _ (by exact Wd.cell W (k := 1) rfl rfl) (by exact .old W (by assumption)) (by exact .old W (by assumption)))) rfl <| .z) fun a w S => ?_)))))))))))))))
    rw [rw_a] at S
    refine run S (.nt rfl <| .z) fun a w S => st_nil (then_normal (hK3 _ _ (st_else S (.t rfl) (wp_skip (in_normal (then_normal (hK2 _ _ (wp_region_lit (run S (.ad (by unfold I64; omega) rfl <| .z) fun a w S => ?_)))))))))
    rw [rw_3] at S
    refine run S (.mv rfl <| .z) fun a w S => st_nil (then_normal (st_round (sg S (.lt (by omega) rfl rfl <| .z) fun a w S => wp_seq_k fun _ hK2 => st_then S (.t rfl) (wp_skip (then_normal (hK2 _ _ (wp_seq_k fun _ hK2 => wp_block (wp_seq_k fun _ hK3 => wp_region_lit (run S (.yy (ys_ixS (j := 3) underlying113 sizeOf91 (.t rfl) (.t rfl) (fun _ => by omega)) rfl <| .la gt91 5 rfl rfl rfl <| .z) fun a w S => st_m (op_alloc S zeroValue91 (cs := _) rfl rfl fun g8 a w S => st_m (op_stW S sizeOf91 (.t rfl) (.t rfl) (k := 0) rfl rfl rfl (by simp [Value.oneCell']) fun a w S => st_nil (then_normal (hK3 _ _ (wp_seq_k fun _ hK3 => wp_region_lit (run S (.fa underlying91 sizeOf45 0 rfl rfl rfl <| .ld gt45 0 rfl rfl rfl <| .xx (ys_callVC (cs := [_, _]) (.t rfl) call51 .nil (fun hp w W => c51 _ _ _ _ _ _ _ _ (by exact Wd.cell W (k := 2) rfl rfl) (by exact Wd.cell W (k := 7) rfl rfl) (by exact Wd.cell W (k := 7) rfl rfl) (by exact .old W (by assumption)) (by exact .old W (by assumption)))) rfl <| .z) fun a w S => ?_)))))))))))))))
    rw [rw_lv] at S
    refine run S (.nt rfl <| .z) fun a w S => st_nil (then_normal (hK3 _ _ (st_else S (.t rfl) (wp_skip (in_normal (then_normal (hK2 _ _ (wp_region_lit (run S (.ad (by unfold I64; omega) rfl <| .z) fun a w S => ?_)))))))))
    rw [rw_4] at S
    refine run S (.mv rfl <| .z) fun a w S => st_nil (then_normal (st_round (sg S (.lt (by omega) rfl rfl <| .z) fun a w S => wp_seq_k fun _ hK2 => st_then S (.t rfl) (wp_skip (then_normal (hK2 _ _ (wp_seq_k fun _ hK2 => wp_block (wp_seq_k fun _ hK3 => wp_region_lit (run S (.yy (ys_ixS (j := 4) underlying113 sizeOf91 (.t rfl) (.t rfl) (fun _ => by omega)) rfl <| .la gt91 6 rfl rfl rfl <| .z) fun a w S => st_m (op_alloc S zeroValue91 (cs := _) rfl rfl fun g9 a w S => st_m (op_stW S sizeOf91 (.t rfl) (.t rfl) (k := 0) rfl rfl rfl (by simp [Value.oneCell']) fun a w S => st_nil (then_normal (hK3 _ _ (wp_seq_k fun _ hK3 => wp_region_lit (run S (.fa underlying91 sizeOf45 0 rfl rfl rfl <| .ld gt45 0 rfl rfl rfl <| .z) fun a w S => ?_)))))))))))))))
    (replace S := S.pull 9 rfl; try simp only [List.set_cons_zero, List.set_cons_succ, List.eraseIdx_cons_succ, List.eraseIdx_cons_zero] at S; replace S := S.pull 9 rfl; try simp only [List.set_cons_zero, List.set_cons_succ, List.eraseIdx_cons_succ, List.eraseIdx_cons_zero] at S; replace S := S.pull 5 rfl; try simp only [List.set_cons_zero, List.set_cons_succ, List.eraseIdx_cons_succ, List.eraseIdx_cons_zero] at S; refine st_m (op_callVO (cs := [_, _, _]) S (.t rfl) call53 .nil (c53 S.wd (by first | assumption | omega | (dsimp only; omega) | exact Sl.nil_ | exact .old S.wd (by assumption) | exact Sl.of_own S.wd (k := 0) rfl (fun _ => rfl) | exact Sl.of_own S.wd (k := 1) rfl (fun _ => rfl) | exact Sl.of_own S.wd (k := 2) rfl (fun _ => rfl) | exact Sl.of_own S.wd (k := 3) rfl (fun _ => rfl) | exact Sl.of_own S.wd (k := 4) rfl (fun _ => rfl) | exact Sl.of_own S.wd (k := 5) rfl (fun _ => rfl) | exact Sl.of_own S.wd (k := 6) rfl (fun _ => rfl) | exact Sl.of_own S.wd (k := 7) rfl (fun _ => rfl) | exact Sl.of_own S.wd (k := 8) rfl (fun _ => rfl) | exact Sl.of_own S.wd (k := 9) rfl (fun _ => rfl) | exact Sl.of_own S.wd (k := 10) rfl (fun _ => rfl) | exact Sl.of_own S.wd (k := 11) rfl (fun _ => rfl) | exact Sl.of_own S.wd (k := 12) rfl (fun _ => rfl) | exact Sl.of_own S.wd (k := 13) rfl (fun _ => rfl) | exact Sl.of_own S.wd (k := 14) rfl (fun _ => rfl) | (simp; done) | (simp at *; omega)) (by first | assumption | omega | (dsimp only; omega) | exact Sl.nil_ | exact .old S.wd (by assumption) | exact Sl.of_own S.wd (k := 0) rfl (fun _ => rfl) | exact Sl.of_own S.wd (k := 1) rfl (fun _ => rfl) | exact Sl.of_own S.wd (k := 2) rfl (fun _ => rfl) | exact Sl.of_own S.wd (k := 3) rfl (fun _ => rfl) | exact Sl.of_own S.wd (k := 4) rfl (fun _ => rfl) | exact Sl.of_own S.wd (k := 5) rfl (fun _ => rfl) | exact Sl.of_own S.wd (k := 6) rfl (fun _ => rfl) | exact Sl.of_own S.wd (k := 7) rfl (fun _ => rfl) | exact Sl.of_own S.wd (k := 8) rfl (fun _ => rfl) | exact Sl.of_own S.wd (k := 9) rfl (fun _ => rfl) | exact Sl.of_own S.wd (k := 10) rfl (fun _ => rfl) | exact Sl.of_own S.wd (k := 11) rfl (fun _ => rfl) | exact Sl.of_own S.wd (k := 12) rfl (fun _ => rfl) | exact Sl.of_own S.wd (k := 13) rfl (fun _ => rfl) | exact Sl.of_own S.wd (k := 14) rfl (fun _ => rfl) | (simp; done) | (simp at *; omega))) rfl ?_) <;> clear S a w)
    rintro _ _ ⟨rfl, rfl⟩ a w S
    rw [rw_t] at S
    refine run S (.nt rfl <| .z) fun a w S => st_nil (then_normal (hK3 _ _ (st_else S (.t rfl) (wp_skip (in_normal (then_normal (hK2 _ _ (wp_region_lit (run S (.ad (by unfold I64; omega) rfl <| .z) fun a w S => ?_)))))))))
    rw [rw_5] at S
    refine run S (.mv rfl <| .z) fun a w S => st_nil (then_normal (st_round (sg S (.lt (by omega) rfl rfl <| .z) fun a w S => wp_seq_k fun _ hK2 => st_then S (.t rfl) (wp_skip (then_normal (hK2 _ _ (wp_seq_k fun _ hK2 => wp_block (wp_seq_k fun _ hK3 => wp_region_lit (run S (.yy (ys_ixS (j := 5) underlying113 sizeOf91 (.t rfl) (.t rfl) (fun _ => by omega)) rfl <| .la gt91 9 rfl rfl rfl <| .z) fun a w S => st_m (op_alloc S zeroValue91 (cs := _) rfl rfl fun g10 a w S => st_m (op_stW S sizeOf91 (.t rfl) (.t rfl) (k := 0) rfl rfl rfl (by simp [Value.oneCell']) fun a w S => st_nil (then_normal (hK3 _ _ (wp_seq_k fun _ hK3 => wp_region_lit (run S (.fa underlying91 sizeOf45 0 rfl rfl rfl <| .ld gt45 0 rfl rfl rfl <| .xx (ys_callVC (cs := [_, _]) (.t rfl) call54 .nil (fun hp w W => c54 _ _ _ _ _ _ _ _ _ (by exact Wd.cell W (k := 1) rfl rfl) (by exact Wd.cell W (k := 3) rfl rfl) (by exact Wd.cell W (k := 3) rfl rfl) (by exact Wd.cell W (k := 3) rfl rfl) (by exact .old W (by assumption)) (by exact .old W (by assumption)))) rfl <| .z) fun a w S => ?_)))))))))))))))
    rw [rw_g] at S
    refine run S (.nt rfl <| .z) fun a w S => st_nil (then_normal (hK3 _ _ (st_then S (.t rfl) (sg S (.fa underlying91 sizeOf89 1 rfl rfl rfl <| .ld gt89 0 rfl rfl rfl <| .xx (ys_callVC (cs := [_]) (.t rfl) call72 .nil (fun hp w W => c72 _ _ _ (by exact Wd.cell W (k := 15) rfl rfl))) rfl <| .as rfl <| .z) fun a w S => wp_ret (in_ret (then_ret (then_ret (in_ret (then_ret (st_ret S (results1 S results42 (Rv.tmp rfl)) ?_))))))))))
    rw [er]
    exact ⟨_, _, rfl, S.wd.pk, _, rfl, rfl, fun k => by cases k⟩
  | false =>
  rw [hg] at hgap
  have rw_g := hgap
  rw [if_neg (by rw [hg]; simp)] at er
  unfold Go.Fw.RetsO
  refine enterW1 W func42 rfl ntmps42 rfl fun a S => sg S (.ac rfl <| .z) fun a w S => wp_seq_k fun _ hK1 => sg S (.mv rfl <| .ln underlying113 rfl <| .mc rfl <| .z) fun a w S => wp_block (st_rounds 7 (st_round (sg S (.lt (by omega) rfl rfl <| .z) fun a w S => wp_seq_k fun _ hK2 => st_then S (.t rfl) (wp_skip (then_normal (hK2 _ _ (wp_seq_k fun _ hK2 => wp_block (wp_seq_k fun _ hK3 => wp_region_lit (run S (.yy (ys_ixS (j := 0) underlying113 sizeOf91 (.t rfl) (.t rfl) (fun _ => by omega)) rfl <| .la gt91 0 rfl rfl rfl <| .z) fun a w S => st_m (op_alloc S zeroValue91 (cs := _) rfl rfl fun g3 a w S => st_m (op_stW S sizeOf91 (.t rfl) (.t rfl) (k := 0) rfl rfl rfl (by simp [Value.oneCell']) fun a w S => st_nil (then_normal (hK3 _ _ (wp_seq_k fun _ hK3 => wp_region_lit (run S (.fa underlying91 sizeOf45 0 rfl rfl rfl <| .ld gt45 0 rfl rfl rfl <| .xx (ys_callVC (cs := [_]) (.t rfl) call44 .nil (fun hp w W => c44 _ _ _ _ (by exact Wd.cell W (k := 3) rfl rfl) (by exact Wd.cell W (k := 3) rfl rfl))) rfl <| .z) fun a w S => ?_)))))))))))))))
  rw [rw_m] at S
  refine run S (.nt rfl <| .z) fun a w S => st_nil (then_normal (hK3 _ _ (st_else S (.t rfl) (wp_skip (in_normal (then_normal (hK2 _ _ (wp_region_lit (run S (.ad (by unfold I64; omega) rfl <| .z) fun a w S => ?_)))))))))
  rw [rw_1] at S
  refine run S (.mv rfl <| .z) fun a w S => st_nil (then_normal (st_round (sg S (.lt (by omega) rfl rfl <| .z) fun a w S => wp_seq_k fun _ hK2 => st_then S (.t rfl) (wp_skip (then_normal (hK2 _ _ (wp_seq_k fun _ hK2 => wp_block (wp_seq_k fun _ hK3 => wp_region_lit (run S (.yy (ys_ixS (j := 1) underlying113 sizeOf91 (.t rfl) (.t rfl) (fun _ => by omega)) rfl <| .la gt91 1 rfl rfl rfl <| .z) fun a w S => st_m (op_alloc S zeroValue91 (cs := _) rfl rfl fun g6 a w S => st_m (op_stW S sizeOf91 (.t rfl) (.t rfl) (k := 0) rfl rfl rfl (by simp [Value.oneCell']) fun a w S => st_nil (then_normal (hK3 _ _ (wp_seq_k fun _ hK3 => wp_region_lit (run S (.fa underlying91 sizeOf45 0 rfl rfl rfl <| .ld gt45 0 rfl rfl rfl <| .z) fun a w S => ?_)))))))))))))))
  (replace S := S.pull 5 rfl; try simp only [List.set_cons_zero, List.set_cons_succ, List.eraseIdx_cons_succ, List.eraseIdx_cons_zero] at S; replace S := S.pull 4 rfl; try simp only [List.set_cons_zero, List.set_cons_succ, List.eraseIdx_cons_succ, List.eraseIdx_cons_zero] at S; refine st_m (op_callVO (cs := [_, _]) S (.t rfl) call45 .nil (c45 S.wd (by first | assumption | omega | (dsimp only; omega) | exact Sl.nil_ | exact .old S.wd (by assumption) | exact Sl.of_own S.wd (k := 0) rfl (fun _ => rfl) | exact Sl.of_own S.wd (k := 1) rfl (fun _ => rfl) | exact Sl.of_own S.wd (k := 2) rfl (fun _ => rfl) | exact Sl.of_own S.wd (k := 3) rfl (fun _ => rfl) | exact Sl.of_own S.wd (k := 4) rfl (fun _ => rfl) | exact Sl.of_own S.wd (k := 5) rfl (fun _ => rfl) | exact Sl.of_own S.wd (k := 6) rfl (fun _ => rfl) | exact Sl.of_own S.wd (k := 7) rfl (fun _ => rfl) | exact Sl.of_own S.wd (k := 8) rfl (fun _ => rfl) | exact Sl.of_own S.wd (k := 9) rfl (fun _ => rfl) | exact Sl.of_own S.wd (k := 10) rfl (fun _ => rfl) | exact Sl.of_own S.wd (k := 11) rfl (fun _ => rfl) | (simp; done) | (simp at *; omega)) (by first | assumption | omega | (dsimp only; omega) | exact Sl.nil_ | exact .old S.wd (by assumption) | exact Sl.of_own S.wd (k := 0) rfl (fun _ => rfl) | exact Sl.of_own S.wd (k := 1) rfl (fun _ => rfl) | exact Sl.of_own S.wd (k := 2) rfl (fun _ => rfl) | exact Sl.of_own S.wd (k := 3) rfl (fun _ => rfl) | exact Sl.of_own S.wd (k := 4) rfl (fun _ => rfl) | exact Sl.of_own S.wd (k := 5) rfl (fun _ => rfl) | exact Sl.of_own S.wd (k := 6) rfl (fun _ => rfl) | exact Sl.of_own S.wd (k := 7) rfl (fun _ => rfl) | exact Sl.of_own S.wd (k := 8) rfl (fun _ => rfl) | exact Sl.of_own S.wd (k := 9) rfl (fun _ => rfl) | exact Sl.of_own S.wd (k := 10) rfl (fun _ => rfl) | exact Sl.of_own S.wd (k := 11) rfl (fun _ => rfl) | (simp; done) | (simp at *; omega))) rfl ?_) <;> clear S a w)
  rintro _ _ ⟨rfl, rfl⟩ a w S
  rw [rw_b] at S
  rw [rw_bb] at S
  refine run S (.nt rfl <| .z) fun a w S => st_nil (then_normal (hK3 _ _ (st_else S (.t rfl) (wp_skip (in_normal (then_normal (hK2 _ _ (wp_region_lit (run S (.ad (by unfold I64; omega) rfl <| .z) fun a w S => ?_)))))))))
  rw [rw_2] at S
  refine run S (.mv rfl <| .z) fun a w S => st_nil (then_normal (st_round (sg S (.lt (by omega) rfl rfl <| .z) fun a w S => wp_seq_k fun _ hK2 => st_then S (.t rfl) (wp_skip (then_normal (hK2 _ _ (wp_seq_k fun _ hK2 => wp_block (wp_seq_k fun _ hK3 => wp_region_lit (run S (.yy (ys_ixS (j := 2) underlying113 sizeOf91 (.t rfl) (.t rfl) (fun _ => by omega)) rfl <| .la gt91 4 rfl rfl rfl <| .z) fun a w S => st_m (op_alloc S zeroValue91 (cs := _) rfl rfl fun g7 a w S => st_m (op_stW S sizeOf91 (.t rfl) (.t rfl) (k := 0) rfl rfl rfl (by simp [Value.oneCell']) fun a w S => st_nil (then_normal (hK3 _ _ (wp_seq_k fun _ hK3 => wp_region_lit (run S (.fa underlying91 sizeOf45 0 rfl rfl rfl <| .ld gt45 0 rfl rfl rfl <| .xx (ys_callVC (cs := [_]) (.t rfl) call47 .nil (fun hp w W => c47 _ _ _ _ (by exact Wd.cell W (k := 1) rfl rfl) (by exact .old W (by assumption)) (by exact .old W (by assumption)))) rfl <| .z) fun a w S => ?_)))))))))))))))
  rw [rw_a] at S
  refine run S (.nt rfl <| .z) fun a w S => st_nil (then_normal (hK3 _ _ (st_else S (.t rfl) (wp_skip (in_normal (then_normal (hK2 _ _ (wp_region_lit (run S (.ad (by unfold I64; omega) rfl <| .z) fun a w S => ?_)))))))))
  rw [rw_3] at S
  refine run S (.mv rfl <| .z) fun a w S => st_nil (then_normal (st_round (sg S (.lt (by omega) rfl rfl <| .z) fun a w S => wp_seq_k fun _ hK2 => st_then S (.t rfl) (wp_skip (then_normal (hK2 _ _ (wp_seq_k fun _ hK2 => wp_block (wp_seq_k fun _ hK3 => wp_region_lit (run S (.yy (ys_ixS (j := 3) underlying113 sizeOf91 (.t rfl) (.t rfl) (fun _ => by omega)) rfl <| .la gt91 5 rfl rfl rfl <| .z) fun a w S => st_m (op_alloc S zeroValue91 (cs := _) rfl rfl fun g8 a w S => st_m (op_stW S sizeOf91 (.t rfl) (.t rfl) (k := 0) rfl rfl rfl (by simp [Value.oneCell']) fun a w S => st_nil (then_normal (hK3 _ _ (wp_seq_k fun _ hK3 => wp_region_lit (run S (.fa underlying91 sizeOf45 0 rfl rfl rfl <| .ld gt45 0 rfl rfl rfl <| .xx (ys_callVC (cs := [_, _]) (.t rfl) call51 .nil (fun hp w W => c51 _ _ _ _ _ _ _ _ (by exact Wd.cell W (k := 2) rfl rfl) (by exact Wd.cell W (k := 7) rfl rfl) (by exact Wd.cell W (k := 7) rfl rfl) (by exact .old W (by assumption)) (by exact .old W (by assumption)))) rfl <| .z) fun a w S => ?_)))))))))))))))
  rw [rw_lv] at S
  refine run S (.nt rfl <| .z) fun a w S => st_nil (then_normal (hK3 _ _ (st_else S (.t rfl) (wp_skip (in_normal (then_normal (hK2 _ _ (wp_region_lit (run S (.ad (by unfold I64; omega) rfl <| .z) fun a w S => ?_)))))))))
  rw [rw_4] at S
  refine run S (.mv rfl <| .z) fun a w S => st_nil (then_normal (st_round (sg S (.lt (by omega) rfl rfl <| .z) fun a w S => wp_seq_k fun _ hK2 => st_then S (.t rfl) (wp_skip (then_normal (hK2 _ _ (wp_seq_k fun _ hK2 => wp_block (wp_seq_k fun _ hK3 => wp_region_lit (run S (.yy (ys_ixS (j := 4) underlying113 sizeOf91 (.t rfl) (.t rfl) (fun _ => by omega)) rfl <| .la gt91 6 rfl rfl rfl <| .z) fun a w S => st_m (op_alloc S zeroValue91 (cs := _) rfl rfl fun g9 a w S => st_m (op_stW S sizeOf91 (.t rfl) (.t rfl) (k := 0) rfl rfl rfl (by simp [Value.oneCell']) fun a w S => st_nil (then_normal (hK3 _ _ (wp_seq_k fun _ hK3 => wp_region_lit (run S (.fa underlying91 sizeOf45 0 rfl rfl rfl <| .ld gt45 0 rfl rfl rfl <| .z) fun a w S => ?_)))))))))))))))
  (replace S := S.pull 9 rfl; try simp only [List.set_cons_zero, List.set_cons_succ, List.eraseIdx_cons_succ, List.eraseIdx_cons_zero] at S; replace S := S.pull 9 rfl; try simp only [List.set_cons_zero, List.set_cons_succ, List.eraseIdx_cons_succ, List.eraseIdx_cons_zero] at S; replace S := S.pull 5 rfl; try simp only [List.set_cons_zero, List.set_cons_succ, List.eraseIdx_cons_succ, List.eraseIdx_cons_zero] at S; refine st_m (op_callVO (cs := [_, _, _]) S (.t rfl) call53 .nil (c53 S.wd (by first | assumption | omega | (dsimp only; omega) | exact Sl.nil_ | exact .old S.wd (by assumption) | exact Sl.of_own S.wd (k := 0) rfl (fun _ => rfl) | exact Sl.of_own S.wd (k := 1) rfl (fun _ => rfl) | exact Sl.of_own S.wd (k := 2) rfl (fun _ => rfl) | exact Sl.of_own S.wd (k := 3) rfl (fun _ => rfl) | exact Sl.of_own S.wd (k := 4) rfl (fun _ => rfl) | exact Sl.of_own S.wd (k := 5) rfl (fun _ => rfl) | exact Sl.of_own S.wd (k := 6) rfl (fun _ => rfl) | exact Sl.of_own S.wd (k := 7) rfl (fun _ => rfl) | exact Sl.of_own S.wd (k := 8) rfl (fun _ => rfl) | exact Sl.of_own S.wd (k := 9) rfl (fun _ => rfl) | exact Sl.of_own S.wd (k := 10) rfl (fun _ => rfl) | exact Sl.of_own S.wd (k := 11) rfl (fun _ => rfl) | exact Sl.of_own S.wd (k := 12) rfl (fun _ => rfl) | exact Sl.of_own S.wd (k := 13) rfl (fun _ => rfl) | exact Sl.of_own S.wd (k := 14) rfl (fun _ => rfl) | (simp; done) | (simp at *; omega)) (by first | assumption | omega | (dsimp only; omega) | exact Sl.nil_ | exact .old S.wd (by assumption) | exact Sl.of_own S.wd (k := 0) rfl (fun _ => rfl) | exact Sl.of_own S.wd (k := 1) rfl (fun _ => rfl) | exact Sl.of_own S.wd (k := 2) rfl (fun _ => rfl) | exact Sl.of_own S.wd (k := 3) rfl (fun _ => rfl) | exact Sl.of_own S.wd (k := 4) rfl (fun _ => rfl) | exact Sl.of_own S.wd (k := 5) rfl (fun _ => rfl) | exact Sl.of_own S.wd (k := 6) rfl (fun _ => rfl) | exact Sl.of_own S.wd (k := 7) rfl (fun _ => rfl) | exact Sl.of_own S.wd (k := 8) rfl (fun _ => rfl) | exact Sl.of_own S.wd (k := 9) rfl (fun _ => rfl) | exact Sl.of_own S.wd (k := 10) rfl (fun _ => rfl) | exact Sl.of_own S.wd (k := 11) rfl (fun _ => rfl) | exact Sl.of_own S.wd (k := 12) rfl (fun _ => rfl) | exact Sl.of_own S.wd (k := 13) rfl (fun _ => rfl) | exact Sl.of_own S.wd (k := 14) rfl (fun _ => rfl) | (simp; done) | (simp at *; omega))) rfl ?_) <;> clear S a w)
  rintro _ _ ⟨rfl, rfl⟩ a w S
  rw [rw_t] at S
  refine run S (.nt rfl <| .z) fun a w S => st_nil (then_normal (hK3 _ _ (st_else S (.t rfl) (wp_skip (in_normal (then_normal (hK2 _ _ (wp_region_lit (run S (.ad (by unfold I64; omega) rfl <| .z) fun a w S => ?_)))))))))
  rw [rw_5] at S
  refine run S (.mv rfl <| .z) fun a w S => st_nil (then_normal (st_round (sg S (.lt (by omega) rfl rfl <| .z) fun a w S => wp_seq_k fun _ hK2 => st_then S (.t rfl) (wp_skip (then_normal (hK2 _ _ (wp_seq_k fun _ hK2 => wp_block (wp_seq_k fun _ hK3 => wp_region_lit (run S (.yy (ys_ixS (j := 5) underlying113 sizeOf91 (.t rfl) (.t rfl) (fun _ => by omega)) rfl <| .la gt91 9 rfl rfl rfl <| .z) fun a w S => st_m (op_alloc S zeroValue91 (cs := _) rfl rfl fun g10 a w S => st_m (op_stW S sizeOf91 (.t rfl) (.t rfl) (k := 0) rfl rfl rfl (by simp [Value.oneCell']) fun a w S => st_nil (then_normal (hK3 _ _ (wp_seq_k fun _ hK3 => wp_region_lit (run S (.fa underlying91 sizeOf45 0 rfl rfl rfl <| .ld gt45 0 rfl rfl rfl <| .xx (ys_callVC (cs := [_, _]) (.t rfl) call54 .nil (fun hp w W => c54 _ _ _ _ _ _ _ _ _ (by exact Wd.cell W (k := 1) rfl rfl) (by exact Wd.cell W (k := 3) rfl rfl) (by exact Wd.cell W (k := 3) rfl rfl) (by exact Wd.cell W (k := 3) rfl rfl) (by exact .old W (by assumption)) (by exact .old W (by assumption)))) rfl <| .z) fun a w S => ?_)))))))))))))))
  rw [rw_g] at S
  refine run S (.nt rfl <| .z) fun a w S => st_nil (then_normal (hK3 _ _ (st_else S (.t rfl) (wp_skip (in_normal (then_normal (hK2 _ _ (wp_region_lit (run S (.ad (by unfold I64; omega) rfl <| .z) fun a w S => ?_)))))))))
  rw [rw_6] at S
  refine run S (.mv rfl <| .z) fun a w S => st_nil (then_normal (st_round (sg S (.ge (by omega) rfl rfl <| .z) fun a w S => wp_seq_k fun _ hK2 => st_else S (.t rfl) (wp_exit (then_exit (then_exit (in_here (then_normal (hK1 _ _ (sg S (.ac rfl <| .z) fun a w S => wp_ret (st_ret S (results1 S results42 (Rv.tmp rfl)) ?_)))))))))))
  rw [er]
  exact ⟨_, _, rfl, S.wd.pk, _, rfl, rfl, fun _ => rfl⟩
end Go.Proofs.Ytakpdbmdfnialaa
set_option linter.unusedVariables false
set_option linter.unusedSimpArgs false
set_option maxRecDepth 100000
set_option maxHeartbeats 4000000
namespace Go.Proofs.Ytakpdbmdfnialaa
open Go.Fw Go.Proofs Go.RowKit Go.Proofs.Try
theorem c18 (w0 : World) (v : Value) (l : List SCart) (p q : Int) (h : Sl SCart.enc 3 w0 w0.heap.size v l) (hc : CartsRd w0 l) :
    Calls Try.prog 18 #[v, .agg #[.int .i64 p, .int .i64 q]] w0 fun u w' => u = .returned (.tuple #[.agg (Dot.enc (readyG (l.map (·.1)) p q).1).toArray, .int .i64 (readyG (l.map (·.1)) p q).2]) ∧ Bel w0.heap.size w0 w' := by
  have hs := h
  obtain ⟨A, cap, rfl, hl, hcap, hA⟩ := h
  refine enter2 func18 rfl ntmps18 rfl fun a S => wp_seq_k fun _ hK1 => wp_region_lit (st_m (op_box1 S (.t rfl) rfl rfl fun g1 a w S => st_m (op_box S (.t rfl) rfl fun g2 a w S => st_m (op_alloc S zeroValue23 (cs := _) rfl rfl fun g3 a w S => run S (.ac rfl <| .z) fun a w S => st_nil (then_normal (hK1 _ _ (wp_seq_k fun _ hK1 => wp_region_lit (st_m (op_alloc S zeroValue38 (cs := _) rfl rfl fun g4 a w S => st_m (op_st S sizeOf38 (.t rfl) Ev.c (k := 0) rfl rfl (by simp) fun a w S => st_nil (then_normal (hK1 _ _ (wp_seq_k fun _ hK1 => wp_region_lit (run S (.fa underlying58 sizeOf3 0 rfl rfl rfl <| .ld gt3 2 rfl rfl rfl <| .fa underlying58 sizeOf3 1 rfl rfl rfl <| .ld gt3 2 rfl rfl rfl <| .yy (ys_bld (ps := [(0, Go.Operand.tmp 10), (1, Go.Operand.tmp 12)]) (us := [_, _, _]) bld23 (.cons (.t rfl) (.cons (.t rfl) .nil)) rfl) rfl <| .z) fun a w S => st_m (op_alloc S zeroValue23 (cs := _) rfl rfl fun g5 a w S => st_m (op_stW S sizeOf23 (.t rfl) (.t rfl) (k := 0) rfl rfl rfl (by simp [Value.oneCell']) fun a w S => st_nil (then_normal (hK1 _ _ (wp_seq_k fun _ hK1 => wp_region_lit (run S (.yy (ys_mkFunc (.cons (.t rfl) .nil)) rfl <| .z) fun a w S => ?_))))))))))))))))))))
  (refine st_m (op_calls S call43 (.cons (.t rfl) (.cons Ev.c .nil)) (c43 _ _ _ _) rfl ?_); clear S a w; rintro _ _ ⟨g6, rfl, rfl⟩ a w S)
  refine run S (.yy (ys_mkFunc (.cons (.t rfl) (.cons (.t rfl) .nil))) rfl <| .yy (ys_mkFunc (.cons (.t rfl) .nil)) rfl <| .yy (ys_bld (ps := [(0, Go.Operand.tmp 16), (1, Go.Operand.tmp 17)]) (us := [_, _]) bld91 (.cons (.t rfl) (.cons (.t rfl) .nil)) rfl) rfl <| .yy (ys_mkFunc (.cons (.t rfl) .nil)) rfl <| .z) fun a w S => ?_
  (refine st_m (op_calls S call43 (.cons (.t rfl) (.cons Ev.c .nil)) (c43 _ _ _ _) rfl ?_); clear S a w; rintro _ _ ⟨g7, rfl, rfl⟩ a w S)
  refine run S (.yy (ys_mkFunc (.cons (.t rfl) (.cons (.t rfl) .nil))) rfl <| .z) fun a w S => ?_
  (refine st_m (op_calls S call43 (.cons (.t rfl) (.cons Ev.c .nil)) (c43 _ _ _ _) rfl ?_); clear S a w; rintro _ _ ⟨g8, rfl, rfl⟩ a w S)
  refine run S (.yy (ys_mkFunc (.cons (.t rfl) (.cons (.t rfl) (.cons (.t rfl) .nil)))) rfl <| .z) fun a w S => ?_
  (refine st_m (op_calls S call43 (.cons (.t rfl) (.cons Ev.c .nil)) (c43 _ _ _ _) rfl ?_); clear S a w; rintro _ _ ⟨g9, rfl, rfl⟩ a w S)
  refine run S (.yy (ys_mkFunc (.cons (.t rfl) (.cons (.t rfl) .nil))) rfl <| .z) fun a w S => ?_
  (refine st_m (op_calls S call43 (.cons (.t rfl) (.cons Ev.c .nil)) (c43 _ _ _ _) rfl ?_); clear S a w; rintro _ _ ⟨g10, rfl, rfl⟩ a w S)
  refine st_m (op_bsliceZ (ps := [(0, Go.Operand.tmp 15), (1, Go.Operand.tmp 18), (2, Go.Operand.tmp 20), (3, Go.Operand.tmp 22), (4, Go.Operand.tmp 24), (5, Go.Operand.tmp 26)]) (us := [_, _, _, _, _, _, _, _, _, _, _, _]) S underlying113 sizeOf91 zeroValue91 rfl rfl (.cons (.t rfl) (.cons (.t rfl) (.cons (.t rfl) (.cons (.t rfl) (.cons (.t rfl) (.cons (.t rfl) .nil)))))) rfl rfl fun g11 a w S => ?_)
  (replace S := S.pull 1 rfl; try simp only [List.set_cons_zero, List.set_cons_succ, List.eraseIdx_cons_succ, List.eraseIdx_cons_zero] at S; replace S := S.pull 2 rfl; try simp only [List.set_cons_zero, List.set_cons_succ, List.eraseIdx_cons_succ, List.eraseIdx_cons_zero] at S; replace S := S.pull 3 rfl; try simp only [List.set_cons_zero, List.set_cons_succ, List.eraseIdx_cons_succ, List.eraseIdx_cons_zero] at S; replace S := S.pull 4 rfl; try simp only [List.set_cons_zero, List.set_cons_succ, List.eraseIdx_cons_succ, List.eraseIdx_cons_zero] at S; replace S := S.pull 5 rfl; try simp only [List.set_cons_zero, List.set_cons_succ, List.eraseIdx_cons_succ, List.eraseIdx_cons_zero] at S; replace S := S.pull 6 rfl; try simp only [List.set_cons_zero, List.set_cons_succ, List.eraseIdx_cons_succ, List.eraseIdx_cons_zero] at S; replace S := S.pull 7 rfl; try simp only [List.set_cons_zero, List.set_cons_succ, List.eraseIdx_cons_succ, List.eraseIdx_cons_zero] at S; replace S := S.pull 9 rfl; try simp only [List.set_cons_zero, List.set_cons_succ, List.eraseIdx_cons_succ, List.eraseIdx_cons_zero] at S; replace S := S.pull 10 rfl; try simp only [List.set_cons_zero, List.set_cons_succ, List.eraseIdx_cons_succ, List.eraseIdx_cons_zero] at S; replace S := S.pull 9 rfl; try simp only [List.set_cons_zero, List.set_cons_succ, List.eraseIdx_cons_succ, List.eraseIdx_cons_zero] at S; refine st_m (op_callO S call42 (.cons (.t rfl) .nil) (c42 S.wd (by first | assumption | omega | (dsimp only; omega) | exact Sl.nil_ | exact .old S.wd (by assumption) | exact Sl.of_own S.wd (k := 0) rfl (fun _ => rfl) | exact Sl.of_own S.wd (k := 1) rfl (fun _ => rfl) | exact Sl.of_own S.wd (k := 2) rfl (fun _ => rfl) | exact Sl.of_own S.wd (k := 3) rfl (fun _ => rfl) | exact Sl.of_own S.wd (k := 4) rfl (fun _ => rfl) | exact Sl.of_own S.wd (k := 5) rfl (fun _ => rfl) | exact Sl.of_own S.wd (k := 6) rfl (fun _ => rfl) | exact Sl.of_own S.wd (k := 7) rfl (fun _ => rfl) | exact Sl.of_own S.wd (k := 8) rfl (fun _ => rfl) | exact Sl.of_own S.wd (k := 9) rfl (fun _ => rfl) | exact Sl.of_own S.wd (k := 10) rfl (fun _ => rfl) | (simp; done) | (simp at *; omega)) (by first | assumption | omega | (dsimp only; omega) | exact Sl.nil_ | exact .old S.wd (by assumption) | exact Sl.of_own S.wd (k := 0) rfl (fun _ => rfl) | exact Sl.of_own S.wd (k := 1) rfl (fun _ => rfl) | exact Sl.of_own S.wd (k := 2) rfl (fun _ => rfl) | exact Sl.of_own S.wd (k := 3) rfl (fun _ => rfl) | exact Sl.of_own S.wd (k := 4) rfl (fun _ => rfl) | exact Sl.of_own S.wd (k := 5) rfl (fun _ => rfl) | exact Sl.of_own S.wd (k := 6) rfl (fun _ => rfl) | exact Sl.of_own S.wd (k := 7) rfl (fun _ => rfl) | exact Sl.of_own S.wd (k := 8) rfl (fun _ => rfl) | exact Sl.of_own S.wd (k := 9) rfl (fun _ => rfl) | exact Sl.of_own S.wd (k := 10) rfl (fun _ => rfl) | (simp; done) | (simp at *; omega))) rfl ?_) <;> clear S a w)
  rintro _ _ ⟨n1, rfl, rfl, hr1⟩ a w S
  refine run S (.as rfl <| .z) fun a w S => st_nil (then_normal (hK1 _ _ (wp_seq_k fun _ hK1 => sg S (.mv rfl <| .yy (ys_neq (.t rfl) Ev.c) rfl <| .z) fun a w S => ?_)))
  refine st_if S (.t rfl) (fun h1 => ?_) (fun h1 => ?_)
  refine wp_seq_k fun _ hK2 => wp_region_lit (run S (.yy (ys_bld (ps := []) (us := [_, _, _]) bld23 .nil rfl) rfl <| .mv rfl <| .z) fun a w S => st_m (op_stW S sizeOf23 (.t rfl) (.t rfl) (k := 1) rfl rfl rfl (by simp [Value.oneCell']) fun a w S => run S (.as rfl <| .z) fun a w S => st_nil (then_normal (hK2 _ _ (wp_ret (then_ret (st_ret S (results2 S results18 (Rv.cell (k := 1) ⟨isAgg23, sizeOf23⟩ rfl rfl rfl) (Rv.tmp rfl)) ?_)))))))
  rotate_left
  refine wp_skip (then_normal (hK1 _ _ (wp_seq_k fun _ hK1 => wp_region_lit (run S (.la gt23 0 rfl rfl rfl <| .z) fun a w S => st_m (op_stW S sizeOf23 (.t rfl) (.t rfl) (k := 1) rfl rfl rfl (by simp [Value.oneCell']) fun a w S => run S (.ac rfl <| .z) fun a w S => st_nil (then_normal (hK1 _ _ (wp_ret (st_ret S (results2 S results18 (Rv.cell (k := 1) ⟨isAgg23, sizeOf23⟩ rfl rfl rfl) (Rv.tmp rfl)) ?_)))))))))
  rotate_left
  · refine ⟨?_, S.wd.below⟩
    rw [ready_zero h1]
  · have h2 := Decidable.not_not.1 h1
    refine ⟨?_, S.wd.below⟩
    rw [hr1 h2, h2]
end Go.Proofs.Ytakpdbmdfnialaa
set_option linter.unusedVariables false
set_option linter.unusedSimpArgs false
namespace Go.Fw
open Go.RowKit
def Wants (ops : Array Oper) (K : KL) : Option (Nat × Bool) → Prop
  | none => True
  | some (j, p) => ∃ t, (ops[j]?).bind (·.dst) = some t ∧ look K t = some (true, .bool p)
section
variable {P : Program} {Q : Exit → Act → World → Prop} {n : Nat} {w0 : World} {K : KL} {L Lr : List Chunk} {a : Act} {w : World} {ops : Array Oper} {fuel : Nat} {listed : Array Bool} {md : Region.Mode}
theorem h_pick {i : Nat} {d : Option Tmp} {op : Op} {ty : TypeId} {pos : String} {aft : Array Edge} {g : Option (Nat × Bool)} (S : St n w0 K L a w) (hi : ops[i]? = some ⟨d, op, ty, pos, aft, g⟩) (hw : Wants ops K g)
    (h : Oper.wp P ⟨d, op, ty, pos, aft, g⟩ a w (fun a' w' => Wd w0 Lr w' ∧ wpAnyH P md ops Q (Wd w0 Lr) fuel (listed.setIfInBounds i true) a' w') Q) : wpOp P ops Q i (fun a' w' => Wd w0 Lr w' ∧ wpAnyH P md ops Q (Wd w0 Lr) fuel (listed.setIfInBounds i true) a' w') a w := by
  cases g with
  | none =>
    unfold wpOp
    simp only [hi, Region.wanted, if_true]
    exact .inl h
  | some g =>
    obtain ⟨j, p⟩ := g
    obtain ⟨t, hj, hl⟩ := hw
    have hyd := yielded_of S.kn hj hl
    unfold wpOp
    simp only [hi, Region.wanted, hyd, cond_true]
    simpa using Or.inl h
theorem h_splitw {i j : Nat} {di dj : Option Tmp} {opi opj : Op} {tyi tyj : TypeId} {posi posj : String} {ai aj : Array Edge} {gi gj : Option (Nat × Bool)} (S : St n w0 K L a w) (hr : Region.ready md ops listed = [i, j]) (hi : ops[i]? = some ⟨di, opi, tyi, posi, ai, gi⟩) (hj : ops[j]? = some ⟨dj, opj, tyj, posj, aj, gj⟩)
    (wi : Wants ops K gi) (wj : Wants ops K gj)
    (h1 : Oper.wp P ⟨di, opi, tyi, posi, ai, gi⟩ a w (fun a' w' => Wd w0 Lr w' ∧ wpAnyH P md ops Q (Wd w0 Lr) fuel (listed.setIfInBounds i true) a' w') Q)
    (h2 : Oper.wp P ⟨dj, opj, tyj, posj, aj, gj⟩ a w (fun a' w' => Wd w0 Lr w' ∧ wpAnyH P md ops Q (Wd w0 Lr) fuel (listed.setIfInBounds j true) a' w') Q) : wpAnyH P md ops Q (Wd w0 Lr) (fuel + 1) listed a w :=
  wpAnyH_all hr (by simp) fun k hk => by
    simp only [List.mem_cons, List.not_mem_nil, or_false] at hk
    rcases hk with rfl | rfl
    · exact h_pick S hi wi h1
    · exact h_pick S hj wj h2
end
end Go.Fw
set_option linter.unusedVariables false
set_option linter.unusedSimpArgs false
set_option maxRecDepth 100000
set_option maxHeartbeats 4000000
namespace Go.Fw
open Go.RowKit
def C013 : Cart := ⟨[], ⟨[⟨0, 1, 3⟩], []⟩⟩
end Go.Fw
namespace Go.Proofs.Ytakpdbmdfnialaa
open Go.Fw Go.Proofs Go.RowKit Go.Proofs.Try
theorem c33 (w0 : World) : Rets Try.prog 33 #[] w0 fun u L => ∃ g, u = .agg #[.slice none 0 0, .slice (some ⟨g, 0, none⟩) 1 1, .slice none 0 0] ∧ L = [.blk g (.cells #[.int .i64 0, .int .i64 1, .int .i64 3] 23)] := by
  unfold Go.Fw.Rets
  refine enter0 func33 rfl ntmps33 rfl fun a S => wp_seq_k fun _ hK1 => wp_region_lit (st_m (op_alloc S zeroValue30 (cs := _) rfl rfl fun g1 a w S => st_nil (then_normal (hK1 _ _ (wp_seq_k fun _ hK1 => wp_region_lit (run S (.yy (ys_bld (ps := [(0, _), (1, _), (2, _)]) (us := [_, _, _]) bld23 (.cons Ev.c (.cons Ev.c (.cons Ev.c .nil))) rfl) rfl <| .z) fun a w S => st_m (op_bslice1 S underlying25 inf23 rfl rfl rfl (.t rfl) rfl rfl rfl fun g2 a w S => run S (.yy (ys_bld (ps := [(0, Go.Operand.tmp 2)]) (us := [_, _]) bld28 (.cons (.t rfl) .nil) rfl) rfl <| .yy (ys_bld (ps := [(1, Go.Operand.tmp 3)]) (us := [_, _, _]) bld30 (.cons (.t rfl) .nil) rfl) rfl <| .z) fun a w S => st_m (op_stW S sizeOf30 (.t rfl) (.t rfl) (k := 1) rfl rfl rfl (by simp [Value.oneCell']) fun a w S => st_nil (then_normal (hK1 _ _ (wp_ret (st_ret S (results1 S results33 (Rv.cell (k := 1) ⟨isAgg30, sizeOf30⟩ rfl rfl rfl)) ?_))))))))))))
  exact ⟨_, _, rfl, S.wd.pk, _, rfl, rfl⟩
end Go.Proofs.Ytakpdbmdfnialaa
set_option linter.unusedVariables false
set_option linter.unusedSimpArgs false
set_option maxRecDepth 100000
set_option maxHeartbeats 4000000
namespace Go.Fw
theorem ready_013 : readyG [C013] 0 1 = (⟨0, 1, 3⟩, 0) := by decide +kernel
theorem put_013 : putG [] [107] ⟨0, 1, 3⟩ = ([⟨[107], ⟨0, 1, 3⟩⟩], 0) := by decide +kernel
theorem clean_013 : cleanG (marksG [⟨[107], ⟨0, 1, 3⟩⟩] [107]) C013 = (Cart.zero, 0) := by decide +kernel
theorem marks_013 : marksG [⟨[107], ⟨0, 1, 3⟩⟩] [107] = [⟨0, 1, 3⟩] := by decide +kernel
end Go.Fw
namespace Go.Proofs.Ytakpdbmdfnialaa
open Go.Fw Go.Proofs Go.RowKit Go.Proofs.Try
theorem c12 (w0 : World) : Calls Try.prog 12 #[] w0 fun e w' => e = .returned (.bool true) ∧ Bel w0.heap.size w0 w' := by
  refine enter0 func12 rfl ntmps12 rfl fun a S => sg S (.ac rfl <| .z) fun a w S => wp_seq_k fun _ hK1 => wp_region_lit ?_
  (refine st_m (op_calls S call33 .nil (c33 _) rfl ?_); clear S a w; rintro _ _ ⟨g1, rfl, rfl⟩ a w S)
  refine st_m (op_bslice1 S underlying56 inf30 rfl rfl rfl (.t rfl) rfl rfl rfl fun g2 a w S => run S (.yy (ys_bld (ps := [(0, _), (1, _)]) (us := [_, _]) bld58 (.cons Ev.c (.cons Ev.c .nil)) rfl) rfl <| .z) fun a w S => st_y S (ys_call call18 (.cons (.t rfl) (.cons (.t rfl) .nil)) (fun _ w' W' => c18 w' _ [(C013, (⟨none, 0, 0, some ⟨g1, 0, none⟩, 1, 1, none, 0, 0⟩ : Sls3))] 0 1 (Sl.of_blk (cap := 1) [(C013, (⟨none, 0, 0, some ⟨g1, 0, none⟩, 1, 1, none, 0, 0⟩ : Sls3))] W' (k := 0) rfl rfl SCart.enc_len (by simp) (by simp)) (fun p hp => by rw [List.mem_singleton.1 hp]; exact ⟨Sl.nil_, sl_y1 W' (k := 1) rfl, Sl.nil_⟩))) rfl ?_)
  clear S a w
  intro a w S
  rw [show List.map (fun x : SCart => x.1) [(C013, (⟨none, 0, 0, some ⟨g1, 0, none⟩, 1, 1, none, 0, 0⟩ : Sls3))] = [C013] from rfl, ready_013] at S
  dsimp only [Dot.enc] at S
  have rw_1 : decide ((0 : Int) = 0 ∧ (1 : Int) = 1 ∧ (3 : Int) = 3) = true := by decide
  refine run S (.mv rfl <| .ex rfl rfl <| .ex rfl rfl <| .z) fun a w S => st_m (op_alloc S zeroValue23 (cs := _) rfl rfl fun g3 a w S => st_m (op_stW S sizeOf23 (.t rfl) (.t rfl) (k := 0) rfl rfl rfl (by simp [Value.oneCell']) fun a w S => run S (.as rfl <| .z) fun a w S => st_nil (then_normal (hK1 _ _ (wp_seq_k fun _ hK1 => wp_region_lit ?_)))))
  (refine st_m (op_calls S call34 .nil (c34 _) rfl ?_); clear S a w; rintro _ _ ⟨g4, rfl, rfl⟩ a w S)
  refine run S (.as rfl <| .z) fun a w S => st_nil (then_normal (hK1 _ _ (wp_seq_k fun _ hK1 => wp_seq_k fun _ hK2 => wp_region_lit (run S (.mv rfl <| .yy (ys_F (by omega) (ys_neq (.t rfl) Ev.c)) rfl <| .mv rfl <| .gy rfl rfl (ys_ldA ⟨isAgg23, sizeOf23⟩ (.t rfl) (k := 1) rfl rfl) <| .gy rfl rfl (ys_bld (ps := [(0, _), (1, _), (2, _)]) (us := [_, _, _]) bld23 (.cons Ev.c (.cons Ev.c (.cons Ev.c .nil))) rfl) <| .gy rfl rfl (ys_neA (.t rfl) (.t rfl) eq23) <| .z) fun a w S => ?_))))
  rw [rw_1] at S
  refine run S (.yy (ys_pickF (.t rfl) (.t rfl)) rfl <| .mv rfl <| .gy rfl rfl (ys_move (.t rfl)) <| .gy rfl rfl (ys_ldA ⟨isAgg23, sizeOf23⟩ (.t rfl) (k := 1) rfl rfl) <| .z) fun a w S => ?_
  replace S := S.nil_ 74 4 Gon.enc none
  (replace S := S.pull 1 rfl; try simp only [List.set_cons_zero, List.set_cons_succ, List.eraseIdx_cons_succ, List.eraseIdx_cons_zero] at S)
  change St _ _ _ (tabP g4 none 0 [] _) _ _ at S
  have tab0 := tab_nil
  (refine st_mg S rfl rfl (op_callO S call9 (.cons (.t rfl) (.cons Ev.c (.cons (.t rfl) .nil))) (c9 S.wd (by first | assumption | omega | (dsimp only; omega) | exact Sl.nil_ | exact .old S.wd (by assumption) | exact Sl.of_own S.wd (k := 0) rfl (fun _ => rfl) | exact Sl.of_own S.wd (k := 1) rfl (fun _ => rfl) | exact Sl.of_own S.wd (k := 2) rfl (fun _ => rfl) | exact Sl.of_own S.wd (k := 3) rfl (fun _ => rfl) | exact Sl.of_own S.wd (k := 4) rfl (fun _ => rfl) | (simp; done) | (simp at *; omega)) (by first | assumption | omega | (dsimp only; omega) | exact Sl.nil_ | exact .old S.wd (by assumption) | exact Sl.of_own S.wd (k := 0) rfl (fun _ => rfl) | exact Sl.of_own S.wd (k := 1) rfl (fun _ => rfl) | exact Sl.of_own S.wd (k := 2) rfl (fun _ => rfl) | exact Sl.of_own S.wd (k := 3) rfl (fun _ => rfl) | exact Sl.of_own S.wd (k := 4) rfl (fun _ => rfl) | (simp; done) | (simp at *; omega)) (by first | assumption | omega | (dsimp only; omega) | exact Sl.nil_ | exact .old S.wd (by assumption) | exact Sl.of_own S.wd (k := 0) rfl (fun _ => rfl) | exact Sl.of_own S.wd (k := 1) rfl (fun _ => rfl) | exact Sl.of_own S.wd (k := 2) rfl (fun _ => rfl) | exact Sl.of_own S.wd (k := 3) rfl (fun _ => rfl) | exact Sl.of_own S.wd (k := 4) rfl (fun _ => rfl) | (simp; done) | (simp at *; omega))) rfl ?_) <;> clear S a w)
  rintro _ _ ⟨A21, e21, rfl, rfl⟩ a w S
  refine run S (.gy rfl rfl (ys_neq (.t rfl) Ev.c) <| .yy (ys_pickF (.t rfl) (.t rfl)) rfl <| .z) fun a w S => st_nil (then_normal (hK2 _ _ (st_else S (.t rfl) (wp_skip (then_normal (hK1 _ _ (wp_seq_k fun _ hK1 => wp_region_lit (run S (.mv rfl <| .z) fun a w S => ?_))))))))
  (refine st_m (op_calls S call33 .nil (c33 _) rfl ?_); clear S a w; rintro _ _ ⟨g5, rfl, rfl⟩ a w S)
  simp only [put_013] at S
  refine st_m (op_calls S call7 (.cons (.t rfl) (.cons Ev.c (.cons (.t rfl) .nil))) (c7 _ g4 _ [⟨[107], ⟨0, 1, 3⟩⟩] [107] _ _ _ C013 (Wd.cell S.wd (k := 1) rfl rfl) (Wd.cell S.wd (k := 1) rfl rfl) (Sl.of_own S.wd (k := 2) rfl (fun _ => rfl)) (by simp) Sl.nil_ ⟨sl_y1 S.wd (k := 0) rfl, Sl.nil_⟩) rfl ?_)
  clear S a w
  rintro _ _ ⟨F1, f1, F2, f2, F3, f3, rfl, rfl⟩ a w S
  simp only [clean_013] at S
  dsimp only [Cart.zero, List.length_nil] at S
  refine run S (.mv rfl <| .ex rfl rfl <| .ex rfl rfl <| .z) fun a w S => st_m (op_alloc S zeroValue30 (cs := _) rfl rfl fun g6 a w S => st_m (op_stW S sizeOf30 (.t rfl) (.t rfl) (k := 0) rfl rfl rfl (by simp [Value.oneCell']) fun a w S => run S (.as rfl <| .z) fun a w S => st_nil (then_normal (hK1 _ _ (wp_seq_k fun _ hK1 => h_begin0 S (by kernel_rfl) fun a w S => hy 0 S rfl (ys_move (.t rfl)) rfl fun a w S => hy 1 S rfl (ys_T (by omega) (ys_eql (.t rfl) Ev.c)) rfl fun a w S => hy 2 S rfl (ys_move (.t rfl)) rfl fun a w S => hyt 3 S rfl rfl rfl (ys_fieldN (FieldT.mk underlying30 rfl sizeOf28 rfl) (.t rfl) (i' := 1) rfl) rfl fun a w S => ?_)))))
  refine hyt 4 S rfl rfl rfl (ys_fieldN (FieldT.mk underlying28 rfl sizeOf25 rfl) (.t rfl) (i' := 1) rfl) rfl fun a w S => hyt 5 S rfl rfl rfl (ys_ld ⟨isAgg25, sizeOf25⟩ (.t rfl) (k := 0) rfl rfl) rfl fun a w S => hyt 6 S rfl rfl rfl (ys_lenS underlying25 (.t rfl)) rfl fun a w S => hyt 7 S rfl rfl rfl (ys_T (by omega) (ys_eql (.t rfl) Ev.c)) rfl fun a w S => hy 8 S rfl (ys_pickT (.t rfl) (.t rfl)) rfl fun a w S => ?_
  refine hy 9 S rfl (ys_move (.t rfl)) rfl fun a w S => hyt 10 S rfl rfl rfl (ys_move (.t rfl)) rfl fun a w S => hyt 12 S rfl rfl rfl (ys_ldA ⟨isAgg23, sizeOf23⟩ (.t rfl) (k := 7) rfl rfl) rfl fun a w S => ?_
  refine h_splitw S (i := 11) (j := 13) (by kernel_rfl) rfl rfl ⟨_, rfl, rfl⟩ ⟨_, rfl, rfl⟩ ?_ ?_
  (refine op_calls S call10 (.cons (.t rfl) (.cons Ev.c .nil)) (c10 _ _ _ _ _ (by exact Wd.cell S.wd (k := 5) rfl rfl) (by exact Wd.cell S.wd (k := 5) rfl rfl) (by exact Sl.of_own S.wd (k := 6) rfl (fun _ => rfl)) (by (simp; done))) rfl ?_; clear S a w; rintro _ _ ⟨A1, c1, rfl, rfl⟩ a w S; refine h_n1 S ?_)
  (refine h_mg (i := 13) S rfl (by kernel_rfl) rfl rfl (op_bslice1 S underlying25 inf23 rfl rfl rfl (.t rfl) rfl rfl rfl ?_); clear S a w; intro g7 a w S; refine h_n2 S ?_)
  refine h_qg (i := 14) S (by repeat (first | exact List.Sublist.refl _ | exact List.nil_sublist _ | refine .cons_cons _ ?_ | refine .cons _ ?_)) rfl (by kernel_rfl) rfl rfl (ys_call call35 (.cons (.t rfl) (.cons (.t rfl) .nil)) (fun hp w W => c35 _ _ _ _ _ (by exact Sl.of_own W (k := 1) rfl (fun _ => rfl)) (by exact sl_y1 W (k := 0) rfl))) rfl fun a w S => hy 15 S rfl (ys_pickT (.t rfl) (.t rfl)) rfl fun a w S => hy 16 S rfl (ys_assign (.t rfl)) rfl fun a w S => h_done (by kernel_rfl) (then_normal (hK1 _ _ (wp_ret (st_ret S (results1 S results12 (Rv.tmp rfl)) ?_))))
  rotate_left
  (refine op_bslice1 S underlying25 inf23 rfl rfl rfl (.t rfl) rfl rfl rfl ?_; clear S a w; intro g7 a w S; refine h_n1 S ?_)
  (refine h_mg (i := 11) S rfl (by kernel_rfl) rfl rfl (op_calls S call10 (.cons (.t rfl) (.cons Ev.c .nil)) (c10 _ _ _ _ _ (by exact Wd.cell S.wd (k := 6) rfl rfl) (by exact Wd.cell S.wd (k := 6) rfl rfl) (by exact Sl.of_own S.wd (k := 7) rfl (fun _ => rfl)) (by (simp; done))) rfl ?_); clear S a w; rintro _ _ ⟨A1, c1, rfl, rfl⟩ a w S; refine h_n2 S ?_)
  refine h_qg (i := 14) S (by repeat (first | exact List.Sublist.refl _ | exact List.nil_sublist _ | refine .cons_cons _ ?_ | refine .cons _ ?_)) rfl (by kernel_rfl) rfl rfl (ys_call call35 (.cons (.t rfl) (.cons (.t rfl) .nil)) (fun hp w W => c35 _ _ _ _ _ (by exact Sl.of_own W (k := 0) rfl (fun _ => rfl)) (by exact sl_y1 W (k := 1) rfl))) rfl fun a w S => hy 15 S rfl (ys_pickT (.t rfl) (.t rfl)) rfl fun a w S => hy 16 S rfl (ys_assign (.t rfl)) rfl fun a w S => h_done (by kernel_rfl) (then_normal (hK1 _ _ (wp_ret (st_ret S (results1 S results12 (Rv.tmp rfl)) ?_))))
  rotate_left
  all_goals exact ⟨by rw [marks_013, decide_eq_true rfl], S.wd.below⟩
end Go.Proofs.Ytakpdbmdfnialaa
set_option linter.unusedVariables false
set_option linter.unusedSimpArgs false
set_option maxRecDepth 100000
set_option maxHeartbeats 4000000
namespace Go.Fw
structure Gdo where
  key : List UInt8
  m : Dot
  c : SCart
abbrev Gdo.enc (x : Gdo) : List Value := [.string (bs x.key), .int .i64 x.m.node, .int .i64 x.m.life, .int .i64 x.m.count, .slice x.c.2.a1 x.c.2.n1 x.c.2.c1, .slice x.c.2.a2 x.c.2.n2 x.c.2.c2, .slice x.c.2.a3 x.c.2.n3 x.c.2.c3]
theorem Gdo.enc_len (x : Gdo) : (Gdo.enc x).length = 7 := rfl
end Go.Fw
namespace Go.Proofs.Ytakpdbmdfnialaa
open Go.Fw Go.Proofs Go.RowKit Go.Proofs.Try
end Go.Proofs.Ytakpdbmdfnialaa
set_option linter.unusedVariables false
set_option linter.unusedSimpArgs false
set_option maxRecDepth 100000
namespace Go.Proofs.Ytakpdbmdfnialaa
open Go.Fw Go.Proofs Go.RowKit Go.ChangeShapes Go.WideShapes Go.ChangeAt Go.Deep Go.Joins Go.Proofs.Try
section
variable {H : Type} {enc : TypeId × Value → H} {w : World}
def ScRd (w : World) (s : SCart) (b : Nat) : Prop := CartRd w s.1 s.2 ∧ s.1.ents.length ≤ b ∧ s.1.ctx.marks.length ≤ b ∧ s.1.ctx.cloud.length ≤ b
theorem rdSC : Rdr enc Try.prog w 30 fun cs b => ∃ s : SCart, cs = SCart.enc s ∧ ScRd w s b := rdCart.mono fun cs b ⟨v1, v2, v3, X, e, hX⟩ => by
  obtain ⟨h1, ⟨h2, h3⟩, l1, l2, l3, _⟩ := hX
  have k1 := h1
  have k2 := h2
  have k3 := h3
  obtain ⟨A1, c1, rfl, _⟩ := h1
  obtain ⟨A2, c2, rfl, _⟩ := h2
  obtain ⟨A3, c3, rfl, _⟩ := h3
  exact ⟨(X, ⟨A1, _, c1, A2, _, c2, A3, _, c3⟩), e, ⟨k1, k2, k3⟩, by dsimp only; omega, by dsimp only; omega, by dsimp only; omega⟩
theorem rdGdo : Rdr enc Try.prog w 32 fun cs b => ∃ x : Gdo, cs = Gdo.enc x ∧ (x.key.length ≤ b ∧ ScRd w x.c b) := by
  refine (Rdr.struct underlying32 (by kernel_rfl) (.cons (Rdr.str underlying9) (.cons rdMark (.cons rdSC .nil)))).mono ?_
  rintro cs b ⟨_, _, rfl, ⟨_, hb, s, rfl, hs⟩, _, _, rfl, ⟨_, _, m, rfl, _⟩, _, _, rfl, ⟨_, hb', c, rfl, hc⟩, rfl⟩
  obtain ⟨k1, k2, k3, k4⟩ := hc
  exact ⟨⟨s, m, c⟩, rfl, by dsimp only; omega, k1, by dsimp only; omega, by dsimp only; omega, by dsimp only; omega⟩
theorem read_gdo {t : TypeId} (e : t = 32) {r : Reach} {b0 : Nat} {v : Value} {d : DataW H} {p : List MemPlace} (hv : Value.okWide Try.prog w r b0 t v) (h : DataW.Trod enc Try.prog w 0 (fun _ => true) true t v d p) :
    ∃ x : Gdo, v = .agg (Gdo.enc x).toArray := by
  subst e
  obtain ⟨x, hc, hX⟩ := Rdr.top rdGdo h
  exact ⟨x, top_agg underlying32 hv hc⟩
end
end Go.Proofs.Ytakpdbmdfnialaa
set_option linter.unusedVariables false
set_option linter.unusedSimpArgs false
set_option maxRecDepth 100000
set_option maxHeartbeats 4000000
namespace Go.Proofs.Ytakpdbmdfnialaa
open Go.Fw Go.Proofs Go.RowKit Go.Proofs.Try
theorem d7 (w0 : World) (s : List UInt8) (v1 v2 v3 : Value) : Calls Try.prog 7 #[.pointer none, .string (bs s), .agg #[v1, v2, v3]] w0 fun e w' => e = .returned (.tuple #[.agg #[.slice none 0 0, .slice none 0 0, .slice none 0 0], .int .i64 8]) ∧ Bel w0.heap.size w0 w' := by
  refine enter3 func7 rfl ntmps7 rfl fun a S => wp_seq_k fun _ hK1 => wp_region_lit (st_m (op_box S (.t rfl) rfl fun g1 a w S => st_m (op_alloc S zeroValue30 (cs := _) rfl rfl fun g2 a w S => run S (.ac rfl <| .z) fun a w S => st_nil (then_normal (hK1 _ _ (wp_seq_k fun _ hK1 => sg S (.mv rfl <| .xx (ys_call call21 (.cons (.t rfl) .nil) (fun hp w W => d21 _)) rfl <| .nt rfl <| .z) fun a w S => st_then S (.t rfl) (wp_seq_k fun _ hK2 => wp_region_lit (run S (.yy (ys_bld (ps := []) (us := [_, _, _]) bld30 .nil rfl) rfl <| .z) fun a w S => st_m (op_stW S sizeOf30 (.t rfl) (.t rfl) (k := 0) rfl rfl rfl (by simp [Value.oneCell']) fun a w S => run S (.ac rfl <| .z) fun a w S => st_nil (then_normal (hK2 _ _ (wp_ret (then_ret (st_ret S (results2 S results7 (Rv.cell (k := 0) ⟨isAgg30, sizeOf30⟩ rfl rfl rfl) (Rv.tmp rfl)) ?_))))))))))))))
  exact ⟨rfl, S.wd.below⟩
theorem d9 (w0 : World) (s : List UInt8) (x y z : Int) : Calls Try.prog 9 #[.pointer none, .string (bs s), .agg #[.int .i64 x, .int .i64 y, .int .i64 z]] w0 fun e w' => e = .returned (.int .i64 8) ∧ Bel w0.heap.size w0 w' := by
  refine enter3 func9 rfl ntmps9 rfl fun a S => wp_seq_k fun _ hK1 => wp_region_lit (st_m (op_box S (.t rfl) rfl fun g1 a w S => run S (.ac rfl <| .z) fun a w S => st_nil (then_normal (hK1 _ _ (wp_seq_k fun _ hK1 => wp_block (sg S (.mv rfl <| .xx (ys_call call21 (.cons (.t rfl) .nil) (fun hp w W => d21 _)) rfl <| .nt rfl <| .as rfl <| .z) fun a w S => st_then S (.t rfl) (sg S (.ac rfl <| .z) fun a w S => wp_ret (in_ret (then_ret (st_ret S (results1 S results9 (Rv.tmp rfl)) ?_))))))))))
  exact ⟨rfl, S.wd.below⟩
theorem d11 (w0 : World) : Calls Try.prog 11 #[.pointer none] w0 fun e w' => e = .returned (.slice none 0 0) ∧ Bel w0.heap.size w0 w' := by
  refine enter1 func11 rfl ntmps11 rfl fun a S => sg S (.ac rfl <| .z) fun a w S => wp_seq_k fun _ hK1 => sg S (.mv rfl <| .xx (ys_call call21 (.cons (.t rfl) .nil) (fun hp w W => d21 _)) rfl <| .nt rfl <| .z) fun a w S => st_then S (.t rfl) (sg S (.ac rfl <| .z) fun a w S => wp_ret (then_ret (st_ret S (results1 S results11 (Rv.tmp rfl)) ?_)))
  exact ⟨rfl, S.wd.below⟩
theorem d10 (w0 : World) (s : List UInt8) : Calls Try.prog 10 #[.pointer none, .string (bs s)] w0 fun e w' => e = .returned (.slice none 0 0) ∧ Bel w0.heap.size w0 w' := by
  refine enter2 func10 rfl ntmps10 rfl fun a S => sg S (.ac rfl <| .z) fun a w S => sg S (.ac rfl <| .z) fun a w S => wp_seq_k fun _ hK1 => sg S (.mv rfl <| .xx (ys_call call11 (.cons (.t rfl) .nil) (fun hp w W => d11 _)) rfl <| .ln underlying34 rfl <| .mc rfl <| .z) fun a w S => wp_block (st_rounds 1 (st_round (sg S (.ge (by omega) rfl rfl <| .z) fun a w S => wp_seq_k fun _ hK2 => st_else S (.t rfl) (wp_exit (then_exit (then_exit (in_here (then_normal (hK1 _ _ (sg S (.mv rfl <| .as rfl <| .z) fun a w S => wp_ret (st_ret S (results1 S results10 (Rv.tmp rfl)) ?_)))))))))))
  exact ⟨rfl, S.wd.below⟩
theorem e7 (w0 : World) (g : Nat) (s : List UInt8) (v1 v2 v3 : Value) (h0 : w0.cell? ⟨g, 0, none⟩ = some (.bool false)) : Calls Try.prog 7 #[.pointer (some ⟨g, 0, none⟩), .string (bs s), .agg #[v1, v2, v3]] w0 fun e w' => e = .returned (.tuple #[.agg #[.slice none 0 0, .slice none 0 0, .slice none 0 0], .int .i64 8]) ∧ Bel w0.heap.size w0 w' := by
  refine enter3 func7 rfl ntmps7 rfl fun a S => wp_seq_k fun _ hK1 => wp_region_lit (st_m (op_box S (.t rfl) rfl fun g1 a w S => st_m (op_alloc S zeroValue30 (cs := _) rfl rfl fun g2 a w S => run S (.ac rfl <| .z) fun a w S => st_nil (then_normal (hK1 _ _ (wp_seq_k fun _ hK1 => sg S (.mv rfl <| .xx (ys_call call21 (.cons (.t rfl) .nil) (fun hp w W => c21 _ _ _ (by exact Wd.cellOld W (by assumption)))) rfl <| .nt rfl <| .z) fun a w S => st_then S (.t rfl) (wp_seq_k fun _ hK2 => wp_region_lit (run S (.yy (ys_bld (ps := []) (us := [_, _, _]) bld30 .nil rfl) rfl <| .z) fun a w S => st_m (op_stW S sizeOf30 (.t rfl) (.t rfl) (k := 0) rfl rfl rfl (by simp [Value.oneCell']) fun a w S => run S (.ac rfl <| .z) fun a w S => st_nil (then_normal (hK2 _ _ (wp_ret (then_ret (st_ret S (results2 S results7 (Rv.cell (k := 0) ⟨isAgg30, sizeOf30⟩ rfl rfl rfl) (Rv.tmp rfl)) ?_))))))))))))))
  exact ⟨rfl, S.wd.below⟩
theorem e9 (w0 : World) (g : Nat) (s : List UInt8) (x y z : Int) (h0 : w0.cell? ⟨g, 0, none⟩ = some (.bool false)) : Calls Try.prog 9 #[.pointer (some ⟨g, 0, none⟩), .string (bs s), .agg #[.int .i64 x, .int .i64 y, .int .i64 z]] w0 fun e w' => e = .returned (.int .i64 8) ∧ Bel w0.heap.size w0 w' := by
  refine enter3 func9 rfl ntmps9 rfl fun a S => wp_seq_k fun _ hK1 => wp_region_lit (st_m (op_box S (.t rfl) rfl fun g1 a w S => run S (.ac rfl <| .z) fun a w S => st_nil (then_normal (hK1 _ _ (wp_seq_k fun _ hK1 => wp_block (sg S (.mv rfl <| .xx (ys_call call21 (.cons (.t rfl) .nil) (fun hp w W => c21 _ _ _ (by exact Wd.cellOld W (by assumption)))) rfl <| .nt rfl <| .as rfl <| .z) fun a w S => st_then S (.t rfl) (sg S (.ac rfl <| .z) fun a w S => wp_ret (in_ret (then_ret (st_ret S (results1 S results9 (Rv.tmp rfl)) ?_))))))))))
  exact ⟨rfl, S.wd.below⟩
theorem e11 (w0 : World) (g : Nat) (h0 : w0.cell? ⟨g, 0, none⟩ = some (.bool false)) : Calls Try.prog 11 #[.pointer (some ⟨g, 0, none⟩)] w0 fun e w' => e = .returned (.slice none 0 0) ∧ Bel w0.heap.size w0 w' := by
  refine enter1 func11 rfl ntmps11 rfl fun a S => sg S (.ac rfl <| .z) fun a w S => wp_seq_k fun _ hK1 => sg S (.mv rfl <| .xx (ys_call call21 (.cons (.t rfl) .nil) (fun hp w W => c21 _ _ _ (by exact Wd.cellOld W (by assumption)))) rfl <| .nt rfl <| .z) fun a w S => st_then S (.t rfl) (sg S (.ac rfl <| .z) fun a w S => wp_ret (then_ret (st_ret S (results1 S results11 (Rv.tmp rfl)) ?_)))
  exact ⟨rfl, S.wd.below⟩
theorem e10 (w0 : World) (g : Nat) (s : List UInt8) (h0 : w0.cell? ⟨g, 0, none⟩ = some (.bool false)) : Calls Try.prog 10 #[.pointer (some ⟨g, 0, none⟩), .string (bs s)] w0 fun e w' => e = .returned (.slice none 0 0) ∧ Bel w0.heap.size w0 w' := by
  refine enter2 func10 rfl ntmps10 rfl fun a S => sg S (.ac rfl <| .z) fun a w S => sg S (.ac rfl <| .z) fun a w S => wp_seq_k fun _ hK1 => wp_seq_k fun _ hK2 => wp_region_lit (run S (.mv rfl <| .z) fun a w S => st_y S (ys_call call11 (.cons (.t rfl) .nil) (fun _ w' W' => e11 w' g (Wd.cellOld W' h0))) rfl ?_)
  clear S a w
  intro a w S
  refine run S (.ln underlying34 rfl <| .mc rfl <| .z) fun a w S => st_nil (then_normal (hK2 _ _ (wp_block (st_rounds 1 (st_round (sg S (.ge (by omega) rfl rfl <| .z) fun a w S => wp_seq_k fun _ hK2 => st_else S (.t rfl) (wp_exit (then_exit (then_exit (in_here (then_normal (hK1 _ _ (sg S (.mv rfl <| .as rfl <| .z) fun a w S => wp_ret (st_ret S (results1 S results10 (Rv.tmp rfl)) ?_))))))))))))))
  exact ⟨rfl, S.wd.below⟩
theorem c3 (w0 : World) (s : List UInt8) (x y z : Int) (v1 v2 v3 : Value) : Calls Try.prog 3 #[.agg #[.string (bs s), .int .i64 x, .int .i64 y, .int .i64 z, v1, v2, v3]] w0 fun e w' => e = .returned (.bool true) ∧ Bel w0.heap.size w0 w' := by
  have rw_1 : (0 : Int) + 1 = ((1 : Nat) : Int) := rfl
  have rw_2 : ((1 : Nat) : Int) + 1 = ((2 : Nat) : Int) := rfl
  refine enter1 func3 rfl ntmps3 rfl fun a S => wp_seq_k fun _ hK1 => wp_region_lit (st_m (op_box S (.t rfl) rfl fun g1 a w S => run S (.ac rfl <| .z) fun a w S => st_nil (then_normal (hK1 _ _ (wp_seq_k fun _ hK1 => wp_seq_k fun _ hK2 => wp_region_lit (run S (.yy (ys_bld (ps := []) (us := [_, _]) bld36 .nil rfl) rfl <| .z) fun a w S => st_m (op_box S (.t rfl) rfl fun g2 a w S => st_m (op_bsliceZ (ps := [(0, _), (1, Go.Operand.tmp 8)]) (us := [_, _]) S underlying37 sizeOf33 zeroValue33 rfl rfl (.cons Ev.c (.cons (.t rfl) .nil)) rfl rfl fun g3 a w S => run S (.ln underlying37 rfl <| .mc rfl <| .z) fun a w S => st_nil (then_normal (hK2 _ _ (wp_block (st_rounds 3 (st_round ?_)))))))))))))
  have rw_z : decide (Cart.zero = Cart.zero) = true := decide_eq_true rfl
  refine sg S (.lt (by omega) rfl rfl <| .z) fun a w S => wp_seq_k fun _ hK2 => st_then S (.t rfl) (wp_skip (then_normal (hK2 _ _ (wp_seq_k fun _ hK2 => wp_block (sg S (.yy (ys_ixS (j := 0) underlying37 sizeOf33 (.t rfl) (.t rfl) (fun _ => by omega)) rfl <| .ld gt33 0 rfl rfl rfl <| .as rfl <| .z) fun a w S => wp_seq_k fun _ hK3 => wp_region_lit (run S (.mv rfl <| .fa underlying32 sizeOf9 0 rfl rfl rfl <| .ld gt9 2 rfl rfl rfl <| .fa underlying32 sizeOf30 4 rfl rfl rfl <| .la gt30 2 rfl rfl rfl <| .xx (ys_call call7 (.cons (.t rfl) (.cons (.t rfl) (.cons (.t rfl) .nil))) (fun hp w W => d7 _ _ _ _ _)) rfl <| .mv rfl <| .ex rfl rfl <| .ex rfl rfl <| .z) fun a w S => st_m (op_alloc S zeroValue30 (cs := _) rfl rfl fun g4 a w S => st_m (op_stW S sizeOf30 (.t rfl) (.t rfl) (k := 0) rfl rfl rfl (by simp [Value.oneCell']) fun a w S => run S (.as rfl <| .z) fun a w S => st_nil (then_normal (hK3 _ _ (wp_seq_k fun _ hK3 => wp_region_lit (run S (.mv rfl <| .yy (ys_F (by omega) (ys_neq (.t rfl) Ev.c)) rfl <| .mv rfl <| .gy rfl rfl (ys_ldA ⟨isAgg30, sizeOf30⟩ (.t rfl) (k := 0) rfl rfl) <| .gy rfl rfl (ys_bld (ps := []) (us := [_, _, _]) bld30 .nil rfl) <| .z) fun a w S => ?_))))))))))))
  refine st_yt S rfl rfl (ys_call call8 (.cons (.t rfl) (.cons (.t rfl) .nil)) (fun _ w' W' => c8 w' _ _ _ _ _ _ Cart.zero Cart.zero Sl.nil_ ⟨Sl.nil_, Sl.nil_⟩ Sl.nil_ ⟨Sl.nil_, Sl.nil_⟩)) rfl ?_
  clear S a w
  intro a w S
  refine run S (.gy rfl rfl (ys_not (.t rfl)) <| .z) fun a w S => ?_
  rw [rw_z] at S
  refine run S (.yy (ys_pickF (.t rfl) (.t rfl)) rfl <| .mv rfl <| .gy rfl rfl (ys_move (.t rfl)) <| .gy rfl rfl (ys_fieldN (FieldT.mk underlying32 rfl sizeOf9 rfl) (.t rfl) (i' := 0) rfl) <| .gy rfl rfl (ys_ld ⟨isAgg9, sizeOf9⟩ (.t rfl) (k := 3) rfl rfl) <| .gy rfl rfl (ys_fieldN (FieldT.mk underlying32 rfl sizeOf23 rfl) (.t rfl) (i' := 1) rfl) <| .gy rfl rfl (ys_ldA ⟨isAgg23, sizeOf23⟩ (.t rfl) (k := 3) rfl rfl) <| .gx rfl rfl (ys_call call9 (.cons (.t rfl) (.cons (.t rfl) (.cons (.t rfl) .nil))) (fun hp w W => d9 _ _ _ _ _)) <| .gy rfl rfl (ys_F (by omega) (ys_neq (.t rfl) Ev.c)) <| .yy (ys_pickF (.t rfl) (.t rfl)) rfl <| .mv rfl <| .gy rfl rfl (ys_move (.t rfl)) <| .gy rfl rfl (ys_fieldN (FieldT.mk underlying32 rfl sizeOf9 rfl) (.t rfl) (i' := 0) rfl) <| .gy rfl rfl (ys_ld ⟨isAgg9, sizeOf9⟩ (.t rfl) (k := 3) rfl rfl) <| .gx rfl rfl (ys_call call10 (.cons (.t rfl) (.cons (.t rfl) .nil)) (fun hp w W => d10 _ _)) <| .gy rfl rfl (ys_lenS underlying25 (.t rfl)) <| .gy rfl rfl (ys_move (.t rfl)) <| .gx rfl rfl (ys_call call11 (.cons (.t rfl) .nil) (fun hp w W => d11 _)) <| .gy rfl rfl (ys_lenS underlying34 (.t rfl)) <| .gy rfl rfl (ys_addI (.t rfl) (.t rfl) (fun _ => by unfold I64; omega)) <| .gy rfl rfl (ys_F (by omega) (ys_neq (.t rfl) Ev.c)) <| .yy (ys_pickF (.t rfl) (.t rfl)) rfl <| .z) fun a w S => st_nil (then_normal (hK3 _ _ ?_))
  refine st_else S (.t rfl) (wp_skip (in_normal (then_normal (hK2 _ _ (wp_region_lit (run S (.ad (by unfold I64; omega) rfl <| .z) fun a w S => ?_))))))
  rw [rw_1] at S
  refine run S (.mv rfl <| .z) fun a w S => st_nil (then_normal (st_round (sg S (.lt (by omega) rfl rfl <| .z) fun a w S => wp_seq_k fun _ hK2 => st_then S (.t rfl) (wp_skip (then_normal (hK2 _ _ (wp_seq_k fun _ hK2 => wp_block (sg S (.yy (ys_ixS (j := 1) underlying37 sizeOf33 (.t rfl) (.t rfl) (fun _ => by omega)) rfl <| .ld gt33 1 rfl rfl rfl <| .as rfl <| .z) fun a w S => wp_seq_k fun _ hK3 => wp_region_lit (run S (.mv rfl <| .fa underlying32 sizeOf9 0 rfl rfl rfl <| .ld gt9 3 rfl rfl rfl <| .fa underlying32 sizeOf30 4 rfl rfl rfl <| .la gt30 3 rfl rfl rfl <| .z) fun a w S => st_y S (ys_call call7 (.cons (.t rfl) (.cons (.t rfl) (.cons (.t rfl) .nil))) (fun _ w' W' => e7 w' g2 s _ _ _ (by first | exact Wd.cell W' (k := 0) rfl rfl | exact Wd.cell W' (k := 1) rfl rfl | exact Wd.cell W' (k := 2) rfl rfl | exact Wd.cell W' (k := 3) rfl rfl | exact Wd.cell W' (k := 4) rfl rfl | exact Wd.cell W' (k := 5) rfl rfl))) rfl ?_)))))))))
  clear S a w
  intro a w S
  refine run S (.mv rfl <| .ex rfl rfl <| .ex rfl rfl <| .z) fun a w S => st_m (op_alloc S zeroValue30 (cs := _) rfl rfl fun g5 a w S => st_m (op_stW S sizeOf30 (.t rfl) (.t rfl) (k := 0) rfl rfl rfl (by simp [Value.oneCell']) fun a w S => run S (.as rfl <| .z) fun a w S => st_nil (then_normal (hK3 _ _ (wp_seq_k fun _ hK3 => wp_region_lit (run S (.mv rfl <| .yy (ys_F (by omega) (ys_neq (.t rfl) Ev.c)) rfl <| .mv rfl <| .gy rfl rfl (ys_ldA ⟨isAgg30, sizeOf30⟩ (.t rfl) (k := 0) rfl rfl) <| .gy rfl rfl (ys_bld (ps := []) (us := [_, _, _]) bld30 .nil rfl) <| .z) fun a w S => st_yt S rfl rfl (ys_call call8 (.cons (.t rfl) (.cons (.t rfl) .nil)) (fun _ w' W' => c8 w' _ _ _ _ _ _ Cart.zero Cart.zero Sl.nil_ ⟨Sl.nil_, Sl.nil_⟩ Sl.nil_ ⟨Sl.nil_, Sl.nil_⟩)) rfl ?_))))))
  clear S a w
  intro a w S
  refine run S (.gy rfl rfl (ys_not (.t rfl)) <| .z) fun a w S => ?_
  rw [rw_z] at S
  refine run S (.yy (ys_pickF (.t rfl) (.t rfl)) rfl <| .mv rfl <| .gy rfl rfl (ys_move (.t rfl)) <| .gy rfl rfl (ys_fieldN (FieldT.mk underlying32 rfl sizeOf9 rfl) (.t rfl) (i' := 0) rfl) <| .gy rfl rfl (ys_ld ⟨isAgg9, sizeOf9⟩ (.t rfl) (k := 4) rfl rfl) <| .gy rfl rfl (ys_fieldN (FieldT.mk underlying32 rfl sizeOf23 rfl) (.t rfl) (i' := 1) rfl) <| .gy rfl rfl (ys_ldA ⟨isAgg23, sizeOf23⟩ (.t rfl) (k := 4) rfl rfl) <| .gx rfl rfl (ys_call call9 (.cons (.t rfl) (.cons (.t rfl) (.cons (.t rfl) .nil))) (fun hp w W => e9 _ _ _ _ _ _ (by exact Wd.cell W (k := 3) rfl rfl))) <| .gy rfl rfl (ys_F (by omega) (ys_neq (.t rfl) Ev.c)) <| .yy (ys_pickF (.t rfl) (.t rfl)) rfl <| .mv rfl <| .gy rfl rfl (ys_move (.t rfl)) <| .gy rfl rfl (ys_fieldN (FieldT.mk underlying32 rfl sizeOf9 rfl) (.t rfl) (i' := 0) rfl) <| .gy rfl rfl (ys_ld ⟨isAgg9, sizeOf9⟩ (.t rfl) (k := 4) rfl rfl) <| .z) fun a w S => st_yt S rfl rfl (ys_call call10 (.cons (.t rfl) (.cons (.t rfl) .nil)) (fun _ w' W' => e10 w' g2 s (by first | exact Wd.cell W' (k := 0) rfl rfl | exact Wd.cell W' (k := 1) rfl rfl | exact Wd.cell W' (k := 2) rfl rfl | exact Wd.cell W' (k := 3) rfl rfl | exact Wd.cell W' (k := 4) rfl rfl | exact Wd.cell W' (k := 5) rfl rfl))) rfl ?_
  clear S a w
  intro a w S
  refine run S (.gy rfl rfl (ys_lenS underlying25 (.t rfl)) <| .gy rfl rfl (ys_move (.t rfl)) <| .z) fun a w S => st_yt S rfl rfl (ys_call call11 (.cons (.t rfl) .nil) (fun _ w' W' => e11 w' g2 (by first | exact Wd.cell W' (k := 0) rfl rfl | exact Wd.cell W' (k := 1) rfl rfl | exact Wd.cell W' (k := 2) rfl rfl | exact Wd.cell W' (k := 3) rfl rfl | exact Wd.cell W' (k := 4) rfl rfl | exact Wd.cell W' (k := 5) rfl rfl))) rfl ?_
  clear S a w
  intro a w S
  refine run S (.gy rfl rfl (ys_lenS underlying34 (.t rfl)) <| .gy rfl rfl (ys_addI (.t rfl) (.t rfl) (fun _ => by unfold I64; omega)) <| .gy rfl rfl (ys_F (by omega) (ys_neq (.t rfl) Ev.c)) <| .yy (ys_pickF (.t rfl) (.t rfl)) rfl <| .z) fun a w S => st_nil (then_normal (hK3 _ _ (st_else S (.t rfl) (wp_skip (in_normal (then_normal (hK2 _ _ (wp_region_lit (run S (.ad (by unfold I64; omega) rfl <| .z) fun a w S => ?_)))))))))
  rw [rw_2] at S
  refine run S (.mv rfl <| .z) fun a w S => st_nil (then_normal (st_round (sg S (.ge (by omega) rfl rfl <| .z) fun a w S => wp_seq_k fun _ hK2 => st_else S (.t rfl) (wp_exit (then_exit (then_exit (in_here (then_normal (hK1 _ _ (sg S (.xx (ys_call call12 .nil (fun hp w W => c12 _)) rfl <| .as rfl <| .z) fun a w S => wp_ret (st_ret S (results1 S results3 (Rv.tmp rfl)) ?_)))))))))))
  exact ⟨rfl, S.wd.below⟩
end Go.Proofs.Ytakpdbmdfnialaa
