/- Contracts and laws that the statement Orn leans on, part 6. -/
import Derived.Test.YtfblmkocmnbdcaaGreatOrnK5
set_option linter.unusedVariables false
set_option linter.unusedSimpArgs false
set_option maxRecDepth 100000
set_option maxHeartbeats 4000000
namespace Go.Fw
theorem Sl.take_ {α : Type} {enc : α → List Value} {size B : Nat} {w : World} {A : Option Addr} {l : List α} {cap m : Nat} (h : Sl enc size w B (.slice A l.length cap) l) (hm : m ≤ l.length) : Sl enc size w B (.slice A m cap) (l.take m) := by
  obtain ⟨A', cap', e, h2, h3, h4⟩ := h
  simp only [Value.slice.injEq, true_and] at e
  obtain ⟨rfl, rfl⟩ := e
  have hl : (l.take m).length = m := by rw [List.length_take]; omega
  refine ⟨A, cap, by rw [hl], by omega, h3, fun hp => ?_⟩
  obtain ⟨g, o, k1, k2, k3⟩ := h4 (by omega)
  refine ⟨g, o, k1, k2, fun k x hx => k3 k x ?_⟩
  rw [List.getElem?_take] at hx
  split at hx
  · exact hx
  · cases hx
theorem seen_any {up : List SUpd} {U : List Upd} (hU : up.map (·.1) = U) (hs : ∀ v ∈ U, canL v.seen.ctx = true) (u : Upd) : (up.any fun x => decide (x.1.item = u.item) && x.1.seen.ctx.coversR u.dot) = seenB U u := by
  subst hU
  unfold seenB
  rw [Bool.eq_iff_iff, List.any_eq_true, List.any_eq_true]
  constructor
  · rintro ⟨x, h1, h2⟩
    have hm : x.1 ∈ up.map (·.1) := List.mem_map.2 ⟨x, h1, rfl⟩
    exact ⟨x.1, hm, by rw [← can_covers (hs _ hm)]; exact h2⟩
  · rintro ⟨v, h1, h2⟩
    obtain ⟨x, h3, rfl⟩ := List.mem_map.1 h1
    exact ⟨x, h3, by rw [can_covers (hs _ h1)]; exact h2⟩
end Go.Fw
namespace Go.Proofs.YtfblmkocmnbdcaaGreat
open Go.Fw Go.Proofs Go.RowKit Go.Proofs.Tryz
theorem c8 (w0 : World) (v1 v2 v3 v4 v5 : Value) (h : Hist) (h1 : Sl encS 1 w0 w0.heap.size v1 h.items) (h2 : Sl encI 1 w0 w0.heap.size v2 h.qtys) (h3 : Sl encU 1 w0 w0.heap.size v3 h.prices) (h4 : Sl encI 1 w0 w0.heap.size v4 h.nodes) (h5 : Sl encU 1 w0 w0.heap.size v5 h.saws) :
    Calls Tryz.prog 8 #[.agg #[v1, v2, v3, v4, v5]] w0 fun e w' => e = .returned (.bool true) ∧ Bel w0.heap.size w0 w' := by
  have s1 := h1
  have s2 := h2
  have s3 := h3
  have s4 := h4
  have s5 := h5
  obtain ⟨A, cap, rfl, _⟩ := h1
  obtain ⟨B, capB, rfl, _⟩ := h2
  obtain ⟨C, capC, rfl, _⟩ := h3
  obtain ⟨D, capD, rfl, _⟩ := h4
  obtain ⟨E, capE, rfl, _⟩ := h5
  refine enter1 func8 rfl ntmps8 rfl fun a S => wp_seq_k fun _ hK1 => wp_region_lit (st_m (op_box S (.t rfl) rfl fun g1 a w S => run S (.ac rfl <| .z) fun a w S => st_nil (then_normal (hK1 _ _ (wp_seq_k fun _ hK1 => wp_region_lit (run S (.la gt26 0 rfl rfl rfl <| .z) fun a w S => ?_))))))
  (refine st_m (op_calls S call13 (.cons (.t rfl) .nil) (c13 _ _ _ _ _ _ _ (by exact .old S.wd (by assumption)) (by exact .old S.wd (by assumption)) (by exact .old S.wd (by assumption)) (by exact .old S.wd (by assumption)) (by exact .old S.wd (by assumption))) rfl ?_); clear S a w; rintro _ _ ⟨A1, r1, A'1, r'1, st1, up1, w11, bs1, rfl, rfl, hr11, hr21, hr31, hr41⟩ a w S)
  refine run S (.mv rfl <| .ex rfl rfl <| .ex rfl rfl <| .as rfl <| .as rfl <| .z) fun a w S => st_nil (then_normal (hK1 _ _ (wp_seq_k fun _ hK1 => wp_region_lit (st_m (op_alloc S zeroValue39 (cs := _) rfl rfl fun g2 a w S => st_nil (then_normal (hK1 _ _ (wp_seq_k fun _ hK1 => wp_seq_k fun _ hK2 => wp_region_lit (run S (.mv rfl <| .ln underlying29 rfl <| .mc rfl <| .z) fun a w S => st_nil (then_normal (hK2 _ _ (wp_block ?_))))))))))))
  have hsl := play_states h
  rw [← hr11, List.length_map] at hsl
  have ok := play_ok h h.many
  change PlayOk (playK h) at ok
  have hul : up1.length = st1.length := by
    have := ok.len
    rw [← hr11, ← hr21, List.length_map, List.length_map] at this
    exact this.symm
  replace S : St 97 w0 [(24, true, .int .i64 0), (23, true, .int .i64 (st1.length : Int)), (22, true, .slice A1 st1.length r1), (5, true, .pointer (some ⟨g2, 0, none⟩)), (4, true, .slice A'1 up1.length r'1), (3, true, .slice A1 st1.length r1)]
    [rowOf 71 6 Ent.enc none 0 [], rowOf 122 3 Dot.enc none 0 [], rowOf 58 3 Dot.enc none 0 [], .blk g2 (.cells #[.slice none 0 0, .slice none 0 0, .slice none 0 0] 39), rowOf 39 3 SCart.enc A1 r1 st1, rowOf 60 10 SUpd.enc A'1 r'1 up1, .ice w11 bs1] a w := (((S.nil_ 58 3 Dot.enc none).nil_ 122 3 Dot.enc none).nil_ 71 6 Ent.enc none).picks (by repeat (first | exact Fits.nil | refine Fits.skip rfl ?_ | refine Fits.cons rfl ?_)) (by repeat (first | exact Picks.nil | (refine Picks.rest ?_; (repeat (first | exact List.Sublist.refl _ | refine List.Sublist.cons_cons _ ?_ | refine List.Sublist.cons _ ?_)); done) | refine Picks.take 0 rfl ?_ | refine Picks.take 1 rfl ?_ | refine Picks.take 2 rfl ?_ | refine Picks.take 3 rfl ?_ | refine Picks.take 4 rfl ?_ | refine Picks.take 5 rfl ?_ | refine Picks.take 6 rfl ?_ | refine Picks.take 7 rfl ?_ | refine Picks.take 8 rfl ?_ | refine Picks.take 9 rfl ?_ | refine Picks.take 10 rfl ?_ | refine Picks.take 11 rfl ?_))
  refine st_loopM S [24] (X := Nat × Option Addr × Nat × Option Addr × Nat × Option Addr × Nat × Cart) (fun q => [(24, true, .int .i64 (q.1 : Int))])
    (fun q => [rowOf 71 6 Ent.enc q.2.1 q.2.2.1 q.2.2.2.2.2.2.2.ents, rowOf 122 3 Dot.enc q.2.2.2.1 q.2.2.2.2.1 q.2.2.2.2.2.2.2.ctx.marks, rowOf 58 3 Dot.enc q.2.2.2.2.2.1 q.2.2.2.2.2.2.1 q.2.2.2.2.2.2.2.ctx.cloud, .blk g2 (.cells #[.slice q.2.1 q.2.2.2.2.2.2.2.ents.length q.2.2.1, .slice q.2.2.2.1 q.2.2.2.2.2.2.2.ctx.marks.length q.2.2.2.2.1, .slice q.2.2.2.2.2.1 q.2.2.2.2.2.2.2.ctx.cloud.length q.2.2.2.2.2.2.1] 39), rowOf 39 3 SCart.enc A1 r1 st1, rowOf 60 10 SUpd.enc A'1 r'1 up1, .ice w11 bs1])
    (fun q => q.1 ≤ st1.length ∧ MeantOk (playK h).up q.1 q.2.2.2.2.2.2.2) (fun q => st1.length - q.1) (0, none, 0, none, 0, none, 0, Cart.zero) ⟨Nat.zero_le _, meant_zero _⟩ (by repeat (first | exact Fits.nil | refine Fits.skip rfl ?_ | refine Fits.cons rfl ?_)) (by repeat (first | exact Picks.nil | (refine Picks.rest ?_; (repeat (first | exact List.Sublist.refl _ | refine List.Sublist.cons_cons _ ?_ | refine List.Sublist.cons _ ?_)); done) | refine Picks.take 0 rfl ?_ | refine Picks.take 1 rfl ?_ | refine Picks.take 2 rfl ?_ | refine Picks.take 3 rfl ?_ | refine Picks.take 4 rfl ?_ | refine Picks.take 5 rfl ?_ | refine Picks.take 6 rfl ?_ | refine Picks.take 7 rfl ?_ | refine Picks.take 8 rfl ?_ | refine Picks.take 9 rfl ?_ | refine Picks.take 10 rfl ?_ | refine Picks.take 11 rfl ?_)) ?_
  clear S
  rintro ⟨k, F1, f1, F2, f2, F3, f3, X⟩ a w ⟨hk, hX⟩ S
  dsimp only at hk hX S
  by_cases hlt : k < st1.length
  · obtain ⟨s, hs⟩ : ∃ s, st1[k]? = some s := ⟨_, List.getElem?_eq_getElem hlt⟩
    obtain ⟨gF, rfl⟩ := S.wd.row_at (k := 4) rfl (by have := (S.wd.room (k := 4) rfl).1; omega)
    obtain ⟨hs1, hs2, hs3⟩ := hr31 s (List.mem_of_getElem? hs)
    have hst : (playK h).st[k]? = some s.1 := by rw [← hr11, List.getElem?_map, hs]; rfl
    have hsok := (ok.st s.1 (List.mem_of_getElem? hst)).ok
    obtain ⟨z1, z2, z3⟩ := cart_lens hsok
    have rw_n : ∀ i : Int, decide (i ≠ i) = false := fun i => decide_eq_false (by simp)
    refine wp_seq_k fun _ hK2 => wp_region_lit (run S (.lt (by omega) rfl rfl <| .z) fun a w S => st_nil (then_normal (hK2 _ _ (wp_seq_k fun _ hK2 => st_then S (.t rfl) (wp_skip (then_normal (hK2 _ _ (wp_seq_k fun _ hK2 => wp_block (wp_seq_k fun _ hK3 => wp_region_lit (run S (.mv rfl <| .ix underlying29 sizeOf39 (by omega) rfl rfl <| .yy (ys_ldWA ⟨isAgg39, sizeOf39⟩ (.t rfl) (k := 4) rfl hs (fun _ => rfl)) rfl <| .z) fun a w S => st_m (op_alloc S zeroValue39 (cs := _) rfl rfl fun g3 a w S => run S (.as rfl <| .z) fun a w S => st_m (op_stW S sizeOf39 (.t rfl) (.t rfl) (k := 0) rfl rfl rfl (by simp [Value.oneCell']) fun a w S => st_nil (then_normal (hK3 _ _ (wp_seq_k fun _ hK9 => ?_)))))))))))))))
    refine Code.wp_mono (Q := fun e a w => match e with
      | .normal => ∃ g8 B1 b1 B2 b2 B3 b3, St 97 w0 [(9, true, .int .i64 (joinK X s.1).2), (8, true, .pointer (some ⟨g8, 0, none⟩)), (6, true, .int .i64 (k : Int)), (7, true, .pointer (some ⟨g3, 0, none⟩)), (24, true, .int .i64 (k : Int)), (23, true, .int .i64 (st1.length : Int)), (22, true, .slice (some ⟨gF, 0, none⟩) st1.length r1), (5, true, .pointer (some ⟨g2, 0, none⟩)), (4, true, .slice A'1 up1.length r'1), (3, true, .slice (some ⟨gF, 0, none⟩) st1.length r1)]
          [rowOf 71 6 Ent.enc B1 b1 (joinK X s.1).1.ents, rowOf 122 3 Dot.enc B2 b2 (joinK X s.1).1.ctx.marks, rowOf 58 3 Dot.enc B3 b3 (joinK X s.1).1.ctx.cloud, .blk g8 (.cells #[.slice B1 (joinK X s.1).1.ents.length b1, .slice B2 (joinK X s.1).1.ctx.marks.length b2, .slice B3 (joinK X s.1).1.ctx.cloud.length b3] 39), .blk g3 (.cells (SCart.enc s).toArray 39),
           rowOf 71 6 Ent.enc F1 f1 X.ents, rowOf 122 3 Dot.enc F2 f2 X.ctx.marks, rowOf 58 3 Dot.enc F3 f3 X.ctx.cloud, .blk g2 (.cells #[.slice F1 X.ents.length f1, .slice F2 X.ctx.marks.length f2, .slice F3 X.ctx.cloud.length f3] 39), rowOf 39 3 SCart.enc (some ⟨gF, 0, none⟩) r1 st1, rowOf 60 10 SUpd.enc A'1 r'1 up1, .ice w11 bs1] a w
      | _ => False) (fun e a w q => ?_) ?_
    rotate_left
    · refine h_begin0 S (by kernel_rfl) fun a w S => h_y (i := 0) S (by repeat (first | exact List.Sublist.refl _ | exact List.nil_sublist _ | refine .cons_cons _ ?_ | refine .cons _ ?_)) rfl (by kernel_rfl) (by kernel_rfl) (by kernel_rfl) (fun _ _ _ _ h => h) (ys_ldA ⟨isAgg39, sizeOf39⟩ (.t rfl) (k := 4) rfl rfl) rfl fun a w S => h_y (i := 1) S (by repeat (first | exact List.Sublist.refl _ | exact List.nil_sublist _ | refine .cons_cons _ ?_ | refine .cons _ ?_)) rfl (by kernel_rfl) (by kernel_rfl) (by kernel_rfl) (fun _ _ _ _ h => h) (ys_ldA ⟨isAgg39, sizeOf39⟩ (.t rfl) (k := 0) rfl rfl) rfl fun a w S => ?_
      refine h_split (i := 2) (j := 7) (by kernel_rfl) rfl rfl ?_ ?_
      (refine op_calls S call20 (.cons (.t rfl) .nil) (c20 _ _ _ _ _ (by exact SlIn.sl (by assumption) S.wd (k := 7) rfl) (by exact ⟨(by exact SlIn.sl (by assumption) S.wd (k := 7) rfl), (by exact SlIn.sl (by assumption) S.wd (k := 7) rfl)⟩) (by omega) (by omega) (by omega)) rfl ?_; clear S a w; rintro _ _ ⟨A11, r11, A21, r21, A31, r31, rfl, rfl⟩ a w S; refine h_on S _ (List.Sublist.refl _) (by repeat (first | exact List.Sublist.refl _ | exact List.nil_sublist _ | refine .cons_cons _ ?_ | refine .cons _ ?_)) ?_)
      refine h_split (i := 3) (j := 7) (by kernel_rfl) rfl rfl ?_ ?_
      (refine op_calls S call33 (.cons (.t rfl) (.cons (.t rfl) .nil)) (c33 _ _ _ _ _ _ _ _ _ (by exact Sl.of_own S.wd (k := 4) rfl (fun _ => rfl)) (by exact ⟨(by exact Sl.of_own S.wd (k := 5) rfl (fun _ => rfl)), (by exact Sl.of_own S.wd (k := 6) rfl (fun _ => rfl))⟩) (by exact Sl.of_own S.wd (k := 0) rfl (fun _ => rfl)) (by exact ⟨(by exact Sl.of_own S.wd (k := 1) rfl (fun _ => rfl)), (by exact Sl.of_own S.wd (k := 2) rfl (fun _ => rfl))⟩)) rfl ?_; clear S a w; rintro _ _ ⟨A12, r12, A22, r22, A32, r32, rfl, rfl⟩ a w S; refine h_on S _ (List.Sublist.refl _) (by repeat (first | exact List.Sublist.refl _ | exact List.nil_sublist _ | refine .cons_cons _ ?_ | refine .cons _ ?_)) ?_)
      refine h_y (i := 4) S (by repeat (first | exact List.Sublist.refl _ | exact List.nil_sublist _ | refine .cons_cons _ ?_ | refine .cons _ ?_)) rfl (by kernel_rfl) (by kernel_rfl) (by kernel_rfl) (fun _ _ _ _ h => h) (ys_move (.t rfl)) rfl fun a w S => h_y (i := 5) S (by repeat (first | exact List.Sublist.refl _ | exact List.nil_sublist _ | refine .cons_cons _ ?_ | refine .cons _ ?_)) rfl (by kernel_rfl) (by kernel_rfl) (by kernel_rfl) (fun _ _ _ _ h => h) (ys_ext (.t rfl) rfl) rfl fun a w S => h_y (i := 6) S (by repeat (first | exact List.Sublist.refl _ | exact List.nil_sublist _ | refine .cons_cons _ ?_ | refine .cons _ ?_)) rfl (by kernel_rfl) (by kernel_rfl) (by kernel_rfl) (fun _ _ _ _ h => h) (ys_ext (.t rfl) rfl) rfl fun a w S => ?_
      (refine h_m (i := 7) rfl (by kernel_rfl) (op_alloc S zeroValue39 (cs := _) rfl rfl ?_); clear S a w; intro g4 a w S; refine h_on S _ (List.Sublist.refl _) (by repeat (first | exact List.Sublist.refl _ | exact List.nil_sublist _ | refine .cons_cons _ ?_ | refine .cons _ ?_)) ?_)
      (refine h_m0 (i := 8) rfl (by kernel_rfl) (op_stW S sizeOf39 (.t rfl) (.t rfl) (k := 0) rfl rfl rfl (by simp [Value.oneCell']) ?_); clear S a w; intro a w S; refine h_on S _ (List.Sublist.refl _) (by repeat (first | exact List.Sublist.refl _ | exact List.nil_sublist _ | refine .cons_cons _ ?_ | refine .cons _ ?_)) ?_)
      refine h_y (i := 9) S (by repeat (first | exact List.Sublist.refl _ | exact List.nil_sublist _ | refine .cons_cons _ ?_ | refine .cons _ ?_)) rfl (by kernel_rfl) (by kernel_rfl) (by kernel_rfl) (fun _ _ _ _ h => h) (ys_assign (.t rfl)) rfl fun a w S => h_done (by kernel_rfl) ?_
      rotate_left
      (refine op_alloc S zeroValue39 (cs := _) rfl rfl ?_; clear S a w; intro g4 a w S; refine h_on S _ (List.Sublist.refl _) (by repeat (first | exact List.Sublist.refl _ | exact List.nil_sublist _ | refine .cons_cons _ ?_ | refine .cons _ ?_)) ?_)
      (refine h_m (i := 3) rfl (by kernel_rfl) (op_calls S call33 (.cons (.t rfl) (.cons (.t rfl) .nil)) (c33 _ _ _ _ _ _ _ _ _ (by exact Sl.of_own S.wd (k := 5) rfl (fun _ => rfl)) (by exact ⟨(by exact Sl.of_own S.wd (k := 6) rfl (fun _ => rfl)), (by exact Sl.of_own S.wd (k := 7) rfl (fun _ => rfl))⟩) (by exact Sl.of_own S.wd (k := 1) rfl (fun _ => rfl)) (by exact ⟨(by exact Sl.of_own S.wd (k := 2) rfl (fun _ => rfl)), (by exact Sl.of_own S.wd (k := 3) rfl (fun _ => rfl))⟩)) rfl ?_); clear S a w; rintro _ _ ⟨A12, r12, A22, r22, A32, r32, rfl, rfl⟩ a w S; refine h_on S _ (List.Sublist.refl _) (by repeat (first | exact List.Sublist.refl _ | exact List.nil_sublist _ | refine .cons_cons _ ?_ | refine .cons _ ?_)) ?_)
      refine h_y (i := 4) S (by repeat (first | exact List.Sublist.refl _ | exact List.nil_sublist _ | refine .cons_cons _ ?_ | refine .cons _ ?_)) rfl (by kernel_rfl) (by kernel_rfl) (by kernel_rfl) (fun _ _ _ _ h => h) (ys_move (.t rfl)) rfl fun a w S => h_y (i := 5) S (by repeat (first | exact List.Sublist.refl _ | exact List.nil_sublist _ | refine .cons_cons _ ?_ | refine .cons _ ?_)) rfl (by kernel_rfl) (by kernel_rfl) (by kernel_rfl) (fun _ _ _ _ h => h) (ys_ext (.t rfl) rfl) rfl fun a w S => h_y (i := 6) S (by repeat (first | exact List.Sublist.refl _ | exact List.nil_sublist _ | refine .cons_cons _ ?_ | refine .cons _ ?_)) rfl (by kernel_rfl) (by kernel_rfl) (by kernel_rfl) (fun _ _ _ _ h => h) (ys_ext (.t rfl) rfl) rfl fun a w S => ?_
      (refine h_m0 (i := 8) rfl (by kernel_rfl) (op_stW S sizeOf39 (.t rfl) (.t rfl) (k := 3) rfl rfl rfl (by simp [Value.oneCell']) ?_); clear S a w; intro a w S; refine h_on S _ (List.Sublist.refl _) (by repeat (first | exact List.Sublist.refl _ | exact List.nil_sublist _ | refine .cons_cons _ ?_ | refine .cons _ ?_)) ?_)
      refine h_y (i := 9) S (by repeat (first | exact List.Sublist.refl _ | exact List.nil_sublist _ | refine .cons_cons _ ?_ | refine .cons _ ?_)) rfl (by kernel_rfl) (by kernel_rfl) (by kernel_rfl) (fun _ _ _ _ h => h) (ys_assign (.t rfl)) rfl fun a w S => h_done (by kernel_rfl) ?_
      rotate_left
      (refine op_alloc S zeroValue39 (cs := _) rfl rfl ?_; clear S a w; intro g4 a w S; refine h_on S _ (List.Sublist.refl _) (by repeat (first | exact List.Sublist.refl _ | exact List.nil_sublist _ | refine .cons_cons _ ?_ | refine .cons _ ?_)) ?_)
      (refine h_m (i := 2) rfl (by kernel_rfl) (op_calls S call20 (.cons (.t rfl) .nil) (c20 _ _ _ _ _ (by exact SlIn.sl (by assumption) S.wd (k := 8) rfl) (by exact ⟨(by exact SlIn.sl (by assumption) S.wd (k := 8) rfl), (by exact SlIn.sl (by assumption) S.wd (k := 8) rfl)⟩) (by omega) (by omega) (by omega)) rfl ?_); clear S a w; rintro _ _ ⟨A11, r11, A21, r21, A31, r31, rfl, rfl⟩ a w S; refine h_on S _ (List.Sublist.refl _) (by repeat (first | exact List.Sublist.refl _ | exact List.nil_sublist _ | refine .cons_cons _ ?_ | refine .cons _ ?_)) ?_)
      (refine h_m (i := 3) rfl (by kernel_rfl) (op_calls S call33 (.cons (.t rfl) (.cons (.t rfl) .nil)) (c33 _ _ _ _ _ _ _ _ _ (by exact Sl.of_own S.wd (k := 5) rfl (fun _ => rfl)) (by exact ⟨(by exact Sl.of_own S.wd (k := 6) rfl (fun _ => rfl)), (by exact Sl.of_own S.wd (k := 7) rfl (fun _ => rfl))⟩) (by exact Sl.of_own S.wd (k := 0) rfl (fun _ => rfl)) (by exact ⟨(by exact Sl.of_own S.wd (k := 1) rfl (fun _ => rfl)), (by exact Sl.of_own S.wd (k := 2) rfl (fun _ => rfl))⟩)) rfl ?_); clear S a w; rintro _ _ ⟨A12, r12, A22, r22, A32, r32, rfl, rfl⟩ a w S; refine h_on S _ (List.Sublist.refl _) (by repeat (first | exact List.Sublist.refl _ | exact List.nil_sublist _ | refine .cons_cons _ ?_ | refine .cons _ ?_)) ?_)
      refine h_y (i := 4) S (by repeat (first | exact List.Sublist.refl _ | exact List.nil_sublist _ | refine .cons_cons _ ?_ | refine .cons _ ?_)) rfl (by kernel_rfl) (by kernel_rfl) (by kernel_rfl) (fun _ _ _ _ h => h) (ys_move (.t rfl)) rfl fun a w S => h_y (i := 5) S (by repeat (first | exact List.Sublist.refl _ | exact List.nil_sublist _ | refine .cons_cons _ ?_ | refine .cons _ ?_)) rfl (by kernel_rfl) (by kernel_rfl) (by kernel_rfl) (fun _ _ _ _ h => h) (ys_ext (.t rfl) rfl) rfl fun a w S => h_y (i := 6) S (by repeat (first | exact List.Sublist.refl _ | exact List.nil_sublist _ | refine .cons_cons _ ?_ | refine .cons _ ?_)) rfl (by kernel_rfl) (by kernel_rfl) (by kernel_rfl) (fun _ _ _ _ h => h) (ys_ext (.t rfl) rfl) rfl fun a w S => ?_
      (refine h_m0 (i := 8) rfl (by kernel_rfl) (op_stW S sizeOf39 (.t rfl) (.t rfl) (k := 6) rfl rfl rfl (by simp [Value.oneCell']) ?_); clear S a w; intro a w S; refine h_on S _ (List.Sublist.refl _) (by repeat (first | exact List.Sublist.refl _ | exact List.nil_sublist _ | refine .cons_cons _ ?_ | refine .cons _ ?_)) ?_)
      refine h_y (i := 9) S (by repeat (first | exact List.Sublist.refl _ | exact List.nil_sublist _ | refine .cons_cons _ ?_ | refine .cons _ ?_)) rfl (by kernel_rfl) (by kernel_rfl) (by kernel_rfl) (fun _ _ _ _ h => h) (ys_assign (.t rfl)) rfl fun a w S => h_done (by kernel_rfl) ?_
      rotate_left
      all_goals exact ⟨_, _, _, _, _, _, _, S.picks (by repeat (first | exact Fits.nil | refine Fits.skip rfl ?_ | refine Fits.cons rfl ?_)) (by repeat (first | exact Picks.nil | (refine Picks.rest ?_; (repeat (first | exact List.Sublist.refl _ | refine List.Sublist.cons_cons _ ?_ | refine List.Sublist.cons _ ?_)); done) | refine Picks.take 0 rfl ?_ | refine Picks.take 1 rfl ?_ | refine Picks.take 2 rfl ?_ | refine Picks.take 3 rfl ?_ | refine Picks.take 4 rfl ?_ | refine Picks.take 5 rfl ?_ | refine Picks.take 6 rfl ?_ | refine Picks.take 7 rfl ?_ | refine Picks.take 8 rfl ?_ | refine Picks.take 9 rfl ?_ | refine Picks.take 10 rfl ?_ | refine Picks.take 11 rfl ?_))⟩
    clear S
    rcases e with _ | _ | _ | _ | _ | _ | _
    any_goals exact q.elim
    obtain ⟨g8, B1, b1, B2, b2, B3, b3, S⟩ := q
    refine then_normal (hK9 _ _ ?_)
    clear hK9
    by_cases hj : (joinK X s.1).2 = 0
    rotate_left
    · have rw_j : decide ((joinK X s.1).2 ≠ 0) = true := decide_eq_true hj
      refine wp_seq_k fun _ hK3 => wp_region_lit (run S (.la gt39 8 rfl rfl rfl <| .la gt39 4 rfl rfl rfl <| .z) fun a w S => ?_)
      (refine st_m (op_calls S call34 (.cons (.t rfl) (.cons (.t rfl) .nil)) (c34 _ _ _ _ _ _ _ _ _ (by exact Sl.of_own S.wd (k := 5) rfl (fun _ => rfl)) (by exact ⟨(by exact Sl.of_own S.wd (k := 6) rfl (fun _ => rfl)), (by exact Sl.of_own S.wd (k := 7) rfl (fun _ => rfl))⟩) (by exact SlIn.sl (by assumption) S.wd (k := 11) rfl) (by exact ⟨(by exact SlIn.sl (by assumption) S.wd (k := 11) rfl), (by exact SlIn.sl (by assumption) S.wd (k := 11) rfl)⟩)) rfl ?_); clear S a w; rintro _ _ ⟨A11, r11, A21, r21, A31, r31, rfl, rfl⟩ a w S)
      refine run S (.mv rfl <| .ex rfl rfl <| .ex rfl rfl <| .z) fun a w S => st_m (op_alloc S zeroValue39 (cs := _) rfl rfl fun g4 a w S => st_m (op_stW S sizeOf39 (.t rfl) (.t rfl) (k := 0) rfl rfl rfl (by simp [Value.oneCell']) fun a w S => run S (.as rfl <| .z) fun a w S => st_nil (then_normal (hK3 _ _ (wp_seq_k fun _ hK3 => wp_seq_k fun _ hK4 => wp_region_lit (run S (.mv rfl <| .mv rfl <| .yy (ys_F (by omega) (ys_neq (.t rfl) (.t rfl))) rfl <| .z) fun a w S => st_nil (then_normal (hK4 _ _ (st_else S (.t rfl) (wp_skip (then_normal (hK3 _ _ (wp_seq_k fun _ hK3 => wp_seq_k fun _ hK4 => wp_region_lit (run S (.mv rfl <| .yy (ys_T (by omega) (ys_neq (.t rfl) Ev.c)) rfl <| .z) fun a w S => st_nil (then_normal (hK4 _ _ (st_then S (.t rfl) (wp_seq_k fun _ hK4 => wp_region_lit (run S (.ac rfl <| .z) fun a w S => st_nil (then_normal (hK4 _ _ (wp_ret (then_ret (in_ret (then_ret (then_ret (in_ret (then_ret (st_ret S (results1 S results8 (Rv.tmp rfl)) ?_)))))))))))))))))))))))))))))
      exact ⟨rfl, S.wd.below⟩
    obtain ⟨K1, hK1⟩ : ∃ K1, K1 = k + 1 := ⟨_, rfl⟩
    have hY := meant_step h hX hst hj
    rw [← hK1] at hY
    have rw_K : (k : Int) + 1 = (K1 : Int) := by rw [hK1]; rfl
    have hKu : K1 ≤ up1.length := by omega
    have rw_j := hj
    have hur := (S.wd.room (k := 10) rfl).1
    obtain ⟨Y, rw_Y⟩ : ∃ Y, (joinK X s.1).1 = Y := ⟨_, rfl⟩
    rw [rw_Y] at hY
    refine wp_seq_k fun _ hK3 => ?_
    rw [rw_j] at S
    rw [rw_Y] at S
    refine wp_region_lit (run S (.la gt39 8 rfl rfl rfl <| .la gt39 4 rfl rfl rfl <| .z) fun a w S => ?_)
    (refine st_m (op_calls S call34 (.cons (.t rfl) (.cons (.t rfl) .nil)) (c34 _ _ _ _ _ _ _ _ _ (by exact Sl.of_own S.wd (k := 5) rfl (fun _ => rfl)) (by exact ⟨(by exact Sl.of_own S.wd (k := 6) rfl (fun _ => rfl)), (by exact Sl.of_own S.wd (k := 7) rfl (fun _ => rfl))⟩) (by exact SlIn.sl (by assumption) S.wd (k := 11) rfl) (by exact ⟨(by exact SlIn.sl (by assumption) S.wd (k := 11) rfl), (by exact SlIn.sl (by assumption) S.wd (k := 11) rfl)⟩)) rfl ?_); clear S a w; rintro _ _ ⟨A11, r11, A21, r21, A31, r31, rfl, rfl⟩ a w S)
    rw [rw_j] at S
    rw [rw_Y] at S
    refine run S (.mv rfl <| .ex rfl rfl <| .ex rfl rfl <| .z) fun a w S => st_m (op_alloc S zeroValue39 (cs := _) rfl rfl fun g4 a w S => st_m (op_stW S sizeOf39 (.t rfl) (.t rfl) (k := 0) rfl rfl rfl (by simp [Value.oneCell']) fun a w S => run S (.as rfl <| .z) fun a w S => st_nil (then_normal (hK3 _ _ (wp_seq_k fun _ hK3 => wp_seq_k fun _ hK4 => wp_region_lit (run S (.mv rfl <| .mv rfl <| .yy (ys_F (by omega) (ys_neq (.t rfl) (.t rfl))) rfl <| .z) fun a w S => st_nil (then_normal (hK4 _ _ (st_else S (.t rfl) (wp_skip (then_normal (hK3 _ _ (wp_seq_k fun _ hK3 => wp_seq_k fun _ hK4 => wp_region_lit (run S (.mv rfl <| .yy (ys_F (by omega) (ys_neq (.t rfl) Ev.c)) rfl <| .z) fun a w S => st_nil (then_normal (hK4 _ _ (st_else S (.t rfl) (wp_skip (then_normal (hK3 _ _ (wp_seq_k fun _ hK3 => wp_region_lit (run S (.la gt39 7 rfl rfl rfl <| .z) fun a w S => st_m (op_stW S sizeOf39 (.t rfl) (.t rfl) (k := 12) rfl rfl rfl (by simp [Value.oneCell']) fun a w S => st_nil (then_normal (hK3 _ _ (wp_seq_k fun _ hK3 => wp_region_lit (run S (.ac rfl <| .z) fun a w S => st_nil (then_normal (hK3 _ _ (wp_seq_k fun _ hK3 => wp_seq_k fun _ hK4 => wp_region_lit (run S (.mv rfl <| .mv rfl <| .ad (by unfold I64; omega) rfl <| .z) fun a w S => ?_)))))))))))))))))))))))))))))))
    rw [rw_K] at S
    refine run S (.yy (ys_slHi underlying30 sizeOf60 (.t rfl) (.t rfl) (fun _ => by first | omega | (simp; done) | (simp; omega))) rfl <| .ln underlying30 rfl <| .mc rfl <| .z) fun a w S => st_nil (then_normal (hK4 _ _ (wp_block ?_)))
    refine st_loopM S [12, 53] (X := Nat) (fun m => [(53, true, .int .i64 (m : Int)), (12, true, .int .i64 ((((playK h).up.take m).filter fun u => decide (u.ent ∈ Y.ents)).length : Int))])
      (fun m => [rowOf 71 6 Ent.enc B1 b1 Y.ents, rowOf 122 3 Dot.enc B2 b2 Y.ctx.marks, rowOf 58 3 Dot.enc B3 b3 Y.ctx.cloud, .blk g2 (.cells #[.slice B1 Y.ents.length b1, .slice B2 Y.ctx.marks.length b2, .slice B3 Y.ctx.cloud.length b3] 39), rowOf 39 3 SCart.enc (some ⟨gF, 0, none⟩) r1 st1, rowOf 60 10 SUpd.enc A'1 r'1 up1, .ice w11 bs1])
      (fun m => m ≤ K1) (fun m => K1 - m) 0 (Nat.zero_le _) (by repeat (first | exact Fits.nil | refine Fits.skip rfl ?_ | refine Fits.cons rfl ?_)) (by repeat (first | exact Picks.nil | (refine Picks.rest ?_; (repeat (first | exact List.Sublist.refl _ | refine List.Sublist.cons_cons _ ?_ | refine List.Sublist.cons _ ?_)); done) | refine Picks.take 0 rfl ?_ | refine Picks.take 1 rfl ?_ | refine Picks.take 2 rfl ?_ | refine Picks.take 3 rfl ?_ | refine Picks.take 4 rfl ?_ | refine Picks.take 5 rfl ?_ | refine Picks.take 6 rfl ?_ | refine Picks.take 7 rfl ?_ | refine Picks.take 8 rfl ?_ | refine Picks.take 9 rfl ?_ | refine Picks.take 10 rfl ?_ | refine Picks.take 11 rfl ?_)) ?_
    clear S
    intro m a w hm S
    have rw_b : ∀ b : Bool, (b != b) = false := fun b => by simp
    obtain ⟨gU, rfl⟩ := S.wd.row_at (k := 5) rfl (by omega)
    by_cases hml : m < K1
    · obtain ⟨u, hu⟩ : ∃ u, up1[m]? = some u := ⟨_, List.getElem?_eq_getElem (by omega)⟩
      have huu : (playK h).up[m]? = some u.1 := by rw [← hr21, List.getElem?_map, hu]; rfl
      have hut : u.1 ∈ (playK h).up.take K1 := List.mem_of_getElem? (i := m) (by rw [List.getElem?_take_of_lt hml]; exact huu)
      have htk : (up1.take K1).map (·.1) = (playK h).up.take K1 := by rw [List.map_take, hr21]
      have rw_seen := seen_any htk (fun v hv => (ok.seen v (List.mem_of_mem_take hv)).ok.ctx) u.1
      have rw_m := (meant_is hY hut).symm
      have hYc := hY.inh.ok.ctx
      have rw_cv : Y.ctx.coversR ⟨u.1.dot.node, u.1.dot.life, u.1.dot.count⟩ = true := (can_covers hYc u.1.dot).trans (hY.all u.1 hut)
      have rw_m1 : (m : Int) + 1 = ((m + 1 : Nat) : Int) := rfl
      by_cases hin : u.1.ent ∈ Y.ents
      · have rw_in : decide (u.1.ent ∈ Y.ents) = true := decide_eq_true hin
        have hlen := List.length_filter_le (fun u : Upd => decide (u.ent ∈ Y.ents)) ((playK h).up.take m)
        rw [List.length_take] at hlen
        have hle2 : (((playK h).up.take m).filter fun u => decide (u.ent ∈ Y.ents)).length ≤ 100 := by omega
        have e2 : ((((playK h).up.take m).filter fun u => decide (u.ent ∈ Y.ents)).length : Int) + 1 = ((((playK h).up.take (m + 1)).filter fun u => decide (u.ent ∈ Y.ents)).length : Int) := by
          rw [filter_yes huu (by simpa using hin), List.length_append]; rfl
        refine wp_seq_k fun _ hK4 => wp_region_lit (run S (.lt (by omega) rfl rfl <| .z) fun a w S => st_nil (then_normal (hK4 _ _ (wp_seq_k fun _ hK4 => st_then S (.t rfl) (wp_skip (then_normal (hK4 _ _ (wp_seq_k fun _ hK4 => wp_block (wp_seq_k fun _ hK5 => wp_region_lit (run S (.ix underlying30 sizeOf60 (by omega) rfl rfl <| .yy (ys_ldWA ⟨isAgg60, sizeOf60⟩ (.t rfl) (k := 5) rfl hu (fun _ => rfl)) rfl <| .z) fun a w S => st_m (op_alloc S zeroValue60 (cs := _) rfl rfl fun g5 a w S => st_m (op_stW S sizeOf60 (.t rfl) (.t rfl) (k := 0) rfl rfl rfl (by simp [Value.oneCell']) fun a w S => st_nil (then_normal (hK5 _ _ (wp_seq_k fun _ hK5 => wp_region_lit (run S (.mv rfl <| .mv rfl <| .ad (by unfold I64; omega) rfl <| .z) fun a w S => ?_))))))))))))))))
        rw [rw_K] at S
        refine run S (.yy (ys_slHi underlying30 sizeOf60 (.t rfl) (.t rfl) (fun _ => by first | omega | (simp; done) | (simp; omega))) rfl <| .yy (ys_mkFunc (.cons (.t rfl) .nil)) rfl <| .z) fun a w S => st_y S (ys_call call35 (.cons (.t rfl) (.cons (.t rfl) .nil)) (fun _ w' W' => c35 w' _ (up1.take K1) u.1.dot u.1.item g5 ((Sl.of_own W' (k := 6) rfl (fun _ => rfl)).take_ hKu) (fun x hx => (hr41 x (List.mem_of_mem_take hx)).rd W' (k := 7) rfl) (Wd.cell W' (k := 0) rfl rfl) (Wd.cell W' (k := 0) rfl rfl) (Wd.cell W' (k := 0) rfl rfl) (Wd.cell W' (k := 0) rfl rfl))) rfl ?_
        clear S a w
        intro a w S
        refine run S (.as rfl <| .z) fun a w S => ?_
        rw [rw_seen] at S
        refine st_nil (then_normal (hK5 _ _ (wp_seq_k fun _ hK5 => wp_region_lit (run S (.fa underlying39 sizeOf33 0 rfl rfl rfl <| .ld gt33 4 rfl rfl rfl <| .yy (ys_mkFunc (.cons (.t rfl) .nil)) rfl <| .z) fun a w S => st_y S (ys_call call38 (.cons (.t rfl) (.cons (.t rfl) .nil)) (fun _ w' W' => e38 w' _ Y.ents u.1.ent g5 (Sl.of_own W' (k := 1) rfl (fun _ => rfl)) (Wd.cell W' (k := 0) rfl rfl) (Wd.cell W' (k := 0) rfl rfl) (Wd.cell W' (k := 0) rfl rfl) (Wd.cell W' (k := 0) rfl rfl) (Wd.cell W' (k := 0) rfl rfl) (Wd.cell W' (k := 0) rfl rfl))) rfl ?_))))
        clear S a w
        intro a w S
        refine run S (.as rfl <| .z) fun a w S => ?_
        rw [rw_in] at S
        refine st_nil (then_normal (hK5 _ _ (wp_seq_k fun _ hK5 => wp_seq_k fun _ hK6 => wp_region_lit (run S (.mv rfl <| .fa underlying60 sizeOf3 5 rfl rfl rfl <| .ld gt3 0 rfl rfl rfl <| .yy (ys_gtr (.t rfl) Ev.c) rfl <| .mv rfl <| .z) fun a w S => st_yg S rfl rfl (Yr.ys (ys_move (.t rfl))) rfl fun a w S => st_yg S rfl rfl (Yr.ys (ys_not (Ev.g rfl))) rfl fun a w S => run S (.yy (ys_and (.t rfl) (Ev.g rfl) Ev.c) rfl <| .z) fun a w S => ?_))))
        rw [rw_m] at S
        rw [rw_in] at S
        refine run S (.yy (ys_neqB underlying4 (.t rfl) (.t rfl)) rfl <| .z) fun a w S => ?_
        rw [rw_b] at S
        refine st_nil (then_normal (hK6 _ _ (st_else S (.t rfl) (wp_skip (then_normal (hK5 _ _ (wp_seq_k fun _ hK5 => wp_seq_k fun _ hK6 => wp_region_lit (run S (.mv rfl <| .z) fun a w S => st_nil (then_normal (hK6 _ _ (st_then S (.t rfl) (wp_region_lit (run S (.mv rfl <| .ad (by unfold I64; omega) rfl <| .as rfl <| .z) fun a w S => st_nil (then_normal (hK5 _ _ (wp_seq_k fun _ hK5 => wp_region_lit (run S (.fa underlying39 sizeOf37 1 rfl rfl rfl <| .la gt37 4 rfl rfl rfl <| .fa underlying60 sizeOf58 1 rfl rfl rfl <| .la gt58 0 rfl rfl rfl <| .xx (ys_call call37 (.cons (.t rfl) (.cons (.t rfl) .nil)) (fun hp w W => c37 _ _ _ _ _ _ _ (by exact ⟨(by exact Sl.of_own W (k := 2) rfl (fun _ => rfl)), (by exact Sl.of_own W (k := 3) rfl (fun _ => rfl))⟩))) rfl <| .z) fun a w S => ?_)))))))))))))))))
        rw [rw_cv] at S
        refine run S (.nt rfl <| .z) fun a w S => st_nil (then_normal (hK5 _ _ (st_else S (.t rfl) (wp_skip (in_normal (then_normal (hK4 _ _ (wp_region_lit (run S (.ad (by unfold I64; omega) rfl <| .z) fun a w S => ?_)))))))))
        rw [rw_m1] at S
        refine run S (.mv rfl <| .z) fun a w S => st_nil (then_normal ?_)
        rw [e2] at S
        exact ⟨m + 1, by omega, by omega, S.picks (by repeat (first | exact Fits.nil | refine Fits.skip rfl ?_ | refine Fits.cons rfl ?_)) (by repeat (first | exact Picks.nil | (refine Picks.rest ?_; (repeat (first | exact List.Sublist.refl _ | refine List.Sublist.cons_cons _ ?_ | refine List.Sublist.cons _ ?_)); done) | refine Picks.take 0 rfl ?_ | refine Picks.take 1 rfl ?_ | refine Picks.take 2 rfl ?_ | refine Picks.take 3 rfl ?_ | refine Picks.take 4 rfl ?_ | refine Picks.take 5 rfl ?_ | refine Picks.take 6 rfl ?_ | refine Picks.take 7 rfl ?_ | refine Picks.take 8 rfl ?_ | refine Picks.take 9 rfl ?_ | refine Picks.take 10 rfl ?_ | refine Picks.take 11 rfl ?_))⟩
      · have rw_in : decide (u.1.ent ∈ Y.ents) = false := decide_eq_false hin
        have e1 : (((playK h).up.take (m + 1)).filter fun u => decide (u.ent ∈ Y.ents)) = (((playK h).up.take m).filter fun u => decide (u.ent ∈ Y.ents)) := filter_no huu (by simpa using hin)
        refine wp_seq_k fun _ hK4 => wp_region_lit (run S (.lt (by omega) rfl rfl <| .z) fun a w S => st_nil (then_normal (hK4 _ _ (wp_seq_k fun _ hK4 => st_then S (.t rfl) (wp_skip (then_normal (hK4 _ _ (wp_seq_k fun _ hK4 => wp_block (wp_seq_k fun _ hK5 => wp_region_lit (run S (.ix underlying30 sizeOf60 (by omega) rfl rfl <| .yy (ys_ldWA ⟨isAgg60, sizeOf60⟩ (.t rfl) (k := 5) rfl hu (fun _ => rfl)) rfl <| .z) fun a w S => st_m (op_alloc S zeroValue60 (cs := _) rfl rfl fun g5 a w S => st_m (op_stW S sizeOf60 (.t rfl) (.t rfl) (k := 0) rfl rfl rfl (by simp [Value.oneCell']) fun a w S => st_nil (then_normal (hK5 _ _ (wp_seq_k fun _ hK5 => wp_region_lit (run S (.mv rfl <| .mv rfl <| .ad (by unfold I64; omega) rfl <| .z) fun a w S => ?_))))))))))))))))
        rw [rw_K] at S
        refine run S (.yy (ys_slHi underlying30 sizeOf60 (.t rfl) (.t rfl) (fun _ => by first | omega | (simp; done) | (simp; omega))) rfl <| .yy (ys_mkFunc (.cons (.t rfl) .nil)) rfl <| .z) fun a w S => st_y S (ys_call call35 (.cons (.t rfl) (.cons (.t rfl) .nil)) (fun _ w' W' => c35 w' _ (up1.take K1) u.1.dot u.1.item g5 ((Sl.of_own W' (k := 6) rfl (fun _ => rfl)).take_ hKu) (fun x hx => (hr41 x (List.mem_of_mem_take hx)).rd W' (k := 7) rfl) (Wd.cell W' (k := 0) rfl rfl) (Wd.cell W' (k := 0) rfl rfl) (Wd.cell W' (k := 0) rfl rfl) (Wd.cell W' (k := 0) rfl rfl))) rfl ?_
        clear S a w
        intro a w S
        refine run S (.as rfl <| .z) fun a w S => ?_
        rw [rw_seen] at S
        refine st_nil (then_normal (hK5 _ _ (wp_seq_k fun _ hK5 => wp_region_lit (run S (.fa underlying39 sizeOf33 0 rfl rfl rfl <| .ld gt33 4 rfl rfl rfl <| .yy (ys_mkFunc (.cons (.t rfl) .nil)) rfl <| .z) fun a w S => st_y S (ys_call call38 (.cons (.t rfl) (.cons (.t rfl) .nil)) (fun _ w' W' => e38 w' _ Y.ents u.1.ent g5 (Sl.of_own W' (k := 1) rfl (fun _ => rfl)) (Wd.cell W' (k := 0) rfl rfl) (Wd.cell W' (k := 0) rfl rfl) (Wd.cell W' (k := 0) rfl rfl) (Wd.cell W' (k := 0) rfl rfl) (Wd.cell W' (k := 0) rfl rfl) (Wd.cell W' (k := 0) rfl rfl))) rfl ?_))))
        clear S a w
        intro a w S
        refine run S (.as rfl <| .z) fun a w S => ?_
        rw [rw_in] at S
        refine st_nil (then_normal (hK5 _ _ (wp_seq_k fun _ hK5 => wp_seq_k fun _ hK6 => wp_region_lit (run S (.mv rfl <| .fa underlying60 sizeOf3 5 rfl rfl rfl <| .ld gt3 0 rfl rfl rfl <| .yy (ys_gtr (.t rfl) Ev.c) rfl <| .mv rfl <| .z) fun a w S => st_yg S rfl rfl (Yr.ys (ys_move (.t rfl))) rfl fun a w S => st_yg S rfl rfl (Yr.ys (ys_not (Ev.g rfl))) rfl fun a w S => run S (.yy (ys_and (.t rfl) (Ev.g rfl) Ev.c) rfl <| .z) fun a w S => ?_))))
        rw [rw_m] at S
        rw [rw_in] at S
        refine run S (.yy (ys_neqB underlying4 (.t rfl) (.t rfl)) rfl <| .z) fun a w S => ?_
        rw [rw_b] at S
        refine st_nil (then_normal (hK6 _ _ (st_else S (.t rfl) (wp_skip (then_normal (hK5 _ _ (wp_seq_k fun _ hK5 => wp_seq_k fun _ hK6 => wp_region_lit (run S (.mv rfl <| .z) fun a w S => st_nil (then_normal (hK6 _ _ (st_else S (.t rfl) (wp_skip (then_normal (hK5 _ _ (wp_seq_k fun _ hK5 => wp_region_lit (run S (.fa underlying39 sizeOf37 1 rfl rfl rfl <| .la gt37 4 rfl rfl rfl <| .fa underlying60 sizeOf58 1 rfl rfl rfl <| .la gt58 0 rfl rfl rfl <| .xx (ys_call call37 (.cons (.t rfl) (.cons (.t rfl) .nil)) (fun hp w W => c37 _ _ _ _ _ _ _ (by exact ⟨(by exact Sl.of_own W (k := 2) rfl (fun _ => rfl)), (by exact Sl.of_own W (k := 3) rfl (fun _ => rfl))⟩))) rfl <| .z) fun a w S => ?_))))))))))))))))
        rw [rw_cv] at S
        refine run S (.nt rfl <| .z) fun a w S => st_nil (then_normal (hK5 _ _ (st_else S (.t rfl) (wp_skip (in_normal (then_normal (hK4 _ _ (wp_region_lit (run S (.ad (by unfold I64; omega) rfl <| .z) fun a w S => ?_)))))))))
        rw [rw_m1] at S
        refine run S (.mv rfl <| .z) fun a w S => st_nil (then_normal ?_)
        exact ⟨m + 1, by omega, by omega, by rw [e1]; exact S.picks (by repeat (first | exact Fits.nil | refine Fits.skip rfl ?_ | refine Fits.cons rfl ?_)) (by repeat (first | exact Picks.nil | (refine Picks.rest ?_; (repeat (first | exact List.Sublist.refl _ | refine List.Sublist.cons_cons _ ?_ | refine List.Sublist.cons _ ?_)); done) | refine Picks.take 0 rfl ?_ | refine Picks.take 1 rfl ?_ | refine Picks.take 2 rfl ?_ | refine Picks.take 3 rfl ?_ | refine Picks.take 4 rfl ?_ | refine Picks.take 5 rfl ?_ | refine Picks.take 6 rfl ?_ | refine Picks.take 7 rfl ?_ | refine Picks.take 8 rfl ?_ | refine Picks.take 9 rfl ?_ | refine Picks.take 10 rfl ?_ | refine Picks.take 11 rfl ?_))⟩
    obtain rfl : m = K1 := by omega
    have rw_live : ((((playK h).up.take m).filter fun u => decide (u.ent ∈ Y.ents)).length : Int) = (Y.ents.length : Int) := by rw [meant_live ok.one hY]
    refine wp_seq_k fun _ hK4 => ?_
    rw [rw_live] at S
    refine wp_region_lit (run S (.ge (by omega) rfl rfl <| .z) fun a w S => st_nil (then_normal (hK4 _ _ (wp_seq_k fun _ hK4 => st_else S (.t rfl) (wp_exit (then_exit (then_exit (in_here (then_normal (hK3 _ _ (wp_seq_k fun _ hK3 => wp_region_lit (run S (.mv rfl <| .fa underlying39 sizeOf33 0 rfl rfl rfl <| .ld gt33 3 rfl rfl rfl <| .ln underlying33 rfl <| .yy (ys_F (by omega) (ys_neq (.t rfl) (.t rfl))) rfl <| .z) fun a w S => st_nil (then_normal (hK3 _ _ (st_else S (.t rfl) (wp_skip (in_normal (then_normal (hK2 _ _ (wp_region_lit (run S (.ad (by unfold I64; omega) rfl <| .z) fun a w S => ?_)))))))))))))))))))))
    rw [rw_K] at S
    refine run S (.mv rfl <| .z) fun a w S => st_nil (then_normal ?_)
    exact ⟨(m, B1, b1, B2, b2, B3, b3, Y), ⟨by dsimp only; omega, hY⟩, by dsimp only; omega, S.picks (by repeat (first | exact Fits.nil | refine Fits.skip rfl ?_ | refine Fits.cons rfl ?_)) (by repeat (first | exact Picks.nil | (refine Picks.rest ?_; (repeat (first | exact List.Sublist.refl _ | refine List.Sublist.cons_cons _ ?_ | refine List.Sublist.cons _ ?_)); done) | refine Picks.take 0 rfl ?_ | refine Picks.take 1 rfl ?_ | refine Picks.take 2 rfl ?_ | refine Picks.take 3 rfl ?_ | refine Picks.take 4 rfl ?_ | refine Picks.take 5 rfl ?_ | refine Picks.take 6 rfl ?_ | refine Picks.take 7 rfl ?_ | refine Picks.take 8 rfl ?_ | refine Picks.take 9 rfl ?_ | refine Picks.take 10 rfl ?_ | refine Picks.take 11 rfl ?_))⟩
  obtain rfl : k = st1.length := by omega
  have rw_l : (up1.length : Int) = (st1.length : Int) := by rw [hul]
  refine wp_seq_k fun _ hK2 => wp_region_lit (run S (.ge (by omega) rfl rfl <| .z) fun a w S => st_nil (then_normal (hK2 _ _ (wp_seq_k fun _ hK2 => st_else S (.t rfl) (wp_exit (then_exit (then_exit (in_here (then_normal (hK1 _ _ (wp_seq_k fun _ hK1 => wp_region_lit (run S (.mv rfl <| .ln underlying29 rfl <| .mv rfl <| .ln underlying30 rfl <| .z) fun a w S => ?_))))))))))))
  rw [rw_l] at S
  refine run S (.yy (ys_T (by omega) (ys_eql (.t rfl) (.t rfl))) rfl <| .as rfl <| .z) fun a w S => st_nil (then_normal (hK1 _ _ (wp_ret (st_ret S (results1 S results8 (Rv.tmp rfl)) ?_))))
  exact ⟨rfl, S.wd.below⟩
end Go.Proofs.YtfblmkocmnbdcaaGreat
