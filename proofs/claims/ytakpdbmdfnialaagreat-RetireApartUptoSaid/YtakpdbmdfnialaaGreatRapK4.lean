/- Contracts and laws that the statement Rap leans on, part 4. -/
import Derived.Test.YtakpdbmdfnialaaGreatRapK3
set_option linter.unusedVariables false
set_option linter.unusedSimpArgs false
set_option maxRecDepth 100000
set_option maxHeartbeats 4000000
namespace Go.Fw
def allS : List Cart → Bool
  | [] => false
  | c :: r => r.all fun x => decide (c = x)
theorem allS_any (c : SCart) (r : List SCart) : (!((c :: r).any fun x => !decide (x.1 = c.1))) = allS ((c :: r).map (·.1)) := by
  unfold allS
  rw [Bool.eq_iff_iff, Bool.not_eq_true', List.any_eq_false, List.map_cons]
  dsimp only
  rw [List.all_eq_true]
  constructor
  · intro h x hx
    obtain ⟨y, hy, rfl⟩ := List.mem_map.1 hx
    have := h y (by simp [hy])
    simp at this
    exact decide_eq_true this.symm
  · intro h x hx
    rcases List.mem_cons.1 hx with rfl | hx
    · simp
    · have := of_decide_eq_true (h x.1 (List.mem_map.2 ⟨x, hx, rfl⟩))
      simp [this]
theorem ready_may {l : List Cart} {p q : Int} (h : mayD ⟨p, q, 1⟩ = false) : readyG l p q = (⟨0, 0, 0⟩, 1) := by rw [ready_def, if_pos h]
theorem ready_bad {l : List Cart} {p q : Int} (h : mayD ⟨p, q, 1⟩ = true) (hb : badG l ≠ 0) : readyG l p q = (⟨0, 0, 0⟩, badG l) := by rw [ready_def, if_neg (by rw [h]; simp), if_pos hb]
theorem ready_all {l : List Cart} {p q : Int} (h : mayD ⟨p, q, 1⟩ = true) (hb : badG l = 0) (ha : allS l = false) : readyG l p q = (⟨0, 0, 0⟩, 200) := by
  rw [ready_def, if_neg (by rw [h]; simp), if_neg (fun k => k hb)]
  cases l with
  | nil => rfl
  | cons c r =>
    have ha' : (r.all fun x => decide (c = x)) = false := ha
    dsimp only; rw [if_pos ha']
theorem ready_rest {c : Cart} {r : List Cart} {p q : Int} (h : mayD ⟨p, q, 1⟩ = true) (hb : badG (c :: r) = 0) (ha : allS (c :: r) = true) : readyG (c :: r) p q = if livesK c p q = true then (⟨0, 0, 0⟩, 201) else if c.ctx.top p q = 0 then (⟨0, 0, 0⟩, 62)
      else if (c.ctx.cloud.any fun d => decide (d.node = p ∧ d.life = q)) = true then (⟨0, 0, 0⟩, 202) else (⟨p, q, c.ctx.top p q⟩, 0) := by
  have ha' : (r.all fun x => decide (c = x)) = true := ha
  rw [ready_def, if_neg (by rw [h]; simp), if_neg (fun k => k hb)]
  dsimp only
  rw [if_neg (by rw [ha']; simp)]
theorem bad_can {l : List Cart} (h : badG l = 0) : ∀ c ∈ l, canE c = 0 := by
  intro c hc
  unfold badG at h
  cases hf : l.find? (fun c => decide (canE c ≠ 0)) with
  | some x =>
    rw [hf] at h
    have := List.find?_some hf
    simp at this
    exact absurd h this
  | none =>
    rw [List.find?_eq_none] at hf
    have := hf c hc
    simpa using this
end Go.Fw
namespace Go.Proofs.YtakpdbmdfnialaaGreat
open Go.Fw Go.Proofs Go.RowKit Go.Proofs.Tryz
theorem c93 (w0 : World) (v : Value) (c : SCart) (r : List SCart) (g : Nat) (h : Sl SCart.enc 3 w0 w0.heap.size v (c :: r)) (hc : CartsRd w0 (c :: r)) (h0 : w0.cell? ⟨g, 0, none⟩ = some v) :
    Calls Tryz.prog 93 #[v, .func (.func 94) #[] #[.pointer (some ⟨g, 0, none⟩)]] w0 fun e w' => e = .returned (.bool ((c :: r).any fun x => !decide (x.1 = c.1))) ∧ Bel w0.heap.size w0 w' :=
  x93 w0 v (c :: r) _ [.pointer (some ⟨g, 0, none⟩)] (fun x => !decide (x.1 = c.1)) call94 (fun w' W' x hx => c94 w' g v c x r (Wd.cellOld W' h0) (Sl.old W' h) ((hc c (by simp)).old W') ((hc x hx).old W')) h
theorem c92 (w0 : World) (g : Nat) (v : Value) (l : List SCart) (h0 : w0.cell? ⟨g, 0, none⟩ = some v) (h : Sl SCart.enc 3 w0 w0.heap.size v l) (hc : CartsRd w0 l) :
    Calls Tryz.prog 92 #[.pointer (some ⟨g, 0, none⟩)] w0 fun u w' => u = .returned (.bool (allS (l.map (·.1)))) ∧ Bel w0.heap.size w0 w' := by
  have hs := h
  cases l with
  | nil =>
    obtain ⟨A, cap, rfl, _⟩ := h
    refine enter1 func92 rfl ntmps92 rfl fun a S => sg S (.ac rfl <| .z) fun a w S => sg S (.yy (ys_ldO ⟨isAgg64, sizeOf64⟩ (.t rfl) (fun _ => h0)) rfl <| .ln underlying64 rfl <| .yy (ys_gtr (.t rfl) Ev.c) rfl <| .mv rfl <| .sk rfl rfl rfl <| .sk rfl rfl rfl <| .sk rfl rfl rfl <| .sk rfl rfl rfl <| .yy (ys_pickF (.t rfl) Ev.c) rfl <| .as rfl <| .z) fun a w S => wp_ret (st_ret S (results1 S results92 (Rv.tmp rfl)) ?_)
    exact ⟨rfl, S.wd.below⟩
  | cons c r =>
    obtain ⟨A, cap, rfl, _⟩ := h
    have rw_l : decide (((c :: r).length : Int) > 0) = true := decide_eq_true (by simp)
    refine enter1 func92 rfl ntmps92 rfl fun a S => sg S (.ac rfl <| .z) fun a w S => wp_seq_k fun _ hK1 => wp_region_lit (run S (.yy (ys_ldO ⟨isAgg64, sizeOf64⟩ (.t rfl) (fun _ => h0)) rfl <| .ln underlying64 rfl <| .yy (ys_gtr (.t rfl) Ev.c) rfl <| .z) fun a w S => ?_)
    rw [rw_l] at S
    refine run S (.mv rfl <| .gy rfl rfl (ys_ldO ⟨isAgg64, sizeOf64⟩ (.t rfl) (fun _ => h0)) <| .gy rfl rfl (ys_mkFunc (.cons (.t rfl) .nil)) <| .gx rfl rfl (ys_call call93 (.cons (.t rfl) (.cons (.t rfl) .nil)) (fun hp w W => c93 _ _ _ _ _ (by exact .old W (by assumption)) (by exact .old W (by assumption)) (by exact Wd.cellOld W (by assumption)))) <| .gy rfl rfl (ys_not (.t rfl)) <| .yy (ys_pickT (.t rfl) (.t rfl)) rfl <| .as rfl <| .z) fun a w S => st_nil (then_normal (hK1 _ _ (wp_ret (st_ret S (results1 S results92 (Rv.tmp rfl)) ?_))))
    exact ⟨by rw [allS_any], S.wd.below⟩
theorem c87 {w0 w : World} {L : List Chunk} {gr g1 g2 g4 g5 e1 e3 e4 e5 e6 : Nat} {v : Value} {l : List SCart} {p q : Int}
    (W : Wd w0 (.blk gr (.cells #[.func (.func 89) #[] #[.pointer (some ⟨g2, 0, none⟩)], .func (.func 149) #[] #[.pointer (some ⟨e1, 0, none⟩)],
        .func (.func 90) #[] #[.pointer (some ⟨g1, 0, none⟩), .pointer (some ⟨g4, 0, none⟩)], .func (.func 91) #[] #[.pointer (some ⟨g4, 0, none⟩)],
        .func (.func 92) #[] #[.pointer (some ⟨g1, 0, none⟩)], .func (.func 149) #[] #[.pointer (some ⟨e3, 0, none⟩)],
        .func (.func 96) #[] #[.pointer (some ⟨g1, 0, none⟩), .pointer (some ⟨g2, 0, none⟩)], .func (.func 149) #[] #[.pointer (some ⟨e4, 0, none⟩)],
        .func (.func 98) #[] #[.pointer (some ⟨g1, 0, none⟩), .pointer (some ⟨g2, 0, none⟩), .pointer (some ⟨g5, 0, none⟩)], .func (.func 149) #[] #[.pointer (some ⟨e5, 0, none⟩)],
        .func (.func 99) #[] #[.pointer (some ⟨g1, 0, none⟩), .pointer (some ⟨g5, 0, none⟩)], .func (.func 149) #[] #[.pointer (some ⟨e6, 0, none⟩)]] 134) ::
      .blk g1 (.cells #[v] 64) :: .blk g2 (.cells #[.int .i64 p, .int .i64 q] 66) :: .blk g4 (.cells #[.int .i64 0] 40) :: .blk g5 (.cells #[.int .i64 p, .int .i64 q, .int .i64 0] 30) ::
      .blk e1 (.cells #[.int .i64 1] 40) :: .blk e3 (.cells #[.int .i64 200] 40) :: .blk e4 (.cells #[.int .i64 201] 40) :: .blk e5 (.cells #[.int .i64 62] 40) :: .blk e6 (.cells #[.int .i64 202] 40) :: L) w)
    (h : Sl SCart.enc 3 w0 w0.heap.size v l) (hc : CartsRd w0 l) :
    RetsO Tryz.prog 87 #[.slice (some ⟨gr, 0, none⟩) 6 6] w0 w fun u L' => ∃ n, u = .int .i64 (readyG (l.map (·.1)) p q).2 ∧ L' = .blk g5 (.cells #[.int .i64 p, .int .i64 q, .int .i64 n] 30) :: L ∧ ((readyG (l.map (·.1)) p q).2 = 0 → (readyG (l.map (·.1)) p q).1 = ⟨p, q, n⟩) := by
  have hs := h
  have rw_1 : (0 : Int) + 1 = ((1 : Nat) : Int) := rfl
  have rw_2 : ((1 : Nat) : Int) + 1 = ((2 : Nat) : Int) := rfl
  have rw_3 : ((2 : Nat) : Int) + 1 = ((3 : Nat) : Int) := rfl
  have rw_4 : ((3 : Nat) : Int) + 1 = ((4 : Nat) : Int) := rfl
  have rw_5 : ((4 : Nat) : Int) + 1 = ((5 : Nat) : Int) := rfl
  have rw_6 : ((5 : Nat) : Int) + 1 = ((6 : Nat) : Int) := rfl
  cases hm : mayD ⟨p, q, 1⟩ with
  | false =>
    have rw_m := hm
    unfold Go.Fw.RetsO
    refine enterW1 W func87 rfl ntmps87 rfl fun a S => sg S (.ac rfl <| .z) fun a w S => wp_seq_k fun _ hK1 => sg S (.mv rfl <| .ln underlying187 rfl <| .mc rfl <| .z) fun a w S => wp_block (st_rounds 7 (st_round (sg S (.lt (by omega) rfl rfl <| .z) fun a w S => wp_seq_k fun _ hK2 => st_then S (.t rfl) (wp_skip (then_normal (hK2 _ _ (wp_seq_k fun _ hK2 => wp_block (wp_seq_k fun _ hK3 => wp_region_lit (run S (.yy (ys_ixS (j := 0) underlying187 sizeOf134 (.t rfl) (.t rfl) (fun _ => by omega)) rfl <| .la gt134 0 rfl rfl rfl <| .z) fun a w S => st_m (op_alloc S zeroValue134 (cs := _) rfl rfl fun g3 a w S => st_m (op_stW S sizeOf134 (.t rfl) (.t rfl) (k := 0) rfl rfl rfl (by simp [Value.oneCell']) fun a w S => st_nil (then_normal (hK3 _ _ (wp_seq_k fun _ hK3 => wp_region_lit (run S (.fa underlying134 sizeOf53 0 rfl rfl rfl <| .ld gt53 0 rfl rfl rfl <| .xx (ys_callVC (cs := [_]) (.t rfl) call89 .nil (fun hp w W => c89 _ _ _ _ (by exact Wd.cell W (k := 3) rfl rfl) (by exact Wd.cell W (k := 3) rfl rfl))) rfl <| .z) fun a w S => ?_)))))))))))))))
    rw [rw_m] at S
    refine run S (.nt rfl <| .z) fun a w S => st_nil (then_normal (hK3 _ _ (st_then S (.t rfl) (sg S (.fa underlying134 sizeOf132 1 rfl rfl rfl <| .ld gt132 0 rfl rfl rfl <| .xx (ys_callVC (cs := [_]) (.t rfl) call149 .nil (fun hp w W => c149 _ _ _ (by exact Wd.cell W (k := 6) rfl rfl))) rfl <| .as rfl <| .z) fun a w S => wp_ret (in_ret (then_ret (then_ret (in_ret (then_ret (st_ret S (results1 S results87 (Rv.tmp rfl)) ?_))))))))))
    rw [ready_may hm]
    exact ⟨_, _, rfl, S.wd.pk, _, rfl, rfl, fun k => by cases k⟩
  | true =>
  have rw_m := hm
  by_cases hb : badG (l.map (·.1)) = 0
  rotate_left
  · have rw_b := decide_eq_false hb
    unfold Go.Fw.RetsO
    refine enterW1 W func87 rfl ntmps87 rfl fun a S => sg S (.ac rfl <| .z) fun a w S => wp_seq_k fun _ hK1 => sg S (.mv rfl <| .ln underlying187 rfl <| .mc rfl <| .z) fun a w S => wp_block (st_rounds 7 (st_round (sg S (.lt (by omega) rfl rfl <| .z) fun a w S => wp_seq_k fun _ hK2 => st_then S (.t rfl) (wp_skip (then_normal (hK2 _ _ (wp_seq_k fun _ hK2 => wp_block (wp_seq_k fun _ hK3 => wp_region_lit (run S (.yy (ys_ixS (j := 0) underlying187 sizeOf134 (.t rfl) (.t rfl) (fun _ => by omega)) rfl <| .la gt134 0 rfl rfl rfl <| .z) fun a w S => st_m (op_alloc S zeroValue134 (cs := _) rfl rfl fun g3 a w S => st_m (op_stW S sizeOf134 (.t rfl) (.t rfl) (k := 0) rfl rfl rfl (by simp [Value.oneCell']) fun a w S => st_nil (then_normal (hK3 _ _ (wp_seq_k fun _ hK3 => wp_region_lit (run S (.fa underlying134 sizeOf53 0 rfl rfl rfl <| .ld gt53 0 rfl rfl rfl <| .xx (ys_callVC (cs := [_]) (.t rfl) call89 .nil (fun hp w W => c89 _ _ _ _ (by exact Wd.cell W (k := 3) rfl rfl) (by exact Wd.cell W (k := 3) rfl rfl))) rfl <| .z) fun a w S => ?_)))))))))))))))
    rw [rw_m] at S
    refine run S (.nt rfl <| .z) fun a w S => st_nil (then_normal (hK3 _ _ (st_else S (.t rfl) (wp_skip (in_normal (then_normal (hK2 _ _ (wp_region_lit (run S (.ad (by unfold I64; omega) rfl <| .z) fun a w S => ?_)))))))))
    rw [rw_1] at S
    refine run S (.mv rfl <| .z) fun a w S => st_nil (then_normal (st_round (sg S (.lt (by omega) rfl rfl <| .z) fun a w S => wp_seq_k fun _ hK2 => st_then S (.t rfl) (wp_skip (then_normal (hK2 _ _ (wp_seq_k fun _ hK2 => wp_block (wp_seq_k fun _ hK3 => wp_region_lit (run S (.yy (ys_ixS (j := 1) underlying187 sizeOf134 (.t rfl) (.t rfl) (fun _ => by omega)) rfl <| .la gt134 1 rfl rfl rfl <| .z) fun a w S => st_m (op_alloc S zeroValue134 (cs := _) rfl rfl fun g6 a w S => st_m (op_stW S sizeOf134 (.t rfl) (.t rfl) (k := 0) rfl rfl rfl (by simp [Value.oneCell']) fun a w S => st_nil (then_normal (hK3 _ _ (wp_seq_k fun _ hK3 => wp_region_lit (run S (.fa underlying134 sizeOf53 0 rfl rfl rfl <| .ld gt53 0 rfl rfl rfl <| .z) fun a w S => ?_)))))))))))))))
    (replace S := S.pull 5 rfl; try simp only [List.set_cons_zero, List.set_cons_succ, List.eraseIdx_cons_succ, List.eraseIdx_cons_zero] at S; replace S := S.pull 4 rfl; try simp only [List.set_cons_zero, List.set_cons_succ, List.eraseIdx_cons_succ, List.eraseIdx_cons_zero] at S; refine st_m (op_callVO (cs := [_, _]) S (.t rfl) call90 .nil (c90 S.wd (by first | assumption | omega | (dsimp only; omega) | exact Sl.nil_ | exact .old S.wd (by assumption) | exact Sl.of_own S.wd (k := 0) rfl (fun _ => rfl) | exact Sl.of_own S.wd (k := 1) rfl (fun _ => rfl) | exact Sl.of_own S.wd (k := 2) rfl (fun _ => rfl) | exact Sl.of_own S.wd (k := 3) rfl (fun _ => rfl) | exact Sl.of_own S.wd (k := 4) rfl (fun _ => rfl) | exact Sl.of_own S.wd (k := 5) rfl (fun _ => rfl) | exact Sl.of_own S.wd (k := 6) rfl (fun _ => rfl) | exact Sl.of_own S.wd (k := 7) rfl (fun _ => rfl) | exact Sl.of_own S.wd (k := 8) rfl (fun _ => rfl) | exact Sl.of_own S.wd (k := 9) rfl (fun _ => rfl) | exact Sl.of_own S.wd (k := 10) rfl (fun _ => rfl) | exact Sl.of_own S.wd (k := 11) rfl (fun _ => rfl) | (simp at *; omega)) (by first | assumption | omega | (dsimp only; omega) | exact Sl.nil_ | exact .old S.wd (by assumption) | exact Sl.of_own S.wd (k := 0) rfl (fun _ => rfl) | exact Sl.of_own S.wd (k := 1) rfl (fun _ => rfl) | exact Sl.of_own S.wd (k := 2) rfl (fun _ => rfl) | exact Sl.of_own S.wd (k := 3) rfl (fun _ => rfl) | exact Sl.of_own S.wd (k := 4) rfl (fun _ => rfl) | exact Sl.of_own S.wd (k := 5) rfl (fun _ => rfl) | exact Sl.of_own S.wd (k := 6) rfl (fun _ => rfl) | exact Sl.of_own S.wd (k := 7) rfl (fun _ => rfl) | exact Sl.of_own S.wd (k := 8) rfl (fun _ => rfl) | exact Sl.of_own S.wd (k := 9) rfl (fun _ => rfl) | exact Sl.of_own S.wd (k := 10) rfl (fun _ => rfl) | exact Sl.of_own S.wd (k := 11) rfl (fun _ => rfl) | (simp at *; omega))) rfl ?_) <;> clear S a w)
    rintro _ _ ⟨rfl, rfl⟩ a w S
    rw [rw_b] at S
    refine run S (.nt rfl <| .z) fun a w S => st_nil (then_normal (hK3 _ _ (st_then S (.t rfl) (sg S (.fa underlying134 sizeOf132 1 rfl rfl rfl <| .ld gt132 2 rfl rfl rfl <| .xx (ys_callVC (cs := [_]) (.t rfl) call91 .nil (fun hp w W => c91 _ _ _ (by exact Wd.cell W (k := 1) rfl rfl))) rfl <| .as rfl <| .z) fun a w S => wp_ret (in_ret (then_ret (then_ret (in_ret (then_ret (st_ret S (results1 S results87 (Rv.tmp rfl)) ?_))))))))))
    rw [ready_bad hm hb]
    exact ⟨_, _, rfl, S.wd.pk, _, rfl, rfl, fun k => absurd k hb⟩
  have rw_b := decide_eq_true hb
  have rw_bb := hb
  cases ha : allS (l.map (·.1)) with
  | false =>
    have rw_a := ha
    unfold Go.Fw.RetsO
    refine enterW1 W func87 rfl ntmps87 rfl fun a S => sg S (.ac rfl <| .z) fun a w S => wp_seq_k fun _ hK1 => sg S (.mv rfl <| .ln underlying187 rfl <| .mc rfl <| .z) fun a w S => wp_block (st_rounds 7 (st_round (sg S (.lt (by omega) rfl rfl <| .z) fun a w S => wp_seq_k fun _ hK2 => st_then S (.t rfl) (wp_skip (then_normal (hK2 _ _ (wp_seq_k fun _ hK2 => wp_block (wp_seq_k fun _ hK3 => wp_region_lit (run S (.yy (ys_ixS (j := 0) underlying187 sizeOf134 (.t rfl) (.t rfl) (fun _ => by omega)) rfl <| .la gt134 0 rfl rfl rfl <| .z) fun a w S => st_m (op_alloc S zeroValue134 (cs := _) rfl rfl fun g3 a w S => st_m (op_stW S sizeOf134 (.t rfl) (.t rfl) (k := 0) rfl rfl rfl (by simp [Value.oneCell']) fun a w S => st_nil (then_normal (hK3 _ _ (wp_seq_k fun _ hK3 => wp_region_lit (run S (.fa underlying134 sizeOf53 0 rfl rfl rfl <| .ld gt53 0 rfl rfl rfl <| .xx (ys_callVC (cs := [_]) (.t rfl) call89 .nil (fun hp w W => c89 _ _ _ _ (by exact Wd.cell W (k := 3) rfl rfl) (by exact Wd.cell W (k := 3) rfl rfl))) rfl <| .z) fun a w S => ?_)))))))))))))))
    rw [rw_m] at S
    refine run S (.nt rfl <| .z) fun a w S => st_nil (then_normal (hK3 _ _ (st_else S (.t rfl) (wp_skip (in_normal (then_normal (hK2 _ _ (wp_region_lit (run S (.ad (by unfold I64; omega) rfl <| .z) fun a w S => ?_)))))))))
    rw [rw_1] at S
    refine run S (.mv rfl <| .z) fun a w S => st_nil (then_normal (st_round (sg S (.lt (by omega) rfl rfl <| .z) fun a w S => wp_seq_k fun _ hK2 => st_then S (.t rfl) (wp_skip (then_normal (hK2 _ _ (wp_seq_k fun _ hK2 => wp_block (wp_seq_k fun _ hK3 => wp_region_lit (run S (.yy (ys_ixS (j := 1) underlying187 sizeOf134 (.t rfl) (.t rfl) (fun _ => by omega)) rfl <| .la gt134 1 rfl rfl rfl <| .z) fun a w S => st_m (op_alloc S zeroValue134 (cs := _) rfl rfl fun g6 a w S => st_m (op_stW S sizeOf134 (.t rfl) (.t rfl) (k := 0) rfl rfl rfl (by simp [Value.oneCell']) fun a w S => st_nil (then_normal (hK3 _ _ (wp_seq_k fun _ hK3 => wp_region_lit (run S (.fa underlying134 sizeOf53 0 rfl rfl rfl <| .ld gt53 0 rfl rfl rfl <| .z) fun a w S => ?_)))))))))))))))
    (replace S := S.pull 5 rfl; try simp only [List.set_cons_zero, List.set_cons_succ, List.eraseIdx_cons_succ, List.eraseIdx_cons_zero] at S; replace S := S.pull 4 rfl; try simp only [List.set_cons_zero, List.set_cons_succ, List.eraseIdx_cons_succ, List.eraseIdx_cons_zero] at S; refine st_m (op_callVO (cs := [_, _]) S (.t rfl) call90 .nil (c90 S.wd (by first | assumption | omega | (dsimp only; omega) | exact Sl.nil_ | exact .old S.wd (by assumption) | exact Sl.of_own S.wd (k := 0) rfl (fun _ => rfl) | exact Sl.of_own S.wd (k := 1) rfl (fun _ => rfl) | exact Sl.of_own S.wd (k := 2) rfl (fun _ => rfl) | exact Sl.of_own S.wd (k := 3) rfl (fun _ => rfl) | exact Sl.of_own S.wd (k := 4) rfl (fun _ => rfl) | exact Sl.of_own S.wd (k := 5) rfl (fun _ => rfl) | exact Sl.of_own S.wd (k := 6) rfl (fun _ => rfl) | exact Sl.of_own S.wd (k := 7) rfl (fun _ => rfl) | exact Sl.of_own S.wd (k := 8) rfl (fun _ => rfl) | exact Sl.of_own S.wd (k := 9) rfl (fun _ => rfl) | exact Sl.of_own S.wd (k := 10) rfl (fun _ => rfl) | exact Sl.of_own S.wd (k := 11) rfl (fun _ => rfl) | (simp at *; omega)) (by first | assumption | omega | (dsimp only; omega) | exact Sl.nil_ | exact .old S.wd (by assumption) | exact Sl.of_own S.wd (k := 0) rfl (fun _ => rfl) | exact Sl.of_own S.wd (k := 1) rfl (fun _ => rfl) | exact Sl.of_own S.wd (k := 2) rfl (fun _ => rfl) | exact Sl.of_own S.wd (k := 3) rfl (fun _ => rfl) | exact Sl.of_own S.wd (k := 4) rfl (fun _ => rfl) | exact Sl.of_own S.wd (k := 5) rfl (fun _ => rfl) | exact Sl.of_own S.wd (k := 6) rfl (fun _ => rfl) | exact Sl.of_own S.wd (k := 7) rfl (fun _ => rfl) | exact Sl.of_own S.wd (k := 8) rfl (fun _ => rfl) | exact Sl.of_own S.wd (k := 9) rfl (fun _ => rfl) | exact Sl.of_own S.wd (k := 10) rfl (fun _ => rfl) | exact Sl.of_own S.wd (k := 11) rfl (fun _ => rfl) | (simp at *; omega))) rfl ?_) <;> clear S a w)
    rintro _ _ ⟨rfl, rfl⟩ a w S
    rw [rw_b] at S
    rw [rw_bb] at S
    refine run S (.nt rfl <| .z) fun a w S => st_nil (then_normal (hK3 _ _ (st_else S (.t rfl) (wp_skip (in_normal (then_normal (hK2 _ _ (wp_region_lit (run S (.ad (by unfold I64; omega) rfl <| .z) fun a w S => ?_)))))))))
    rw [rw_2] at S
    refine run S (.mv rfl <| .z) fun a w S => st_nil (then_normal (st_round (sg S (.lt (by omega) rfl rfl <| .z) fun a w S => wp_seq_k fun _ hK2 => st_then S (.t rfl) (wp_skip (then_normal (hK2 _ _ (wp_seq_k fun _ hK2 => wp_block (wp_seq_k fun _ hK3 => wp_region_lit (run S (.yy (ys_ixS (j := 2) underlying187 sizeOf134 (.t rfl) (.t rfl) (fun _ => by omega)) rfl <| .la gt134 4 rfl rfl rfl <| .z) fun a w S => st_m (op_alloc S zeroValue134 (cs := _) rfl rfl fun g7 a w S => st_m (op_stW S sizeOf134 (.t rfl) (.t rfl) (k := 0) rfl rfl rfl (by simp [Value.oneCell']) fun a w S => st_nil (then_normal (hK3 _ _ (wp_seq_k fun _ hK3 => wp_region_lit (run S (.fa underlying134 sizeOf53 0 rfl rfl rfl <| .ld gt53 0 rfl rfl rfl <| .xx (ys_callVC (cs := [_]) (.t rfl) call92 .nil (fun hp w W => c92 _ _ _ _ (by exact Wd.cell W (k := 1) rfl rfl) (by exact .old W (by assumption)) (by exact .old W (by assumption)))) rfl <| .z) fun a w S => ?_)))))))))))))))
    rw [rw_a] at S
    refine run S (.nt rfl <| .z) fun a w S => st_nil (then_normal (hK3 _ _ (st_then S (.t rfl) (sg S (.fa underlying134 sizeOf132 1 rfl rfl rfl <| .ld gt132 0 rfl rfl rfl <| .xx (ys_callVC (cs := [_]) (.t rfl) call149 .nil (fun hp w W => c149 _ _ _ (by exact Wd.cell W (k := 9) rfl rfl))) rfl <| .as rfl <| .z) fun a w S => wp_ret (in_ret (then_ret (then_ret (in_ret (then_ret (st_ret S (results1 S results87 (Rv.tmp rfl)) ?_))))))))))
    rw [ready_all hm hb ha]
    exact ⟨_, _, rfl, S.wd.pk, _, rfl, rfl, fun k => by cases k⟩
  | true =>
  have rw_a := ha
  cases l with
  | nil => cases ha
  | cons c r =>
  have hcc := hc c (by simp)
  have hcan : canL c.1.ctx = true := can_ctx (bad_can hb c.1 (by simp))
  have er := ready_rest (c := c.1) (r := r.map (·.1)) hm (by rw [← List.map_cons (f := fun x : SCart => x.1)]; exact hb) (by rw [← List.map_cons (f := fun x : SCart => x.1)]; exact ha)
  rw [← List.map_cons (f := fun x : SCart => x.1)] at er
  cases hlv : livesK c.1 p q with
  | true =>
    have rw_lv := hlv
    rw [if_pos hlv] at er
    unfold Go.Fw.RetsO
    refine enterW1 W func87 rfl ntmps87 rfl fun a S => sg S (.ac rfl <| .z) fun a w S => wp_seq_k fun _ hK1 => sg S (.mv rfl <| .ln underlying187 rfl <| .mc rfl <| .z) fun a w S => wp_block (st_rounds 7 (st_round (sg S (.lt (by omega) rfl rfl <| .z) fun a w S => wp_seq_k fun _ hK2 => st_then S (.t rfl) (wp_skip (then_normal (hK2 _ _ (wp_seq_k fun _ hK2 => wp_block (wp_seq_k fun _ hK3 => wp_region_lit (run S (.yy (ys_ixS (j := 0) underlying187 sizeOf134 (.t rfl) (.t rfl) (fun _ => by omega)) rfl <| .la gt134 0 rfl rfl rfl <| .z) fun a w S => st_m (op_alloc S zeroValue134 (cs := _) rfl rfl fun g3 a w S => st_m (op_stW S sizeOf134 (.t rfl) (.t rfl) (k := 0) rfl rfl rfl (by simp [Value.oneCell']) fun a w S => st_nil (then_normal (hK3 _ _ (wp_seq_k fun _ hK3 => wp_region_lit (run S (.fa underlying134 sizeOf53 0 rfl rfl rfl <| .ld gt53 0 rfl rfl rfl <| .xx (ys_callVC (cs := [_]) (.t rfl) call89 .nil (fun hp w W => c89 _ _ _ _ (by exact Wd.cell W (k := 3) rfl rfl) (by exact Wd.cell W (k := 3) rfl rfl))) rfl <| .z) fun a w S => ?_)))))))))))))))
    rw [rw_m] at S
    refine run S (.nt rfl <| .z) fun a w S => st_nil (then_normal (hK3 _ _ (st_else S (.t rfl) (wp_skip (in_normal (then_normal (hK2 _ _ (wp_region_lit (run S (.ad (by unfold I64; omega) rfl <| .z) fun a w S => ?_)))))))))
    rw [rw_1] at S
    refine run S (.mv rfl <| .z) fun a w S => st_nil (then_normal (st_round (sg S (.lt (by omega) rfl rfl <| .z) fun a w S => wp_seq_k fun _ hK2 => st_then S (.t rfl) (wp_skip (then_normal (hK2 _ _ (wp_seq_k fun _ hK2 => wp_block (wp_seq_k fun _ hK3 => wp_region_lit (run S (.yy (ys_ixS (j := 1) underlying187 sizeOf134 (.t rfl) (.t rfl) (fun _ => by omega)) rfl <| .la gt134 1 rfl rfl rfl <| .z) fun a w S => st_m (op_alloc S zeroValue134 (cs := _) rfl rfl fun g6 a w S => st_m (op_stW S sizeOf134 (.t rfl) (.t rfl) (k := 0) rfl rfl rfl (by simp [Value.oneCell']) fun a w S => st_nil (then_normal (hK3 _ _ (wp_seq_k fun _ hK3 => wp_region_lit (run S (.fa underlying134 sizeOf53 0 rfl rfl rfl <| .ld gt53 0 rfl rfl rfl <| .z) fun a w S => ?_)))))))))))))))
    (replace S := S.pull 5 rfl; try simp only [List.set_cons_zero, List.set_cons_succ, List.eraseIdx_cons_succ, List.eraseIdx_cons_zero] at S; replace S := S.pull 4 rfl; try simp only [List.set_cons_zero, List.set_cons_succ, List.eraseIdx_cons_succ, List.eraseIdx_cons_zero] at S; refine st_m (op_callVO (cs := [_, _]) S (.t rfl) call90 .nil (c90 S.wd (by first | assumption | omega | (dsimp only; omega) | exact Sl.nil_ | exact .old S.wd (by assumption) | exact Sl.of_own S.wd (k := 0) rfl (fun _ => rfl) | exact Sl.of_own S.wd (k := 1) rfl (fun _ => rfl) | exact Sl.of_own S.wd (k := 2) rfl (fun _ => rfl) | exact Sl.of_own S.wd (k := 3) rfl (fun _ => rfl) | exact Sl.of_own S.wd (k := 4) rfl (fun _ => rfl) | exact Sl.of_own S.wd (k := 5) rfl (fun _ => rfl) | exact Sl.of_own S.wd (k := 6) rfl (fun _ => rfl) | exact Sl.of_own S.wd (k := 7) rfl (fun _ => rfl) | exact Sl.of_own S.wd (k := 8) rfl (fun _ => rfl) | exact Sl.of_own S.wd (k := 9) rfl (fun _ => rfl) | exact Sl.of_own S.wd (k := 10) rfl (fun _ => rfl) | exact Sl.of_own S.wd (k := 11) rfl (fun _ => rfl) | (simp at *; omega)) (by first | assumption | omega | (dsimp only; omega) | exact Sl.nil_ | exact .old S.wd (by assumption) | exact Sl.of_own S.wd (k := 0) rfl (fun _ => rfl) | exact Sl.of_own S.wd (k := 1) rfl (fun _ => rfl) | exact Sl.of_own S.wd (k := 2) rfl (fun _ => rfl) | exact Sl.of_own S.wd (k := 3) rfl (fun _ => rfl) | exact Sl.of_own S.wd (k := 4) rfl (fun _ => rfl) | exact Sl.of_own S.wd (k := 5) rfl (fun _ => rfl) | exact Sl.of_own S.wd (k := 6) rfl (fun _ => rfl) | exact Sl.of_own S.wd (k := 7) rfl (fun _ => rfl) | exact Sl.of_own S.wd (k := 8) rfl (fun _ => rfl) | exact Sl.of_own S.wd (k := 9) rfl (fun _ => rfl) | exact Sl.of_own S.wd (k := 10) rfl (fun _ => rfl) | exact Sl.of_own S.wd (k := 11) rfl (fun _ => rfl) | (simp at *; omega))) rfl ?_) <;> clear S a w)
    rintro _ _ ⟨rfl, rfl⟩ a w S
    rw [rw_b] at S
    rw [rw_bb] at S
    refine run S (.nt rfl <| .z) fun a w S => st_nil (then_normal (hK3 _ _ (st_else S (.t rfl) (wp_skip (in_normal (then_normal (hK2 _ _ (wp_region_lit (run S (.ad (by unfold I64; omega) rfl <| .z) fun a w S => ?_)))))))))
    rw [rw_2] at S
    refine run S (.mv rfl <| .z) fun a w S => st_nil (then_normal (st_round (sg S (.lt (by omega) rfl rfl <| .z) fun a w S => wp_seq_k fun _ hK2 => st_then S (.t rfl) (wp_skip (then_normal (hK2 _ _ (wp_seq_k fun _ hK2 => wp_block (wp_seq_k fun _ hK3 => wp_region_lit (run S (.yy (ys_ixS (j := 2) underlying187 sizeOf134 (.t rfl) (.t rfl) (fun _ => by omega)) rfl <| .la gt134 4 rfl rfl rfl <| .z) fun a w S => st_m (op_alloc S zeroValue134 (cs := _) rfl rfl fun g7 a w S => st_m (op_stW S sizeOf134 (.t rfl) (.t rfl) (k := 0) rfl rfl rfl (by simp [Value.oneCell']) fun a w S => st_nil (then_normal (hK3 _ _ (wp_seq_k fun _ hK3 => wp_region_lit (run S (.fa underlying134 sizeOf53 0 rfl rfl rfl <| .ld gt53 0 rfl rfl rfl <| .xx (ys_callVC (cs := [_]) (.t rfl) call92 .nil (fun hp w W => c92 _ _ _ _ (by exact Wd.cell W (k := 1) rfl rfl) (by exact .old W (by assumption)) (by exact .old W (by assumption)))) rfl <| .z) fun a w S => ?_)))))))))))))))
    rw [rw_a] at S
    refine run S (.nt rfl <| .z) fun a w S => st_nil (then_normal (hK3 _ _ (st_else S (.t rfl) (wp_skip (in_normal (then_normal (hK2 _ _ (wp_region_lit (run S (.ad (by unfold I64; omega) rfl <| .z) fun a w S => ?_)))))))))
    rw [rw_3] at S
    refine run S (.mv rfl <| .z) fun a w S => st_nil (then_normal (st_round (sg S (.lt (by omega) rfl rfl <| .z) fun a w S => wp_seq_k fun _ hK2 => st_then S (.t rfl) (wp_skip (then_normal (hK2 _ _ (wp_seq_k fun _ hK2 => wp_block (wp_seq_k fun _ hK3 => wp_region_lit (run S (.yy (ys_ixS (j := 3) underlying187 sizeOf134 (.t rfl) (.t rfl) (fun _ => by omega)) rfl <| .la gt134 5 rfl rfl rfl <| .z) fun a w S => st_m (op_alloc S zeroValue134 (cs := _) rfl rfl fun g8 a w S => st_m (op_stW S sizeOf134 (.t rfl) (.t rfl) (k := 0) rfl rfl rfl (by simp [Value.oneCell']) fun a w S => st_nil (then_normal (hK3 _ _ (wp_seq_k fun _ hK3 => wp_region_lit (run S (.fa underlying134 sizeOf53 0 rfl rfl rfl <| .ld gt53 0 rfl rfl rfl <| .xx (ys_callVC (cs := [_, _]) (.t rfl) call96 .nil (fun hp w W => c96 _ _ _ _ _ _ _ _ (by exact Wd.cell W (k := 2) rfl rfl) (by exact Wd.cell W (k := 7) rfl rfl) (by exact Wd.cell W (k := 7) rfl rfl) (by exact .old W (by assumption)) (by exact .old W (by assumption)))) rfl <| .z) fun a w S => ?_)))))))))))))))
    rw [rw_lv] at S
    refine run S (.nt rfl <| .z) fun a w S => st_nil (then_normal (hK3 _ _ (st_then S (.t rfl) (sg S (.fa underlying134 sizeOf132 1 rfl rfl rfl <| .ld gt132 0 rfl rfl rfl <| .xx (ys_callVC (cs := [_]) (.t rfl) call149 .nil (fun hp w W => c149 _ _ _ (by exact Wd.cell W (k := 11) rfl rfl))) rfl <| .as rfl <| .z) fun a w S => wp_ret (in_ret (then_ret (then_ret (in_ret (then_ret (st_ret S (results1 S results87 (Rv.tmp rfl)) ?_))))))))))
    rw [er]
    exact ⟨_, _, rfl, S.wd.pk, _, rfl, rfl, fun k => by cases k⟩
  | false =>
  have rw_lv := hlv
  rw [if_neg (by rw [hlv]; simp)] at er
  have htn := top_nonneg (can_nf hcan) p q
  by_cases ht : c.1.ctx.top p q = 0
  · have rw_t : decide (0 < c.1.ctx.top p q) = false := decide_eq_false (by omega)
    rw [if_pos ht] at er
    unfold Go.Fw.RetsO
    refine enterW1 W func87 rfl ntmps87 rfl fun a S => sg S (.ac rfl <| .z) fun a w S => wp_seq_k fun _ hK1 => sg S (.mv rfl <| .ln underlying187 rfl <| .mc rfl <| .z) fun a w S => wp_block (st_rounds 7 (st_round (sg S (.lt (by omega) rfl rfl <| .z) fun a w S => wp_seq_k fun _ hK2 => st_then S (.t rfl) (wp_skip (then_normal (hK2 _ _ (wp_seq_k fun _ hK2 => wp_block (wp_seq_k fun _ hK3 => wp_region_lit (run S (.yy (ys_ixS (j := 0) underlying187 sizeOf134 (.t rfl) (.t rfl) (fun _ => by omega)) rfl <| .la gt134 0 rfl rfl rfl <| .z) fun a w S => st_m (op_alloc S zeroValue134 (cs := _) rfl rfl fun g3 a w S => st_m (op_stW S sizeOf134 (.t rfl) (.t rfl) (k := 0) rfl rfl rfl (by simp [Value.oneCell']) fun a w S => st_nil (then_normal (hK3 _ _ (wp_seq_k fun _ hK3 => wp_region_lit (run S (.fa underlying134 sizeOf53 0 rfl rfl rfl <| .ld gt53 0 rfl rfl rfl <| .xx (ys_callVC (cs := [_]) (.t rfl) call89 .nil (fun hp w W => c89 _ _ _ _ (by exact Wd.cell W (k := 3) rfl rfl) (by exact Wd.cell W (k := 3) rfl rfl))) rfl <| .z) fun a w S => ?_)))))))))))))))
    rw [rw_m] at S
    refine run S (.nt rfl <| .z) fun a w S => st_nil (then_normal (hK3 _ _ (st_else S (.t rfl) (wp_skip (in_normal (then_normal (hK2 _ _ (wp_region_lit (run S (.ad (by unfold I64; omega) rfl <| .z) fun a w S => ?_)))))))))
    rw [rw_1] at S
    refine run S (.mv rfl <| .z) fun a w S => st_nil (then_normal (st_round (sg S (.lt (by omega) rfl rfl <| .z) fun a w S => wp_seq_k fun _ hK2 => st_then S (.t rfl) (wp_skip (then_normal (hK2 _ _ (wp_seq_k fun _ hK2 => wp_block (wp_seq_k fun _ hK3 => wp_region_lit (run S (.yy (ys_ixS (j := 1) underlying187 sizeOf134 (.t rfl) (.t rfl) (fun _ => by omega)) rfl <| .la gt134 1 rfl rfl rfl <| .z) fun a w S => st_m (op_alloc S zeroValue134 (cs := _) rfl rfl fun g6 a w S => st_m (op_stW S sizeOf134 (.t rfl) (.t rfl) (k := 0) rfl rfl rfl (by simp [Value.oneCell']) fun a w S => st_nil (then_normal (hK3 _ _ (wp_seq_k fun _ hK3 => wp_region_lit (run S (.fa underlying134 sizeOf53 0 rfl rfl rfl <| .ld gt53 0 rfl rfl rfl <| .z) fun a w S => ?_)))))))))))))))
    (replace S := S.pull 5 rfl; try simp only [List.set_cons_zero, List.set_cons_succ, List.eraseIdx_cons_succ, List.eraseIdx_cons_zero] at S; replace S := S.pull 4 rfl; try simp only [List.set_cons_zero, List.set_cons_succ, List.eraseIdx_cons_succ, List.eraseIdx_cons_zero] at S; refine st_m (op_callVO (cs := [_, _]) S (.t rfl) call90 .nil (c90 S.wd (by first | assumption | omega | (dsimp only; omega) | exact Sl.nil_ | exact .old S.wd (by assumption) | exact Sl.of_own S.wd (k := 0) rfl (fun _ => rfl) | exact Sl.of_own S.wd (k := 1) rfl (fun _ => rfl) | exact Sl.of_own S.wd (k := 2) rfl (fun _ => rfl) | exact Sl.of_own S.wd (k := 3) rfl (fun _ => rfl) | exact Sl.of_own S.wd (k := 4) rfl (fun _ => rfl) | exact Sl.of_own S.wd (k := 5) rfl (fun _ => rfl) | exact Sl.of_own S.wd (k := 6) rfl (fun _ => rfl) | exact Sl.of_own S.wd (k := 7) rfl (fun _ => rfl) | exact Sl.of_own S.wd (k := 8) rfl (fun _ => rfl) | exact Sl.of_own S.wd (k := 9) rfl (fun _ => rfl) | exact Sl.of_own S.wd (k := 10) rfl (fun _ => rfl) | exact Sl.of_own S.wd (k := 11) rfl (fun _ => rfl) | (simp at *; omega)) (by first | assumption | omega | (dsimp only; omega) | exact Sl.nil_ | exact .old S.wd (by assumption) | exact Sl.of_own S.wd (k := 0) rfl (fun _ => rfl) | exact Sl.of_own S.wd (k := 1) rfl (fun _ => rfl) | exact Sl.of_own S.wd (k := 2) rfl (fun _ => rfl) | exact Sl.of_own S.wd (k := 3) rfl (fun _ => rfl) | exact Sl.of_own S.wd (k := 4) rfl (fun _ => rfl) | exact Sl.of_own S.wd (k := 5) rfl (fun _ => rfl) | exact Sl.of_own S.wd (k := 6) rfl (fun _ => rfl) | exact Sl.of_own S.wd (k := 7) rfl (fun _ => rfl) | exact Sl.of_own S.wd (k := 8) rfl (fun _ => rfl) | exact Sl.of_own S.wd (k := 9) rfl (fun _ => rfl) | exact Sl.of_own S.wd (k := 10) rfl (fun _ => rfl) | exact Sl.of_own S.wd (k := 11) rfl (fun _ => rfl) | (simp at *; omega))) rfl ?_) <;> clear S a w)
    rintro _ _ ⟨rfl, rfl⟩ a w S
    rw [rw_b] at S
    rw [rw_bb] at S
    refine run S (.nt rfl <| .z) fun a w S => st_nil (then_normal (hK3 _ _ (st_else S (.t rfl) (wp_skip (in_normal (then_normal (hK2 _ _ (wp_region_lit (run S (.ad (by unfold I64; omega) rfl <| .z) fun a w S => ?_)))))))))
    rw [rw_2] at S
    refine run S (.mv rfl <| .z) fun a w S => st_nil (then_normal (st_round (sg S (.lt (by omega) rfl rfl <| .z) fun a w S => wp_seq_k fun _ hK2 => st_then S (.t rfl) (wp_skip (then_normal (hK2 _ _ (wp_seq_k fun _ hK2 => wp_block (wp_seq_k fun _ hK3 => wp_region_lit (run S (.yy (ys_ixS (j := 2) underlying187 sizeOf134 (.t rfl) (.t rfl) (fun _ => by omega)) rfl <| .la gt134 4 rfl rfl rfl <| .z) fun a w S => st_m (op_alloc S zeroValue134 (cs := _) rfl rfl fun g7 a w S => st_m (op_stW S sizeOf134 (.t rfl) (.t rfl) (k := 0) rfl rfl rfl (by simp [Value.oneCell']) fun a w S => st_nil (then_normal (hK3 _ _ (wp_seq_k fun _ hK3 => wp_region_lit (run S (.fa underlying134 sizeOf53 0 rfl rfl rfl <| .ld gt53 0 rfl rfl rfl <| .xx (ys_callVC (cs := [_]) (.t rfl) call92 .nil (fun hp w W => c92 _ _ _ _ (by exact Wd.cell W (k := 1) rfl rfl) (by exact .old W (by assumption)) (by exact .old W (by assumption)))) rfl <| .z) fun a w S => ?_)))))))))))))))
    rw [rw_a] at S
    refine run S (.nt rfl <| .z) fun a w S => st_nil (then_normal (hK3 _ _ (st_else S (.t rfl) (wp_skip (in_normal (then_normal (hK2 _ _ (wp_region_lit (run S (.ad (by unfold I64; omega) rfl <| .z) fun a w S => ?_)))))))))
    rw [rw_3] at S
    refine run S (.mv rfl <| .z) fun a w S => st_nil (then_normal (st_round (sg S (.lt (by omega) rfl rfl <| .z) fun a w S => wp_seq_k fun _ hK2 => st_then S (.t rfl) (wp_skip (then_normal (hK2 _ _ (wp_seq_k fun _ hK2 => wp_block (wp_seq_k fun _ hK3 => wp_region_lit (run S (.yy (ys_ixS (j := 3) underlying187 sizeOf134 (.t rfl) (.t rfl) (fun _ => by omega)) rfl <| .la gt134 5 rfl rfl rfl <| .z) fun a w S => st_m (op_alloc S zeroValue134 (cs := _) rfl rfl fun g8 a w S => st_m (op_stW S sizeOf134 (.t rfl) (.t rfl) (k := 0) rfl rfl rfl (by simp [Value.oneCell']) fun a w S => st_nil (then_normal (hK3 _ _ (wp_seq_k fun _ hK3 => wp_region_lit (run S (.fa underlying134 sizeOf53 0 rfl rfl rfl <| .ld gt53 0 rfl rfl rfl <| .xx (ys_callVC (cs := [_, _]) (.t rfl) call96 .nil (fun hp w W => c96 _ _ _ _ _ _ _ _ (by exact Wd.cell W (k := 2) rfl rfl) (by exact Wd.cell W (k := 7) rfl rfl) (by exact Wd.cell W (k := 7) rfl rfl) (by exact .old W (by assumption)) (by exact .old W (by assumption)))) rfl <| .z) fun a w S => ?_)))))))))))))))
    rw [rw_lv] at S
    refine run S (.nt rfl <| .z) fun a w S => st_nil (then_normal (hK3 _ _ (st_else S (.t rfl) (wp_skip (in_normal (then_normal (hK2 _ _ (wp_region_lit (run S (.ad (by unfold I64; omega) rfl <| .z) fun a w S => ?_)))))))))
    rw [rw_4] at S
    refine run S (.mv rfl <| .z) fun a w S => st_nil (then_normal (st_round (sg S (.lt (by omega) rfl rfl <| .z) fun a w S => wp_seq_k fun _ hK2 => st_then S (.t rfl) (wp_skip (then_normal (hK2 _ _ (wp_seq_k fun _ hK2 => wp_block (wp_seq_k fun _ hK3 => wp_region_lit (run S (.yy (ys_ixS (j := 4) underlying187 sizeOf134 (.t rfl) (.t rfl) (fun _ => by omega)) rfl <| .la gt134 6 rfl rfl rfl <| .z) fun a w S => st_m (op_alloc S zeroValue134 (cs := _) rfl rfl fun g9 a w S => st_m (op_stW S sizeOf134 (.t rfl) (.t rfl) (k := 0) rfl rfl rfl (by simp [Value.oneCell']) fun a w S => st_nil (then_normal (hK3 _ _ (wp_seq_k fun _ hK3 => wp_region_lit (run S (.fa underlying134 sizeOf53 0 rfl rfl rfl <| .ld gt53 0 rfl rfl rfl <| .z) fun a w S => ?_)))))))))))))))
    (replace S := S.pull 9 rfl; try simp only [List.set_cons_zero, List.set_cons_succ, List.eraseIdx_cons_succ, List.eraseIdx_cons_zero] at S; replace S := S.pull 9 rfl; try simp only [List.set_cons_zero, List.set_cons_succ, List.eraseIdx_cons_succ, List.eraseIdx_cons_zero] at S; replace S := S.pull 5 rfl; try simp only [List.set_cons_zero, List.set_cons_succ, List.eraseIdx_cons_succ, List.eraseIdx_cons_zero] at S; refine st_m (op_callVO (cs := [_, _, _]) S (.t rfl) call98 .nil (c98 S.wd (by first | assumption | omega | (dsimp only; omega) | exact Sl.nil_ | exact .old S.wd (by assumption) | exact Sl.of_own S.wd (k := 0) rfl (fun _ => rfl) | exact Sl.of_own S.wd (k := 1) rfl (fun _ => rfl) | exact Sl.of_own S.wd (k := 2) rfl (fun _ => rfl) | exact Sl.of_own S.wd (k := 3) rfl (fun _ => rfl) | exact Sl.of_own S.wd (k := 4) rfl (fun _ => rfl) | exact Sl.of_own S.wd (k := 5) rfl (fun _ => rfl) | exact Sl.of_own S.wd (k := 6) rfl (fun _ => rfl) | exact Sl.of_own S.wd (k := 7) rfl (fun _ => rfl) | exact Sl.of_own S.wd (k := 8) rfl (fun _ => rfl) | exact Sl.of_own S.wd (k := 9) rfl (fun _ => rfl) | exact Sl.of_own S.wd (k := 10) rfl (fun _ => rfl) | exact Sl.of_own S.wd (k := 11) rfl (fun _ => rfl) | exact Sl.of_own S.wd (k := 12) rfl (fun _ => rfl) | exact Sl.of_own S.wd (k := 13) rfl (fun _ => rfl) | exact Sl.of_own S.wd (k := 14) rfl (fun _ => rfl) | (simp at *; omega)) (by first | assumption | omega | (dsimp only; omega) | exact Sl.nil_ | exact .old S.wd (by assumption) | exact Sl.of_own S.wd (k := 0) rfl (fun _ => rfl) | exact Sl.of_own S.wd (k := 1) rfl (fun _ => rfl) | exact Sl.of_own S.wd (k := 2) rfl (fun _ => rfl) | exact Sl.of_own S.wd (k := 3) rfl (fun _ => rfl) | exact Sl.of_own S.wd (k := 4) rfl (fun _ => rfl) | exact Sl.of_own S.wd (k := 5) rfl (fun _ => rfl) | exact Sl.of_own S.wd (k := 6) rfl (fun _ => rfl) | exact Sl.of_own S.wd (k := 7) rfl (fun _ => rfl) | exact Sl.of_own S.wd (k := 8) rfl (fun _ => rfl) | exact Sl.of_own S.wd (k := 9) rfl (fun _ => rfl) | exact Sl.of_own S.wd (k := 10) rfl (fun _ => rfl) | exact Sl.of_own S.wd (k := 11) rfl (fun _ => rfl) | exact Sl.of_own S.wd (k := 12) rfl (fun _ => rfl) | exact Sl.of_own S.wd (k := 13) rfl (fun _ => rfl) | exact Sl.of_own S.wd (k := 14) rfl (fun _ => rfl) | (simp at *; omega))) rfl ?_) <;> clear S a w)
    rintro _ _ ⟨rfl, rfl⟩ a w S
    rw [rw_t] at S
    refine run S (.nt rfl <| .z) fun a w S => st_nil (then_normal (hK3 _ _ (st_then S (.t rfl) (sg S (.fa underlying134 sizeOf132 1 rfl rfl rfl <| .ld gt132 3 rfl rfl rfl <| .xx (ys_callVC (cs := [_]) (.t rfl) call149 .nil (fun hp w W => c149 _ _ _ (by exact Wd.cell W (k := 13) rfl rfl))) rfl <| .as rfl <| .z) fun a w S => wp_ret (in_ret (then_ret (then_ret (in_ret (then_ret (st_ret S (results1 S results87 (Rv.tmp rfl)) ?_))))))))))
    rw [er]
    exact ⟨_, _, rfl, S.wd.pk, _, rfl, rfl, fun k => by cases k⟩
  have rw_t : decide (0 < c.1.ctx.top p q) = true := decide_eq_true (by omega)
  rw [if_neg ht] at er
  have hgap := no_gap (can_nf hcan) (p := p) (q := q) ht
  cases hg : (c.1.ctx.cloud.any fun d => decide (d.node = p ∧ d.life = q)) with
  | true =>
    rw [hg] at hgap
    have rw_g := hgap
    rw [if_pos hg] at er
    unfold Go.Fw.RetsO
    refine enterW1 W func87 rfl ntmps87 rfl fun a S => sg S (.ac rfl <| .z) fun a w S => wp_seq_k fun _ hK1 => sg S (.mv rfl <| .ln underlying187 rfl <| .mc rfl <| .z) fun a w S => wp_block (st_rounds 7 (st_round (sg S (.lt (by omega) rfl rfl <| .z) fun a w S => wp_seq_k fun _ hK2 => st_then S (.t rfl) (wp_skip (then_normal (hK2 _ _ (wp_seq_k fun _ hK2 => wp_block (wp_seq_k fun _ hK3 => wp_region_lit (run S (.yy (ys_ixS (j := 0) underlying187 sizeOf134 (.t rfl) (.t rfl) (fun _ => by omega)) rfl <| .la gt134 0 rfl rfl rfl <| .z) fun a w S => st_m (op_alloc S zeroValue134 (cs := _) rfl rfl fun g3 a w S => st_m (op_stW S sizeOf134 (.t rfl) (.t rfl) (k := 0) rfl rfl rfl (by simp [Value.oneCell']) fun a w S => st_nil (then_normal (hK3 _ _ (wp_seq_k fun _ hK3 => wp_region_lit (run S (.fa underlying134 sizeOf53 0 rfl rfl rfl <| .ld gt53 0 rfl rfl rfl <| .xx (ys_callVC (cs := [_]) (.t rfl) call89 .nil (fun hp w W => c89 _ _ _ _ (by exact Wd.cell W (k := 3) rfl rfl) (by exact Wd.cell W (k := 3) rfl rfl))) rfl <| .z) fun a w S => ?_)))))))))))))))
    rw [rw_m] at S
    refine run S (.nt rfl <| .z) fun a w S => st_nil (then_normal (hK3 _ _ (st_else S (.t rfl) (wp_skip (in_normal (then_normal (hK2 _ _ (wp_region_lit (run S (.ad (by unfold I64; omega) rfl <| .z) fun a w S => ?_)))))))))
    rw [rw_1] at S
    refine run S (.mv rfl <| .z) fun a w S => st_nil (then_normal (st_round (sg S (.lt (by omega) rfl rfl <| .z) fun a w S => wp_seq_k fun _ hK2 => st_then S (.t rfl) (wp_skip (then_normal (hK2 _ _ (wp_seq_k fun _ hK2 => wp_block (wp_seq_k fun _ hK3 => wp_region_lit (run S (.yy (ys_ixS (j := 1) underlying187 sizeOf134 (.t rfl) (.t rfl) (fun _ => by omega)) rfl <| .la gt134 1 rfl rfl rfl <| .z) fun a w S => st_m (op_alloc S zeroValue134 (cs := _) rfl rfl fun g6 a w S => st_m (op_stW S sizeOf134 (.t rfl) (.t rfl) (k := 0) rfl rfl rfl (by simp [Value.oneCell']) fun a w S => st_nil (then_normal (hK3 _ _ (wp_seq_k fun _ hK3 => wp_region_lit (run S (.fa underlying134 sizeOf53 0 rfl rfl rfl <| .ld gt53 0 rfl rfl rfl <| .z) fun a w S => ?_)))))))))))))))
    (replace S := S.pull 5 rfl; try simp only [List.set_cons_zero, List.set_cons_succ, List.eraseIdx_cons_succ, List.eraseIdx_cons_zero] at S; replace S := S.pull 4 rfl; try simp only [List.set_cons_zero, List.set_cons_succ, List.eraseIdx_cons_succ, List.eraseIdx_cons_zero] at S; refine st_m (op_callVO (cs := [_, _]) S (.t rfl) call90 .nil (c90 S.wd (by first | assumption | omega | (dsimp only; omega) | exact Sl.nil_ | exact .old S.wd (by assumption) | exact Sl.of_own S.wd (k := 0) rfl (fun _ => rfl) | exact Sl.of_own S.wd (k := 1) rfl (fun _ => rfl) | exact Sl.of_own S.wd (k := 2) rfl (fun _ => rfl) | exact Sl.of_own S.wd (k := 3) rfl (fun _ => rfl) | exact Sl.of_own S.wd (k := 4) rfl (fun _ => rfl) | exact Sl.of_own S.wd (k := 5) rfl (fun _ => rfl) | exact Sl.of_own S.wd (k := 6) rfl (fun _ => rfl) | exact Sl.of_own S.wd (k := 7) rfl (fun _ => rfl) | exact Sl.of_own S.wd (k := 8) rfl (fun _ => rfl) | exact Sl.of_own S.wd (k := 9) rfl (fun _ => rfl) | exact Sl.of_own S.wd (k := 10) rfl (fun _ => rfl) | exact Sl.of_own S.wd (k := 11) rfl (fun _ => rfl) | (simp at *; omega)) (by first | assumption | omega | (dsimp only; omega) | exact Sl.nil_ | exact .old S.wd (by assumption) | exact Sl.of_own S.wd (k := 0) rfl (fun _ => rfl) | exact Sl.of_own S.wd (k := 1) rfl (fun _ => rfl) | exact Sl.of_own S.wd (k := 2) rfl (fun _ => rfl) | exact Sl.of_own S.wd (k := 3) rfl (fun _ => rfl) | exact Sl.of_own S.wd (k := 4) rfl (fun _ => rfl) | exact Sl.of_own S.wd (k := 5) rfl (fun _ => rfl) | exact Sl.of_own S.wd (k := 6) rfl (fun _ => rfl) | exact Sl.of_own S.wd (k := 7) rfl (fun _ => rfl) | exact Sl.of_own S.wd (k := 8) rfl (fun _ => rfl) | exact Sl.of_own S.wd (k := 9) rfl (fun _ => rfl) | exact Sl.of_own S.wd (k := 10) rfl (fun _ => rfl) | exact Sl.of_own S.wd (k := 11) rfl (fun _ => rfl) | (simp at *; omega))) rfl ?_) <;> clear S a w)
    rintro _ _ ⟨rfl, rfl⟩ a w S
    rw [rw_b] at S
    rw [rw_bb] at S
    refine run S (.nt rfl <| .z) fun a w S => st_nil (then_normal (hK3 _ _ (st_else S (.t rfl) (wp_skip (in_normal (then_normal (hK2 _ _ (wp_region_lit (run S (.ad (by unfold I64; omega) rfl <| .z) fun a w S => ?_)))))))))
    rw [rw_2] at S
    refine run S (.mv rfl <| .z) fun a w S => st_nil (then_normal (st_round (sg S (.lt (by omega) rfl rfl <| .z) fun a w S => wp_seq_k fun _ hK2 => st_then S (.t rfl) (wp_skip (then_normal (hK2 _ _ (wp_seq_k fun _ hK2 => wp_block (wp_seq_k fun _ hK3 => wp_region_lit (run S (.yy (ys_ixS (j := 2) underlying187 sizeOf134 (.t rfl) (.t rfl) (fun _ => by omega)) rfl <| .la gt134 4 rfl rfl rfl <| .z) fun a w S => st_m (op_alloc S zeroValue134 (cs := _) rfl rfl fun g7 a w S => st_m (op_stW S sizeOf134 (.t rfl) (.t rfl) (k := 0) rfl rfl rfl (by simp [Value.oneCell']) fun a w S => st_nil (then_normal (hK3 _ _ (wp_seq_k fun _ hK3 => wp_region_lit (run S (.fa underlying134 sizeOf53 0 rfl rfl rfl <| .ld gt53 0 rfl rfl rfl <| .xx (ys_callVC (cs := [_]) (.t rfl) call92 .nil (fun hp w W => c92 _ _ _ _ (by exact Wd.cell W (k := 1) rfl rfl) (by exact .old W (by assumption)) (by exact .old W (by assumption)))) rfl <| .z) fun a w S => ?_)))))))))))))))
    rw [rw_a] at S
    refine run S (.nt rfl <| .z) fun a w S => st_nil (then_normal (hK3 _ _ (st_else S (.t rfl) (wp_skip (in_normal (then_normal (hK2 _ _ (wp_region_lit (run S (.ad (by unfold I64; omega) rfl <| .z) fun a w S => ?_)))))))))
    rw [rw_3] at S
    refine run S (.mv rfl <| .z) fun a w S => st_nil (then_normal (st_round (sg S (.lt (by omega) rfl rfl <| .z) fun a w S => wp_seq_k fun _ hK2 => st_then S (.t rfl) (wp_skip (then_normal (hK2 _ _ (wp_seq_k fun _ hK2 => wp_block (wp_seq_k fun _ hK3 => wp_region_lit (run S (.yy (ys_ixS (j := 3) underlying187 sizeOf134 (.t rfl) (.t rfl) (fun _ => by omega)) rfl <| .la gt134 5 rfl rfl rfl <| .z) fun a w S => st_m (op_alloc S zeroValue134 (cs := _) rfl rfl fun g8 a w S => st_m (op_stW S sizeOf134 (.t rfl) (.t rfl) (k := 0) rfl rfl rfl (by simp [Value.oneCell']) fun a w S => st_nil (then_normal (hK3 _ _ (wp_seq_k fun _ hK3 => wp_region_lit (run S (.fa underlying134 sizeOf53 0 rfl rfl rfl <| .ld gt53 0 rfl rfl rfl <| .xx (ys_callVC (cs := [_, _]) (.t rfl) call96 .nil (fun hp w W => c96 _ _ _ _ _ _ _ _ (by exact Wd.cell W (k := 2) rfl rfl) (by exact Wd.cell W (k := 7) rfl rfl) (by exact Wd.cell W (k := 7) rfl rfl) (by exact .old W (by assumption)) (by exact .old W (by assumption)))) rfl <| .z) fun a w S => ?_)))))))))))))))
    rw [rw_lv] at S
    refine run S (.nt rfl <| .z) fun a w S => st_nil (then_normal (hK3 _ _ (st_else S (.t rfl) (wp_skip (in_normal (then_normal (hK2 _ _ (wp_region_lit (run S (.ad (by unfold I64; omega) rfl <| .z) fun a w S => ?_)))))))))
    rw [rw_4] at S
    refine run S (.mv rfl <| .z) fun a w S => st_nil (then_normal (st_round (sg S (.lt (by omega) rfl rfl <| .z) fun a w S => wp_seq_k fun _ hK2 => st_then S (.t rfl) (wp_skip (then_normal (hK2 _ _ (wp_seq_k fun _ hK2 => wp_block (wp_seq_k fun _ hK3 => wp_region_lit (run S (.yy (ys_ixS (j := 4) underlying187 sizeOf134 (.t rfl) (.t rfl) (fun _ => by omega)) rfl <| .la gt134 6 rfl rfl rfl <| .z) fun a w S => st_m (op_alloc S zeroValue134 (cs := _) rfl rfl fun g9 a w S => st_m (op_stW S sizeOf134 (.t rfl) (.t rfl) (k := 0) rfl rfl rfl (by simp [Value.oneCell']) fun a w S => st_nil (then_normal (hK3 _ _ (wp_seq_k fun _ hK3 => wp_region_lit (run S (.fa underlying134 sizeOf53 0 rfl rfl rfl <| .ld gt53 0 rfl rfl rfl <| .z) fun a w S => ?_)))))))))))))))
    (replace S := S.pull 9 rfl; try simp only [List.set_cons_zero, List.set_cons_succ, List.eraseIdx_cons_succ, List.eraseIdx_cons_zero] at S; replace S := S.pull 9 rfl; try simp only [List.set_cons_zero, List.set_cons_succ, List.eraseIdx_cons_succ, List.eraseIdx_cons_zero] at S; replace S := S.pull 5 rfl; try simp only [List.set_cons_zero, List.set_cons_succ, List.eraseIdx_cons_succ, List.eraseIdx_cons_zero] at S; refine st_m (op_callVO (cs := [_, _, _]) S (.t rfl) call98 .nil (c98 S.wd (by first | assumption | omega | (dsimp only; omega) | exact Sl.nil_ | exact .old S.wd (by assumption) | exact Sl.of_own S.wd (k := 0) rfl (fun _ => rfl) | exact Sl.of_own S.wd (k := 1) rfl (fun _ => rfl) | exact Sl.of_own S.wd (k := 2) rfl (fun _ => rfl) | exact Sl.of_own S.wd (k := 3) rfl (fun _ => rfl) | exact Sl.of_own S.wd (k := 4) rfl (fun _ => rfl) | exact Sl.of_own S.wd (k := 5) rfl (fun _ => rfl) | exact Sl.of_own S.wd (k := 6) rfl (fun _ => rfl) | exact Sl.of_own S.wd (k := 7) rfl (fun _ => rfl) | exact Sl.of_own S.wd (k := 8) rfl (fun _ => rfl) | exact Sl.of_own S.wd (k := 9) rfl (fun _ => rfl) | exact Sl.of_own S.wd (k := 10) rfl (fun _ => rfl) | exact Sl.of_own S.wd (k := 11) rfl (fun _ => rfl) | exact Sl.of_own S.wd (k := 12) rfl (fun _ => rfl) | exact Sl.of_own S.wd (k := 13) rfl (fun _ => rfl) | exact Sl.of_own S.wd (k := 14) rfl (fun _ => rfl) | (simp at *; omega)) (by first | assumption | omega | (dsimp only; omega) | exact Sl.nil_ | exact .old S.wd (by assumption) | exact Sl.of_own S.wd (k := 0) rfl (fun _ => rfl) | exact Sl.of_own S.wd (k := 1) rfl (fun _ => rfl) | exact Sl.of_own S.wd (k := 2) rfl (fun _ => rfl) | exact Sl.of_own S.wd (k := 3) rfl (fun _ => rfl) | exact Sl.of_own S.wd (k := 4) rfl (fun _ => rfl) | exact Sl.of_own S.wd (k := 5) rfl (fun _ => rfl) | exact Sl.of_own S.wd (k := 6) rfl (fun _ => rfl) | exact Sl.of_own S.wd (k := 7) rfl (fun _ => rfl) | exact Sl.of_own S.wd (k := 8) rfl (fun _ => rfl) | exact Sl.of_own S.wd (k := 9) rfl (fun _ => rfl) | exact Sl.of_own S.wd (k := 10) rfl (fun _ => rfl) | exact Sl.of_own S.wd (k := 11) rfl (fun _ => rfl) | exact Sl.of_own S.wd (k := 12) rfl (fun _ => rfl) | exact Sl.of_own S.wd (k := 13) rfl (fun _ => rfl) | exact Sl.of_own S.wd (k := 14) rfl (fun _ => rfl) | (simp at *; omega))) rfl ?_) <;> clear S a w)
    rintro _ _ ⟨rfl, rfl⟩ a w S
    rw [rw_t] at S
    refine run S (.nt rfl <| .z) fun a w S => st_nil (then_normal (hK3 _ _ (st_else S (.t rfl) (wp_skip (in_normal (then_normal (hK2 _ _ (wp_region_lit (run S (.ad (by unfold I64; omega) rfl <| .z) fun a w S => ?_)))))))))
    rw [rw_5] at S
    refine run S (.mv rfl <| .z) fun a w S => st_nil (then_normal (st_round (sg S (.lt (by omega) rfl rfl <| .z) fun a w S => wp_seq_k fun _ hK2 => st_then S (.t rfl) (wp_skip (then_normal (hK2 _ _ (wp_seq_k fun _ hK2 => wp_block (wp_seq_k fun _ hK3 => wp_region_lit (run S (.yy (ys_ixS (j := 5) underlying187 sizeOf134 (.t rfl) (.t rfl) (fun _ => by omega)) rfl <| .la gt134 9 rfl rfl rfl <| .z) fun a w S => st_m (op_alloc S zeroValue134 (cs := _) rfl rfl fun g10 a w S => st_m (op_stW S sizeOf134 (.t rfl) (.t rfl) (k := 0) rfl rfl rfl (by simp [Value.oneCell']) fun a w S => st_nil (then_normal (hK3 _ _ (wp_seq_k fun _ hK3 => wp_region_lit (run S (.fa underlying134 sizeOf53 0 rfl rfl rfl <| .ld gt53 0 rfl rfl rfl <| .xx (ys_callVC (cs := [_, _]) (.t rfl) call99 .nil (fun hp w W => c99 _ _ _ _ _ _ _ _ _ (by exact Wd.cell W (k := 1) rfl rfl) (by exact Wd.cell W (k := 3) rfl rfl) (by exact Wd.cell W (k := 3) rfl rfl) (by exact Wd.cell W (k := 3) rfl rfl) (by exact .old W (by assumption)) (by exact .old W (by assumption)))) rfl <| .z) fun a w S => ?_)))))))))))))))
    rw [rw_g] at S
    refine run S (.nt rfl <| .z) fun a w S => st_nil (then_normal (hK3 _ _ (st_then S (.t rfl) (sg S (.fa underlying134 sizeOf132 1 rfl rfl rfl <| .ld gt132 0 rfl rfl rfl <| .xx (ys_callVC (cs := [_]) (.t rfl) call149 .nil (fun hp w W => c149 _ _ _ (by exact Wd.cell W (k := 15) rfl rfl))) rfl <| .as rfl <| .z) fun a w S => wp_ret (in_ret (then_ret (then_ret (in_ret (then_ret (st_ret S (results1 S results87 (Rv.tmp rfl)) ?_))))))))))
    rw [er]
    exact ⟨_, _, rfl, S.wd.pk, _, rfl, rfl, fun k => by cases k⟩
  | false =>
  rw [hg] at hgap
  have rw_g := hgap
  rw [if_neg (by rw [hg]; simp)] at er
  unfold Go.Fw.RetsO
  refine enterW1 W func87 rfl ntmps87 rfl fun a S => sg S (.ac rfl <| .z) fun a w S => wp_seq_k fun _ hK1 => sg S (.mv rfl <| .ln underlying187 rfl <| .mc rfl <| .z) fun a w S => wp_block (st_rounds 7 (st_round (sg S (.lt (by omega) rfl rfl <| .z) fun a w S => wp_seq_k fun _ hK2 => st_then S (.t rfl) (wp_skip (then_normal (hK2 _ _ (wp_seq_k fun _ hK2 => wp_block (wp_seq_k fun _ hK3 => wp_region_lit (run S (.yy (ys_ixS (j := 0) underlying187 sizeOf134 (.t rfl) (.t rfl) (fun _ => by omega)) rfl <| .la gt134 0 rfl rfl rfl <| .z) fun a w S => st_m (op_alloc S zeroValue134 (cs := _) rfl rfl fun g3 a w S => st_m (op_stW S sizeOf134 (.t rfl) (.t rfl) (k := 0) rfl rfl rfl (by simp [Value.oneCell']) fun a w S => st_nil (then_normal (hK3 _ _ (wp_seq_k fun _ hK3 => wp_region_lit (run S (.fa underlying134 sizeOf53 0 rfl rfl rfl <| .ld gt53 0 rfl rfl rfl <| .xx (ys_callVC (cs := [_]) (.t rfl) call89 .nil (fun hp w W => c89 _ _ _ _ (by exact Wd.cell W (k := 3) rfl rfl) (by exact Wd.cell W (k := 3) rfl rfl))) rfl <| .z) fun a w S => ?_)))))))))))))))
  rw [rw_m] at S
  refine run S (.nt rfl <| .z) fun a w S => st_nil (then_normal (hK3 _ _ (st_else S (.t rfl) (wp_skip (in_normal (then_normal (hK2 _ _ (wp_region_lit (run S (.ad (by unfold I64; omega) rfl <| .z) fun a w S => ?_)))))))))
  rw [rw_1] at S
  refine run S (.mv rfl <| .z) fun a w S => st_nil (then_normal (st_round (sg S (.lt (by omega) rfl rfl <| .z) fun a w S => wp_seq_k fun _ hK2 => st_then S (.t rfl) (wp_skip (then_normal (hK2 _ _ (wp_seq_k fun _ hK2 => wp_block (wp_seq_k fun _ hK3 => wp_region_lit (run S (.yy (ys_ixS (j := 1) underlying187 sizeOf134 (.t rfl) (.t rfl) (fun _ => by omega)) rfl <| .la gt134 1 rfl rfl rfl <| .z) fun a w S => st_m (op_alloc S zeroValue134 (cs := _) rfl rfl fun g6 a w S => st_m (op_stW S sizeOf134 (.t rfl) (.t rfl) (k := 0) rfl rfl rfl (by simp [Value.oneCell']) fun a w S => st_nil (then_normal (hK3 _ _ (wp_seq_k fun _ hK3 => wp_region_lit (run S (.fa underlying134 sizeOf53 0 rfl rfl rfl <| .ld gt53 0 rfl rfl rfl <| .z) fun a w S => ?_)))))))))))))))
  (replace S := S.pull 5 rfl; try simp only [List.set_cons_zero, List.set_cons_succ, List.eraseIdx_cons_succ, List.eraseIdx_cons_zero] at S; replace S := S.pull 4 rfl; try simp only [List.set_cons_zero, List.set_cons_succ, List.eraseIdx_cons_succ, List.eraseIdx_cons_zero] at S; refine st_m (op_callVO (cs := [_, _]) S (.t rfl) call90 .nil (c90 S.wd (by first | assumption | omega | (dsimp only; omega) | exact Sl.nil_ | exact .old S.wd (by assumption) | exact Sl.of_own S.wd (k := 0) rfl (fun _ => rfl) | exact Sl.of_own S.wd (k := 1) rfl (fun _ => rfl) | exact Sl.of_own S.wd (k := 2) rfl (fun _ => rfl) | exact Sl.of_own S.wd (k := 3) rfl (fun _ => rfl) | exact Sl.of_own S.wd (k := 4) rfl (fun _ => rfl) | exact Sl.of_own S.wd (k := 5) rfl (fun _ => rfl) | exact Sl.of_own S.wd (k := 6) rfl (fun _ => rfl) | exact Sl.of_own S.wd (k := 7) rfl (fun _ => rfl) | exact Sl.of_own S.wd (k := 8) rfl (fun _ => rfl) | exact Sl.of_own S.wd (k := 9) rfl (fun _ => rfl) | exact Sl.of_own S.wd (k := 10) rfl (fun _ => rfl) | exact Sl.of_own S.wd (k := 11) rfl (fun _ => rfl) | (simp at *; omega)) (by first | assumption | omega | (dsimp only; omega) | exact Sl.nil_ | exact .old S.wd (by assumption) | exact Sl.of_own S.wd (k := 0) rfl (fun _ => rfl) | exact Sl.of_own S.wd (k := 1) rfl (fun _ => rfl) | exact Sl.of_own S.wd (k := 2) rfl (fun _ => rfl) | exact Sl.of_own S.wd (k := 3) rfl (fun _ => rfl) | exact Sl.of_own S.wd (k := 4) rfl (fun _ => rfl) | exact Sl.of_own S.wd (k := 5) rfl (fun _ => rfl) | exact Sl.of_own S.wd (k := 6) rfl (fun _ => rfl) | exact Sl.of_own S.wd (k := 7) rfl (fun _ => rfl) | exact Sl.of_own S.wd (k := 8) rfl (fun _ => rfl) | exact Sl.of_own S.wd (k := 9) rfl (fun _ => rfl) | exact Sl.of_own S.wd (k := 10) rfl (fun _ => rfl) | exact Sl.of_own S.wd (k := 11) rfl (fun _ => rfl) | (simp at *; omega))) rfl ?_) <;> clear S a w)
  rintro _ _ ⟨rfl, rfl⟩ a w S
  rw [rw_b] at S
  rw [rw_bb] at S
  refine run S (.nt rfl <| .z) fun a w S => st_nil (then_normal (hK3 _ _ (st_else S (.t rfl) (wp_skip (in_normal (then_normal (hK2 _ _ (wp_region_lit (run S (.ad (by unfold I64; omega) rfl <| .z) fun a w S => ?_)))))))))
  rw [rw_2] at S
  refine run S (.mv rfl <| .z) fun a w S => st_nil (then_normal (st_round (sg S (.lt (by omega) rfl rfl <| .z) fun a w S => wp_seq_k fun _ hK2 => st_then S (.t rfl) (wp_skip (then_normal (hK2 _ _ (wp_seq_k fun _ hK2 => wp_block (wp_seq_k fun _ hK3 => wp_region_lit (run S (.yy (ys_ixS (j := 2) underlying187 sizeOf134 (.t rfl) (.t rfl) (fun _ => by omega)) rfl <| .la gt134 4 rfl rfl rfl <| .z) fun a w S => st_m (op_alloc S zeroValue134 (cs := _) rfl rfl fun g7 a w S => st_m (op_stW S sizeOf134 (.t rfl) (.t rfl) (k := 0) rfl rfl rfl (by simp [Value.oneCell']) fun a w S => st_nil (then_normal (hK3 _ _ (wp_seq_k fun _ hK3 => wp_region_lit (run S (.fa underlying134 sizeOf53 0 rfl rfl rfl <| .ld gt53 0 rfl rfl rfl <| .xx (ys_callVC (cs := [_]) (.t rfl) call92 .nil (fun hp w W => c92 _ _ _ _ (by exact Wd.cell W (k := 1) rfl rfl) (by exact .old W (by assumption)) (by exact .old W (by assumption)))) rfl <| .z) fun a w S => ?_)))))))))))))))
  rw [rw_a] at S
  refine run S (.nt rfl <| .z) fun a w S => st_nil (then_normal (hK3 _ _ (st_else S (.t rfl) (wp_skip (in_normal (then_normal (hK2 _ _ (wp_region_lit (run S (.ad (by unfold I64; omega) rfl <| .z) fun a w S => ?_)))))))))
  rw [rw_3] at S
  refine run S (.mv rfl <| .z) fun a w S => st_nil (then_normal (st_round (sg S (.lt (by omega) rfl rfl <| .z) fun a w S => wp_seq_k fun _ hK2 => st_then S (.t rfl) (wp_skip (then_normal (hK2 _ _ (wp_seq_k fun _ hK2 => wp_block (wp_seq_k fun _ hK3 => wp_region_lit (run S (.yy (ys_ixS (j := 3) underlying187 sizeOf134 (.t rfl) (.t rfl) (fun _ => by omega)) rfl <| .la gt134 5 rfl rfl rfl <| .z) fun a w S => st_m (op_alloc S zeroValue134 (cs := _) rfl rfl fun g8 a w S => st_m (op_stW S sizeOf134 (.t rfl) (.t rfl) (k := 0) rfl rfl rfl (by simp [Value.oneCell']) fun a w S => st_nil (then_normal (hK3 _ _ (wp_seq_k fun _ hK3 => wp_region_lit (run S (.fa underlying134 sizeOf53 0 rfl rfl rfl <| .ld gt53 0 rfl rfl rfl <| .xx (ys_callVC (cs := [_, _]) (.t rfl) call96 .nil (fun hp w W => c96 _ _ _ _ _ _ _ _ (by exact Wd.cell W (k := 2) rfl rfl) (by exact Wd.cell W (k := 7) rfl rfl) (by exact Wd.cell W (k := 7) rfl rfl) (by exact .old W (by assumption)) (by exact .old W (by assumption)))) rfl <| .z) fun a w S => ?_)))))))))))))))
  rw [rw_lv] at S
  refine run S (.nt rfl <| .z) fun a w S => st_nil (then_normal (hK3 _ _ (st_else S (.t rfl) (wp_skip (in_normal (then_normal (hK2 _ _ (wp_region_lit (run S (.ad (by unfold I64; omega) rfl <| .z) fun a w S => ?_)))))))))
  rw [rw_4] at S
  refine run S (.mv rfl <| .z) fun a w S => st_nil (then_normal (st_round (sg S (.lt (by omega) rfl rfl <| .z) fun a w S => wp_seq_k fun _ hK2 => st_then S (.t rfl) (wp_skip (then_normal (hK2 _ _ (wp_seq_k fun _ hK2 => wp_block (wp_seq_k fun _ hK3 => wp_region_lit (run S (.yy (ys_ixS (j := 4) underlying187 sizeOf134 (.t rfl) (.t rfl) (fun _ => by omega)) rfl <| .la gt134 6 rfl rfl rfl <| .z) fun a w S => st_m (op_alloc S zeroValue134 (cs := _) rfl rfl fun g9 a w S => st_m (op_stW S sizeOf134 (.t rfl) (.t rfl) (k := 0) rfl rfl rfl (by simp [Value.oneCell']) fun a w S => st_nil (then_normal (hK3 _ _ (wp_seq_k fun _ hK3 => wp_region_lit (run S (.fa underlying134 sizeOf53 0 rfl rfl rfl <| .ld gt53 0 rfl rfl rfl <| .z) fun a w S => ?_)))))))))))))))
  (replace S := S.pull 9 rfl; try simp only [List.set_cons_zero, List.set_cons_succ, List.eraseIdx_cons_succ, List.eraseIdx_cons_zero] at S; replace S := S.pull 9 rfl; try simp only [List.set_cons_zero, List.set_cons_succ, List.eraseIdx_cons_succ, List.eraseIdx_cons_zero] at S; replace S := S.pull 5 rfl; try simp only [List.set_cons_zero, List.set_cons_succ, List.eraseIdx_cons_succ, List.eraseIdx_cons_zero] at S; refine st_m (op_callVO (cs := [_, _, _]) S (.t rfl) call98 .nil (c98 S.wd (by first | assumption | omega | (dsimp only; omega) | exact Sl.nil_ | exact .old S.wd (by assumption) | exact Sl.of_own S.wd (k := 0) rfl (fun _ => rfl) | exact Sl.of_own S.wd (k := 1) rfl (fun _ => rfl) | exact Sl.of_own S.wd (k := 2) rfl (fun _ => rfl) | exact Sl.of_own S.wd (k := 3) rfl (fun _ => rfl) | exact Sl.of_own S.wd (k := 4) rfl (fun _ => rfl) | exact Sl.of_own S.wd (k := 5) rfl (fun _ => rfl) | exact Sl.of_own S.wd (k := 6) rfl (fun _ => rfl) | exact Sl.of_own S.wd (k := 7) rfl (fun _ => rfl) | exact Sl.of_own S.wd (k := 8) rfl (fun _ => rfl) | exact Sl.of_own S.wd (k := 9) rfl (fun _ => rfl) | exact Sl.of_own S.wd (k := 10) rfl (fun _ => rfl) | exact Sl.of_own S.wd (k := 11) rfl (fun _ => rfl) | exact Sl.of_own S.wd (k := 12) rfl (fun _ => rfl) | exact Sl.of_own S.wd (k := 13) rfl (fun _ => rfl) | exact Sl.of_own S.wd (k := 14) rfl (fun _ => rfl) | (simp at *; omega)) (by first | assumption | omega | (dsimp only; omega) | exact Sl.nil_ | exact .old S.wd (by assumption) | exact Sl.of_own S.wd (k := 0) rfl (fun _ => rfl) | exact Sl.of_own S.wd (k := 1) rfl (fun _ => rfl) | exact Sl.of_own S.wd (k := 2) rfl (fun _ => rfl) | exact Sl.of_own S.wd (k := 3) rfl (fun _ => rfl) | exact Sl.of_own S.wd (k := 4) rfl (fun _ => rfl) | exact Sl.of_own S.wd (k := 5) rfl (fun _ => rfl) | exact Sl.of_own S.wd (k := 6) rfl (fun _ => rfl) | exact Sl.of_own S.wd (k := 7) rfl (fun _ => rfl) | exact Sl.of_own S.wd (k := 8) rfl (fun _ => rfl) | exact Sl.of_own S.wd (k := 9) rfl (fun _ => rfl) | exact Sl.of_own S.wd (k := 10) rfl (fun _ => rfl) | exact Sl.of_own S.wd (k := 11) rfl (fun _ => rfl) | exact Sl.of_own S.wd (k := 12) rfl (fun _ => rfl) | exact Sl.of_own S.wd (k := 13) rfl (fun _ => rfl) | exact Sl.of_own S.wd (k := 14) rfl (fun _ => rfl) | (simp at *; omega))) rfl ?_) <;> clear S a w)
  rintro _ _ ⟨rfl, rfl⟩ a w S
  rw [rw_t] at S
  refine run S (.nt rfl <| .z) fun a w S => st_nil (then_normal (hK3 _ _ (st_else S (.t rfl) (wp_skip (in_normal (then_normal (hK2 _ _ (wp_region_lit (run S (.ad (by unfold I64; omega) rfl <| .z) fun a w S => ?_)))))))))
  rw [rw_5] at S
  refine run S (.mv rfl <| .z) fun a w S => st_nil (then_normal (st_round (sg S (.lt (by omega) rfl rfl <| .z) fun a w S => wp_seq_k fun _ hK2 => st_then S (.t rfl) (wp_skip (then_normal (hK2 _ _ (wp_seq_k fun _ hK2 => wp_block (wp_seq_k fun _ hK3 => wp_region_lit (run S (.yy (ys_ixS (j := 5) underlying187 sizeOf134 (.t rfl) (.t rfl) (fun _ => by omega)) rfl <| .la gt134 9 rfl rfl rfl <| .z) fun a w S => st_m (op_alloc S zeroValue134 (cs := _) rfl rfl fun g10 a w S => st_m (op_stW S sizeOf134 (.t rfl) (.t rfl) (k := 0) rfl rfl rfl (by simp [Value.oneCell']) fun a w S => st_nil (then_normal (hK3 _ _ (wp_seq_k fun _ hK3 => wp_region_lit (run S (.fa underlying134 sizeOf53 0 rfl rfl rfl <| .ld gt53 0 rfl rfl rfl <| .xx (ys_callVC (cs := [_, _]) (.t rfl) call99 .nil (fun hp w W => c99 _ _ _ _ _ _ _ _ _ (by exact Wd.cell W (k := 1) rfl rfl) (by exact Wd.cell W (k := 3) rfl rfl) (by exact Wd.cell W (k := 3) rfl rfl) (by exact Wd.cell W (k := 3) rfl rfl) (by exact .old W (by assumption)) (by exact .old W (by assumption)))) rfl <| .z) fun a w S => ?_)))))))))))))))
  rw [rw_g] at S
  refine run S (.nt rfl <| .z) fun a w S => st_nil (then_normal (hK3 _ _ (st_else S (.t rfl) (wp_skip (in_normal (then_normal (hK2 _ _ (wp_region_lit (run S (.ad (by unfold I64; omega) rfl <| .z) fun a w S => ?_)))))))))
  rw [rw_6] at S
  refine run S (.mv rfl <| .z) fun a w S => st_nil (then_normal (st_round (sg S (.ge (by omega) rfl rfl <| .z) fun a w S => wp_seq_k fun _ hK2 => st_else S (.t rfl) (wp_exit (then_exit (then_exit (in_here (then_normal (hK1 _ _ (sg S (.ac rfl <| .z) fun a w S => wp_ret (st_ret S (results1 S results87 (Rv.tmp rfl)) ?_)))))))))))
  rw [er]
  exact ⟨_, _, rfl, S.wd.pk, _, rfl, rfl, fun _ => rfl⟩
end Go.Proofs.YtakpdbmdfnialaaGreat
set_option linter.unusedVariables false
set_option linter.unusedSimpArgs false
set_option maxRecDepth 100000
set_option maxHeartbeats 4000000
namespace Go.Proofs.YtakpdbmdfnialaaGreat
open Go.Fw Go.Proofs Go.RowKit Go.Proofs.Tryz
theorem c34 (w0 : World) (v : Value) (l : List SCart) (p q : Int) (h : Sl SCart.enc 3 w0 w0.heap.size v l) (hc : CartsRd w0 l) :
    Calls Tryz.prog 34 #[v, .agg #[.int .i64 p, .int .i64 q]] w0 fun u w' => u = .returned (.tuple #[.agg (Dot.enc (readyG (l.map (·.1)) p q).1).toArray, .int .i64 (readyG (l.map (·.1)) p q).2]) ∧ Bel w0.heap.size w0 w' := by
  have hs := h
  obtain ⟨A, cap, rfl, hl, hcap, hA⟩ := h
  refine enter2 func34 rfl ntmps34 rfl fun a S => wp_seq_k fun _ hK1 => wp_region_lit (st_m (op_box1 S (.t rfl) rfl rfl fun g1 a w S => st_m (op_box S (.t rfl) rfl fun g2 a w S => st_m (op_alloc S zeroValue30 (cs := _) rfl rfl fun g3 a w S => run S (.ac rfl <| .z) fun a w S => st_nil (then_normal (hK1 _ _ (wp_seq_k fun _ hK1 => wp_region_lit (st_m (op_alloc S zeroValue40 (cs := _) rfl rfl fun g4 a w S => st_m (op_st S sizeOf40 (.t rfl) Ev.c (k := 0) rfl rfl (by simp) fun a w S => st_nil (then_normal (hK1 _ _ (wp_seq_k fun _ hK1 => wp_region_lit (run S (.fa underlying66 sizeOf3 0 rfl rfl rfl <| .ld gt3 2 rfl rfl rfl <| .fa underlying66 sizeOf3 1 rfl rfl rfl <| .ld gt3 2 rfl rfl rfl <| .yy (ys_bld (ps := [(0, Go.Operand.tmp 10), (1, Go.Operand.tmp 12)]) (us := [_, _, _]) bld30 (.cons (.t rfl) (.cons (.t rfl) .nil)) rfl) rfl <| .z) fun a w S => st_m (op_alloc S zeroValue30 (cs := _) rfl rfl fun g5 a w S => st_m (op_stW S sizeOf30 (.t rfl) (.t rfl) (k := 0) rfl rfl rfl (by simp [Value.oneCell']) fun a w S => st_nil (then_normal (hK1 _ _ (wp_seq_k fun _ hK1 => wp_region_lit (run S (.yy (ys_mkFunc (.cons (.t rfl) .nil)) rfl <| .z) fun a w S => ?_))))))))))))))))))))
  (refine st_m (op_calls S call88 (.cons (.t rfl) (.cons Ev.c .nil)) (c88 _ _ _ _) rfl ?_); clear S a w; rintro _ _ ⟨g6, rfl, rfl⟩ a w S)
  refine run S (.yy (ys_mkFunc (.cons (.t rfl) (.cons (.t rfl) .nil))) rfl <| .yy (ys_mkFunc (.cons (.t rfl) .nil)) rfl <| .yy (ys_bld (ps := [(0, Go.Operand.tmp 16), (1, Go.Operand.tmp 17)]) (us := [_, _]) bld134 (.cons (.t rfl) (.cons (.t rfl) .nil)) rfl) rfl <| .yy (ys_mkFunc (.cons (.t rfl) .nil)) rfl <| .z) fun a w S => ?_
  (refine st_m (op_calls S call88 (.cons (.t rfl) (.cons Ev.c .nil)) (c88 _ _ _ _) rfl ?_); clear S a w; rintro _ _ ⟨g7, rfl, rfl⟩ a w S)
  refine run S (.yy (ys_mkFunc (.cons (.t rfl) (.cons (.t rfl) .nil))) rfl <| .z) fun a w S => ?_
  (refine st_m (op_calls S call88 (.cons (.t rfl) (.cons Ev.c .nil)) (c88 _ _ _ _) rfl ?_); clear S a w; rintro _ _ ⟨g8, rfl, rfl⟩ a w S)
  refine run S (.yy (ys_mkFunc (.cons (.t rfl) (.cons (.t rfl) (.cons (.t rfl) .nil)))) rfl <| .z) fun a w S => ?_
  (refine st_m (op_calls S call88 (.cons (.t rfl) (.cons Ev.c .nil)) (c88 _ _ _ _) rfl ?_); clear S a w; rintro _ _ ⟨g9, rfl, rfl⟩ a w S)
  refine run S (.yy (ys_mkFunc (.cons (.t rfl) (.cons (.t rfl) .nil))) rfl <| .z) fun a w S => ?_
  (refine st_m (op_calls S call88 (.cons (.t rfl) (.cons Ev.c .nil)) (c88 _ _ _ _) rfl ?_); clear S a w; rintro _ _ ⟨g10, rfl, rfl⟩ a w S)
  refine st_m (op_bsliceZ (ps := [(0, Go.Operand.tmp 15), (1, Go.Operand.tmp 18), (2, Go.Operand.tmp 20), (3, Go.Operand.tmp 22), (4, Go.Operand.tmp 24), (5, Go.Operand.tmp 26)]) (us := [_, _, _, _, _, _, _, _, _, _, _, _]) S underlying187 sizeOf134 zeroValue134 rfl rfl (.cons (.t rfl) (.cons (.t rfl) (.cons (.t rfl) (.cons (.t rfl) (.cons (.t rfl) (.cons (.t rfl) .nil)))))) rfl rfl fun g11 a w S => ?_)
  (replace S := S.pull 1 rfl; try simp only [List.set_cons_zero, List.set_cons_succ, List.eraseIdx_cons_succ, List.eraseIdx_cons_zero] at S; replace S := S.pull 2 rfl; try simp only [List.set_cons_zero, List.set_cons_succ, List.eraseIdx_cons_succ, List.eraseIdx_cons_zero] at S; replace S := S.pull 3 rfl; try simp only [List.set_cons_zero, List.set_cons_succ, List.eraseIdx_cons_succ, List.eraseIdx_cons_zero] at S; replace S := S.pull 4 rfl; try simp only [List.set_cons_zero, List.set_cons_succ, List.eraseIdx_cons_succ, List.eraseIdx_cons_zero] at S; replace S := S.pull 5 rfl; try simp only [List.set_cons_zero, List.set_cons_succ, List.eraseIdx_cons_succ, List.eraseIdx_cons_zero] at S; replace S := S.pull 6 rfl; try simp only [List.set_cons_zero, List.set_cons_succ, List.eraseIdx_cons_succ, List.eraseIdx_cons_zero] at S; replace S := S.pull 7 rfl; try simp only [List.set_cons_zero, List.set_cons_succ, List.eraseIdx_cons_succ, List.eraseIdx_cons_zero] at S; replace S := S.pull 9 rfl; try simp only [List.set_cons_zero, List.set_cons_succ, List.eraseIdx_cons_succ, List.eraseIdx_cons_zero] at S; replace S := S.pull 10 rfl; try simp only [List.set_cons_zero, List.set_cons_succ, List.eraseIdx_cons_succ, List.eraseIdx_cons_zero] at S; replace S := S.pull 9 rfl; try simp only [List.set_cons_zero, List.set_cons_succ, List.eraseIdx_cons_succ, List.eraseIdx_cons_zero] at S; refine st_m (op_callO S call87 (.cons (.t rfl) .nil) (c87 S.wd (by first | assumption | omega | (dsimp only; omega) | exact Sl.nil_ | exact .old S.wd (by assumption) | exact Sl.of_own S.wd (k := 0) rfl (fun _ => rfl) | exact Sl.of_own S.wd (k := 1) rfl (fun _ => rfl) | exact Sl.of_own S.wd (k := 2) rfl (fun _ => rfl) | exact Sl.of_own S.wd (k := 3) rfl (fun _ => rfl) | exact Sl.of_own S.wd (k := 4) rfl (fun _ => rfl) | exact Sl.of_own S.wd (k := 5) rfl (fun _ => rfl) | exact Sl.of_own S.wd (k := 6) rfl (fun _ => rfl) | exact Sl.of_own S.wd (k := 7) rfl (fun _ => rfl) | exact Sl.of_own S.wd (k := 8) rfl (fun _ => rfl) | exact Sl.of_own S.wd (k := 9) rfl (fun _ => rfl) | exact Sl.of_own S.wd (k := 10) rfl (fun _ => rfl) | (simp at *; omega)) (by first | assumption | omega | (dsimp only; omega) | exact Sl.nil_ | exact .old S.wd (by assumption) | exact Sl.of_own S.wd (k := 0) rfl (fun _ => rfl) | exact Sl.of_own S.wd (k := 1) rfl (fun _ => rfl) | exact Sl.of_own S.wd (k := 2) rfl (fun _ => rfl) | exact Sl.of_own S.wd (k := 3) rfl (fun _ => rfl) | exact Sl.of_own S.wd (k := 4) rfl (fun _ => rfl) | exact Sl.of_own S.wd (k := 5) rfl (fun _ => rfl) | exact Sl.of_own S.wd (k := 6) rfl (fun _ => rfl) | exact Sl.of_own S.wd (k := 7) rfl (fun _ => rfl) | exact Sl.of_own S.wd (k := 8) rfl (fun _ => rfl) | exact Sl.of_own S.wd (k := 9) rfl (fun _ => rfl) | exact Sl.of_own S.wd (k := 10) rfl (fun _ => rfl) | (simp at *; omega))) rfl ?_) <;> clear S a w)
  rintro _ _ ⟨n1, rfl, rfl, hr1⟩ a w S
  refine run S (.as rfl <| .z) fun a w S => st_nil (then_normal (hK1 _ _ (wp_seq_k fun _ hK1 => sg S (.mv rfl <| .yy (ys_neq (.t rfl) Ev.c) rfl <| .z) fun a w S => ?_)))
  refine st_if S (.t rfl) (fun h1 => ?_) (fun h1 => ?_)
  refine wp_seq_k fun _ hK2 => wp_region_lit (run S (.yy (ys_bld (ps := []) (us := [_, _, _]) bld30 .nil rfl) rfl <| .mv rfl <| .z) fun a w S => st_m (op_stW S sizeOf30 (.t rfl) (.t rfl) (k := 1) rfl rfl rfl (by simp [Value.oneCell']) fun a w S => run S (.as rfl <| .z) fun a w S => st_nil (then_normal (hK2 _ _ (wp_ret (then_ret (st_ret S (results2 S results34 (Rv.cell (k := 1) ⟨isAgg30, sizeOf30⟩ rfl rfl rfl) (Rv.tmp rfl)) ?_)))))))
  rotate_left
  refine wp_skip (then_normal (hK1 _ _ (wp_seq_k fun _ hK1 => wp_region_lit (run S (.la gt30 0 rfl rfl rfl <| .z) fun a w S => st_m (op_stW S sizeOf30 (.t rfl) (.t rfl) (k := 1) rfl rfl rfl (by simp [Value.oneCell']) fun a w S => run S (.ac rfl <| .z) fun a w S => st_nil (then_normal (hK1 _ _ (wp_ret (st_ret S (results2 S results34 (Rv.cell (k := 1) ⟨isAgg30, sizeOf30⟩ rfl rfl rfl) (Rv.tmp rfl)) ?_)))))))))
  rotate_left
  · refine ⟨?_, S.wd.below⟩
    rw [ready_zero h1]
  · have h2 := Decidable.not_not.1 h1
    refine ⟨?_, S.wd.below⟩
    rw [hr1 h2, h2]
end Go.Proofs.YtakpdbmdfnialaaGreat
set_option linter.unusedVariables false
set_option linter.unusedSimpArgs false
namespace Go.Fw
open Go.RowKit
open Classical in
theorem swap_perm {α : Type} {l : List α} {i j : Nat} {x y : α} (hi : l[i]? = some x) (hj : l[j]? = some y) : ((l.set i y).set j x).Perm l := by
  obtain ⟨h1, rfl⟩ := List.getElem?_eq_some_iff.1 hi
  obtain ⟨h2, rfl⟩ := List.getElem?_eq_some_iff.1 hj
  rw [List.perm_iff_count]
  intro b
  have e : (l.set i l[j])[j]'(by simpa using h2) = l[j] := by
    rw [List.getElem_set]
    split <;> rfl
  rw [List.count_set (by simpa using h2), e, List.count_set h1]
  have hp : (if (l[i] == b) = true then 1 else 0) ≤ l.count b := by
    split
    · rename_i h
      have : b ∈ l := (by simpa using h : l[i] = b) ▸ List.getElem_mem h1
      exact List.count_pos_iff.2 this
    · exact Nat.zero_le _
  omega
theorem any_same (l : List Gon) (k : List UInt8) (m : Dot) : (l.any fun x => decide (sameG x ⟨k, m⟩)) = inA (marksG l k) m.node m.life := by
  rw [Bool.eq_iff_iff, List.any_eq_true]
  unfold inA marksG
  rw [List.any_eq_true]
  constructor
  · rintro ⟨x, hx, h⟩
    obtain ⟨h1, h2, h3⟩ := of_decide_eq_true h
    exact ⟨x.dt, List.mem_map.2 ⟨x, List.mem_filter.2 ⟨hx, decide_eq_true h1⟩, rfl⟩, decide_eq_true ⟨h2, h3⟩⟩
  · rintro ⟨d, hd, h⟩
    obtain ⟨x, hx, rfl⟩ := List.mem_map.1 hd
    obtain ⟨h1, h2⟩ := List.mem_filter.1 hx
    obtain ⟨h3, h4⟩ := of_decide_eq_true h
    exact ⟨x, h1, decide_eq_true ⟨of_decide_eq_true h2, h3, h4⟩⟩
theorem mem_marks {l : List Gon} {k : List UInt8} {x : Dot} : x ∈ marksG l k ↔ (⟨k, x⟩ : Gon) ∈ l := by
  unfold marksG
  rw [List.mem_map]
  constructor
  · rintro ⟨⟨k', d⟩, h, rfl⟩
    obtain ⟨h1, h2⟩ := List.mem_filter.1 h
    have := of_decide_eq_true h2
    dsimp only at this
    subst this
    exact h1
  · exact fun h => ⟨⟨k, x⟩, List.mem_filter.2 ⟨h, decide_eq_true rfl⟩, rfl⟩
theorem marks_put {l : List Gon} {k k' : List UInt8} {m x : Dot} : x ∈ marksG (putG l k m).1 k' ↔ x ∈ marksG l k' ∨ (k' = k ∧ x = m ∧ mayD m = true ∧ nameB k = true ∧ inA (marksG l k) m.node m.life = false) := by
  unfold putG
  rw [any_same]
  by_cases h1 : mayD m = false
  · rw [if_pos h1]; simp [h1]
  rw [if_neg h1]
  by_cases h2 : nameB k = false
  · rw [if_pos h2]; simp [h2]
  rw [if_neg h2]
  by_cases h3 : inA (marksG l k) m.node m.life = true
  · rw [if_pos h3]; simp [h3]
  rw [if_neg h3]
  dsimp only
  rw [mem_marks, insG_mem, ← mem_marks]
  simp only [Bool.not_eq_false, Bool.not_eq_true] at h1 h2 h3
  simp only [Gon.mk.injEq, h1, h2, h3, and_true]
  constructor
  · rintro (⟨e1, e2⟩ | h)
    · exact .inr ⟨e1, e2⟩
    · exact .inl h
  · rintro (h | ⟨e1, e2⟩)
    · exact .inr h
    · exact .inl ⟨e1, e2⟩
theorem marks_sorted {l : List Gon} (h : TabOk l) (k : List UInt8) : (marksG l k).Pairwise ltM := by
  unfold marksG
  rw [List.pairwise_map]
  refine List.Pairwise.imp_of_mem (fun {a b} ha hb hlt => ?_) (h.sorted.filter _)
  have h1 := of_decide_eq_true (List.mem_filter.1 ha).2
  have h2 := of_decide_eq_true (List.mem_filter.1 hb).2
  rcases hlt with hlt | ⟨_, hlt⟩
  · rw [h1, h2, less_irr] at hlt; cases hlt
  · exact hlt
theorem ltM_asymm {a b : Dot} (h : ltM a b) : ¬ ltM b a := fun h' => ltM_irr _ (ltM_trans h h')
def MarksOf (l : List Gon) (k : List UInt8) (ms : List Dot) : Prop := ∀ x, x ∈ marksG l k ↔ x ∈ ms ∧ mayD x = true
def newA (ms : List Dot) (m : Dot) : Prop := inA ms m.node m.life = false
theorem inA_iff {ms : List Dot} {p q : Int} : inA ms p q = true ↔ ∃ m ∈ ms, m.node = p ∧ m.life = q := by
  unfold inA
  rw [List.any_eq_true]
  simp only [decide_eq_true_eq]
theorem marksOf_nil (k : List UInt8) : MarksOf [] k [] := fun x => by simp [marksG]
theorem marksOf_step {l : List Gon} {k : List UInt8} {ms : List Dot} {m : Dot} (h : MarksOf l k ms) (hk : nameB k = true) (hn : newA ms m) : MarksOf (putG l k m).1 k (ms ++ [m]) := fun x => by
  rw [marks_put, h x, List.mem_append, List.mem_singleton]
  have hn' : inA (marksG l k) m.node m.life = false := by
    rw [← Bool.not_eq_true, inA_iff]
    rintro ⟨y, hy, e⟩
    have : inA ms m.node m.life = true := inA_iff.2 ⟨y, ((h y).1 hy).1, e⟩
    rw [hn] at this; cases this
  constructor
  · rintro (⟨h1, h2⟩ | ⟨_, rfl, h1, _, _⟩)
    · exact ⟨.inl h1, h2⟩
    · exact ⟨.inr rfl, h1⟩
  · rintro ⟨h1 | rfl, h2⟩
    · exact .inl ⟨h1, h2⟩
    · exact .inr ⟨rfl, rfl, h2, hk, hn'⟩
theorem marksOf_other {l : List Gon} {k k' : List UInt8} {ms : List Dot} {m : Dot} (h : MarksOf l k' ms) (hk : k' ≠ k) : MarksOf (putG l k m).1 k' ms := fun x => by
  rw [marks_put, h x]
  constructor
  · rintro (h | ⟨h, _⟩)
    · exact h
    · exact absurd h hk
  · exact .inl
theorem marksOf_uniq {l l' : List Gon} {k k' : List UInt8} {ms ms' : List Dot} (hl : TabOk l) (hl' : TabOk l') (h : MarksOf l k ms) (h' : MarksOf l' k' ms') (hm : ∀ x, x ∈ ms ↔ x ∈ ms') : marksG l k = marksG l' k' :=
  mem_ext_sorted ltM_irr (fun _ _ => ltM_asymm) (marks_sorted hl k) (marks_sorted hl' k') fun x => by rw [h x, h' x, hm x]
def distA (ms : List Dot) : Prop := ms.Pairwise fun a b => ¬ (a.node = b.node ∧ a.life = b.life)
theorem distA_perm {l m : List Dot} (h : l.Perm m) (hd : distA l) : distA m := (h.pairwise_iff (fun {a b} h e => h ⟨e.1.symm, e.2.symm⟩)).1 hd
theorem distA_snoc {l : List Dot} {m : Dot} : distA (l ++ [m]) ↔ distA l ∧ newA l m := by
  unfold distA newA
  rw [List.pairwise_append, ← Bool.not_eq_true, inA_iff]
  constructor
  · rintro ⟨h1, _, h3⟩
    exact ⟨h1, fun ⟨y, hy, e⟩ => h3 y hy m (by simp) e⟩
  · rintro ⟨h1, h2⟩
    exact ⟨h1, List.pairwise_singleton .., fun y hy z hz e => h2 ⟨y, hy, by rw [List.mem_singleton] at hz; rw [← hz]; exact e⟩⟩
def onceF (acc : List Dot) (m : Dot) : List Dot := if inA acc m.node m.life = true then acc else acc ++ [m]
def onceA (ms : List Dot) : List Dot := ms.foldl onceF []
theorem onceF_dist {acc : List Dot} {m : Dot} (h : distA acc) : distA (onceF acc m) := by
  unfold onceF
  split
  · exact h
  · rename_i hn
    exact distA_snoc.2 ⟨h, by simpa [newA] using hn⟩
theorem once_dist (ms : List Dot) : distA (onceA ms) := by
  have key : ∀ (ms acc : List Dot), distA acc → distA (ms.foldl onceF acc) := by
    intro ms
    induction ms with
    | nil => exact fun acc h => h
    | cons m r ih => exact fun acc h => ih _ (onceF_dist h)
  exact key ms [] List.Pairwise.nil
theorem once_len (ms : List Dot) : (onceA ms).length ≤ ms.length := by
  have key : ∀ (ms acc : List Dot), (ms.foldl onceF acc).length ≤ acc.length + ms.length := by
    intro ms
    induction ms with
    | nil => intro acc; simp
    | cons m r ih =>
      intro acc
      have h := ih (onceF acc m)
      have h2 : (onceF acc m).length ≤ acc.length + 1 := by unfold onceF; split <;> simp
      rw [List.foldl_cons, List.length_cons]
      omega
  have h := key ms []
  rw [List.length_nil, Nat.zero_add] at h
  exact h
def putsG (k : List UInt8) (l : List Gon) (ms : List Dot) : List Gon := ms.foldl (fun l m => (putG l k m).1) l
theorem puts_ok {k : List UInt8} : ∀ (ms : List Dot) {l : List Gon}, TabOk l → TabOk (putsG k l ms)
  | [], _, h => h
  | m :: r, _, h => puts_ok r (putG_ok h k m)
theorem puts_len {k : List UInt8} : ∀ (ms : List Dot) (l : List Gon), (putsG k l ms).length ≤ l.length + ms.length
  | [], l => by simp [putsG]
  | m :: r, l => by
    have h1 := puts_len (k := k) r (putG l k m).1
    have h2 := putG_len l k m
    show (putsG k (putG l k m).1 r).length ≤ _
    rw [List.length_cons]
    omega
theorem puts_marks {k : List UInt8} (hk : nameB k = true) : ∀ (ms pre : List Dot) {l : List Gon}, MarksOf l k pre → distA (pre ++ ms) → MarksOf (putsG k l ms) k (pre ++ ms)
  | [], pre, l, h, _ => by rw [List.append_nil]; exact h
  | m :: r, pre, l, h, hd => by
    have e : pre ++ m :: r = (pre ++ [m]) ++ r := by simp
    rw [e] at hd ⊢
    exact puts_marks hk r (pre ++ [m]) (marksOf_step h hk (distA_snoc.1 (by unfold distA at hd ⊢; exact (List.pairwise_append.1 hd).1)).2) hd
theorem puts_other {k k' : List UInt8} (hk : k' ≠ k) : ∀ (ms pre : List Dot) {l : List Gon}, MarksOf l k' pre → MarksOf (putsG k l ms) k' pre
  | [], _, _, h => h
  | m :: r, pre, _, h => puts_other hk r pre (marksOf_other h hk)
def twoG (j k : List UInt8) (l : List Gon) (ms : List Dot) : List Gon := ms.foldl (fun l m => (putG (putG l j m).1 k m).1) l
theorem two_ok {j k : List UInt8} : ∀ (ms : List Dot) {l : List Gon}, TabOk l → TabOk (twoG j k l ms)
  | [], _, h => h
  | m :: r, _, h => two_ok r (putG_ok (putG_ok h j m) k m)
theorem two_marks {j k : List UInt8} (hj : nameB j = true) (hk : nameB k = true) (hne : j ≠ k) : ∀ (ms pre : List Dot) {l : List Gon}, MarksOf l j pre → MarksOf l k pre → distA (pre ++ ms) → MarksOf (twoG j k l ms) j (pre ++ ms) ∧ MarksOf (twoG j k l ms) k (pre ++ ms)
  | [], pre, l, h, h', _ => by rw [List.append_nil]; exact ⟨h, h'⟩
  | m :: r, pre, l, h, h', hd => by
    have e : pre ++ m :: r = (pre ++ [m]) ++ r := by simp
    rw [e] at hd ⊢
    have hn := (distA_snoc.1 (by unfold distA at hd ⊢; exact (List.pairwise_append.1 hd).1 : distA (pre ++ [m]))).2
    exact two_marks hj hk hne r (pre ++ [m]) (marksOf_other (marksOf_step h hj hn) hne) (marksOf_step (marksOf_other h' hne.symm) hk hn) hd
theorem two_len {j k : List UInt8} : ∀ (ms : List Dot) (l : List Gon), (twoG j k l ms).length ≤ l.length + 2 * ms.length
  | [], l => by simp [twoG]
  | m :: r, l => by
    have h1 := two_len (j := j) (k := k) r (putG (putG l j m).1 k m).1
    have h2 := putG_len l j m
    have h3 := putG_len (putG l j m).1 k m
    show (twoG j k (putG (putG l j m).1 k m).1 r).length ≤ _
    rw [List.length_cons]
    omega
end Go.Fw
set_option linter.unusedVariables false
set_option linter.unusedSimpArgs false
namespace Go.Fw
open Go.RowKit
def Wants (ops : Array Oper) (K : KL) : Option (Nat × Bool) → Prop
  | none => True
  | some (j, p) => ∃ t, (ops[j]?).bind (·.dst) = some t ∧ look K t = some (true, .bool p)
section
variable {P : Program} {Q : Exit → Act → World → Prop} {n : Nat} {w0 : World} {K : KL} {L Lr : List Chunk} {a : Act} {w : World} {ops : Array Oper} {fuel : Nat} {listed : Array Bool} {md : Region.Mode}
theorem h_pick {i : Nat} {d : Option Tmp} {op : Op} {ty : TypeId} {pos : String} {aft : Array Edge} {g : Option (Nat × Bool)} (S : St n w0 K L a w) (hi : ops[i]? = some ⟨d, op, ty, pos, aft, g⟩) (hw : Wants ops K g)
    (h : Oper.wp P ⟨d, op, ty, pos, aft, g⟩ a w (fun a' w' => Wd w0 Lr w' ∧ wpAnyH P md ops Q (Wd w0 Lr) fuel (listed.setIfInBounds i true) a' w') Q) : wpOp P ops Q i (fun a' w' => Wd w0 Lr w' ∧ wpAnyH P md ops Q (Wd w0 Lr) fuel (listed.setIfInBounds i true) a' w') a w := by
  cases g with
  | none =>
    unfold wpOp
    simp only [hi, Region.wanted, if_true]
    exact .inl h
  | some g =>
    obtain ⟨j, p⟩ := g
    obtain ⟨t, hj, hl⟩ := hw
    have hyd := yielded_of S.kn hj hl
    unfold wpOp
    simp only [hi, Region.wanted, hyd, cond_true]
    simpa using Or.inl h
theorem h_splitw {i j : Nat} {di dj : Option Tmp} {opi opj : Op} {tyi tyj : TypeId} {posi posj : String} {ai aj : Array Edge} {gi gj : Option (Nat × Bool)} (S : St n w0 K L a w) (hr : Region.ready md ops listed = [i, j]) (hi : ops[i]? = some ⟨di, opi, tyi, posi, ai, gi⟩) (hj : ops[j]? = some ⟨dj, opj, tyj, posj, aj, gj⟩)
    (wi : Wants ops K gi) (wj : Wants ops K gj)
    (h1 : Oper.wp P ⟨di, opi, tyi, posi, ai, gi⟩ a w (fun a' w' => Wd w0 Lr w' ∧ wpAnyH P md ops Q (Wd w0 Lr) fuel (listed.setIfInBounds i true) a' w') Q)
    (h2 : Oper.wp P ⟨dj, opj, tyj, posj, aj, gj⟩ a w (fun a' w' => Wd w0 Lr w' ∧ wpAnyH P md ops Q (Wd w0 Lr) fuel (listed.setIfInBounds j true) a' w') Q) : wpAnyH P md ops Q (Wd w0 Lr) (fuel + 1) listed a w :=
  wpAnyH_all hr (by simp) fun k hk => by
    simp only [List.mem_cons, List.not_mem_nil, or_false] at hk
    rcases hk with rfl | rfl
    · exact h_pick S hi wi h1
    · exact h_pick S hj wj h2
end
end Go.Fw
set_option linter.unusedVariables false
set_option linter.unusedSimpArgs false
set_option maxRecDepth 100000
set_option maxHeartbeats 4000000
namespace Go.Fw
open Go.RowKit
def C013 : Cart := ⟨[], ⟨[⟨0, 1, 3⟩], []⟩⟩
end Go.Fw
namespace Go.Proofs.YtakpdbmdfnialaaGreat
open Go.Fw Go.Proofs Go.RowKit Go.Proofs.Tryz
theorem c28 (w0 : World) (v : Value) (k : List UInt8) (l : List Dot) (h : Sl Dot.enc 3 w0 w0.heap.size v l) (hk : k.length ≤ 1048576) (hn : l.length ≤ 1048576) :
    Rets Tryz.prog 28 #[.string (bs k), v] w0 fun u L => ∃ g A r, u = .pointer (some ⟨g, 0, none⟩) ∧ L = tabP g A r (putsG k [] (l.take 40)) [] := by
  obtain ⟨A, cap, rfl, hl, hcap, hA⟩ := h
  unfold Go.Fw.Rets
  refine enter2 func28 rfl ntmps28 rfl fun a S => sg S (.ac rfl <| .z) fun a w S => wp_seq_k fun _ hK1 => wp_region_lit ?_
  (refine st_m (op_calls S call13 .nil (c13 _) rfl ?_); clear S a w; rintro _ _ ⟨g1, rfl, rfl⟩ a w S)
  refine run S (.as rfl <| .z) fun a w S => st_nil (then_normal (hK1 _ _ (wp_seq_k fun _ hK1 => sg S (.mv rfl <| .ln underlying32 rfl <| .mc rfl <| .z) fun a w S => wp_block ?_)))
  replace S := S.nil_ 52 4 Gon.enc none
  refine st_lpM S [6, 11] (X := Nat × Option Addr × Nat) (fun q => [(11, true, .int .i64 (q.1 : Int))]) (fun q => tabP g1 q.2.1 q.2.2 (putsG k [] ((l.take 40).take q.1)) []) (fun q => q.1 ≤ l.length) (fun q => l.length - q.1) (0, none, 0) (Nat.zero_le _) ?_
  clear S
  rintro ⟨i, B, cB⟩ a w hi S
  dsimp only at hi S
  have hT : TabOk (putsG k [] ((l.take 40).take i)) := puts_ok _ tab_nil
  have hTl := puts_len (k := k) ((l.take 40).take i) []
  simp only [List.length_take, List.length_nil] at hTl
  by_cases hlt : i < l.length
  · obtain ⟨gq, oq, x, rfl, hx, hd, hcx⟩ := row_at hA hlt
    by_cases h40 : i < 40
    · have hst : putsG k [] ((l.take 40).take (i + 1)) = (putG (putsG k [] ((l.take 40).take i)) k x).1 := by
        rw [List.take_add_one, List.getElem?_take_of_lt h40, hx, Option.toList_some]
        unfold putsG
        rw [List.foldl_append]
        rfl
      generalize putsG k [] ((l.take 40).take i) = T at *
      refine sg S (.lt (by omega) rfl rfl <| .z) fun a w S => wp_seq_k fun _ hK2 => st_then S (.t rfl) (wp_skip (then_normal (hK2 _ _ (wp_seq_k fun _ hK2 => wp_block (wp_seq_k fun _ hK3 => wp_region_lit (run S (.mv rfl <| .ix underlying32 sizeOf30 (by omega) rfl rfl <| .yy (ys_ldOA ⟨isAgg30, sizeOf30⟩ (.t rfl) (vs := [_, _, _]) rfl (fun _ => hcx)) rfl <| .z) fun a w S => st_m (op_alloc S zeroValue30 (cs := _) rfl rfl fun g2 a w S => run S (.as rfl <| .z) fun a w S => st_m (op_stW S sizeOf30 (.t rfl) (.t rfl) (k := 0) rfl rfl rfl (by simp [Value.oneCell']) fun a w S => st_nil (then_normal (hK3 _ _ (sg S (.mv rfl <| .yy (ys_T (by omega) (ys_lss (.t rfl) Ev.c)) rfl <| .z) fun a w S => st_then S (.t rfl) (wp_region_lit (run S (.mv rfl <| .mv rfl <| .la gt30 0 rfl rfl rfl <| .z) fun a w S => ?_)))))))))))))
      (replace S := S.pull 2 rfl; try simp only [List.set_cons_zero, List.set_cons_succ, List.eraseIdx_cons_succ, List.eraseIdx_cons_zero] at S; replace S := S.pull 2 rfl; try simp only [List.set_cons_zero, List.set_cons_succ, List.eraseIdx_cons_succ, List.eraseIdx_cons_zero] at S; refine st_m (op_callO S call14 (.cons (.t rfl) (.cons (.t rfl) (.cons (.t rfl) .nil))) (c14 S.wd (by first | assumption | omega | (dsimp only; omega) | exact Sl.nil_ | exact .old S.wd (by assumption) | exact Sl.of_own S.wd (k := 0) rfl (fun _ => rfl) | exact Sl.of_own S.wd (k := 1) rfl (fun _ => rfl) | exact Sl.of_own S.wd (k := 2) rfl (fun _ => rfl) | (simp; done) | (simp at *; omega)) (by first | assumption | omega | (dsimp only; omega) | exact Sl.nil_ | exact .old S.wd (by assumption) | exact Sl.of_own S.wd (k := 0) rfl (fun _ => rfl) | exact Sl.of_own S.wd (k := 1) rfl (fun _ => rfl) | exact Sl.of_own S.wd (k := 2) rfl (fun _ => rfl) | (simp; done) | (simp at *; omega)) (by first | assumption | omega | (dsimp only; omega) | exact Sl.nil_ | exact .old S.wd (by assumption) | exact Sl.of_own S.wd (k := 0) rfl (fun _ => rfl) | exact Sl.of_own S.wd (k := 1) rfl (fun _ => rfl) | exact Sl.of_own S.wd (k := 2) rfl (fun _ => rfl) | (simp; done) | (simp at *; omega))) rfl ?_) <;> clear S a w)
      rintro _ _ ⟨A21, e21, rfl, rfl⟩ a w S
      refine st_nil (in_normal (then_normal (hK2 _ _ (wp_region_lit (run S (.ad (by unfold I64; omega) rfl <| .mv rfl <| .z) fun a w S => st_nil (then_normal ?_))))))
      exact ⟨(i + 1, A21, e21), by dsimp only; omega, by dsimp only; omega, by dsimp only; rw [hst]; exact S.pk⟩
    · have hst : (l.take 40).take (i + 1) = (l.take 40).take i := by
        have e40 : ∀ j, 40 ≤ j → (l.take 40).take j = l.take 40 := fun j hj => List.take_of_length_le (by rw [List.length_take]; omega)
        rw [e40 _ (by omega), e40 _ (by omega)]
      refine sg S (.lt (by omega) rfl rfl <| .z) fun a w S => wp_seq_k fun _ hK2 => st_then S (.t rfl) (wp_skip (then_normal (hK2 _ _ (wp_seq_k fun _ hK2 => wp_block (wp_seq_k fun _ hK3 => wp_region_lit (run S (.mv rfl <| .ix underlying32 sizeOf30 (by omega) rfl rfl <| .yy (ys_ldOA ⟨isAgg30, sizeOf30⟩ (.t rfl) (vs := [_, _, _]) rfl (fun _ => hcx)) rfl <| .z) fun a w S => st_m (op_alloc S zeroValue30 (cs := _) rfl rfl fun g2 a w S => run S (.as rfl <| .z) fun a w S => st_m (op_stW S sizeOf30 (.t rfl) (.t rfl) (k := 0) rfl rfl rfl (by simp [Value.oneCell']) fun a w S => st_nil (then_normal (hK3 _ _ (sg S (.mv rfl <| .yy (ys_F (by omega) (ys_lss (.t rfl) Ev.c)) rfl <| .z) fun a w S => st_else S (.t rfl) (wp_skip (in_normal (then_normal (hK2 _ _ (wp_region_lit (run S (.ad (by unfold I64; omega) rfl <| .mv rfl <| .z) fun a w S => st_nil (then_normal ?_))))))))))))))))))
      exact ⟨(i + 1, B, cB), by dsimp only; omega, by dsimp only; omega, by dsimp only; rw [hst]; exact S.pk⟩
  obtain rfl : i = l.length := by omega
  rw [List.take_of_length_le (show (l.take 40).length ≤ l.length by rw [List.length_take]; omega)] at S
  refine sg S (.ge (by omega) rfl rfl <| .z) fun a w S => wp_seq_k fun _ hK2 => st_else S (.t rfl) (wp_exit (then_exit (then_exit (in_here (then_normal (hK1 _ _ (sg S (.mv rfl <| .as rfl <| .z) fun a w S => wp_ret (st_ret S (results1 S results28 (Rv.tmp rfl)) ?_))))))))
  exact ⟨_, _, rfl, S.wd.pk, _, _, _, rfl, rfl⟩
theorem c74 (w0 : World) : Rets Tryz.prog 74 #[] w0 fun u L => ∃ g, u = .agg #[.slice none 0 0, .slice (some ⟨g, 0, none⟩) 1 1, .slice none 0 0] ∧ L = [.blk g (.cells #[.int .i64 0, .int .i64 1, .int .i64 3] 30)] := by
  unfold Go.Fw.Rets
  refine enter0 func74 rfl ntmps74 rfl fun a S => wp_seq_k fun _ hK1 => wp_region_lit (st_m (op_alloc S zeroValue37 (cs := _) rfl rfl fun g1 a w S => st_nil (then_normal (hK1 _ _ (wp_seq_k fun _ hK1 => wp_region_lit (run S (.yy (ys_bld (ps := [(0, _), (1, _), (2, _)]) (us := [_, _, _]) bld30 (.cons Ev.c (.cons Ev.c (.cons Ev.c .nil))) rfl) rfl <| .z) fun a w S => st_m (op_bslice1 S underlying32 inf30 rfl rfl rfl (.t rfl) rfl rfl rfl fun g2 a w S => run S (.yy (ys_bld (ps := [(0, Go.Operand.tmp 2)]) (us := [_, _]) bld35 (.cons (.t rfl) .nil) rfl) rfl <| .yy (ys_bld (ps := [(1, Go.Operand.tmp 3)]) (us := [_, _, _]) bld37 (.cons (.t rfl) .nil) rfl) rfl <| .z) fun a w S => st_m (op_stW S sizeOf37 (.t rfl) (.t rfl) (k := 1) rfl rfl rfl (by simp [Value.oneCell']) fun a w S => st_nil (then_normal (hK1 _ _ (wp_ret (st_ret S (results1 S results74 (Rv.cell (k := 1) ⟨isAgg37, sizeOf37⟩ rfl rfl rfl)) ?_))))))))))))
  exact ⟨_, _, rfl, S.wd.pk, _, rfl, rfl⟩
end Go.Proofs.YtakpdbmdfnialaaGreat
set_option linter.unusedVariables false
set_option linter.unusedSimpArgs false
set_option maxRecDepth 100000
set_option maxHeartbeats 4000000
namespace Go.Fw
theorem ready_013 : readyG [C013] 0 1 = (⟨0, 1, 3⟩, 0) := by decide +kernel
theorem put_013 : putG [] [107] ⟨0, 1, 3⟩ = ([⟨[107], ⟨0, 1, 3⟩⟩], 0) := by decide +kernel
theorem clean_013 : cleanG (marksG [⟨[107], ⟨0, 1, 3⟩⟩] [107]) C013 = (Cart.zero, 0) := by decide +kernel
theorem marks_013 : marksG [⟨[107], ⟨0, 1, 3⟩⟩] [107] = [⟨0, 1, 3⟩] := by decide +kernel
end Go.Fw
namespace Go.Proofs.YtakpdbmdfnialaaGreat
open Go.Fw Go.Proofs Go.RowKit Go.Proofs.Tryz
theorem c27 (w0 : World) : Calls Tryz.prog 27 #[] w0 fun e w' => e = .returned (.bool true) ∧ Bel w0.heap.size w0 w' := by
  refine enter0 func27 rfl ntmps27 rfl fun a S => sg S (.ac rfl <| .z) fun a w S => wp_seq_k fun _ hK1 => wp_region_lit ?_
  (refine st_m (op_calls S call74 .nil (c74 _) rfl ?_); clear S a w; rintro _ _ ⟨g1, rfl, rfl⟩ a w S)
  refine st_m (op_bslice1 S underlying64 inf37 rfl rfl rfl (.t rfl) rfl rfl rfl fun g2 a w S => run S (.yy (ys_bld (ps := [(0, _), (1, _)]) (us := [_, _]) bld66 (.cons Ev.c (.cons Ev.c .nil)) rfl) rfl <| .z) fun a w S => st_y S (ys_call call34 (.cons (.t rfl) (.cons (.t rfl) .nil)) (fun _ w' W' => c34 w' _ [(C013, (⟨none, 0, 0, some ⟨g1, 0, none⟩, 1, 1, none, 0, 0⟩ : Sls3))] 0 1 (Sl.of_blk (cap := 1) [(C013, (⟨none, 0, 0, some ⟨g1, 0, none⟩, 1, 1, none, 0, 0⟩ : Sls3))] W' (k := 0) rfl rfl SCart.enc_len (by simp) (by simp)) (fun p hp => by rw [List.mem_singleton.1 hp]; exact ⟨Sl.nil_, sl_y1 W' (k := 1) rfl, Sl.nil_⟩))) rfl ?_)
  clear S a w
  intro a w S
  rw [show List.map (fun x : SCart => x.1) [(C013, (⟨none, 0, 0, some ⟨g1, 0, none⟩, 1, 1, none, 0, 0⟩ : Sls3))] = [C013] from rfl, ready_013] at S
  dsimp only [Dot.enc] at S
  have rw_1 : decide ((0 : Int) = 0 ∧ (1 : Int) = 1 ∧ (3 : Int) = 3) = true := by decide
  refine run S (.mv rfl <| .ex rfl rfl <| .ex rfl rfl <| .z) fun a w S => st_m (op_alloc S zeroValue30 (cs := _) rfl rfl fun g3 a w S => st_m (op_stW S sizeOf30 (.t rfl) (.t rfl) (k := 0) rfl rfl rfl (by simp [Value.oneCell']) fun a w S => run S (.as rfl <| .z) fun a w S => st_nil (then_normal (hK1 _ _ (wp_seq_k fun _ hK1 => wp_region_lit ?_)))))
  (refine st_m (op_calls S call13 .nil (c13 _) rfl ?_); clear S a w; rintro _ _ ⟨g4, rfl, rfl⟩ a w S)
  refine run S (.as rfl <| .z) fun a w S => st_nil (then_normal (hK1 _ _ (wp_seq_k fun _ hK1 => wp_seq_k fun _ hK2 => wp_region_lit (run S (.mv rfl <| .yy (ys_F (by omega) (ys_neq (.t rfl) Ev.c)) rfl <| .mv rfl <| .gy rfl rfl (ys_ldA ⟨isAgg30, sizeOf30⟩ (.t rfl) (k := 1) rfl rfl) <| .gy rfl rfl (ys_bld (ps := [(0, _), (1, _), (2, _)]) (us := [_, _, _]) bld30 (.cons Ev.c (.cons Ev.c (.cons Ev.c .nil))) rfl) <| .gy rfl rfl (ys_neA (.t rfl) (.t rfl) eq30) <| .z) fun a w S => ?_))))
  rw [rw_1] at S
  refine run S (.yy (ys_pickF (.t rfl) (.t rfl)) rfl <| .mv rfl <| .gy rfl rfl (ys_move (.t rfl)) <| .gy rfl rfl (ys_ldA ⟨isAgg30, sizeOf30⟩ (.t rfl) (k := 1) rfl rfl) <| .z) fun a w S => ?_
  replace S := S.nil_ 52 4 Gon.enc none
  (replace S := S.pull 1 rfl; try simp only [List.set_cons_zero, List.set_cons_succ, List.eraseIdx_cons_succ, List.eraseIdx_cons_zero] at S)
  change St _ _ _ (tabP g4 none 0 [] _) _ _ at S
  have tab0 := tab_nil
  (refine st_mg S rfl rfl (op_callO S call14 (.cons (.t rfl) (.cons Ev.c (.cons (.t rfl) .nil))) (c14 S.wd (by first | assumption | omega | (dsimp only; omega) | exact Sl.nil_ | exact .old S.wd (by assumption) | exact Sl.of_own S.wd (k := 0) rfl (fun _ => rfl) | exact Sl.of_own S.wd (k := 1) rfl (fun _ => rfl) | exact Sl.of_own S.wd (k := 2) rfl (fun _ => rfl) | exact Sl.of_own S.wd (k := 3) rfl (fun _ => rfl) | exact Sl.of_own S.wd (k := 4) rfl (fun _ => rfl) | (simp; done) | (simp at *; omega)) (by first | assumption | omega | (dsimp only; omega) | exact Sl.nil_ | exact .old S.wd (by assumption) | exact Sl.of_own S.wd (k := 0) rfl (fun _ => rfl) | exact Sl.of_own S.wd (k := 1) rfl (fun _ => rfl) | exact Sl.of_own S.wd (k := 2) rfl (fun _ => rfl) | exact Sl.of_own S.wd (k := 3) rfl (fun _ => rfl) | exact Sl.of_own S.wd (k := 4) rfl (fun _ => rfl) | (simp; done) | (simp at *; omega)) (by first | assumption | omega | (dsimp only; omega) | exact Sl.nil_ | exact .old S.wd (by assumption) | exact Sl.of_own S.wd (k := 0) rfl (fun _ => rfl) | exact Sl.of_own S.wd (k := 1) rfl (fun _ => rfl) | exact Sl.of_own S.wd (k := 2) rfl (fun _ => rfl) | exact Sl.of_own S.wd (k := 3) rfl (fun _ => rfl) | exact Sl.of_own S.wd (k := 4) rfl (fun _ => rfl) | (simp; done) | (simp at *; omega))) rfl ?_) <;> clear S a w)
  rintro _ _ ⟨A21, e21, rfl, rfl⟩ a w S
  refine run S (.gy rfl rfl (ys_neq (.t rfl) Ev.c) <| .yy (ys_pickF (.t rfl) (.t rfl)) rfl <| .z) fun a w S => st_nil (then_normal (hK2 _ _ (st_else S (.t rfl) (wp_skip (then_normal (hK1 _ _ (wp_seq_k fun _ hK1 => wp_region_lit (run S (.mv rfl <| .z) fun a w S => ?_))))))))
  (refine st_m (op_calls S call74 .nil (c74 _) rfl ?_); clear S a w; rintro _ _ ⟨g5, rfl, rfl⟩ a w S)
  simp only [put_013] at S
  refine st_m (op_calls S call17 (.cons (.t rfl) (.cons Ev.c (.cons (.t rfl) .nil))) (c17 _ g4 _ [⟨[107], ⟨0, 1, 3⟩⟩] [107] _ _ _ C013 (Wd.cell S.wd (k := 1) rfl rfl) (Wd.cell S.wd (k := 1) rfl rfl) (Sl.of_own S.wd (k := 2) rfl (fun _ => rfl)) (by simp) Sl.nil_ ⟨sl_y1 S.wd (k := 0) rfl, Sl.nil_⟩) rfl ?_)
  clear S a w
  rintro _ _ ⟨F1, f1, F2, f2, F3, f3, rfl, rfl⟩ a w S
  simp only [clean_013] at S
  dsimp only [Cart.zero, List.length_nil] at S
  refine run S (.mv rfl <| .ex rfl rfl <| .ex rfl rfl <| .z) fun a w S => st_m (op_alloc S zeroValue37 (cs := _) rfl rfl fun g6 a w S => st_m (op_stW S sizeOf37 (.t rfl) (.t rfl) (k := 0) rfl rfl rfl (by simp [Value.oneCell']) fun a w S => run S (.as rfl <| .z) fun a w S => st_nil (then_normal (hK1 _ _ (wp_seq_k fun _ hK1 => h_begin0 S (by kernel_rfl) fun a w S => hy 0 S rfl (ys_move (.t rfl)) rfl fun a w S => hy 1 S rfl (ys_T (by omega) (ys_eql (.t rfl) Ev.c)) rfl fun a w S => hy 2 S rfl (ys_move (.t rfl)) rfl fun a w S => hyt 3 S rfl rfl rfl (ys_fieldN (FieldT.mk underlying37 rfl sizeOf35 rfl) (.t rfl) (i' := 1) rfl) rfl fun a w S => ?_)))))
  refine hyt 4 S rfl rfl rfl (ys_fieldN (FieldT.mk underlying35 rfl sizeOf32 rfl) (.t rfl) (i' := 1) rfl) rfl fun a w S => hyt 5 S rfl rfl rfl (ys_ld ⟨isAgg32, sizeOf32⟩ (.t rfl) (k := 0) rfl rfl) rfl fun a w S => hyt 6 S rfl rfl rfl (ys_lenS underlying32 (.t rfl)) rfl fun a w S => hyt 7 S rfl rfl rfl (ys_T (by omega) (ys_eql (.t rfl) Ev.c)) rfl fun a w S => hy 8 S rfl (ys_pickT (.t rfl) (.t rfl)) rfl fun a w S => ?_
  refine hy 9 S rfl (ys_move (.t rfl)) rfl fun a w S => hyt 10 S rfl rfl rfl (ys_move (.t rfl)) rfl fun a w S => hyt 12 S rfl rfl rfl (ys_ldA ⟨isAgg30, sizeOf30⟩ (.t rfl) (k := 7) rfl rfl) rfl fun a w S => ?_
  refine h_splitw S (i := 11) (j := 13) (by kernel_rfl) rfl rfl ⟨_, rfl, rfl⟩ ⟨_, rfl, rfl⟩ ?_ ?_
  (refine op_calls S call21 (.cons (.t rfl) (.cons Ev.c .nil)) (c21 _ _ _ _ _ (by exact Wd.cell S.wd (k := 5) rfl rfl) (by exact Wd.cell S.wd (k := 5) rfl rfl) (by exact Sl.of_own S.wd (k := 6) rfl (fun _ => rfl)) (by (simp; done))) rfl ?_; clear S a w; rintro _ _ ⟨A1, c1, rfl, rfl⟩ a w S; refine h_n1 S ?_)
  (refine h_mg (i := 13) S rfl (by kernel_rfl) rfl rfl (op_bslice1 S underlying32 inf30 rfl rfl rfl (.t rfl) rfl rfl rfl ?_); clear S a w; intro g7 a w S; refine h_n2 S ?_)
  refine h_qg (i := 14) S (by repeat (first | exact List.Sublist.refl _ | exact List.nil_sublist _ | refine .cons_cons _ ?_ | refine .cons _ ?_)) rfl (by kernel_rfl) rfl rfl (ys_call call23 (.cons (.t rfl) (.cons (.t rfl) .nil)) (fun hp w W => c23 _ _ _ _ _ (by exact Sl.of_own W (k := 1) rfl (fun _ => rfl)) (by exact sl_y1 W (k := 0) rfl))) rfl fun a w S => hy 15 S rfl (ys_pickT (.t rfl) (.t rfl)) rfl fun a w S => hy 16 S rfl (ys_assign (.t rfl)) rfl fun a w S => h_done (by kernel_rfl) (then_normal (hK1 _ _ (wp_ret (st_ret S (results1 S results27 (Rv.tmp rfl)) ?_))))
  rotate_left
  (refine op_bslice1 S underlying32 inf30 rfl rfl rfl (.t rfl) rfl rfl rfl ?_; clear S a w; intro g7 a w S; refine h_n1 S ?_)
  (refine h_mg (i := 11) S rfl (by kernel_rfl) rfl rfl (op_calls S call21 (.cons (.t rfl) (.cons Ev.c .nil)) (c21 _ _ _ _ _ (by exact Wd.cell S.wd (k := 6) rfl rfl) (by exact Wd.cell S.wd (k := 6) rfl rfl) (by exact Sl.of_own S.wd (k := 7) rfl (fun _ => rfl)) (by (simp; done))) rfl ?_); clear S a w; rintro _ _ ⟨A1, c1, rfl, rfl⟩ a w S; refine h_n2 S ?_)
  refine h_qg (i := 14) S (by repeat (first | exact List.Sublist.refl _ | exact List.nil_sublist _ | refine .cons_cons _ ?_ | refine .cons _ ?_)) rfl (by kernel_rfl) rfl rfl (ys_call call23 (.cons (.t rfl) (.cons (.t rfl) .nil)) (fun hp w W => c23 _ _ _ _ _ (by exact Sl.of_own W (k := 0) rfl (fun _ => rfl)) (by exact sl_y1 W (k := 1) rfl))) rfl fun a w S => hy 15 S rfl (ys_pickT (.t rfl) (.t rfl)) rfl fun a w S => hy 16 S rfl (ys_assign (.t rfl)) rfl fun a w S => h_done (by kernel_rfl) (then_normal (hK1 _ _ (wp_ret (st_ret S (results1 S results27 (Rv.tmp rfl)) ?_))))
  rotate_left
  all_goals exact ⟨by rw [marks_013, decide_eq_true rfl], S.wd.below⟩
end Go.Proofs.YtakpdbmdfnialaaGreat
set_option linter.unusedVariables false
set_option linter.unusedSimpArgs false
set_option maxRecDepth 100000
set_option maxHeartbeats 4000000
namespace Go.Fw
structure ApartOk (one M : List Dot) : Prop where
  ok1 : TabOk (putsG [107] [] one)
  ok2 : TabOk (putG (twoG [111, 116, 104, 101, 114] [107] [] M) [116, 104, 105, 114, 100] ⟨1, 1, 1⟩).1
  k : marksG (putG (twoG [111, 116, 104, 101, 114] [107] [] M) [116, 104, 105, 114, 100] ⟨1, 1, 1⟩).1 [107] = marksG (putsG [107] [] one) [107]
  o : marksG (putG (twoG [111, 116, 104, 101, 114] [107] [] M) [116, 104, 105, 114, 100] ⟨1, 1, 1⟩).1 [111, 116, 104, 101, 114] = marksG (putsG [107] [] one) [107]
  no : marksG (putsG [107] [] one) [111, 116, 104, 101, 114] = []
theorem apart_ok {one M : List Dot} (hd : distA one) (hp : M.Perm one) : ApartOk one M := by
  have hk : nameB [107] = true := by decide +kernel
  have ho : nameB [111, 116, 104, 101, 114] = true := by decide +kernel
  have ok1 : TabOk (putsG [107] [] one) := puts_ok one tab_nil
  have ok2 : TabOk (putG (twoG [111, 116, 104, 101, 114] [107] [] M) [116, 104, 105, 114, 100] ⟨1, 1, 1⟩).1 := putG_ok (two_ok M tab_nil) _ _
  have h1 : MarksOf (putsG [107] [] one) [107] one := by
    have := puts_marks hk one [] (marksOf_nil [107]) (by simpa using hd)
    simpa using this
  have hM : distA M := distA_perm hp.symm hd
  have h2 := two_marks ho hk (by decide) M [] (marksOf_nil [111, 116, 104, 101, 114]) (marksOf_nil [107]) (by simpa using hM)
  simp only [List.nil_append] at h2
  have h3 := marksOf_other (m := ⟨1, 1, 1⟩) h2.1 (show ([111, 116, 104, 101, 114] : List UInt8) ≠ [116, 104, 105, 114, 100] by decide)
  have h4 := marksOf_other (m := ⟨1, 1, 1⟩) h2.2 (show ([107] : List UInt8) ≠ [116, 104, 105, 114, 100] by decide)
  have hn : MarksOf (putsG [107] [] one) [111, 116, 104, 101, 114] [] := puts_other (by decide) one [] (marksOf_nil [111, 116, 104, 101, 114])
  refine ⟨ok1, ok2, marksOf_uniq ok2 ok1 h4 h1 fun x => hp.mem_iff, marksOf_uniq ok2 ok1 h3 h1 fun x => hp.mem_iff, ?_⟩
  rw [List.eq_nil_iff_forall_not_mem]
  intro x hx
  have := (hn x).1 hx
  simp at this
theorem clean_nil2 (X : Cart) : (cleanG [] X).2 = canE X := by
  unfold cleanG
  split
  · rename_i h; rw [h]; rfl
  · rfl
theorem clean_nil1 {X : Cart} (h : canE X = 0) : (cleanG [] X).1 = X := by
  unfold cleanG
  rw [if_pos h]
  rfl
theorem once_snoc {l : List Dot} {i : Nat} {m : Dot} (h : l[i]? = some m) : onceA (l.take (i + 1)) = onceF (onceA (l.take i)) m := by
  unfold onceA
  rw [List.take_add_one, h, Option.toList_some, List.foldl_append]
  rfl
end Go.Fw
namespace Go.Proofs.YtakpdbmdfnialaaGreat
open Go.Fw Go.Proofs Go.RowKit Go.Proofs.Tryz
theorem c30 (w0 : World) (x m : Dot) (g : Nat) (h0 : w0.cell? ⟨g, 0, none⟩ = some (.int .i64 m.node)) (h1 : w0.cell? ⟨g, 1, none⟩ = some (.int .i64 m.life)) :
    Calls Tryz.prog 30 #[.agg (Dot.enc x).toArray, .pointer (some ⟨g, 0, none⟩)] w0 fun e w' => e = .returned (.bool (decide (x.node = m.node ∧ x.life = m.life))) ∧ Bel w0.heap.size w0 w' := by
  refine enter2 func30 rfl ntmps30 rfl fun a S => wp_seq_k fun _ hK1 => wp_region_lit (st_m (op_box S (.t rfl) rfl fun g1 a w S => run S (.ac rfl <| .z) fun a w S => st_nil (then_normal (hK1 _ _ (wp_seq_k fun _ hK1 => wp_region_lit (run S (.fa underlying30 sizeOf3 0 rfl rfl rfl <| .ld gt3 0 rfl rfl rfl <| .fa underlying30 sizeOf3 0 rfl rfl rfl <| .yy (ys_ldO ⟨isAgg3, sizeOf3⟩ (.t rfl) (fun _ => h0)) rfl <| .yy (ys_eql (.t rfl) (.t rfl)) rfl <| .mv rfl <| .z) fun a w S => st_yg S rfl rfl (Yr.ys (ys_fieldN (FieldT.mk underlying30 rfl sizeOf3 rfl) (.t rfl) (i' := 1) rfl)) rfl fun a w S => st_yg S rfl rfl (Yr.ys (ys_ld ⟨isAgg3, sizeOf3⟩ (Ev.g rfl) (k := 0) rfl rfl)) rfl fun a w S => st_yg S rfl rfl (Yr.ys (ys_fieldN (FieldT.mk underlying30 rfl sizeOf3 rfl) (.t rfl) (i' := 1) rfl)) rfl fun a w S => st_yg S rfl rfl (Yr.ys (ys_ldO ⟨isAgg3, sizeOf3⟩ (Ev.g rfl) (fun _ => h1))) rfl fun a w S => st_yg S rfl rfl (Yr.ys (ys_eql (Ev.g rfl) (Ev.g rfl))) rfl fun a w S => run S (.yy (ys_and (.t rfl) (Ev.g rfl) Ev.c) rfl <| .as rfl <| .z) fun a w S => st_nil (then_normal (hK1 _ _ (wp_ret (st_ret S (results1 S results30 (Rv.tmp rfl)) ?_))))))))))
  exact ⟨by simp, S.wd.below⟩
theorem c31 (w0 : World) (v : Value) (l : List Dot) (g : Nat) (m : Dot) (h : Sl Dot.enc 3 w0 w0.heap.size v l) (h0 : w0.cell? ⟨g, 0, none⟩ = some (.int .i64 m.node)) (h1 : w0.cell? ⟨g, 1, none⟩ = some (.int .i64 m.life)) :
    Calls Tryz.prog 31 #[v, .func (.func 30) #[] #[.pointer (some ⟨g, 0, none⟩)]] w0 fun e w' => e = .returned (.bool (inA l m.node m.life)) ∧ Bel w0.heap.size w0 w' :=
  x31 w0 v l _ [.pointer (some ⟨g, 0, none⟩)] (fun x => decide (x.node = m.node ∧ x.life = m.life)) call30 (fun w' W' x _ => c30 w' x m g (Wd.cellOld W' h0) (Wd.cellOld W' h1)) h
theorem c5 (w0 : World) (v u v1 v2 v3 : Value) (l : List Dot) (od : List UInt64) (X : Cart) (h : Sl Dot.enc 3 w0 w0.heap.size v l) (hn : l.length ≤ 1048576) (ho : Sl encU 1 w0 w0.heap.size u od) (hon : od.length ≤ 1048576) (hX : Sl Ent.enc 6 w0 w0.heap.size v1 X.ents) (hXc : RdCtx w0 w0.heap.size v2 v3 X.ctx)
    (b1 : X.ents.length ≤ 1048576) (b2 : X.ctx.marks.length ≤ 1048576) (b3 : X.ctx.cloud.length ≤ 1048576) :
    Calls Tryz.prog 5 #[v, u, .agg #[v1, v2, v3]] w0 fun e w' => e = .returned (.bool true) ∧ Bel w0.heap.size w0 w' := by
  have hs := h
  have hX1 := hX
  have hX2 := hXc
  obtain ⟨A, cap, rfl, hl, hcap, hA⟩ := h
  obtain ⟨O, capO, rfl, hlO, hcapO, hO⟩ := ho
  obtain ⟨B, capB, rfl, _⟩ := hX
  obtain ⟨⟨B2, capB2, rfl, _⟩, ⟨B3, capB3, rfl, _⟩⟩ := hXc
  refine enter3 Tryz.func5 rfl Tryz.ntmps5 rfl fun a S => ?_
  refine wp_seq_k fun _ hK1 => ?_
  refine wp_region_lit ?_
  (refine st_m (op_box S (Ev.t rfl) rfl ?_); clear S a; intro g1 a w S)
  (refine st_y S (Yr.ys (ys_assign Ev.c)) rfl ?_; clear S a w; intro a w S)
  refine st_nil ?_
  (refine (then_normal (hK1 _ _ ?_)); clear hK1)
  refine wp_seq_k fun _ hK1 => ?_
  refine wp_region_lit ?_
  (refine st_y S (Yr.ys (ys_assign Ev.c)) rfl ?_; clear S a w; intro a w S)
  refine st_nil ?_
  (refine (then_normal (hK1 _ _ ?_)); clear hK1)
  refine wp_seq_k fun _ hK1 => ?_
  refine wp_seq_k fun _ hK2 => ?_
  refine wp_region_lit ?_
  (refine st_y S (Yr.ys (ys_move (Ev.t rfl))) rfl ?_; clear S a w; intro a w S)
  (refine st_y S (Yr.ys (ys_lenS Tryz.underlying32 (Ev.t rfl))) rfl ?_; clear S a w; intro a w S)
  (refine st_y S (Yr.ys (ys_move Ev.c)) rfl ?_; clear S a w; intro a w S)
  refine st_nil ?_
  (refine (then_normal (hK2 _ _ ?_)); clear hK2)
  refine wp_block ?_
  replace S := S.nil_ 30 3 Dot.enc none
  refine st_loopM S [7, 25] (X := Nat × Option Addr × Nat) (fun q => [(7, true, .slice q.2.1 (onceA ((l.take 40).take q.1)).length q.2.2), (25, true, .int .i64 (q.1 : Int))]) (fun q => [rowOf 30 3 Dot.enc q.2.1 q.2.2 (onceA ((l.take 40).take q.1)), .blk g1 (.cells #[.slice B X.ents.length capB, .slice B2 X.ctx.marks.length capB2, .slice B3 X.ctx.cloud.length capB3] 37)]) (fun q => q.1 ≤ l.length) (fun q => l.length - q.1) (0, none, 0) (Nat.zero_le _) (by repeat (first | exact Fits.nil | refine Fits.skip rfl ?_ | refine Fits.cons rfl ?_)) (by repeat (first | exact Picks.nil | (refine Picks.rest ?_; (repeat (first | exact List.Sublist.refl _ | refine List.Sublist.cons_cons _ ?_ | refine List.Sublist.cons _ ?_)); done) | refine Picks.take 0 rfl ?_ | refine Picks.take 1 rfl ?_ | refine Picks.take 2 rfl ?_ | refine Picks.take 3 rfl ?_ | refine Picks.take 4 rfl ?_ | refine Picks.take 5 rfl ?_ | refine Picks.take 6 rfl ?_ | refine Picks.take 7 rfl ?_ | refine Picks.take 8 rfl ?_ | refine Picks.take 9 rfl ?_ | refine Picks.take 10 rfl ?_ | refine Picks.take 11 rfl ?_)) ?_
  clear S
  rintro ⟨i, C, cC⟩ a w hi S
  dsimp only at hi S
  have e40 : ∀ j, 40 ≤ j → (l.take 40).take j = l.take 40 := fun j hj => List.take_of_length_le (by rw [List.length_take]; omega)
  have hol := once_len ((l.take 40).take i)
  rw [List.length_take, List.length_take] at hol
  by_cases hlt : i < l.length
  · obtain ⟨gq, oq, x, rfl, hx, hd, hcx⟩ := row_at hA hlt
    by_cases h40 : i < 40
    · have hx40 : (l.take 40)[i]? = some x := by rw [List.getElem?_take_of_lt h40]; exact hx
      have hst := once_snoc hx40
      cases hin : inA (onceA ((l.take 40).take i)) x.node x.life with
      | true =>
        have rw_i := hin
        have hst2 : onceF (onceA ((l.take 40).take i)) x = onceA ((l.take 40).take i) := by unfold onceF; rw [if_pos hin]
        rw [hst2] at hst
        refine wp_seq_k fun _ hK2 => ?_
        refine wp_region_lit ?_
        (refine st_y S (Yr.ys (ys_T (by omega) (ys_lss (Ev.t rfl) (Ev.t rfl)))) rfl ?_; clear S a w; intro a w S)
        refine st_nil ?_
        (refine (then_normal (hK2 _ _ ?_)); clear hK2)
        refine wp_seq_k fun _ hK2 => ?_
        refine st_then S (Ev.t rfl) ?_
        refine wp_skip ?_
        (refine (then_normal (hK2 _ _ ?_)); clear hK2)
        refine wp_seq_k fun _ hK2 => ?_
        refine wp_block ?_
        refine wp_seq_k fun _ hK3 => ?_
        refine wp_region_lit ?_
        (refine st_y S (Yr.ys (ys_move (Ev.t rfl))) rfl ?_; clear S a w; intro a w S)
        (refine st_y S (Yr.ys (ys_ixS Tryz.underlying32 Tryz.sizeOf30 (Ev.t rfl) (Ev.t rfl) (fun _ => by omega))) rfl ?_; clear S a w; intro a w S)
        (refine st_y S (Yr.ys (ys_ldOA ⟨Tryz.isAgg30, Tryz.sizeOf30⟩ (Ev.t rfl) (vs := [_, _, _]) rfl (fun _ => hcx))) rfl ?_; clear S a w; intro a w S)
        (refine st_m (op_alloc S Tryz.zeroValue30 (cs := _) rfl rfl ?_); clear S a w; intro g2 a w S)
        (refine st_y S (Yr.ys (ys_assign (Ev.t rfl))) rfl ?_; clear S a w; intro a w S)
        (refine st_m (op_stW S Tryz.sizeOf30 (Ev.t rfl) (Ev.t rfl) (k := 0) rfl rfl rfl (by simp [Value.oneCell']) ?_); clear S a w; intro a w S)
        refine st_nil ?_
        (refine (then_normal (hK3 _ _ ?_)); clear hK3)
        refine wp_seq_k fun _ hK3 => ?_
        refine wp_region_lit ?_
        (refine st_y S (Yr.ys (ys_mkFunc (EvL.cons (Ev.t rfl) EvL.nil))) rfl ?_; clear S a w; intro a w S)
        (refine st_y S (Yr.ys (ys_assign (Ev.t rfl))) rfl ?_; clear S a w; intro a w S)
        refine st_nil ?_
        (refine (then_normal (hK3 _ _ ?_)); clear hK3)
        refine wp_seq_k fun _ hK3 => ?_
        refine wp_region_lit ?_
        (refine st_y S (Yr.ys (ys_move (Ev.t rfl))) rfl ?_; clear S a w; intro a w S)
        (refine st_y S (Yr.ys (ys_T (by omega) (ys_lss (Ev.t rfl) Ev.c))) rfl ?_; clear S a w; intro a w S)
        (refine st_y S (Yr.ys (ys_move (Ev.t rfl))) rfl ?_; clear S a w; intro a w S)
        (refine st_yt S rfl rfl (Yr.ys (ys_move (Ev.t rfl))) rfl ?_; clear S a w; intro a w S)
        (refine st_yt S rfl rfl (Yr.ys (ys_move (Ev.t rfl))) rfl ?_; clear S a w; intro a w S)
        (refine st_yt S rfl rfl (ys_call Tryz.call31 (EvL.cons (Ev.t rfl) (EvL.cons (Ev.t rfl) EvL.nil)) (fun hp w W => c31 _ _ _ _ _ (by exact Sl.of_own W (k := 1) rfl (fun _ => rfl)) (by exact Wd.cell W (k := 0) rfl rfl) (by exact Wd.cell W (k := 0) rfl rfl))) rfl ?_; clear S a w; intro a w S)
        rw [rw_i] at S
        (refine st_yt S rfl rfl (Yr.ys (ys_not (Ev.t rfl))) rfl ?_; clear S a w; intro a w S)
        (refine st_y S (Yr.ys (ys_pickT (Ev.t rfl) (Ev.t rfl))) rfl ?_; clear S a w; intro a w S)
        refine st_nil ?_
        (refine (then_normal (hK3 _ _ ?_)); clear hK3)
        refine st_else S (Ev.t rfl) ?_
        refine wp_skip ?_
        (refine (in_normal (then_normal (hK2 _ _ ?_))); clear hK2)
        refine wp_region_lit ?_
        (refine st_y S (Yr.ys (ys_addI (Ev.t rfl) Ev.c (fun _ => by unfold I64; omega))) rfl ?_; clear S a w; intro a w S)
        (refine st_y S (Yr.ys (ys_move (Ev.t rfl))) rfl ?_; clear S a w; intro a w S)
        refine st_nil ?_
        refine (then_normal ?_)
        exact ⟨(i + 1, C, cC), by dsimp only; omega, by dsimp only; omega, by dsimp only; rw [hst]; exact S.picks (by repeat (first | exact Fits.nil | refine Fits.skip rfl ?_ | refine Fits.cons rfl ?_)) (by repeat (first | exact Picks.nil | (refine Picks.rest ?_; (repeat (first | exact List.Sublist.refl _ | refine List.Sublist.cons_cons _ ?_ | refine List.Sublist.cons _ ?_)); done) | refine Picks.take 0 rfl ?_ | refine Picks.take 1 rfl ?_ | refine Picks.take 2 rfl ?_ | refine Picks.take 3 rfl ?_ | refine Picks.take 4 rfl ?_ | refine Picks.take 5 rfl ?_ | refine Picks.take 6 rfl ?_ | refine Picks.take 7 rfl ?_ | refine Picks.take 8 rfl ?_ | refine Picks.take 9 rfl ?_ | refine Picks.take 10 rfl ?_ | refine Picks.take 11 rfl ?_))⟩
      | false =>
        have rw_i := hin
        have hst2 : onceF (onceA ((l.take 40).take i)) x = onceA ((l.take 40).take i) ++ [x] := by unfold onceF; rw [if_neg (by rw [hin]; simp)]
        rw [hst2] at hst
        refine wp_seq_k fun _ hK2 => ?_
        refine wp_region_lit ?_
        (refine st_y S (Yr.ys (ys_T (by omega) (ys_lss (Ev.t rfl) (Ev.t rfl)))) rfl ?_; clear S a w; intro a w S)
        refine st_nil ?_
        (refine (then_normal (hK2 _ _ ?_)); clear hK2)
        refine wp_seq_k fun _ hK2 => ?_
        refine st_then S (Ev.t rfl) ?_
        refine wp_skip ?_
        (refine (then_normal (hK2 _ _ ?_)); clear hK2)
        refine wp_seq_k fun _ hK2 => ?_
        refine wp_block ?_
        refine wp_seq_k fun _ hK3 => ?_
        refine wp_region_lit ?_
        (refine st_y S (Yr.ys (ys_move (Ev.t rfl))) rfl ?_; clear S a w; intro a w S)
        (refine st_y S (Yr.ys (ys_ixS Tryz.underlying32 Tryz.sizeOf30 (Ev.t rfl) (Ev.t rfl) (fun _ => by omega))) rfl ?_; clear S a w; intro a w S)
        (refine st_y S (Yr.ys (ys_ldOA ⟨Tryz.isAgg30, Tryz.sizeOf30⟩ (Ev.t rfl) (vs := [_, _, _]) rfl (fun _ => hcx))) rfl ?_; clear S a w; intro a w S)
        (refine st_m (op_alloc S Tryz.zeroValue30 (cs := _) rfl rfl ?_); clear S a w; intro g2 a w S)
        (refine st_y S (Yr.ys (ys_assign (Ev.t rfl))) rfl ?_; clear S a w; intro a w S)
        (refine st_m (op_stW S Tryz.sizeOf30 (Ev.t rfl) (Ev.t rfl) (k := 0) rfl rfl rfl (by simp [Value.oneCell']) ?_); clear S a w; intro a w S)
        refine st_nil ?_
        (refine (then_normal (hK3 _ _ ?_)); clear hK3)
        refine wp_seq_k fun _ hK3 => ?_
        refine wp_region_lit ?_
        (refine st_y S (Yr.ys (ys_mkFunc (EvL.cons (Ev.t rfl) EvL.nil))) rfl ?_; clear S a w; intro a w S)
        (refine st_y S (Yr.ys (ys_assign (Ev.t rfl))) rfl ?_; clear S a w; intro a w S)
        refine st_nil ?_
        (refine (then_normal (hK3 _ _ ?_)); clear hK3)
        refine wp_seq_k fun _ hK3 => ?_
        refine wp_region_lit ?_
        (refine st_y S (Yr.ys (ys_move (Ev.t rfl))) rfl ?_; clear S a w; intro a w S)
        (refine st_y S (Yr.ys (ys_T (by omega) (ys_lss (Ev.t rfl) Ev.c))) rfl ?_; clear S a w; intro a w S)
        (refine st_y S (Yr.ys (ys_move (Ev.t rfl))) rfl ?_; clear S a w; intro a w S)
        (refine st_yt S rfl rfl (Yr.ys (ys_move (Ev.t rfl))) rfl ?_; clear S a w; intro a w S)
        (refine st_yt S rfl rfl (Yr.ys (ys_move (Ev.t rfl))) rfl ?_; clear S a w; intro a w S)
        (refine st_yt S rfl rfl (ys_call Tryz.call31 (EvL.cons (Ev.t rfl) (EvL.cons (Ev.t rfl) EvL.nil)) (fun hp w W => c31 _ _ _ _ _ (by exact Sl.of_own W (k := 1) rfl (fun _ => rfl)) (by exact Wd.cell W (k := 0) rfl rfl) (by exact Wd.cell W (k := 0) rfl rfl))) rfl ?_; clear S a w; intro a w S)
        rw [rw_i] at S
        (refine st_yt S rfl rfl (Yr.ys (ys_not (Ev.t rfl))) rfl ?_; clear S a w; intro a w S)
        (refine st_y S (Yr.ys (ys_pickT (Ev.t rfl) (Ev.t rfl))) rfl ?_; clear S a w; intro a w S)
        refine st_nil ?_
        (refine (then_normal (hK3 _ _ ?_)); clear hK3)
        refine st_then S (Ev.t rfl) ?_
        refine wp_region_lit ?_
        (refine st_y S (Yr.ys (ys_move (Ev.t rfl))) rfl ?_; clear S a w; intro a w S)
        (refine st_y S (Yr.ys (ys_ldA ⟨Tryz.isAgg30, Tryz.sizeOf30⟩ (Ev.t rfl) (k := 0) rfl rfl)) rfl ?_; clear S a w; intro a w S)
        (refine st_m (op_bslice1 S Tryz.underlying32 inf30 rfl rfl rfl (Ev.t rfl) rfl rfl rfl ?_); clear S a w; intro g3 a w S)
        (refine st_m (op_push S Tryz.underlying32 inf30 rfl (k := 2) (j := 0) rfl (Ev.t rfl) (Ev.t rfl) rfl rfl rfl rfl (by first | omega | (simp only [List.length_append, List.length_cons, List.length_nil]; omega)) rfl rfl rfl ?_); clear S a w; intro A1 cap1 a w S)
        (refine st_y S (Yr.ys (ys_assign (Ev.t rfl))) rfl ?_; clear S a w; intro a w S)
        refine st_nil ?_
        (refine (in_normal (then_normal (hK2 _ _ ?_))); clear hK2)
        refine wp_region_lit ?_
        (refine st_y S (Yr.ys (ys_addI (Ev.t rfl) Ev.c (fun _ => by unfold I64; omega))) rfl ?_; clear S a w; intro a w S)
        (refine st_y S (Yr.ys (ys_move (Ev.t rfl))) rfl ?_; clear S a w; intro a w S)
        refine st_nil ?_
        refine (then_normal ?_)
        exact ⟨(i + 1, A1, cap1), by dsimp only; omega, by dsimp only; omega, by dsimp only; rw [hst]; exact S.picks (by repeat (first | exact Fits.nil | refine Fits.skip rfl ?_ | refine Fits.cons rfl ?_)) (by repeat (first | exact Picks.nil | (refine Picks.rest ?_; (repeat (first | exact List.Sublist.refl _ | refine List.Sublist.cons_cons _ ?_ | refine List.Sublist.cons _ ?_)); done) | refine Picks.take 0 rfl ?_ | refine Picks.take 1 rfl ?_ | refine Picks.take 2 rfl ?_ | refine Picks.take 3 rfl ?_ | refine Picks.take 4 rfl ?_ | refine Picks.take 5 rfl ?_ | refine Picks.take 6 rfl ?_ | refine Picks.take 7 rfl ?_ | refine Picks.take 8 rfl ?_ | refine Picks.take 9 rfl ?_ | refine Picks.take 10 rfl ?_ | refine Picks.take 11 rfl ?_))⟩
    · have hst : (l.take 40).take (i + 1) = (l.take 40).take i := by rw [e40 _ (by omega), e40 _ (by omega)]
      refine wp_seq_k fun _ hK2 => ?_
      refine wp_region_lit ?_
      (refine st_y S (Yr.ys (ys_T (by omega) (ys_lss (Ev.t rfl) (Ev.t rfl)))) rfl ?_; clear S a w; intro a w S)
      refine st_nil ?_
      (refine (then_normal (hK2 _ _ ?_)); clear hK2)
      refine wp_seq_k fun _ hK2 => ?_
      refine st_then S (Ev.t rfl) ?_
      refine wp_skip ?_
      (refine (then_normal (hK2 _ _ ?_)); clear hK2)
      refine wp_seq_k fun _ hK2 => ?_
      refine wp_block ?_
      refine wp_seq_k fun _ hK3 => ?_
      refine wp_region_lit ?_
      (refine st_y S (Yr.ys (ys_move (Ev.t rfl))) rfl ?_; clear S a w; intro a w S)
      (refine st_y S (Yr.ys (ys_ixS Tryz.underlying32 Tryz.sizeOf30 (Ev.t rfl) (Ev.t rfl) (fun _ => by omega))) rfl ?_; clear S a w; intro a w S)
      (refine st_y S (Yr.ys (ys_ldOA ⟨Tryz.isAgg30, Tryz.sizeOf30⟩ (Ev.t rfl) (vs := [_, _, _]) rfl (fun _ => hcx))) rfl ?_; clear S a w; intro a w S)
      (refine st_m (op_alloc S Tryz.zeroValue30 (cs := _) rfl rfl ?_); clear S a w; intro g2 a w S)
      (refine st_y S (Yr.ys (ys_assign (Ev.t rfl))) rfl ?_; clear S a w; intro a w S)
      (refine st_m (op_stW S Tryz.sizeOf30 (Ev.t rfl) (Ev.t rfl) (k := 0) rfl rfl rfl (by simp [Value.oneCell']) ?_); clear S a w; intro a w S)
      refine st_nil ?_
      (refine (then_normal (hK3 _ _ ?_)); clear hK3)
      refine wp_seq_k fun _ hK3 => ?_
      refine wp_region_lit ?_
      (refine st_y S (Yr.ys (ys_mkFunc (EvL.cons (Ev.t rfl) EvL.nil))) rfl ?_; clear S a w; intro a w S)
      (refine st_y S (Yr.ys (ys_assign (Ev.t rfl))) rfl ?_; clear S a w; intro a w S)
      refine st_nil ?_
      (refine (then_normal (hK3 _ _ ?_)); clear hK3)
      refine wp_seq_k fun _ hK3 => ?_
      refine wp_region_lit ?_
      (refine st_y S (Yr.ys (ys_move (Ev.t rfl))) rfl ?_; clear S a w; intro a w S)
      (refine st_y S (Yr.ys (ys_F (by omega) (ys_lss (Ev.t rfl) Ev.c))) rfl ?_; clear S a w; intro a w S)
      (refine st_y S (Yr.ys (ys_move (Ev.t rfl))) rfl ?_; clear S a w; intro a w S)
      (refine st_skip S rfl rfl rfl rfl ?_; clear S a w; intro a w S)
      (refine st_skip S rfl rfl rfl rfl ?_; clear S a w; intro a w S)
      (refine st_skip S rfl rfl rfl rfl ?_; clear S a w; intro a w S)
      (refine st_skip S rfl rfl rfl rfl ?_; clear S a w; intro a w S)
      (refine st_y S (Yr.ys (ys_pickF (Ev.t rfl) Ev.c)) rfl ?_; clear S a w; intro a w S)
      refine st_nil ?_
      (refine (then_normal (hK3 _ _ ?_)); clear hK3)
      refine st_else S (Ev.t rfl) ?_
      refine wp_skip ?_
      (refine (in_normal (then_normal (hK2 _ _ ?_))); clear hK2)
      refine wp_region_lit ?_
      (refine st_y S (Yr.ys (ys_addI (Ev.t rfl) Ev.c (fun _ => by unfold I64; omega))) rfl ?_; clear S a w; intro a w S)
      (refine st_y S (Yr.ys (ys_move (Ev.t rfl))) rfl ?_; clear S a w; intro a w S)
      refine st_nil ?_
      refine (then_normal ?_)
      exact ⟨(i + 1, C, cC), by dsimp only; omega, by dsimp only; omega, by dsimp only; rw [hst]; exact S.picks (by repeat (first | exact Fits.nil | refine Fits.skip rfl ?_ | refine Fits.cons rfl ?_)) (by repeat (first | exact Picks.nil | (refine Picks.rest ?_; (repeat (first | exact List.Sublist.refl _ | refine List.Sublist.cons_cons _ ?_ | refine List.Sublist.cons _ ?_)); done) | refine Picks.take 0 rfl ?_ | refine Picks.take 1 rfl ?_ | refine Picks.take 2 rfl ?_ | refine Picks.take 3 rfl ?_ | refine Picks.take 4 rfl ?_ | refine Picks.take 5 rfl ?_ | refine Picks.take 6 rfl ?_ | refine Picks.take 7 rfl ?_ | refine Picks.take 8 rfl ?_ | refine Picks.take 9 rfl ?_ | refine Picks.take 10 rfl ?_ | refine Picks.take 11 rfl ?_))⟩
  obtain rfl : i = l.length := by omega
  have hdist := once_dist ((l.take 40).take l.length)
  have hle : (onceA ((l.take 40).take l.length)).length ≤ 40 := by omega
  clear hlt hi hol e40
  generalize onceA ((l.take 40).take l.length) = one at *
  have e1 : one.take 40 = one := List.take_of_length_le hle
  have rw_e1 := e1
  refine wp_seq_k fun _ hK2 => ?_
  refine wp_region_lit ?_
  (refine st_y S (Yr.ys (ys_F (by omega) (ys_lss (Ev.t rfl) (Ev.t rfl)))) rfl ?_; clear S a w; intro a w S)
  refine st_nil ?_
  (refine (then_normal (hK2 _ _ ?_)); clear hK2)
  refine wp_seq_k fun _ hK2 => ?_
  refine st_else S (Ev.t rfl) ?_
  refine wp_exit ?_
  (refine (then_exit (then_exit (in_here (then_normal (hK1 _ _ ?_))))); clear hK1)
  refine wp_seq_k fun _ hK1 => ?_
  refine wp_region_lit ?_
  (refine st_y S (Yr.ys (ys_move (Ev.t rfl))) rfl ?_; clear S a w; intro a w S)
  (refine st_m (op_calls S Tryz.call28 (EvL.cons Ev.c (EvL.cons (Ev.t rfl) EvL.nil)) (c28 _ _ _ _ (by exact Sl.of_own S.wd (k := 0) rfl (fun _ => rfl)) (by (simp; done)) (by omega)) rfl ?_); clear S a w; rintro _ _ ⟨g2, A1, r1, rfl, rfl⟩ a w S)
  rw [rw_e1] at S
  (refine st_m (op_calls S Tryz.call13 EvL.nil (c13 _) rfl ?_); clear S a w; rintro _ _ ⟨g3, rfl, rfl⟩ a w S)
  (refine st_y S (Yr.ys (ys_assign (Ev.t rfl))) rfl ?_; clear S a w; intro a w S)
  (refine st_y S (Yr.ys (ys_assign (Ev.t rfl))) rfl ?_; clear S a w; intro a w S)
  refine st_nil ?_
  (refine (then_normal (hK1 _ _ ?_)); clear hK1)
  refine wp_seq_k fun _ hK1 => ?_
  refine wp_seq_k fun _ hK3 => ?_
  refine wp_region_lit ?_
  (refine st_y S (Yr.ys (ys_move (Ev.t rfl))) rfl ?_; clear S a w; intro a w S)
  (refine st_y S (Yr.ys (ys_lenS Tryz.underlying32 (Ev.t rfl))) rfl ?_; clear S a w; intro a w S)
  (refine st_y S (Yr.ys (ys_move Ev.c)) rfl ?_; clear S a w; intro a w S)
  refine st_nil ?_
  (refine (then_normal (hK3 _ _ ?_)); clear hK3)
  refine wp_block ?_
  refine st_loopM S [49] (X := Nat × List Dot) (fun q => [(49, true, .int .i64 (q.1 : Int))]) (fun q => rowOf 30 3 Dot.enc C cC q.2 :: .blk g3 (.cells #[.bool true, .slice none 0 0] 104) :: tabP g2 A1 r1 (putsG [107] [] one) [.blk g1 (.cells #[.slice B X.ents.length capB, .slice B2 X.ctx.marks.length capB2, .slice B3 X.ctx.cloud.length capB3] 37)]) (fun q => q.1 ≤ one.length ∧ q.2.Perm one) (fun q => one.length - q.1) (0, one) ⟨Nat.zero_le _, List.Perm.refl _⟩ (by repeat (first | exact Fits.nil | refine Fits.skip rfl ?_ | refine Fits.cons rfl ?_)) (by repeat (first | exact Picks.nil | (refine Picks.rest ?_; (repeat (first | exact List.Sublist.refl _ | refine List.Sublist.cons_cons _ ?_ | refine List.Sublist.cons _ ?_)); done) | refine Picks.take 0 rfl ?_ | refine Picks.take 1 rfl ?_ | refine Picks.take 2 rfl ?_ | refine Picks.take 3 rfl ?_ | refine Picks.take 4 rfl ?_ | refine Picks.take 5 rfl ?_ | refine Picks.take 6 rfl ?_ | refine Picks.take 7 rfl ?_ | refine Picks.take 8 rfl ?_ | refine Picks.take 9 rfl ?_ | refine Picks.take 10 rfl ?_ | refine Picks.take 11 rfl ?_)) ?_
  clear S
  rintro ⟨i, M⟩ a w ⟨hi, hM⟩ S
  dsimp only at hi hM S
  have hMl := hM.length_eq
  by_cases hlt : i < one.length
  · obtain ⟨x, hx⟩ : ∃ x, M[i]? = some x := ⟨_, List.getElem?_eq_getElem (by omega)⟩
    obtain ⟨gC, rfl⟩ := S.wd.row_at (k := 0) rfl (by have := (S.wd.room (k := 0) rfl).1; omega)
    by_cases hio : i < od.length
    · obtain ⟨gO, oO, y, rfl, hy, hdy, hcy⟩ := row_at hO hio
      have hj := Nat.mod_lt y.toNat (show 0 < one.length - i by omega)
      have rw_r : (y.toNat : Int) % ((one.length : Int) - (i : Int)) = ((y.toNat % (one.length - i) : Nat) : Int) := by
        rw [Int.natCast_emod, Int.ofNat_sub (by omega)]
      generalize y.toNat % (one.length - i) = t at *
      have rw_s : (i : Int) + (t : Int) = ((i + t : Nat) : Int) := rfl
      obtain ⟨z, hz⟩ : ∃ z, M[i + t]? = some z := ⟨_, List.getElem?_eq_getElem (by omega)⟩
      obtain ⟨z2, hz2⟩ : ∃ z2, (M.set i z)[i + t]? = some z2 := ⟨_, List.getElem?_eq_getElem (by rw [List.length_set]; omega)⟩
      refine wp_seq_k fun _ hK3 => ?_
      refine wp_region_lit ?_
      (refine st_y S (Yr.ys (ys_T (by omega) (ys_lss (Ev.t rfl) (Ev.t rfl)))) rfl ?_; clear S a w; intro a w S)
      refine st_nil ?_
      (refine (then_normal (hK3 _ _ ?_)); clear hK3)
      refine wp_seq_k fun _ hK3 => ?_
      refine st_then S (Ev.t rfl) ?_
      refine wp_skip ?_
      (refine (then_normal (hK3 _ _ ?_)); clear hK3)
      refine wp_seq_k fun _ hK3 => ?_
      refine wp_block ?_
      refine wp_seq_k fun _ hK4 => ?_
      refine wp_region_lit ?_
      (refine st_y S (Yr.ys (ys_move (Ev.t rfl))) rfl ?_; clear S a w; intro a w S)
      (refine st_y S (Yr.ys (ys_assign (Ev.t rfl))) rfl ?_; clear S a w; intro a w S)
      refine st_nil ?_
      (refine (then_normal (hK4 _ _ ?_)); clear hK4)
      refine wp_seq_k fun _ hK4 => ?_
      refine wp_region_lit ?_
      (refine st_y S (Yr.ys (ys_move (Ev.t rfl))) rfl ?_; clear S a w; intro a w S)
      (refine st_y S (Yr.ys (ys_assign (Ev.t rfl))) rfl ?_; clear S a w; intro a w S)
      refine st_nil ?_
      (refine (then_normal (hK4 _ _ ?_)); clear hK4)
      refine wp_seq_k fun _ hK4 => ?_
      refine wp_seq_k fun _ hK5 => ?_
      refine wp_region_lit ?_
      (refine st_y S (Yr.ys (ys_move (Ev.t rfl))) rfl ?_; clear S a w; intro a w S)
      (refine st_y S (Yr.ys (ys_move (Ev.t rfl))) rfl ?_; clear S a w; intro a w S)
      (refine st_y S (Yr.ys (ys_lenS Tryz.underlying58 (Ev.t rfl))) rfl ?_; clear S a w; intro a w S)
      (refine st_y S (Yr.ys (ys_T (by omega) (ys_lss (Ev.t rfl) (Ev.t rfl)))) rfl ?_; clear S a w; intro a w S)
      refine st_nil ?_
      (refine (then_normal (hK5 _ _ ?_)); clear hK5)
      refine st_then S (Ev.t rfl) ?_
      refine wp_region_lit ?_
      (refine st_y S (Yr.ys (ys_move (Ev.t rfl))) rfl ?_; clear S a w; intro a w S)
      (refine st_y S (Yr.ys (ys_move (Ev.t rfl))) rfl ?_; clear S a w; intro a w S)
      (refine st_y S (Yr.ys (ys_move (Ev.t rfl))) rfl ?_; clear S a w; intro a w S)
      (refine st_y S (Yr.ys (ys_ixS Tryz.underlying58 Tryz.sizeOf61 (Ev.t rfl) (Ev.t rfl) (fun _ => by omega))) rfl ?_; clear S a w; intro a w S)
      (refine st_y S (Yr.ys (ys_ldO ⟨Tryz.isAgg61, Tryz.sizeOf61⟩ (Ev.t rfl) (fun _ => hcy 0 _ rfl))) rfl ?_; clear S a w; intro a w S)
      (refine st_y S (Yr.ys (ys_move (Ev.t rfl))) rfl ?_; clear S a w; intro a w S)
      (refine st_y S (Yr.ys (ys_lenS Tryz.underlying32 (Ev.t rfl))) rfl ?_; clear S a w; intro a w S)
      (refine st_y S (Yr.ys (ys_move (Ev.t rfl))) rfl ?_; clear S a w; intro a w S)
      (refine st_y S (Yr.ys (ys_subI (Ev.t rfl) (Ev.t rfl) (fun _ => by unfold I64; omega))) rfl ?_; clear S a w; intro a w S)
      (refine st_y S (Yr.ys (ys_cvU Tryz.underlying3 Tryz.underlying61 (Ev.t rfl) (fun _ => by omega))) rfl ?_; clear S a w; intro a w S)
      (refine st_y S (Yr.ys (ys_remE (Ev.t rfl) (Ev.t rfl) (fun _ => by omega))) rfl ?_; clear S a w; intro a w S)
      rw [rw_r] at S
      (refine st_y S (Yr.ys (ys_cvI Tryz.underlying61 Tryz.underlying3 (Ev.t rfl) (fun _ => by unfold I64; omega))) rfl ?_; clear S a w; intro a w S)
      (refine st_y S (Yr.ys (ys_addI (Ev.t rfl) (Ev.t rfl) (fun _ => by unfold I64; omega))) rfl ?_; clear S a w; intro a w S)
      rw [rw_s] at S
      (refine st_y S (Yr.ys (ys_assign (Ev.t rfl))) rfl ?_; clear S a w; intro a w S)
      refine st_nil ?_
      (refine (then_normal (hK4 _ _ ?_)); clear hK4)
      (refine h_beginE S (by kernel_rfl) 0 ?_; clear S a w; intro a w S)
      (refine h_y (i := 0) S (by repeat (first | exact List.Sublist.refl _ | exact List.nil_sublist _ | refine .cons_cons _ ?_ | refine .cons _ ?_)) rfl (by kernel_rfl) (by kernel_rfl) (by kernel_rfl) (fun _ _ _ _ h => h) (ys_move (Ev.t rfl)) rfl ?_; clear S a w; intro a w S)
      (refine h_y (i := 1) S (by repeat (first | exact List.Sublist.refl _ | exact List.nil_sublist _ | refine .cons_cons _ ?_ | refine .cons _ ?_)) rfl (by kernel_rfl) (by kernel_rfl) (by kernel_rfl) (fun _ _ _ _ h => h) (ys_move (Ev.t rfl)) rfl ?_; clear S a w; intro a w S)
      (refine h_y (i := 2) S (by repeat (first | exact List.Sublist.refl _ | exact List.nil_sublist _ | refine .cons_cons _ ?_ | refine .cons _ ?_)) rfl (by kernel_rfl) (by kernel_rfl) (by kernel_rfl) (fun _ _ _ _ h => h) (ys_move (Ev.t rfl)) rfl ?_; clear S a w; intro a w S)
      (refine h_y (i := 3) S (by repeat (first | exact List.Sublist.refl _ | exact List.nil_sublist _ | refine .cons_cons _ ?_ | refine .cons _ ?_)) rfl (by kernel_rfl) (by kernel_rfl) (by kernel_rfl) (fun _ _ _ _ h => h) (ys_move (Ev.t rfl)) rfl ?_; clear S a w; intro a w S)
      (refine h_y (i := 4) S (by repeat (first | exact List.Sublist.refl _ | exact List.nil_sublist _ | refine .cons_cons _ ?_ | refine .cons _ ?_)) rfl (by kernel_rfl) (by kernel_rfl) (by kernel_rfl) (fun _ _ _ _ h => h) (ys_move (Ev.t rfl)) rfl ?_; clear S a w; intro a w S)
      (refine h_y (i := 5) S (by repeat (first | exact List.Sublist.refl _ | exact List.nil_sublist _ | refine .cons_cons _ ?_ | refine .cons _ ?_)) rfl (by kernel_rfl) (by kernel_rfl) (by kernel_rfl) (fun _ _ _ _ h => h) (ys_move (Ev.t rfl)) rfl ?_; clear S a w; intro a w S)
      (refine h_y (i := 6) S (by repeat (first | exact List.Sublist.refl _ | exact List.nil_sublist _ | refine .cons_cons _ ?_ | refine .cons _ ?_)) rfl (by kernel_rfl) (by kernel_rfl) (by kernel_rfl) (fun _ _ _ _ h => h) (ys_ixS Tryz.underlying32 Tryz.sizeOf30 (Ev.t rfl) (Ev.t rfl) (fun _ => by omega)) rfl ?_; clear S a w; intro a w S)
      (refine h_y (i := 8) S (by repeat (first | exact List.Sublist.refl _ | exact List.nil_sublist _ | refine .cons_cons _ ?_ | refine .cons _ ?_)) rfl (by kernel_rfl) (by kernel_rfl) (by kernel_rfl) (fun _ _ _ _ h => h) (ys_move (Ev.t rfl)) rfl ?_; clear S a w; intro a w S)
      (refine h_y (i := 9) S (by repeat (first | exact List.Sublist.refl _ | exact List.nil_sublist _ | refine .cons_cons _ ?_ | refine .cons _ ?_)) rfl (by kernel_rfl) (by kernel_rfl) (by kernel_rfl) (fun _ _ _ _ h => h) (ys_move (Ev.t rfl)) rfl ?_; clear S a w; intro a w S)
      (refine h_y (i := 10) S (by repeat (first | exact List.Sublist.refl _ | exact List.nil_sublist _ | refine .cons_cons _ ?_ | refine .cons _ ?_)) rfl (by kernel_rfl) (by kernel_rfl) (by kernel_rfl) (fun _ _ _ _ h => h) (ys_ixS Tryz.underlying32 Tryz.sizeOf30 (Ev.t rfl) (Ev.t rfl) (fun _ => by omega)) rfl ?_; clear S a w; intro a w S)
      refine h_split (i := 7) (j := 11) (by kernel_rfl) rfl rfl ?_ ?_
      (refine op_y S (Yr.ys (ys_ldWA ⟨Tryz.isAgg30, Tryz.sizeOf30⟩ (Ev.t rfl) (k := 0) rfl hz (fun _ => rfl))) rfl ?_; clear S a w; intro a w S; refine h_on S _ (List.Sublist.refl _) (by repeat (first | exact List.Sublist.refl _ | exact List.nil_sublist _ | refine .cons_cons _ ?_ | refine .cons _ ?_)) ?_)
      (refine h_q (i := 11) S (by repeat (first | exact List.Sublist.refl _ | exact List.nil_sublist _ | refine .cons_cons _ ?_ | refine .cons _ ?_)) rfl (by kernel_rfl) (Yr.ys (ys_ldWA ⟨Tryz.isAgg30, Tryz.sizeOf30⟩ (Ev.t rfl) (k := 0) rfl hx (fun _ => rfl))) rfl ?_; clear S a w; intro a w S)
      (refine h_y (i := 12) S (by repeat (first | exact List.Sublist.refl _ | exact List.nil_sublist _ | refine .cons_cons _ ?_ | refine .cons _ ?_)) rfl (by kernel_rfl) (by kernel_rfl) (by kernel_rfl) (fun _ _ _ _ h => h) (ys_ixS Tryz.underlying32 Tryz.sizeOf30 (Ev.t rfl) (Ev.t rfl) (fun _ => by omega)) rfl ?_; clear S a w; intro a w S)
      rotate_left
      (refine op_y S (Yr.ys (ys_ldWA ⟨Tryz.isAgg30, Tryz.sizeOf30⟩ (Ev.t rfl) (k := 0) rfl hx (fun _ => rfl))) rfl ?_; clear S a w; intro a w S; refine h_on S _ (List.Sublist.refl _) (by repeat (first | exact List.Sublist.refl _ | exact List.nil_sublist _ | refine .cons_cons _ ?_ | refine .cons _ ?_)) ?_)
      (refine h_q (i := 7) S (by repeat (first | exact List.Sublist.refl _ | exact List.nil_sublist _ | refine .cons_cons _ ?_ | refine .cons _ ?_)) rfl (by kernel_rfl) (Yr.ys (ys_ldWA ⟨Tryz.isAgg30, Tryz.sizeOf30⟩ (Ev.t rfl) (k := 0) rfl hz (fun _ => rfl))) rfl ?_; clear S a w; intro a w S)
      (refine h_y (i := 12) S (by repeat (first | exact List.Sublist.refl _ | exact List.nil_sublist _ | refine .cons_cons _ ?_ | refine .cons _ ?_)) rfl (by kernel_rfl) (by kernel_rfl) (by kernel_rfl) (fun _ _ _ _ h => h) (ys_ixS Tryz.underlying32 Tryz.sizeOf30 (Ev.t rfl) (Ev.t rfl) (fun _ => by omega)) rfl ?_; clear S a w; intro a w S)
      rotate_left
      · refine h_m0 (i := 13) rfl (by kernel_rfl) (op_stRow (enc := Dot.enc) (size := 3) (i := i) (l := M) (yn := z) S (fun _ => rfl) rfl Tryz.sizeOf30 (Ev.t rfl) (Ev.t rfl) rfl (by simp [Value.oneCell']) (k := 0) rfl hx (Nat.zero_add _) ?_)
        clear S
        intro a w S
        refine h_on S _ (List.Sublist.refl _) (by repeat (first | exact List.Sublist.refl _ | exact List.nil_sublist _ | refine .cons_cons _ ?_ | refine .cons _ ?_)) ?_
        (refine h_y (i := 14) S (by repeat (first | exact List.Sublist.refl _ | exact List.nil_sublist _ | refine .cons_cons _ ?_ | refine .cons _ ?_)) rfl (by kernel_rfl) (by kernel_rfl) (by kernel_rfl) (fun _ _ _ _ h => h) (ys_ixS Tryz.underlying32 Tryz.sizeOf30 (Ev.t rfl) (Ev.t rfl) (fun _ => by omega)) rfl ?_; clear S a w; intro a w S)
        refine h_m0 (i := 15) rfl (by kernel_rfl) (op_stRow (enc := Dot.enc) (size := 3) (i := i + t) (l := M.set i z) (yn := x) S (fun _ => rfl) rfl Tryz.sizeOf30 (Ev.t rfl) (Ev.t rfl) rfl (by simp [Value.oneCell']) (k := 0) rfl hz2 (Nat.zero_add _) ?_)
        clear S
        intro a w S
        refine h_on S _ (List.Sublist.refl _) (by repeat (first | exact List.Sublist.refl _ | exact List.nil_sublist _ | refine .cons_cons _ ?_ | refine .cons _ ?_)) ?_
        refine h_done (by kernel_rfl) ?_
        (refine (in_normal (then_normal (hK3 _ _ ?_))); clear hK3)
        refine wp_region_lit ?_
        (refine st_y S (Yr.ys (ys_addI (Ev.t rfl) Ev.c (fun _ => by unfold I64; omega))) rfl ?_; clear S a w; intro a w S)
        (refine st_y S (Yr.ys (ys_move (Ev.t rfl))) rfl ?_; clear S a w; intro a w S)
        refine st_nil ?_
        refine (then_normal ?_)
        exact ⟨(i + 1, (M.set i z).set (i + t) x), ⟨by dsimp only; omega, (swap_perm hx hz).trans hM⟩, by dsimp only; omega, S.picks (by repeat (first | exact Fits.nil | refine Fits.skip rfl ?_ | refine Fits.cons rfl ?_)) (by repeat (first | exact Picks.nil | (refine Picks.rest ?_; (repeat (first | exact List.Sublist.refl _ | refine List.Sublist.cons_cons _ ?_ | refine List.Sublist.cons _ ?_)); done) | refine Picks.take 0 rfl ?_ | refine Picks.take 1 rfl ?_ | refine Picks.take 2 rfl ?_ | refine Picks.take 3 rfl ?_ | refine Picks.take 4 rfl ?_ | refine Picks.take 5 rfl ?_ | refine Picks.take 6 rfl ?_ | refine Picks.take 7 rfl ?_ | refine Picks.take 8 rfl ?_ | refine Picks.take 9 rfl ?_ | refine Picks.take 10 rfl ?_ | refine Picks.take 11 rfl ?_))⟩
      · refine h_m0 (i := 13) rfl (by kernel_rfl) (op_stRow (enc := Dot.enc) (size := 3) (i := i) (l := M) (yn := z) S (fun _ => rfl) rfl Tryz.sizeOf30 (Ev.t rfl) (Ev.t rfl) rfl (by simp [Value.oneCell']) (k := 0) rfl hx (Nat.zero_add _) ?_)
        clear S
        intro a w S
        refine h_on S _ (List.Sublist.refl _) (by repeat (first | exact List.Sublist.refl _ | exact List.nil_sublist _ | refine .cons_cons _ ?_ | refine .cons _ ?_)) ?_
        (refine h_y (i := 14) S (by repeat (first | exact List.Sublist.refl _ | exact List.nil_sublist _ | refine .cons_cons _ ?_ | refine .cons _ ?_)) rfl (by kernel_rfl) (by kernel_rfl) (by kernel_rfl) (fun _ _ _ _ h => h) (ys_ixS Tryz.underlying32 Tryz.sizeOf30 (Ev.t rfl) (Ev.t rfl) (fun _ => by omega)) rfl ?_; clear S a w; intro a w S)
        refine h_m0 (i := 15) rfl (by kernel_rfl) (op_stRow (enc := Dot.enc) (size := 3) (i := i + t) (l := M.set i z) (yn := x) S (fun _ => rfl) rfl Tryz.sizeOf30 (Ev.t rfl) (Ev.t rfl) rfl (by simp [Value.oneCell']) (k := 0) rfl hz2 (Nat.zero_add _) ?_)
        clear S
        intro a w S
        refine h_on S _ (List.Sublist.refl _) (by repeat (first | exact List.Sublist.refl _ | exact List.nil_sublist _ | refine .cons_cons _ ?_ | refine .cons _ ?_)) ?_
        refine h_done (by kernel_rfl) ?_
        (refine (in_normal (then_normal (hK3 _ _ ?_))); clear hK3)
        refine wp_region_lit ?_
        (refine st_y S (Yr.ys (ys_addI (Ev.t rfl) Ev.c (fun _ => by unfold I64; omega))) rfl ?_; clear S a w; intro a w S)
        (refine st_y S (Yr.ys (ys_move (Ev.t rfl))) rfl ?_; clear S a w; intro a w S)
        refine st_nil ?_
        refine (then_normal ?_)
        exact ⟨(i + 1, (M.set i z).set (i + t) x), ⟨by dsimp only; omega, (swap_perm hx hz).trans hM⟩, by dsimp only; omega, S.picks (by repeat (first | exact Fits.nil | refine Fits.skip rfl ?_ | refine Fits.cons rfl ?_)) (by repeat (first | exact Picks.nil | (refine Picks.rest ?_; (repeat (first | exact List.Sublist.refl _ | refine List.Sublist.cons_cons _ ?_ | refine List.Sublist.cons _ ?_)); done) | refine Picks.take 0 rfl ?_ | refine Picks.take 1 rfl ?_ | refine Picks.take 2 rfl ?_ | refine Picks.take 3 rfl ?_ | refine Picks.take 4 rfl ?_ | refine Picks.take 5 rfl ?_ | refine Picks.take 6 rfl ?_ | refine Picks.take 7 rfl ?_ | refine Picks.take 8 rfl ?_ | refine Picks.take 9 rfl ?_ | refine Picks.take 10 rfl ?_ | refine Picks.take 11 rfl ?_))⟩
    · skip
      obtain ⟨z2, hz2⟩ : ∃ z2, (M.set i x)[i]? = some z2 := ⟨_, List.getElem?_eq_getElem (by rw [List.length_set]; omega)⟩
      refine wp_seq_k fun _ hK3 => ?_
      refine wp_region_lit ?_
      (refine st_y S (Yr.ys (ys_T (by omega) (ys_lss (Ev.t rfl) (Ev.t rfl)))) rfl ?_; clear S a w; intro a w S)
      refine st_nil ?_
      (refine (then_normal (hK3 _ _ ?_)); clear hK3)
      refine wp_seq_k fun _ hK3 => ?_
      refine st_then S (Ev.t rfl) ?_
      refine wp_skip ?_
      (refine (then_normal (hK3 _ _ ?_)); clear hK3)
      refine wp_seq_k fun _ hK3 => ?_
      refine wp_block ?_
      refine wp_seq_k fun _ hK4 => ?_
      refine wp_region_lit ?_
      (refine st_y S (Yr.ys (ys_move (Ev.t rfl))) rfl ?_; clear S a w; intro a w S)
      (refine st_y S (Yr.ys (ys_assign (Ev.t rfl))) rfl ?_; clear S a w; intro a w S)
      refine st_nil ?_
      (refine (then_normal (hK4 _ _ ?_)); clear hK4)
      refine wp_seq_k fun _ hK4 => ?_
      refine wp_region_lit ?_
      (refine st_y S (Yr.ys (ys_move (Ev.t rfl))) rfl ?_; clear S a w; intro a w S)
      (refine st_y S (Yr.ys (ys_assign (Ev.t rfl))) rfl ?_; clear S a w; intro a w S)
      refine st_nil ?_
      (refine (then_normal (hK4 _ _ ?_)); clear hK4)
      refine wp_seq_k fun _ hK4 => ?_
      refine wp_seq_k fun _ hK5 => ?_
      refine wp_region_lit ?_
      (refine st_y S (Yr.ys (ys_move (Ev.t rfl))) rfl ?_; clear S a w; intro a w S)
      (refine st_y S (Yr.ys (ys_move (Ev.t rfl))) rfl ?_; clear S a w; intro a w S)
      (refine st_y S (Yr.ys (ys_lenS Tryz.underlying58 (Ev.t rfl))) rfl ?_; clear S a w; intro a w S)
      (refine st_y S (Yr.ys (ys_F (by omega) (ys_lss (Ev.t rfl) (Ev.t rfl)))) rfl ?_; clear S a w; intro a w S)
      refine st_nil ?_
      (refine (then_normal (hK5 _ _ ?_)); clear hK5)
      refine st_else S (Ev.t rfl) ?_
      refine wp_skip ?_
      (refine (then_normal (hK4 _ _ ?_)); clear hK4)
      (refine h_beginE S (by kernel_rfl) 0 ?_; clear S a w; intro a w S)
      (refine h_y (i := 0) S (by repeat (first | exact List.Sublist.refl _ | exact List.nil_sublist _ | refine .cons_cons _ ?_ | refine .cons _ ?_)) rfl (by kernel_rfl) (by kernel_rfl) (by kernel_rfl) (fun _ _ _ _ h => h) (ys_move (Ev.t rfl)) rfl ?_; clear S a w; intro a w S)
      (refine h_y (i := 1) S (by repeat (first | exact List.Sublist.refl _ | exact List.nil_sublist _ | refine .cons_cons _ ?_ | refine .cons _ ?_)) rfl (by kernel_rfl) (by kernel_rfl) (by kernel_rfl) (fun _ _ _ _ h => h) (ys_move (Ev.t rfl)) rfl ?_; clear S a w; intro a w S)
      (refine h_y (i := 2) S (by repeat (first | exact List.Sublist.refl _ | exact List.nil_sublist _ | refine .cons_cons _ ?_ | refine .cons _ ?_)) rfl (by kernel_rfl) (by kernel_rfl) (by kernel_rfl) (fun _ _ _ _ h => h) (ys_move (Ev.t rfl)) rfl ?_; clear S a w; intro a w S)
      (refine h_y (i := 3) S (by repeat (first | exact List.Sublist.refl _ | exact List.nil_sublist _ | refine .cons_cons _ ?_ | refine .cons _ ?_)) rfl (by kernel_rfl) (by kernel_rfl) (by kernel_rfl) (fun _ _ _ _ h => h) (ys_move (Ev.t rfl)) rfl ?_; clear S a w; intro a w S)
      (refine h_y (i := 4) S (by repeat (first | exact List.Sublist.refl _ | exact List.nil_sublist _ | refine .cons_cons _ ?_ | refine .cons _ ?_)) rfl (by kernel_rfl) (by kernel_rfl) (by kernel_rfl) (fun _ _ _ _ h => h) (ys_move (Ev.t rfl)) rfl ?_; clear S a w; intro a w S)
      (refine h_y (i := 5) S (by repeat (first | exact List.Sublist.refl _ | exact List.nil_sublist _ | refine .cons_cons _ ?_ | refine .cons _ ?_)) rfl (by kernel_rfl) (by kernel_rfl) (by kernel_rfl) (fun _ _ _ _ h => h) (ys_move (Ev.t rfl)) rfl ?_; clear S a w; intro a w S)
      (refine h_y (i := 6) S (by repeat (first | exact List.Sublist.refl _ | exact List.nil_sublist _ | refine .cons_cons _ ?_ | refine .cons _ ?_)) rfl (by kernel_rfl) (by kernel_rfl) (by kernel_rfl) (fun _ _ _ _ h => h) (ys_ixS Tryz.underlying32 Tryz.sizeOf30 (Ev.t rfl) (Ev.t rfl) (fun _ => by omega)) rfl ?_; clear S a w; intro a w S)
      (refine h_y (i := 8) S (by repeat (first | exact List.Sublist.refl _ | exact List.nil_sublist _ | refine .cons_cons _ ?_ | refine .cons _ ?_)) rfl (by kernel_rfl) (by kernel_rfl) (by kernel_rfl) (fun _ _ _ _ h => h) (ys_move (Ev.t rfl)) rfl ?_; clear S a w; intro a w S)
      (refine h_y (i := 9) S (by repeat (first | exact List.Sublist.refl _ | exact List.nil_sublist _ | refine .cons_cons _ ?_ | refine .cons _ ?_)) rfl (by kernel_rfl) (by kernel_rfl) (by kernel_rfl) (fun _ _ _ _ h => h) (ys_move (Ev.t rfl)) rfl ?_; clear S a w; intro a w S)
      (refine h_y (i := 10) S (by repeat (first | exact List.Sublist.refl _ | exact List.nil_sublist _ | refine .cons_cons _ ?_ | refine .cons _ ?_)) rfl (by kernel_rfl) (by kernel_rfl) (by kernel_rfl) (fun _ _ _ _ h => h) (ys_ixS Tryz.underlying32 Tryz.sizeOf30 (Ev.t rfl) (Ev.t rfl) (fun _ => by omega)) rfl ?_; clear S a w; intro a w S)
      refine h_split (i := 7) (j := 11) (by kernel_rfl) rfl rfl ?_ ?_
      (refine op_y S (Yr.ys (ys_ldWA ⟨Tryz.isAgg30, Tryz.sizeOf30⟩ (Ev.t rfl) (k := 0) rfl hx (fun _ => rfl))) rfl ?_; clear S a w; intro a w S; refine h_on S _ (List.Sublist.refl _) (by repeat (first | exact List.Sublist.refl _ | exact List.nil_sublist _ | refine .cons_cons _ ?_ | refine .cons _ ?_)) ?_)
      (refine h_q (i := 11) S (by repeat (first | exact List.Sublist.refl _ | exact List.nil_sublist _ | refine .cons_cons _ ?_ | refine .cons _ ?_)) rfl (by kernel_rfl) (Yr.ys (ys_ldWA ⟨Tryz.isAgg30, Tryz.sizeOf30⟩ (Ev.t rfl) (k := 0) rfl hx (fun _ => rfl))) rfl ?_; clear S a w; intro a w S)
      (refine h_y (i := 12) S (by repeat (first | exact List.Sublist.refl _ | exact List.nil_sublist _ | refine .cons_cons _ ?_ | refine .cons _ ?_)) rfl (by kernel_rfl) (by kernel_rfl) (by kernel_rfl) (fun _ _ _ _ h => h) (ys_ixS Tryz.underlying32 Tryz.sizeOf30 (Ev.t rfl) (Ev.t rfl) (fun _ => by omega)) rfl ?_; clear S a w; intro a w S)
      rotate_left
      (refine op_y S (Yr.ys (ys_ldWA ⟨Tryz.isAgg30, Tryz.sizeOf30⟩ (Ev.t rfl) (k := 0) rfl hx (fun _ => rfl))) rfl ?_; clear S a w; intro a w S; refine h_on S _ (List.Sublist.refl _) (by repeat (first | exact List.Sublist.refl _ | exact List.nil_sublist _ | refine .cons_cons _ ?_ | refine .cons _ ?_)) ?_)
      (refine h_q (i := 7) S (by repeat (first | exact List.Sublist.refl _ | exact List.nil_sublist _ | refine .cons_cons _ ?_ | refine .cons _ ?_)) rfl (by kernel_rfl) (Yr.ys (ys_ldWA ⟨Tryz.isAgg30, Tryz.sizeOf30⟩ (Ev.t rfl) (k := 0) rfl hx (fun _ => rfl))) rfl ?_; clear S a w; intro a w S)
      (refine h_y (i := 12) S (by repeat (first | exact List.Sublist.refl _ | exact List.nil_sublist _ | refine .cons_cons _ ?_ | refine .cons _ ?_)) rfl (by kernel_rfl) (by kernel_rfl) (by kernel_rfl) (fun _ _ _ _ h => h) (ys_ixS Tryz.underlying32 Tryz.sizeOf30 (Ev.t rfl) (Ev.t rfl) (fun _ => by omega)) rfl ?_; clear S a w; intro a w S)
      rotate_left
      · refine h_m0 (i := 13) rfl (by kernel_rfl) (op_stRow (enc := Dot.enc) (size := 3) (i := i) (l := M) (yn := x) S (fun _ => rfl) rfl Tryz.sizeOf30 (Ev.t rfl) (Ev.t rfl) rfl (by simp [Value.oneCell']) (k := 0) rfl hx (Nat.zero_add _) ?_)
        clear S
        intro a w S
        refine h_on S _ (List.Sublist.refl _) (by repeat (first | exact List.Sublist.refl _ | exact List.nil_sublist _ | refine .cons_cons _ ?_ | refine .cons _ ?_)) ?_
        (refine h_y (i := 14) S (by repeat (first | exact List.Sublist.refl _ | exact List.nil_sublist _ | refine .cons_cons _ ?_ | refine .cons _ ?_)) rfl (by kernel_rfl) (by kernel_rfl) (by kernel_rfl) (fun _ _ _ _ h => h) (ys_ixS Tryz.underlying32 Tryz.sizeOf30 (Ev.t rfl) (Ev.t rfl) (fun _ => by omega)) rfl ?_; clear S a w; intro a w S)
        refine h_m0 (i := 15) rfl (by kernel_rfl) (op_stRow (enc := Dot.enc) (size := 3) (i := i) (l := M.set i x) (yn := x) S (fun _ => rfl) rfl Tryz.sizeOf30 (Ev.t rfl) (Ev.t rfl) rfl (by simp [Value.oneCell']) (k := 0) rfl hz2 (Nat.zero_add _) ?_)
        clear S
        intro a w S
        refine h_on S _ (List.Sublist.refl _) (by repeat (first | exact List.Sublist.refl _ | exact List.nil_sublist _ | refine .cons_cons _ ?_ | refine .cons _ ?_)) ?_
        refine h_done (by kernel_rfl) ?_
        (refine (in_normal (then_normal (hK3 _ _ ?_))); clear hK3)
        refine wp_region_lit ?_
        (refine st_y S (Yr.ys (ys_addI (Ev.t rfl) Ev.c (fun _ => by unfold I64; omega))) rfl ?_; clear S a w; intro a w S)
        (refine st_y S (Yr.ys (ys_move (Ev.t rfl))) rfl ?_; clear S a w; intro a w S)
        refine st_nil ?_
        refine (then_normal ?_)
        exact ⟨(i + 1, (M.set i x).set (i) x), ⟨by dsimp only; omega, (swap_perm hx hx).trans hM⟩, by dsimp only; omega, S.picks (by repeat (first | exact Fits.nil | refine Fits.skip rfl ?_ | refine Fits.cons rfl ?_)) (by repeat (first | exact Picks.nil | (refine Picks.rest ?_; (repeat (first | exact List.Sublist.refl _ | refine List.Sublist.cons_cons _ ?_ | refine List.Sublist.cons _ ?_)); done) | refine Picks.take 0 rfl ?_ | refine Picks.take 1 rfl ?_ | refine Picks.take 2 rfl ?_ | refine Picks.take 3 rfl ?_ | refine Picks.take 4 rfl ?_ | refine Picks.take 5 rfl ?_ | refine Picks.take 6 rfl ?_ | refine Picks.take 7 rfl ?_ | refine Picks.take 8 rfl ?_ | refine Picks.take 9 rfl ?_ | refine Picks.take 10 rfl ?_ | refine Picks.take 11 rfl ?_))⟩
      · refine h_m0 (i := 13) rfl (by kernel_rfl) (op_stRow (enc := Dot.enc) (size := 3) (i := i) (l := M) (yn := x) S (fun _ => rfl) rfl Tryz.sizeOf30 (Ev.t rfl) (Ev.t rfl) rfl (by simp [Value.oneCell']) (k := 0) rfl hx (Nat.zero_add _) ?_)
        clear S
        intro a w S
        refine h_on S _ (List.Sublist.refl _) (by repeat (first | exact List.Sublist.refl _ | exact List.nil_sublist _ | refine .cons_cons _ ?_ | refine .cons _ ?_)) ?_
        (refine h_y (i := 14) S (by repeat (first | exact List.Sublist.refl _ | exact List.nil_sublist _ | refine .cons_cons _ ?_ | refine .cons _ ?_)) rfl (by kernel_rfl) (by kernel_rfl) (by kernel_rfl) (fun _ _ _ _ h => h) (ys_ixS Tryz.underlying32 Tryz.sizeOf30 (Ev.t rfl) (Ev.t rfl) (fun _ => by omega)) rfl ?_; clear S a w; intro a w S)
        refine h_m0 (i := 15) rfl (by kernel_rfl) (op_stRow (enc := Dot.enc) (size := 3) (i := i) (l := M.set i x) (yn := x) S (fun _ => rfl) rfl Tryz.sizeOf30 (Ev.t rfl) (Ev.t rfl) rfl (by simp [Value.oneCell']) (k := 0) rfl hz2 (Nat.zero_add _) ?_)
        clear S
        intro a w S
        refine h_on S _ (List.Sublist.refl _) (by repeat (first | exact List.Sublist.refl _ | exact List.nil_sublist _ | refine .cons_cons _ ?_ | refine .cons _ ?_)) ?_
        refine h_done (by kernel_rfl) ?_
        (refine (in_normal (then_normal (hK3 _ _ ?_))); clear hK3)
        refine wp_region_lit ?_
        (refine st_y S (Yr.ys (ys_addI (Ev.t rfl) Ev.c (fun _ => by unfold I64; omega))) rfl ?_; clear S a w; intro a w S)
        (refine st_y S (Yr.ys (ys_move (Ev.t rfl))) rfl ?_; clear S a w; intro a w S)
        refine st_nil ?_
        refine (then_normal ?_)
        exact ⟨(i + 1, (M.set i x).set (i) x), ⟨by dsimp only; omega, (swap_perm hx hx).trans hM⟩, by dsimp only; omega, S.picks (by repeat (first | exact Fits.nil | refine Fits.skip rfl ?_ | refine Fits.cons rfl ?_)) (by repeat (first | exact Picks.nil | (refine Picks.rest ?_; (repeat (first | exact List.Sublist.refl _ | refine List.Sublist.cons_cons _ ?_ | refine List.Sublist.cons _ ?_)); done) | refine Picks.take 0 rfl ?_ | refine Picks.take 1 rfl ?_ | refine Picks.take 2 rfl ?_ | refine Picks.take 3 rfl ?_ | refine Picks.take 4 rfl ?_ | refine Picks.take 5 rfl ?_ | refine Picks.take 6 rfl ?_ | refine Picks.take 7 rfl ?_ | refine Picks.take 8 rfl ?_ | refine Picks.take 9 rfl ?_ | refine Picks.take 10 rfl ?_ | refine Picks.take 11 rfl ?_))⟩
  obtain rfl : i = one.length := by omega
  clear hlt hi
  have hap := apart_ok hdist hM
  have hap1 := hap.k
  have hap2 := hap.o
  have hap3 := hap.no
  have hok1 := hap.ok1
  have hok2 := hap.ok2
  have hpl := puts_len (k := [107]) one []
  rw [List.length_nil] at hpl
  refine wp_seq_k fun _ hK3 => ?_
  refine wp_region_lit ?_
  (refine st_y S (Yr.ys (ys_F (by omega) (ys_lss (Ev.t rfl) (Ev.t rfl)))) rfl ?_; clear S a w; intro a w S)
  refine st_nil ?_
  (refine (then_normal (hK3 _ _ ?_)); clear hK3)
  refine wp_seq_k fun _ hK3 => ?_
  refine st_else S (Ev.t rfl) ?_
  refine wp_exit ?_
  (refine (then_exit (then_exit (in_here (then_normal (hK1 _ _ ?_))))); clear hK1)
  refine wp_seq_k fun _ hK1 => ?_
  refine wp_seq_k fun _ hK4 => ?_
  refine wp_region_lit ?_
  (refine st_y S (Yr.ys (ys_move (Ev.t rfl))) rfl ?_; clear S a w; intro a w S)
  (refine st_y S (Yr.ys (ys_lenS Tryz.underlying32 (Ev.t rfl))) rfl ?_; clear S a w; intro a w S)
  (refine st_y S (Yr.ys (ys_move Ev.c)) rfl ?_; clear S a w; intro a w S)
  refine st_nil ?_
  (refine (then_normal (hK4 _ _ ?_)); clear hK4)
  refine wp_block ?_
  replace S := S.nil_ 52 4 Gon.enc none
  refine st_loopM S [87] (X := Nat × Option Addr × Nat) (fun q => [(87, true, .int .i64 (q.1 : Int))]) (fun q => tabP g3 q.2.1 q.2.2 (twoG [111, 116, 104, 101, 114] [107] [] (M.take q.1)) (rowOf 30 3 Dot.enc C cC M :: tabP g2 A1 r1 (putsG [107] [] one) [.blk g1 (.cells #[.slice B X.ents.length capB, .slice B2 X.ctx.marks.length capB2, .slice B3 X.ctx.cloud.length capB3] 37)])) (fun q => q.1 ≤ one.length) (fun q => one.length - q.1) (0, none, 0) (Nat.zero_le _) (by repeat (first | exact Fits.nil | refine Fits.skip rfl ?_ | refine Fits.cons rfl ?_)) (by repeat (first | exact Picks.nil | (refine Picks.rest ?_; (repeat (first | exact List.Sublist.refl _ | refine List.Sublist.cons_cons _ ?_ | refine List.Sublist.cons _ ?_)); done) | refine Picks.take 0 rfl ?_ | refine Picks.take 1 rfl ?_ | refine Picks.take 2 rfl ?_ | refine Picks.take 3 rfl ?_ | refine Picks.take 4 rfl ?_ | refine Picks.take 5 rfl ?_ | refine Picks.take 6 rfl ?_ | refine Picks.take 7 rfl ?_ | refine Picks.take 8 rfl ?_ | refine Picks.take 9 rfl ?_ | refine Picks.take 10 rfl ?_ | refine Picks.take 11 rfl ?_)) ?_
  clear S
  rintro ⟨i, D, cD⟩ a w hi S
  dsimp only at hi S
  have hT : TabOk (twoG [111, 116, 104, 101, 114] [107] [] (M.take i)) := two_ok _ tab_nil
  have hTl := two_len (j := [111, 116, 104, 101, 114]) (k := [107]) (M.take i) []
  rw [List.length_nil, List.length_take] at hTl
  by_cases hlt : i < one.length
  · obtain ⟨x, hx⟩ : ∃ x, M[i]? = some x := ⟨_, List.getElem?_eq_getElem (by omega)⟩
    obtain ⟨gC, rfl⟩ := S.wd.row_at (k := 2) rfl (by have := (S.wd.room (k := 2) rfl).1; omega)
    have hst : twoG [111, 116, 104, 101, 114] [107] [] (M.take (i + 1)) = (putG (putG (twoG [111, 116, 104, 101, 114] [107] [] (M.take i)) [111, 116, 104, 101, 114] x).1 [107] x).1 := by
      rw [List.take_add_one, hx, Option.toList_some]
      unfold twoG
      rw [List.foldl_append]
      rfl
    generalize twoG [111, 116, 104, 101, 114] [107] [] (M.take i) = T at *
    have hT2 := putG_ok hT [111, 116, 104, 101, 114] x
    have hTl2 := putG_len T [111, 116, 104, 101, 114] x
    have rw_m : (⟨x.node, x.life, x.count⟩ : Dot) = x := rfl
    refine wp_seq_k fun _ hK4 => ?_
    refine wp_region_lit ?_
    (refine st_y S (Yr.ys (ys_T (by omega) (ys_lss (Ev.t rfl) (Ev.t rfl)))) rfl ?_; clear S a w; intro a w S)
    refine st_nil ?_
    (refine (then_normal (hK4 _ _ ?_)); clear hK4)
    refine wp_seq_k fun _ hK4 => ?_
    refine st_then S (Ev.t rfl) ?_
    refine wp_skip ?_
    (refine (then_normal (hK4 _ _ ?_)); clear hK4)
    refine wp_seq_k fun _ hK4 => ?_
    refine wp_block ?_
    refine wp_seq_k fun _ hK5 => ?_
    refine wp_region_lit ?_
    (refine st_y S (Yr.ys (ys_ixS Tryz.underlying32 Tryz.sizeOf30 (Ev.t rfl) (Ev.t rfl) (fun _ => by omega))) rfl ?_; clear S a w; intro a w S)
    (refine st_y S (Yr.ys (ys_ldWA ⟨Tryz.isAgg30, Tryz.sizeOf30⟩ (Ev.t rfl) (k := 2) rfl hx (fun _ => rfl))) rfl ?_; clear S a w; intro a w S)
    (refine st_m (op_alloc S Tryz.zeroValue30 (cs := _) rfl rfl ?_); clear S a w; intro g4 a w S)
    (refine st_m (op_stW S Tryz.sizeOf30 (Ev.t rfl) (Ev.t rfl) (k := 0) rfl rfl rfl (by simp [Value.oneCell']) ?_); clear S a w; intro a w S)
    refine st_nil ?_
    (refine (then_normal (hK5 _ _ ?_)); clear hK5)
    refine wp_seq_k fun _ hK5 => ?_
    refine wp_region_lit ?_
    (refine st_y S (Yr.ys (ys_move (Ev.t rfl))) rfl ?_; clear S a w; intro a w S)
    (refine st_y S (Yr.ys (ys_ldA ⟨Tryz.isAgg30, Tryz.sizeOf30⟩ (Ev.t rfl) (k := 0) rfl rfl)) rfl ?_; clear S a w; intro a w S)
    (replace S := S.pull 2 rfl; try simp only [List.set_cons_zero, List.set_cons_succ, List.eraseIdx_cons_succ, List.eraseIdx_cons_zero] at S; replace S := S.pull 2 rfl; try simp only [List.set_cons_zero, List.set_cons_succ, List.eraseIdx_cons_succ, List.eraseIdx_cons_zero] at S; refine st_m (op_callO S Tryz.call14 (EvL.cons (Ev.t rfl) (EvL.cons Ev.c (EvL.cons (Ev.t rfl) EvL.nil))) (c14 S.wd (by first | assumption | omega | (dsimp only; omega) | exact Sl.nil_ | exact .old S.wd (by assumption) | exact Sl.of_own S.wd (k := 0) rfl (fun _ => rfl) | exact Sl.of_own S.wd (k := 1) rfl (fun _ => rfl) | exact Sl.of_own S.wd (k := 2) rfl (fun _ => rfl) | exact Sl.of_own S.wd (k := 3) rfl (fun _ => rfl) | exact Sl.of_own S.wd (k := 4) rfl (fun _ => rfl) | exact Sl.of_own S.wd (k := 5) rfl (fun _ => rfl) | exact Sl.of_own S.wd (k := 6) rfl (fun _ => rfl) | (simp; done) | (simp at *; omega)) (by first | assumption | omega | (dsimp only; omega) | exact Sl.nil_ | exact .old S.wd (by assumption) | exact Sl.of_own S.wd (k := 0) rfl (fun _ => rfl) | exact Sl.of_own S.wd (k := 1) rfl (fun _ => rfl) | exact Sl.of_own S.wd (k := 2) rfl (fun _ => rfl) | exact Sl.of_own S.wd (k := 3) rfl (fun _ => rfl) | exact Sl.of_own S.wd (k := 4) rfl (fun _ => rfl) | exact Sl.of_own S.wd (k := 5) rfl (fun _ => rfl) | exact Sl.of_own S.wd (k := 6) rfl (fun _ => rfl) | (simp; done) | (simp at *; omega)) (by first | assumption | omega | (dsimp only; omega) | exact Sl.nil_ | exact .old S.wd (by assumption) | exact Sl.of_own S.wd (k := 0) rfl (fun _ => rfl) | exact Sl.of_own S.wd (k := 1) rfl (fun _ => rfl) | exact Sl.of_own S.wd (k := 2) rfl (fun _ => rfl) | exact Sl.of_own S.wd (k := 3) rfl (fun _ => rfl) | exact Sl.of_own S.wd (k := 4) rfl (fun _ => rfl) | exact Sl.of_own S.wd (k := 5) rfl (fun _ => rfl) | exact Sl.of_own S.wd (k := 6) rfl (fun _ => rfl) | (simp; done) | (simp at *; omega))) rfl ?_) <;> clear S a w)
    rintro _ _ ⟨A21, e21, rfl, rfl⟩ a w S
    rw [rw_m] at S
    refine st_nil ?_
    (refine (then_normal (hK5 _ _ ?_)); clear hK5)
    refine wp_region_lit ?_
    (refine st_y S (Yr.ys (ys_move (Ev.t rfl))) rfl ?_; clear S a w; intro a w S)
    (refine st_y S (Yr.ys (ys_ldA ⟨Tryz.isAgg30, Tryz.sizeOf30⟩ (Ev.t rfl) (k := 2) rfl rfl)) rfl ?_; clear S a w; intro a w S)
    (refine st_m (op_callO S Tryz.call14 (EvL.cons (Ev.t rfl) (EvL.cons Ev.c (EvL.cons (Ev.t rfl) EvL.nil))) (c14 S.wd (by first | assumption | omega | (dsimp only; omega) | exact Sl.nil_ | exact .old S.wd (by assumption) | exact Sl.of_own S.wd (k := 0) rfl (fun _ => rfl) | exact Sl.of_own S.wd (k := 1) rfl (fun _ => rfl) | exact Sl.of_own S.wd (k := 2) rfl (fun _ => rfl) | exact Sl.of_own S.wd (k := 3) rfl (fun _ => rfl) | exact Sl.of_own S.wd (k := 4) rfl (fun _ => rfl) | exact Sl.of_own S.wd (k := 5) rfl (fun _ => rfl) | exact Sl.of_own S.wd (k := 6) rfl (fun _ => rfl) | (simp; done) | (simp at *; omega)) (by first | assumption | omega | (dsimp only; omega) | exact Sl.nil_ | exact .old S.wd (by assumption) | exact Sl.of_own S.wd (k := 0) rfl (fun _ => rfl) | exact Sl.of_own S.wd (k := 1) rfl (fun _ => rfl) | exact Sl.of_own S.wd (k := 2) rfl (fun _ => rfl) | exact Sl.of_own S.wd (k := 3) rfl (fun _ => rfl) | exact Sl.of_own S.wd (k := 4) rfl (fun _ => rfl) | exact Sl.of_own S.wd (k := 5) rfl (fun _ => rfl) | exact Sl.of_own S.wd (k := 6) rfl (fun _ => rfl) | (simp; done) | (simp at *; omega)) (by first | assumption | omega | (dsimp only; omega) | exact Sl.nil_ | exact .old S.wd (by assumption) | exact Sl.of_own S.wd (k := 0) rfl (fun _ => rfl) | exact Sl.of_own S.wd (k := 1) rfl (fun _ => rfl) | exact Sl.of_own S.wd (k := 2) rfl (fun _ => rfl) | exact Sl.of_own S.wd (k := 3) rfl (fun _ => rfl) | exact Sl.of_own S.wd (k := 4) rfl (fun _ => rfl) | exact Sl.of_own S.wd (k := 5) rfl (fun _ => rfl) | exact Sl.of_own S.wd (k := 6) rfl (fun _ => rfl) | (simp; done) | (simp at *; omega))) rfl ?_) <;> clear S a w)
    rintro _ _ ⟨A22, e22, rfl, rfl⟩ a w S
    rw [rw_m] at S
    refine st_nil ?_
    (refine (in_normal (then_normal (hK4 _ _ ?_))); clear hK4)
    refine wp_region_lit ?_
    (refine st_y S (Yr.ys (ys_addI (Ev.t rfl) Ev.c (fun _ => by unfold I64; omega))) rfl ?_; clear S a w; intro a w S)
    (refine st_y S (Yr.ys (ys_move (Ev.t rfl))) rfl ?_; clear S a w; intro a w S)
    refine st_nil ?_
    refine (then_normal ?_)
    exact ⟨(i + 1, A22, e22), by dsimp only; omega, by dsimp only; omega, by dsimp only; rw [hst]; exact S.picks (by repeat (first | exact Fits.nil | refine Fits.skip rfl ?_ | refine Fits.cons rfl ?_)) (by repeat (first | exact Picks.nil | (refine Picks.rest ?_; (repeat (first | exact List.Sublist.refl _ | refine List.Sublist.cons_cons _ ?_ | refine List.Sublist.cons _ ?_)); done) | refine Picks.take 0 rfl ?_ | refine Picks.take 1 rfl ?_ | refine Picks.take 2 rfl ?_ | refine Picks.take 3 rfl ?_ | refine Picks.take 4 rfl ?_ | refine Picks.take 5 rfl ?_ | refine Picks.take 6 rfl ?_ | refine Picks.take 7 rfl ?_ | refine Picks.take 8 rfl ?_ | refine Picks.take 9 rfl ?_ | refine Picks.take 10 rfl ?_ | refine Picks.take 11 rfl ?_))⟩
  obtain rfl : i = one.length := by omega
  rw [List.take_of_length_le (Nat.le_of_eq hMl)] at S hT hTl
  have hTl3 := putG_len (twoG [111, 116, 104, 101, 114] [107] [] M) [116, 104, 105, 114, 100] ⟨1, 1, 1⟩
  have rw_k1 := hap1
  have rw_k2 := hap2
  have rw_k3 := hap3
  have rw_n : ∀ i : Int, decide (i ≠ i) = false := fun i => decide_eq_false (by simp)
  have rw_e : ∀ i : Int, decide (i = i) = true := fun i => decide_eq_true rfl
  have rw_c : ∀ c : Cart, decide (c = c) = true := fun c => decide_eq_true rfl
  have rw_d : ∀ c : List Dot, decide (c = c) = true := fun c => decide_eq_true rfl
  have rw_z : (cleanG [] X).2 = canE X := clean_nil2 X
  by_cases hcx : canE X = 0
  · have rw_x := clean_nil1 hcx
    have rw_y := hcx
    refine wp_seq_k fun _ hK4 => ?_
    refine wp_region_lit ?_
    (refine st_y S (Yr.ys (ys_F (by omega) (ys_lss (Ev.t rfl) (Ev.t rfl)))) rfl ?_; clear S a w; intro a w S)
    refine st_nil ?_
    (refine (then_normal (hK4 _ _ ?_)); clear hK4)
    refine wp_seq_k fun _ hK4 => ?_
    refine st_else S (Ev.t rfl) ?_
    refine wp_exit ?_
    (refine (then_exit (then_exit (in_here (then_normal (hK1 _ _ ?_))))); clear hK1)
    refine wp_seq_k fun _ hK1 => ?_
    refine wp_region_lit ?_
    (refine st_y S (Yr.ys (ys_move (Ev.t rfl))) rfl ?_; clear S a w; intro a w S)
    (refine st_y S (Yr.ys (ys_bld (ps := [(0, _), (1, _), (2, _)]) (us := [_, _, _]) bld30 (EvL.cons Ev.c (EvL.cons Ev.c (EvL.cons Ev.c EvL.nil))) rfl)) rfl ?_; clear S a w; intro a w S)
    (refine st_m (op_callO S Tryz.call14 (EvL.cons (Ev.t rfl) (EvL.cons Ev.c (EvL.cons (Ev.t rfl) EvL.nil))) (c14 S.wd (by first | assumption | omega | (dsimp only; omega) | exact Sl.nil_ | exact .old S.wd (by assumption) | exact Sl.of_own S.wd (k := 0) rfl (fun _ => rfl) | exact Sl.of_own S.wd (k := 1) rfl (fun _ => rfl) | exact Sl.of_own S.wd (k := 2) rfl (fun _ => rfl) | exact Sl.of_own S.wd (k := 3) rfl (fun _ => rfl) | exact Sl.of_own S.wd (k := 4) rfl (fun _ => rfl) | exact Sl.of_own S.wd (k := 5) rfl (fun _ => rfl) | (simp; done) | (simp at *; omega)) (by first | assumption | omega | (dsimp only; omega) | exact Sl.nil_ | exact .old S.wd (by assumption) | exact Sl.of_own S.wd (k := 0) rfl (fun _ => rfl) | exact Sl.of_own S.wd (k := 1) rfl (fun _ => rfl) | exact Sl.of_own S.wd (k := 2) rfl (fun _ => rfl) | exact Sl.of_own S.wd (k := 3) rfl (fun _ => rfl) | exact Sl.of_own S.wd (k := 4) rfl (fun _ => rfl) | exact Sl.of_own S.wd (k := 5) rfl (fun _ => rfl) | (simp; done) | (simp at *; omega)) (by first | assumption | omega | (dsimp only; omega) | exact Sl.nil_ | exact .old S.wd (by assumption) | exact Sl.of_own S.wd (k := 0) rfl (fun _ => rfl) | exact Sl.of_own S.wd (k := 1) rfl (fun _ => rfl) | exact Sl.of_own S.wd (k := 2) rfl (fun _ => rfl) | exact Sl.of_own S.wd (k := 3) rfl (fun _ => rfl) | exact Sl.of_own S.wd (k := 4) rfl (fun _ => rfl) | exact Sl.of_own S.wd (k := 5) rfl (fun _ => rfl) | (simp; done) | (simp at *; omega))) rfl ?_) <;> clear S a w)
    rintro _ _ ⟨A21, e21, rfl, rfl⟩ a w S
    refine st_nil ?_
    (refine (then_normal (hK1 _ _ ?_)); clear hK1)
    refine wp_seq_k fun _ hK1 => ?_
    refine wp_region_lit ?_
    (refine st_y S (Yr.ys (ys_move (Ev.t rfl))) rfl ?_; clear S a w; intro a w S)
    (refine st_y S (Yr.ys (ys_ldA ⟨Tryz.isAgg37, Tryz.sizeOf37⟩ (Ev.t rfl) (k := 5) rfl rfl)) rfl ?_; clear S a w; intro a w S)
    (refine st_m (op_calls S Tryz.call16 (EvL.cons (Ev.t rfl) EvL.nil) (c16 _ _ _ _ _ (by exact .old S.wd (by assumption)) (by exact .old S.wd (by assumption)) (by assumption) (by assumption) (by assumption)) rfl ?_); clear S a w; rintro _ _ ⟨A11, r11, A22, r21, A31, r31, rfl, rfl⟩ a w S)
    (refine st_m (op_calls S Tryz.call17 (EvL.cons (Ev.t rfl) (EvL.cons Ev.c (EvL.cons (Ev.t rfl) EvL.nil))) (c17 _ _ _ _ _ _ _ _ _ (by exact Wd.cell S.wd (k := 6) rfl rfl) (by exact Wd.cell S.wd (k := 6) rfl rfl) (by exact Sl.of_own S.wd (k := 7) rfl (fun _ => rfl)) (by omega) (by exact Sl.of_own S.wd (k := 0) rfl (fun _ => rfl)) (by exact ⟨(by exact Sl.of_own S.wd (k := 1) rfl (fun _ => rfl)), (by exact Sl.of_own S.wd (k := 2) rfl (fun _ => rfl))⟩)) rfl ?_); clear S a w; rintro _ _ ⟨A12, r12, A23, r22, A32, r32, rfl, rfl⟩ a w S)
    (refine st_y S (Yr.ys (ys_move (Ev.t rfl))) rfl ?_; clear S a w; intro a w S)
    (refine st_y S (Yr.ys (ys_ext (Ev.t rfl) rfl)) rfl ?_; clear S a w; intro a w S)
    (refine st_y S (Yr.ys (ys_ext (Ev.t rfl) rfl)) rfl ?_; clear S a w; intro a w S)
    (refine st_m (op_alloc S Tryz.zeroValue37 (cs := _) rfl rfl ?_); clear S a w; intro g4 a w S)
    (refine st_m (op_stW S Tryz.sizeOf37 (Ev.t rfl) (Ev.t rfl) (k := 0) rfl rfl rfl (by simp [Value.oneCell']) ?_); clear S a w; intro a w S)
    (refine st_y S (Yr.ys (ys_assign (Ev.t rfl))) rfl ?_; clear S a w; intro a w S)
    refine st_nil ?_
    (refine (then_normal (hK1 _ _ ?_)); clear hK1)
    refine wp_seq_k fun _ hK1 => ?_
    refine wp_region_lit ?_
    (refine st_y S (Yr.ys (ys_move (Ev.t rfl))) rfl ?_; clear S a w; intro a w S)
    (refine st_y S (Yr.ys (ys_ldA ⟨Tryz.isAgg37, Tryz.sizeOf37⟩ (Ev.t rfl) (k := 12) rfl rfl)) rfl ?_; clear S a w; intro a w S)
    (refine st_m (op_calls S Tryz.call16 (EvL.cons (Ev.t rfl) EvL.nil) (c16 _ _ _ _ _ (by exact .old S.wd (by assumption)) (by exact .old S.wd (by assumption)) (by assumption) (by assumption) (by assumption)) rfl ?_); clear S a w; rintro _ _ ⟨A13, r13, A24, r23, A33, r33, rfl, rfl⟩ a w S)
    (refine st_m (op_calls S Tryz.call17 (EvL.cons (Ev.t rfl) (EvL.cons Ev.c (EvL.cons (Ev.t rfl) EvL.nil))) (c17 _ _ _ _ _ _ _ _ _ (by exact Wd.cell S.wd (k := 10) rfl rfl) (by exact Wd.cell S.wd (k := 10) rfl rfl) (by exact Sl.of_own S.wd (k := 11) rfl (fun _ => rfl)) (by omega) (by exact Sl.of_own S.wd (k := 0) rfl (fun _ => rfl)) (by exact ⟨(by exact Sl.of_own S.wd (k := 1) rfl (fun _ => rfl)), (by exact Sl.of_own S.wd (k := 2) rfl (fun _ => rfl))⟩)) rfl ?_); clear S a w; rintro _ _ ⟨A14, r14, A25, r24, A34, r34, rfl, rfl⟩ a w S)
    rw [rw_k1] at S
    (refine st_y S (Yr.ys (ys_move (Ev.t rfl))) rfl ?_; clear S a w; intro a w S)
    (refine st_y S (Yr.ys (ys_ext (Ev.t rfl) rfl)) rfl ?_; clear S a w; intro a w S)
    (refine st_y S (Yr.ys (ys_ext (Ev.t rfl) rfl)) rfl ?_; clear S a w; intro a w S)
    (refine st_m (op_alloc S Tryz.zeroValue37 (cs := _) rfl rfl ?_); clear S a w; intro g5 a w S)
    (refine st_m (op_stW S Tryz.sizeOf37 (Ev.t rfl) (Ev.t rfl) (k := 0) rfl rfl rfl (by simp [Value.oneCell']) ?_); clear S a w; intro a w S)
    (refine st_y S (Yr.ys (ys_assign (Ev.t rfl))) rfl ?_; clear S a w; intro a w S)
    refine st_nil ?_
    (refine (then_normal (hK1 _ _ ?_)); clear hK1)
    refine wp_seq_k fun _ hK1 => ?_
    refine wp_region_lit ?_
    (refine st_y S (Yr.ys (ys_move (Ev.t rfl))) rfl ?_; clear S a w; intro a w S)
    (refine st_y S (Yr.ys (ys_ldA ⟨Tryz.isAgg37, Tryz.sizeOf37⟩ (Ev.t rfl) (k := 19) rfl rfl)) rfl ?_; clear S a w; intro a w S)
    (refine st_m (op_calls S Tryz.call16 (EvL.cons (Ev.t rfl) EvL.nil) (c16 _ _ _ _ _ (by exact .old S.wd (by assumption)) (by exact .old S.wd (by assumption)) (by assumption) (by assumption) (by assumption)) rfl ?_); clear S a w; rintro _ _ ⟨A15, r15, A26, r25, A35, r35, rfl, rfl⟩ a w S)
    (refine st_m (op_calls S Tryz.call17 (EvL.cons (Ev.t rfl) (EvL.cons Ev.c (EvL.cons (Ev.t rfl) EvL.nil))) (c17 _ _ _ _ _ _ _ _ _ (by exact Wd.cell S.wd (k := 20) rfl rfl) (by exact Wd.cell S.wd (k := 20) rfl rfl) (by exact Sl.of_own S.wd (k := 21) rfl (fun _ => rfl)) (by omega) (by exact Sl.of_own S.wd (k := 0) rfl (fun _ => rfl)) (by exact ⟨(by exact Sl.of_own S.wd (k := 1) rfl (fun _ => rfl)), (by exact Sl.of_own S.wd (k := 2) rfl (fun _ => rfl))⟩)) rfl ?_); clear S a w; rintro _ _ ⟨A16, r16, A27, r26, A36, r36, rfl, rfl⟩ a w S)
    rw [rw_k3] at S
    rw [rw_z] at S
    rw [rw_x] at S
    rw [rw_y] at S
    (refine st_y S (Yr.ys (ys_move (Ev.t rfl))) rfl ?_; clear S a w; intro a w S)
    (refine st_y S (Yr.ys (ys_ext (Ev.t rfl) rfl)) rfl ?_; clear S a w; intro a w S)
    (refine st_y S (Yr.ys (ys_ext (Ev.t rfl) rfl)) rfl ?_; clear S a w; intro a w S)
    (refine st_m (op_alloc S Tryz.zeroValue37 (cs := _) rfl rfl ?_); clear S a w; intro g6 a w S)
    (refine st_m (op_stW S Tryz.sizeOf37 (Ev.t rfl) (Ev.t rfl) (k := 0) rfl rfl rfl (by simp [Value.oneCell']) ?_); clear S a w; intro a w S)
    (refine st_y S (Yr.ys (ys_assign (Ev.t rfl))) rfl ?_; clear S a w; intro a w S)
    refine st_nil ?_
    (refine (then_normal (hK1 _ _ ?_)); clear hK1)
    refine wp_seq_k fun _ hK1 => ?_
    refine wp_seq_k fun _ hK5 => ?_
    refine wp_region_lit ?_
    (refine st_y S (Yr.ys (ys_move (Ev.t rfl))) rfl ?_; clear S a w; intro a w S)
    (refine st_y S (Yr.ys (ys_T (by omega) (ys_eql (Ev.t rfl) Ev.c))) rfl ?_; clear S a w; intro a w S)
    (refine st_y S (Yr.ys (ys_move (Ev.t rfl))) rfl ?_; clear S a w; intro a w S)
    (refine st_yt S rfl rfl (Yr.ys (ys_ldA ⟨Tryz.isAgg37, Tryz.sizeOf37⟩ (Ev.t rfl) (k := 0) rfl rfl)) rfl ?_; clear S a w; intro a w S)
    (refine st_yt S rfl rfl (Yr.ys (ys_ldA ⟨Tryz.isAgg37, Tryz.sizeOf37⟩ (Ev.t rfl) (k := 26) rfl rfl)) rfl ?_; clear S a w; intro a w S)
    (refine st_yt S rfl rfl (ys_call Tryz.call19 (EvL.cons (Ev.t rfl) (EvL.cons (Ev.t rfl) EvL.nil)) (fun hp w W => c19 _ _ _ _ _ _ _ _ _ (by exact Sl.of_own W (k := 1) rfl (fun _ => rfl)) (by exact ⟨(by exact Sl.of_own W (k := 2) rfl (fun _ => rfl)), (by exact Sl.of_own W (k := 3) rfl (fun _ => rfl))⟩) (by exact .old W (by assumption)) (by exact .old W (by assumption)))) rfl ?_; clear S a w; intro a w S)
    simp only [List.nil_append] at S
    (refine st_yt S rfl rfl (Yr.ys (ys_not (Ev.t rfl))) rfl ?_; clear S a w; intro a w S)
    (refine st_y S (Yr.ys (ys_pickT (Ev.t rfl) (Ev.t rfl))) rfl ?_; clear S a w; intro a w S)
    (refine st_y S (Yr.ys (ys_move (Ev.t rfl))) rfl ?_; clear S a w; intro a w S)
    (refine st_yt S rfl rfl (Yr.ys (ys_move (Ev.t rfl))) rfl ?_; clear S a w; intro a w S)
    (refine st_yt S rfl rfl (Yr.ys (ys_ldA ⟨Tryz.isAgg37, Tryz.sizeOf37⟩ (Ev.t rfl) (k := 26) rfl rfl)) rfl ?_; clear S a w; intro a w S)
    (refine st_yt S rfl rfl (ys_call Tryz.call32 (EvL.cons (Ev.t rfl) EvL.nil) (fun hp w W => c32 _ _ _ _ _ (by exact .old W (by assumption)) (by exact .old W (by assumption)))) rfl ?_; clear S a w; intro a w S)
    rw [rw_y] at S
    (refine st_yt S rfl rfl (Yr.ys (ys_F (by omega) (ys_neq (Ev.t rfl) (Ev.t rfl)))) rfl ?_; clear S a w; intro a w S)
    (refine st_y S (Yr.ys (ys_pickF (Ev.t rfl) (Ev.t rfl))) rfl ?_; clear S a w; intro a w S)
    refine st_nil ?_
    (refine (then_normal (hK5 _ _ ?_)); clear hK5)
    refine st_else S (Ev.t rfl) ?_
    refine wp_skip ?_
    (refine (then_normal (hK1 _ _ ?_)); clear hK1)
    refine wp_seq_k fun _ hK1 => ?_
    refine wp_region_lit ?_
    (refine st_y S (Yr.ys (ys_move (Ev.t rfl))) rfl ?_; clear S a w; intro a w S)
    (refine st_m (op_calls S Tryz.call21 (EvL.cons (Ev.t rfl) (EvL.cons Ev.c EvL.nil)) (c21 _ _ _ _ _ (by exact Wd.cell S.wd (k := 24) rfl rfl) (by exact Wd.cell S.wd (k := 24) rfl rfl) (by exact Sl.of_own S.wd (k := 25) rfl (fun _ => rfl)) (by omega)) rfl ?_); clear S a w; rintro _ _ ⟨A2, c1, rfl, rfl⟩ a w S)
    (refine st_y S (Yr.ys (ys_move (Ev.t rfl))) rfl ?_; clear S a w; intro a w S)
    (refine st_m (op_calls S Tryz.call21 (EvL.cons (Ev.t rfl) (EvL.cons Ev.c EvL.nil)) (c21 _ _ _ _ _ (by exact Wd.cell S.wd (k := 22) rfl rfl) (by exact Wd.cell S.wd (k := 22) rfl rfl) (by exact Sl.of_own S.wd (k := 23) rfl (fun _ => rfl)) (by omega)) rfl ?_); clear S a w; rintro _ _ ⟨A3, c2, rfl, rfl⟩ a w S)
    rw [rw_k1] at S
    (refine st_y S (ys_call Tryz.call23 (EvL.cons (Ev.t rfl) (EvL.cons (Ev.t rfl) EvL.nil)) (fun hp w W => c23 _ _ _ _ _ (by exact Sl.of_own W (k := 1) rfl (fun _ => rfl)) (by exact Sl.of_own W (k := 0) rfl (fun _ => rfl)))) rfl ?_; clear S a w; intro a w S)
    simp only [List.nil_append] at S
    (refine st_y S (Yr.ys (ys_move (Ev.t rfl))) rfl ?_; clear S a w; intro a w S)
    (refine st_yt S rfl rfl (Yr.ys (ys_move (Ev.t rfl))) rfl ?_; clear S a w; intro a w S)
    (refine st_mg S rfl rfl (op_calls S Tryz.call21 (EvL.cons (Ev.t rfl) (EvL.cons Ev.c EvL.nil)) (c21 _ _ _ _ _ (by exact Wd.cell S.wd (k := 23) rfl rfl) (by exact Wd.cell S.wd (k := 23) rfl rfl) (by exact Sl.of_own S.wd (k := 24) rfl (fun _ => rfl)) (by omega)) rfl ?_); clear S a w; rintro _ _ ⟨A4, c3, rfl, rfl⟩ a w S)
    rw [rw_k2] at S
    (refine st_yt S rfl rfl (Yr.ys (ys_move (Ev.t rfl))) rfl ?_; clear S a w; intro a w S)
    (refine st_mg S rfl rfl (op_calls S Tryz.call21 (EvL.cons (Ev.t rfl) (EvL.cons Ev.c EvL.nil)) (c21 _ _ _ _ _ (by exact Wd.cell S.wd (k := 24) rfl rfl) (by exact Wd.cell S.wd (k := 24) rfl rfl) (by exact Sl.of_own S.wd (k := 25) rfl (fun _ => rfl)) (by omega)) rfl ?_); clear S a w; rintro _ _ ⟨A5, c4, rfl, rfl⟩ a w S)
    rw [rw_k1] at S
    (refine st_yt S rfl rfl (ys_call Tryz.call23 (EvL.cons (Ev.t rfl) (EvL.cons (Ev.t rfl) EvL.nil)) (fun hp w W => c23 _ _ _ _ _ (by exact Sl.of_own W (k := 1) rfl (fun _ => rfl)) (by exact Sl.of_own W (k := 0) rfl (fun _ => rfl)))) rfl ?_; clear S a w; intro a w S)
    simp only [List.nil_append] at S
    (refine st_y S (Yr.ys (ys_pickT (Ev.t rfl) (Ev.t rfl))) rfl ?_; clear S a w; intro a w S)
    (refine st_y S (Yr.ys (ys_move (Ev.t rfl))) rfl ?_; clear S a w; intro a w S)
    (refine st_yt S rfl rfl (Yr.ys (ys_move (Ev.t rfl))) rfl ?_; clear S a w; intro a w S)
    (refine st_yt S rfl rfl (Yr.ys (ys_move (Ev.t rfl))) rfl ?_; clear S a w; intro a w S)
    (refine st_yt S rfl rfl (Yr.ys (ys_T (by omega) (ys_eql (Ev.t rfl) (Ev.t rfl)))) rfl ?_; clear S a w; intro a w S)
    (refine st_y S (Yr.ys (ys_pickT (Ev.t rfl) (Ev.t rfl))) rfl ?_; clear S a w; intro a w S)
    (refine st_y S (Yr.ys (ys_move (Ev.t rfl))) rfl ?_; clear S a w; intro a w S)
    (refine st_yt S rfl rfl (Yr.ys (ys_ldA ⟨Tryz.isAgg37, Tryz.sizeOf37⟩ (Ev.t rfl) (k := 18) rfl rfl)) rfl ?_; clear S a w; intro a w S)
    (refine st_yt S rfl rfl (Yr.ys (ys_ldA ⟨Tryz.isAgg37, Tryz.sizeOf37⟩ (Ev.t rfl) (k := 11) rfl rfl)) rfl ?_; clear S a w; intro a w S)
    (refine st_yt S rfl rfl (ys_call Tryz.call19 (EvL.cons (Ev.t rfl) (EvL.cons (Ev.t rfl) EvL.nil)) (fun hp w W => c19 _ _ _ _ _ _ _ _ _ (by exact Sl.of_own W (k := 19) rfl (fun _ => rfl)) (by exact ⟨(by exact Sl.of_own W (k := 20) rfl (fun _ => rfl)), (by exact Sl.of_own W (k := 21) rfl (fun _ => rfl))⟩) (by exact Sl.of_own W (k := 12) rfl (fun _ => rfl)) (by exact ⟨(by exact Sl.of_own W (k := 13) rfl (fun _ => rfl)), (by exact Sl.of_own W (k := 14) rfl (fun _ => rfl))⟩))) rfl ?_; clear S a w; intro a w S)
    simp only [List.nil_append] at S
    (refine st_y S (Yr.ys (ys_pickT (Ev.t rfl) (Ev.t rfl))) rfl ?_; clear S a w; intro a w S)
    (refine st_y S (Yr.ys (ys_move (Ev.t rfl))) rfl ?_; clear S a w; intro a w S)
    (refine st_yt S rfl rfl (ys_call Tryz.call27 EvL.nil (fun hp w W => c27 _)) rfl ?_; clear S a w; intro a w S)
    (refine st_y S (Yr.ys (ys_pickT (Ev.t rfl) (Ev.t rfl))) rfl ?_; clear S a w; intro a w S)
    (refine st_y S (Yr.ys (ys_assign (Ev.t rfl))) rfl ?_; clear S a w; intro a w S)
    refine st_nil ?_
    (refine (then_normal (hK1 _ _ ?_)); clear hK1)
    refine wp_ret ?_
    refine st_ret S (results1 S Tryz.results5 (Rv.tmp rfl)) ?_
    exact ⟨rfl, S.wd.below⟩
  · have rw_y : decide (canE X = 0) = false := decide_eq_false hcx
    refine wp_seq_k fun _ hK4 => ?_
    refine wp_region_lit ?_
    (refine st_y S (Yr.ys (ys_F (by omega) (ys_lss (Ev.t rfl) (Ev.t rfl)))) rfl ?_; clear S a w; intro a w S)
    refine st_nil ?_
    (refine (then_normal (hK4 _ _ ?_)); clear hK4)
    refine wp_seq_k fun _ hK4 => ?_
    refine st_else S (Ev.t rfl) ?_
    refine wp_exit ?_
    (refine (then_exit (then_exit (in_here (then_normal (hK1 _ _ ?_))))); clear hK1)
    refine wp_seq_k fun _ hK1 => ?_
    refine wp_region_lit ?_
    (refine st_y S (Yr.ys (ys_move (Ev.t rfl))) rfl ?_; clear S a w; intro a w S)
    (refine st_y S (Yr.ys (ys_bld (ps := [(0, _), (1, _), (2, _)]) (us := [_, _, _]) bld30 (EvL.cons Ev.c (EvL.cons Ev.c (EvL.cons Ev.c EvL.nil))) rfl)) rfl ?_; clear S a w; intro a w S)
    (refine st_m (op_callO S Tryz.call14 (EvL.cons (Ev.t rfl) (EvL.cons Ev.c (EvL.cons (Ev.t rfl) EvL.nil))) (c14 S.wd (by first | assumption | omega | (dsimp only; omega) | exact Sl.nil_ | exact .old S.wd (by assumption) | exact Sl.of_own S.wd (k := 0) rfl (fun _ => rfl) | exact Sl.of_own S.wd (k := 1) rfl (fun _ => rfl) | exact Sl.of_own S.wd (k := 2) rfl (fun _ => rfl) | exact Sl.of_own S.wd (k := 3) rfl (fun _ => rfl) | exact Sl.of_own S.wd (k := 4) rfl (fun _ => rfl) | exact Sl.of_own S.wd (k := 5) rfl (fun _ => rfl) | (simp; done) | (simp at *; omega)) (by first | assumption | omega | (dsimp only; omega) | exact Sl.nil_ | exact .old S.wd (by assumption) | exact Sl.of_own S.wd (k := 0) rfl (fun _ => rfl) | exact Sl.of_own S.wd (k := 1) rfl (fun _ => rfl) | exact Sl.of_own S.wd (k := 2) rfl (fun _ => rfl) | exact Sl.of_own S.wd (k := 3) rfl (fun _ => rfl) | exact Sl.of_own S.wd (k := 4) rfl (fun _ => rfl) | exact Sl.of_own S.wd (k := 5) rfl (fun _ => rfl) | (simp; done) | (simp at *; omega)) (by first | assumption | omega | (dsimp only; omega) | exact Sl.nil_ | exact .old S.wd (by assumption) | exact Sl.of_own S.wd (k := 0) rfl (fun _ => rfl) | exact Sl.of_own S.wd (k := 1) rfl (fun _ => rfl) | exact Sl.of_own S.wd (k := 2) rfl (fun _ => rfl) | exact Sl.of_own S.wd (k := 3) rfl (fun _ => rfl) | exact Sl.of_own S.wd (k := 4) rfl (fun _ => rfl) | exact Sl.of_own S.wd (k := 5) rfl (fun _ => rfl) | (simp; done) | (simp at *; omega))) rfl ?_) <;> clear S a w)
    rintro _ _ ⟨A21, e21, rfl, rfl⟩ a w S
    refine st_nil ?_
    (refine (then_normal (hK1 _ _ ?_)); clear hK1)
    refine wp_seq_k fun _ hK1 => ?_
    refine wp_region_lit ?_
    (refine st_y S (Yr.ys (ys_move (Ev.t rfl))) rfl ?_; clear S a w; intro a w S)
    (refine st_y S (Yr.ys (ys_ldA ⟨Tryz.isAgg37, Tryz.sizeOf37⟩ (Ev.t rfl) (k := 5) rfl rfl)) rfl ?_; clear S a w; intro a w S)
    (refine st_m (op_calls S Tryz.call16 (EvL.cons (Ev.t rfl) EvL.nil) (c16 _ _ _ _ _ (by exact .old S.wd (by assumption)) (by exact .old S.wd (by assumption)) (by assumption) (by assumption) (by assumption)) rfl ?_); clear S a w; rintro _ _ ⟨A11, r11, A22, r21, A31, r31, rfl, rfl⟩ a w S)
    (refine st_m (op_calls S Tryz.call17 (EvL.cons (Ev.t rfl) (EvL.cons Ev.c (EvL.cons (Ev.t rfl) EvL.nil))) (c17 _ _ _ _ _ _ _ _ _ (by exact Wd.cell S.wd (k := 6) rfl rfl) (by exact Wd.cell S.wd (k := 6) rfl rfl) (by exact Sl.of_own S.wd (k := 7) rfl (fun _ => rfl)) (by omega) (by exact Sl.of_own S.wd (k := 0) rfl (fun _ => rfl)) (by exact ⟨(by exact Sl.of_own S.wd (k := 1) rfl (fun _ => rfl)), (by exact Sl.of_own S.wd (k := 2) rfl (fun _ => rfl))⟩)) rfl ?_); clear S a w; rintro _ _ ⟨A12, r12, A23, r22, A32, r32, rfl, rfl⟩ a w S)
    (refine st_y S (Yr.ys (ys_move (Ev.t rfl))) rfl ?_; clear S a w; intro a w S)
    (refine st_y S (Yr.ys (ys_ext (Ev.t rfl) rfl)) rfl ?_; clear S a w; intro a w S)
    (refine st_y S (Yr.ys (ys_ext (Ev.t rfl) rfl)) rfl ?_; clear S a w; intro a w S)
    (refine st_m (op_alloc S Tryz.zeroValue37 (cs := _) rfl rfl ?_); clear S a w; intro g4 a w S)
    (refine st_m (op_stW S Tryz.sizeOf37 (Ev.t rfl) (Ev.t rfl) (k := 0) rfl rfl rfl (by simp [Value.oneCell']) ?_); clear S a w; intro a w S)
    (refine st_y S (Yr.ys (ys_assign (Ev.t rfl))) rfl ?_; clear S a w; intro a w S)
    refine st_nil ?_
    (refine (then_normal (hK1 _ _ ?_)); clear hK1)
    refine wp_seq_k fun _ hK1 => ?_
    refine wp_region_lit ?_
    (refine st_y S (Yr.ys (ys_move (Ev.t rfl))) rfl ?_; clear S a w; intro a w S)
    (refine st_y S (Yr.ys (ys_ldA ⟨Tryz.isAgg37, Tryz.sizeOf37⟩ (Ev.t rfl) (k := 12) rfl rfl)) rfl ?_; clear S a w; intro a w S)
    (refine st_m (op_calls S Tryz.call16 (EvL.cons (Ev.t rfl) EvL.nil) (c16 _ _ _ _ _ (by exact .old S.wd (by assumption)) (by exact .old S.wd (by assumption)) (by assumption) (by assumption) (by assumption)) rfl ?_); clear S a w; rintro _ _ ⟨A13, r13, A24, r23, A33, r33, rfl, rfl⟩ a w S)
    (refine st_m (op_calls S Tryz.call17 (EvL.cons (Ev.t rfl) (EvL.cons Ev.c (EvL.cons (Ev.t rfl) EvL.nil))) (c17 _ _ _ _ _ _ _ _ _ (by exact Wd.cell S.wd (k := 10) rfl rfl) (by exact Wd.cell S.wd (k := 10) rfl rfl) (by exact Sl.of_own S.wd (k := 11) rfl (fun _ => rfl)) (by omega) (by exact Sl.of_own S.wd (k := 0) rfl (fun _ => rfl)) (by exact ⟨(by exact Sl.of_own S.wd (k := 1) rfl (fun _ => rfl)), (by exact Sl.of_own S.wd (k := 2) rfl (fun _ => rfl))⟩)) rfl ?_); clear S a w; rintro _ _ ⟨A14, r14, A25, r24, A34, r34, rfl, rfl⟩ a w S)
    rw [rw_k1] at S
    (refine st_y S (Yr.ys (ys_move (Ev.t rfl))) rfl ?_; clear S a w; intro a w S)
    (refine st_y S (Yr.ys (ys_ext (Ev.t rfl) rfl)) rfl ?_; clear S a w; intro a w S)
    (refine st_y S (Yr.ys (ys_ext (Ev.t rfl) rfl)) rfl ?_; clear S a w; intro a w S)
    (refine st_m (op_alloc S Tryz.zeroValue37 (cs := _) rfl rfl ?_); clear S a w; intro g5 a w S)
    (refine st_m (op_stW S Tryz.sizeOf37 (Ev.t rfl) (Ev.t rfl) (k := 0) rfl rfl rfl (by simp [Value.oneCell']) ?_); clear S a w; intro a w S)
    (refine st_y S (Yr.ys (ys_assign (Ev.t rfl))) rfl ?_; clear S a w; intro a w S)
    refine st_nil ?_
    (refine (then_normal (hK1 _ _ ?_)); clear hK1)
    refine wp_seq_k fun _ hK1 => ?_
    refine wp_region_lit ?_
    (refine st_y S (Yr.ys (ys_move (Ev.t rfl))) rfl ?_; clear S a w; intro a w S)
    (refine st_y S (Yr.ys (ys_ldA ⟨Tryz.isAgg37, Tryz.sizeOf37⟩ (Ev.t rfl) (k := 19) rfl rfl)) rfl ?_; clear S a w; intro a w S)
    (refine st_m (op_calls S Tryz.call16 (EvL.cons (Ev.t rfl) EvL.nil) (c16 _ _ _ _ _ (by exact .old S.wd (by assumption)) (by exact .old S.wd (by assumption)) (by assumption) (by assumption) (by assumption)) rfl ?_); clear S a w; rintro _ _ ⟨A15, r15, A26, r25, A35, r35, rfl, rfl⟩ a w S)
    (refine st_m (op_calls S Tryz.call17 (EvL.cons (Ev.t rfl) (EvL.cons Ev.c (EvL.cons (Ev.t rfl) EvL.nil))) (c17 _ _ _ _ _ _ _ _ _ (by exact Wd.cell S.wd (k := 20) rfl rfl) (by exact Wd.cell S.wd (k := 20) rfl rfl) (by exact Sl.of_own S.wd (k := 21) rfl (fun _ => rfl)) (by omega) (by exact Sl.of_own S.wd (k := 0) rfl (fun _ => rfl)) (by exact ⟨(by exact Sl.of_own S.wd (k := 1) rfl (fun _ => rfl)), (by exact Sl.of_own S.wd (k := 2) rfl (fun _ => rfl))⟩)) rfl ?_); clear S a w; rintro _ _ ⟨A16, r16, A27, r26, A36, r36, rfl, rfl⟩ a w S)
    rw [rw_k3] at S
    rw [rw_z] at S
    (refine st_y S (Yr.ys (ys_move (Ev.t rfl))) rfl ?_; clear S a w; intro a w S)
    (refine st_y S (Yr.ys (ys_ext (Ev.t rfl) rfl)) rfl ?_; clear S a w; intro a w S)
    (refine st_y S (Yr.ys (ys_ext (Ev.t rfl) rfl)) rfl ?_; clear S a w; intro a w S)
    (refine st_m (op_alloc S Tryz.zeroValue37 (cs := _) rfl rfl ?_); clear S a w; intro g6 a w S)
    (refine st_m (op_stW S Tryz.sizeOf37 (Ev.t rfl) (Ev.t rfl) (k := 0) rfl rfl rfl (by simp [Value.oneCell']) ?_); clear S a w; intro a w S)
    (refine st_y S (Yr.ys (ys_assign (Ev.t rfl))) rfl ?_; clear S a w; intro a w S)
    refine st_nil ?_
    (refine (then_normal (hK1 _ _ ?_)); clear hK1)
    refine wp_seq_k fun _ hK1 => ?_
    refine wp_seq_k fun _ hK5 => ?_
    refine wp_region_lit ?_
    (refine st_y S (Yr.ys (ys_move (Ev.t rfl))) rfl ?_; clear S a w; intro a w S)
    (refine st_y S (Yr.ys (ys_F (by omega) (ys_eql (Ev.t rfl) Ev.c))) rfl ?_; clear S a w; intro a w S)
    (refine st_y S (Yr.ys (ys_move (Ev.t rfl))) rfl ?_; clear S a w; intro a w S)
    (refine st_skip S rfl rfl rfl rfl ?_; clear S a w; intro a w S)
    (refine st_skip S rfl rfl rfl rfl ?_; clear S a w; intro a w S)
    (refine st_skip S rfl rfl rfl rfl ?_; clear S a w; intro a w S)
    (refine st_skip S rfl rfl rfl rfl ?_; clear S a w; intro a w S)
    (refine st_y S (Yr.ys (ys_pickF (Ev.t rfl) Ev.c)) rfl ?_; clear S a w; intro a w S)
    (refine st_y S (Yr.ys (ys_move (Ev.t rfl))) rfl ?_; clear S a w; intro a w S)
    (refine st_yt S rfl rfl (Yr.ys (ys_move (Ev.t rfl))) rfl ?_; clear S a w; intro a w S)
    (refine st_yt S rfl rfl (Yr.ys (ys_ldA ⟨Tryz.isAgg37, Tryz.sizeOf37⟩ (Ev.t rfl) (k := 26) rfl rfl)) rfl ?_; clear S a w; intro a w S)
    (refine st_yt S rfl rfl (ys_call Tryz.call32 (EvL.cons (Ev.t rfl) EvL.nil) (fun hp w W => c32 _ _ _ _ _ (by exact .old W (by assumption)) (by exact .old W (by assumption)))) rfl ?_; clear S a w; intro a w S)
    (refine st_yt S rfl rfl (Yr.ys (ys_F (by omega) (ys_neq (Ev.t rfl) (Ev.t rfl)))) rfl ?_; clear S a w; intro a w S)
    (refine st_y S (Yr.ys (ys_pickF (Ev.t rfl) (Ev.t rfl))) rfl ?_; clear S a w; intro a w S)
    refine st_nil ?_
    (refine (then_normal (hK5 _ _ ?_)); clear hK5)
    refine st_else S (Ev.t rfl) ?_
    refine wp_skip ?_
    (refine (then_normal (hK1 _ _ ?_)); clear hK1)
    refine wp_seq_k fun _ hK1 => ?_
    refine wp_region_lit ?_
    (refine st_y S (Yr.ys (ys_move (Ev.t rfl))) rfl ?_; clear S a w; intro a w S)
    (refine st_m (op_calls S Tryz.call21 (EvL.cons (Ev.t rfl) (EvL.cons Ev.c EvL.nil)) (c21 _ _ _ _ _ (by exact Wd.cell S.wd (k := 24) rfl rfl) (by exact Wd.cell S.wd (k := 24) rfl rfl) (by exact Sl.of_own S.wd (k := 25) rfl (fun _ => rfl)) (by omega)) rfl ?_); clear S a w; rintro _ _ ⟨A2, c1, rfl, rfl⟩ a w S)
    (refine st_y S (Yr.ys (ys_move (Ev.t rfl))) rfl ?_; clear S a w; intro a w S)
    (refine st_m (op_calls S Tryz.call21 (EvL.cons (Ev.t rfl) (EvL.cons Ev.c EvL.nil)) (c21 _ _ _ _ _ (by exact Wd.cell S.wd (k := 22) rfl rfl) (by exact Wd.cell S.wd (k := 22) rfl rfl) (by exact Sl.of_own S.wd (k := 23) rfl (fun _ => rfl)) (by omega)) rfl ?_); clear S a w; rintro _ _ ⟨A3, c2, rfl, rfl⟩ a w S)
    rw [rw_k1] at S
    (refine st_y S (ys_call Tryz.call23 (EvL.cons (Ev.t rfl) (EvL.cons (Ev.t rfl) EvL.nil)) (fun hp w W => c23 _ _ _ _ _ (by exact Sl.of_own W (k := 1) rfl (fun _ => rfl)) (by exact Sl.of_own W (k := 0) rfl (fun _ => rfl)))) rfl ?_; clear S a w; intro a w S)
    simp only [List.nil_append] at S
    (refine st_y S (Yr.ys (ys_move (Ev.t rfl))) rfl ?_; clear S a w; intro a w S)
    (refine st_yt S rfl rfl (Yr.ys (ys_move (Ev.t rfl))) rfl ?_; clear S a w; intro a w S)
    (refine st_mg S rfl rfl (op_calls S Tryz.call21 (EvL.cons (Ev.t rfl) (EvL.cons Ev.c EvL.nil)) (c21 _ _ _ _ _ (by exact Wd.cell S.wd (k := 23) rfl rfl) (by exact Wd.cell S.wd (k := 23) rfl rfl) (by exact Sl.of_own S.wd (k := 24) rfl (fun _ => rfl)) (by omega)) rfl ?_); clear S a w; rintro _ _ ⟨A4, c3, rfl, rfl⟩ a w S)
    rw [rw_k2] at S
    (refine st_yt S rfl rfl (Yr.ys (ys_move (Ev.t rfl))) rfl ?_; clear S a w; intro a w S)
    (refine st_mg S rfl rfl (op_calls S Tryz.call21 (EvL.cons (Ev.t rfl) (EvL.cons Ev.c EvL.nil)) (c21 _ _ _ _ _ (by exact Wd.cell S.wd (k := 24) rfl rfl) (by exact Wd.cell S.wd (k := 24) rfl rfl) (by exact Sl.of_own S.wd (k := 25) rfl (fun _ => rfl)) (by omega)) rfl ?_); clear S a w; rintro _ _ ⟨A5, c4, rfl, rfl⟩ a w S)
    rw [rw_k1] at S
    (refine st_yt S rfl rfl (ys_call Tryz.call23 (EvL.cons (Ev.t rfl) (EvL.cons (Ev.t rfl) EvL.nil)) (fun hp w W => c23 _ _ _ _ _ (by exact Sl.of_own W (k := 1) rfl (fun _ => rfl)) (by exact Sl.of_own W (k := 0) rfl (fun _ => rfl)))) rfl ?_; clear S a w; intro a w S)
    simp only [List.nil_append] at S
    (refine st_y S (Yr.ys (ys_pickT (Ev.t rfl) (Ev.t rfl))) rfl ?_; clear S a w; intro a w S)
    (refine st_y S (Yr.ys (ys_move (Ev.t rfl))) rfl ?_; clear S a w; intro a w S)
    (refine st_yt S rfl rfl (Yr.ys (ys_move (Ev.t rfl))) rfl ?_; clear S a w; intro a w S)
    (refine st_yt S rfl rfl (Yr.ys (ys_move (Ev.t rfl))) rfl ?_; clear S a w; intro a w S)
    (refine st_yt S rfl rfl (Yr.ys (ys_T (by omega) (ys_eql (Ev.t rfl) (Ev.t rfl)))) rfl ?_; clear S a w; intro a w S)
    (refine st_y S (Yr.ys (ys_pickT (Ev.t rfl) (Ev.t rfl))) rfl ?_; clear S a w; intro a w S)
    (refine st_y S (Yr.ys (ys_move (Ev.t rfl))) rfl ?_; clear S a w; intro a w S)
    (refine st_yt S rfl rfl (Yr.ys (ys_ldA ⟨Tryz.isAgg37, Tryz.sizeOf37⟩ (Ev.t rfl) (k := 18) rfl rfl)) rfl ?_; clear S a w; intro a w S)
    (refine st_yt S rfl rfl (Yr.ys (ys_ldA ⟨Tryz.isAgg37, Tryz.sizeOf37⟩ (Ev.t rfl) (k := 11) rfl rfl)) rfl ?_; clear S a w; intro a w S)
    (refine st_yt S rfl rfl (ys_call Tryz.call19 (EvL.cons (Ev.t rfl) (EvL.cons (Ev.t rfl) EvL.nil)) (fun hp w W => c19 _ _ _ _ _ _ _ _ _ (by exact Sl.of_own W (k := 19) rfl (fun _ => rfl)) (by exact ⟨(by exact Sl.of_own W (k := 20) rfl (fun _ => rfl)), (by exact Sl.of_own W (k := 21) rfl (fun _ => rfl))⟩) (by exact Sl.of_own W (k := 12) rfl (fun _ => rfl)) (by exact ⟨(by exact Sl.of_own W (k := 13) rfl (fun _ => rfl)), (by exact Sl.of_own W (k := 14) rfl (fun _ => rfl))⟩))) rfl ?_; clear S a w; intro a w S)
    simp only [List.nil_append] at S
    (refine st_y S (Yr.ys (ys_pickT (Ev.t rfl) (Ev.t rfl))) rfl ?_; clear S a w; intro a w S)
    (refine st_y S (Yr.ys (ys_move (Ev.t rfl))) rfl ?_; clear S a w; intro a w S)
    (refine st_yt S rfl rfl (ys_call Tryz.call27 EvL.nil (fun hp w W => c27 _)) rfl ?_; clear S a w; intro a w S)
    (refine st_y S (Yr.ys (ys_pickT (Ev.t rfl) (Ev.t rfl))) rfl ?_; clear S a w; intro a w S)
    (refine st_y S (Yr.ys (ys_assign (Ev.t rfl))) rfl ?_; clear S a w; intro a w S)
    refine st_nil ?_
    (refine (then_normal (hK1 _ _ ?_)); clear hK1)
    refine wp_ret ?_
    refine st_ret S (results1 S Tryz.results5 (Rv.tmp rfl)) ?_
    exact ⟨rfl, S.wd.below⟩
end Go.Proofs.YtakpdbmdfnialaaGreat
