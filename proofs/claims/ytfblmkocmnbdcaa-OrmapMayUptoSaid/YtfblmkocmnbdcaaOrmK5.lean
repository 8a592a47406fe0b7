/- Contracts and laws that the statement Orm leans on, part 5. -/
import Derived.Test.YtfblmkocmnbdcaaOrmK4
import Derived.ScopeJumps
import Derived.LoopN
import Derived.Recover
set_option linter.unusedVariables false
set_option linter.unusedSimpArgs false
set_option maxRecDepth 100000
set_option maxHeartbeats 4000000
namespace Go.Fw
abbrev Upd.enc (u : Upd) (v1 v2 v3 : Value) : List Value := [.string (bs u.key), .int .i64 u.dot.node, .int .i64 u.dot.life, .int .i64 u.dot.count, .string (bs u.item), .int .i64 u.qty, .int .u64 (u.price.toNat : Int), v1, v2, v3]
theorem can_ctx {c : Cart} (h : canE c = 0) : canL c.ctx = true := ((canE_ok c).1 h).ctx
end Go.Fw
namespace Go.Proofs.Ytfblmkocmnbdcaa
open Go.Fw Go.Proofs Go.RowKit
theorem sl_y1 {w0 w : World} {L : List Chunk} {k g : Nat} {t : TypeId} {fr : Nat × Nat} {x y z : Int} (W : Wd w0 L w) (hk : L[k]? = some (.blk g (.cells #[.int .i64 x, .int .i64 y, .int .i64 z] t fr))) : Sl Dot.enc 3 w w.heap.size (.slice (some ⟨g, 0, none⟩) 1 1) [⟨x, y, z⟩] := by
  refine ⟨some ⟨g, 0, none⟩, 1, rfl, by simp, by simp, fun _ => ⟨g, 0, rfl, ((W.get hk).lt (b := g) rfl).2, fun i d hd j u hj => ?_⟩⟩
  have h2 := (W.get hk).2
  rcases i with _ | i
  · simp at hd
    subst hd
    rw [cell_of_row w g (0 + 0 * 3 + j) _ t fr h2]
    simpa [Dot.enc] using hj
  · simp at hd
theorem c21 (w0 : World) (u : Upd) (v1 v2 v3 : Value) (h : Sl Ent.enc 6 w0 w0.heap.size v1 u.seen.ents) (hr : RdCtx w0 w0.heap.size v2 v3 u.seen.ctx) :
    Calls Try.prog 21 #[.agg (Upd.enc u v1 v2 v3).toArray] w0 fun e w' => e = .returned (.int .i64 (mayE u)) ∧ Bel w0.heap.size w0 w' := by
  have hs := h
  have hrr := hr
  obtain ⟨A, cap, rfl, _⟩ := h
  obtain ⟨⟨A2, cap2, rfl, _⟩, ⟨A3, cap3, rfl, _⟩⟩ := hr
  unfold mayE
  cases rw_k : nameB u.key with
  | false =>
    refine enter1 Try.func21 rfl Try.ntmps21 rfl fun a S => ?_
    refine wp_seq_k fun _ hK1 => ?_
    refine wp_region_lit ?_
    (refine st_m (op_box S (Ev.t rfl) rfl ?_); clear S a; intro g1 a w S)
    (refine st_y S (Yr.ys (ys_assign Ev.c)) rfl ?_; clear S a w; intro a w S)
    refine st_nil ?_
    (refine (then_normal (hK1 _ _ ?_)); clear hK1)
    refine wp_seq_k fun _ hK1 => ?_
    refine wp_block ?_
    refine wp_seq_k fun _ hK2 => ?_
    refine wp_region_lit ?_
    (refine st_y S (Yr.ys (ys_fieldN (FieldT.mk Try.underlying64 rfl Try.sizeOf9 rfl) (Ev.t rfl) (i' := 0) rfl)) rfl ?_; clear S a w; intro a w S)
    (refine st_y S (Yr.ys (ys_ld ⟨Try.isAgg9, Try.sizeOf9⟩ (Ev.t rfl) (k := 0) rfl rfl)) rfl ?_; clear S a w; intro a w S)
    (refine st_y S (ys_call Try.call55 (EvL.cons (Ev.t rfl) EvL.nil) (fun hp w W => c55 _ _)) rfl ?_; clear S a w; intro a w S)
    rw [rw_k] at S
    (refine st_y S (Yr.ys (ys_not (Ev.t rfl))) rfl ?_; clear S a w; intro a w S)
    (refine st_y S (Yr.ys (ys_move (Ev.t rfl))) rfl ?_; clear S a w; intro a w S)
    (refine st_skip S rfl rfl rfl rfl ?_; clear S a w; intro a w S)
    (refine st_skip S rfl rfl rfl rfl ?_; clear S a w; intro a w S)
    (refine st_skip S rfl rfl rfl rfl ?_; clear S a w; intro a w S)
    (refine st_skip S rfl rfl rfl rfl ?_; clear S a w; intro a w S)
    (refine st_y S (Yr.ys (ys_pickT (Ev.t rfl) Ev.c)) rfl ?_; clear S a w; intro a w S)
    (refine st_y S (Yr.ys (ys_assign (Ev.t rfl))) rfl ?_; clear S a w; intro a w S)
    refine st_nil ?_
    (refine (then_normal (hK2 _ _ ?_)); clear hK2)
    refine st_then S (Ev.t rfl) ?_
    refine wp_seq_k fun _ hK2 => ?_
    refine wp_region_lit ?_
    (refine st_y S (Yr.ys (ys_assign Ev.c)) rfl ?_; clear S a w; intro a w S)
    refine st_nil ?_
    (refine (then_normal (hK2 _ _ ?_)); clear hK2)
    refine wp_ret ?_
    refine (in_ret (then_ret ?_))
    refine st_ret S (results1 S Try.results21 (Rv.tmp rfl)) ?_
    exact ⟨by rw [if_pos (.inl rfl)], S.wd.below⟩
  | true =>
  cases rw_i : nameB u.item with
  | false =>
    refine enter1 Try.func21 rfl Try.ntmps21 rfl fun a S => ?_
    refine wp_seq_k fun _ hK1 => ?_
    refine wp_region_lit ?_
    (refine st_m (op_box S (Ev.t rfl) rfl ?_); clear S a; intro g1 a w S)
    (refine st_y S (Yr.ys (ys_assign Ev.c)) rfl ?_; clear S a w; intro a w S)
    refine st_nil ?_
    (refine (then_normal (hK1 _ _ ?_)); clear hK1)
    refine wp_seq_k fun _ hK1 => ?_
    refine wp_block ?_
    refine wp_seq_k fun _ hK2 => ?_
    refine wp_region_lit ?_
    (refine st_y S (Yr.ys (ys_fieldN (FieldT.mk Try.underlying64 rfl Try.sizeOf9 rfl) (Ev.t rfl) (i' := 0) rfl)) rfl ?_; clear S a w; intro a w S)
    (refine st_y S (Yr.ys (ys_ld ⟨Try.isAgg9, Try.sizeOf9⟩ (Ev.t rfl) (k := 0) rfl rfl)) rfl ?_; clear S a w; intro a w S)
    (refine st_y S (ys_call Try.call55 (EvL.cons (Ev.t rfl) EvL.nil) (fun hp w W => c55 _ _)) rfl ?_; clear S a w; intro a w S)
    rw [rw_k] at S
    (refine st_y S (Yr.ys (ys_not (Ev.t rfl))) rfl ?_; clear S a w; intro a w S)
    (refine st_y S (Yr.ys (ys_move (Ev.t rfl))) rfl ?_; clear S a w; intro a w S)
    (refine st_yt S rfl rfl (Yr.ys (ys_fieldN (FieldT.mk Try.underlying64 rfl Try.sizeOf9 rfl) (Ev.t rfl) (i' := 4) rfl)) rfl ?_; clear S a w; intro a w S)
    (refine st_yt S rfl rfl (Yr.ys (ys_ld ⟨Try.isAgg9, Try.sizeOf9⟩ (Ev.t rfl) (k := 0) rfl rfl)) rfl ?_; clear S a w; intro a w S)
    (refine st_yt S rfl rfl (ys_call Try.call55 (EvL.cons (Ev.t rfl) EvL.nil) (fun hp w W => c55 _ _)) rfl ?_; clear S a w; intro a w S)
    rw [rw_i] at S
    (refine st_yt S rfl rfl (Yr.ys (ys_not (Ev.t rfl))) rfl ?_; clear S a w; intro a w S)
    (refine st_y S (Yr.ys (ys_pickF (Ev.t rfl) (Ev.t rfl))) rfl ?_; clear S a w; intro a w S)
    (refine st_y S (Yr.ys (ys_assign (Ev.t rfl))) rfl ?_; clear S a w; intro a w S)
    refine st_nil ?_
    (refine (then_normal (hK2 _ _ ?_)); clear hK2)
    refine st_then S (Ev.t rfl) ?_
    refine wp_seq_k fun _ hK2 => ?_
    refine wp_region_lit ?_
    (refine st_y S (Yr.ys (ys_assign Ev.c)) rfl ?_; clear S a w; intro a w S)
    refine st_nil ?_
    (refine (then_normal (hK2 _ _ ?_)); clear hK2)
    refine wp_ret ?_
    refine (in_ret (then_ret ?_))
    refine st_ret S (results1 S Try.results21 (Rv.tmp rfl)) ?_
    exact ⟨by rw [if_pos (.inr rfl)], S.wd.below⟩
  | true =>
  rw [if_neg (by simp)]
  by_cases hq : u.qty < 0 ∨ 1000000 < u.qty
  · have rw_q : (decide (u.qty < 0) || decide (1000000 < u.qty)) = true := by simp; omega
    refine enter1 Try.func21 rfl Try.ntmps21 rfl fun a S => ?_
    refine wp_seq_k fun _ hK1 => ?_
    refine wp_region_lit ?_
    (refine st_m (op_box S (Ev.t rfl) rfl ?_); clear S a; intro g1 a w S)
    (refine st_y S (Yr.ys (ys_assign Ev.c)) rfl ?_; clear S a w; intro a w S)
    refine st_nil ?_
    (refine (then_normal (hK1 _ _ ?_)); clear hK1)
    refine wp_seq_k fun _ hK1 => ?_
    refine wp_block ?_
    refine wp_seq_k fun _ hK2 => ?_
    refine wp_region_lit ?_
    (refine st_y S (Yr.ys (ys_fieldN (FieldT.mk Try.underlying64 rfl Try.sizeOf9 rfl) (Ev.t rfl) (i' := 0) rfl)) rfl ?_; clear S a w; intro a w S)
    (refine st_y S (Yr.ys (ys_ld ⟨Try.isAgg9, Try.sizeOf9⟩ (Ev.t rfl) (k := 0) rfl rfl)) rfl ?_; clear S a w; intro a w S)
    (refine st_y S (ys_call Try.call55 (EvL.cons (Ev.t rfl) EvL.nil) (fun hp w W => c55 _ _)) rfl ?_; clear S a w; intro a w S)
    rw [rw_k] at S
    (refine st_y S (Yr.ys (ys_not (Ev.t rfl))) rfl ?_; clear S a w; intro a w S)
    (refine st_y S (Yr.ys (ys_move (Ev.t rfl))) rfl ?_; clear S a w; intro a w S)
    (refine st_yt S rfl rfl (Yr.ys (ys_fieldN (FieldT.mk Try.underlying64 rfl Try.sizeOf9 rfl) (Ev.t rfl) (i' := 4) rfl)) rfl ?_; clear S a w; intro a w S)
    (refine st_yt S rfl rfl (Yr.ys (ys_ld ⟨Try.isAgg9, Try.sizeOf9⟩ (Ev.t rfl) (k := 0) rfl rfl)) rfl ?_; clear S a w; intro a w S)
    (refine st_yt S rfl rfl (ys_call Try.call55 (EvL.cons (Ev.t rfl) EvL.nil) (fun hp w W => c55 _ _)) rfl ?_; clear S a w; intro a w S)
    rw [rw_i] at S
    (refine st_yt S rfl rfl (Yr.ys (ys_not (Ev.t rfl))) rfl ?_; clear S a w; intro a w S)
    (refine st_y S (Yr.ys (ys_pickF (Ev.t rfl) (Ev.t rfl))) rfl ?_; clear S a w; intro a w S)
    (refine st_y S (Yr.ys (ys_assign (Ev.t rfl))) rfl ?_; clear S a w; intro a w S)
    refine st_nil ?_
    (refine (then_normal (hK2 _ _ ?_)); clear hK2)
    refine st_else S (Ev.t rfl) ?_
    refine wp_seq_k fun _ hK2 => ?_
    refine wp_region_lit ?_
    (refine st_y S (Yr.ys (ys_fieldN (FieldT.mk Try.underlying64 rfl Try.sizeOf3 rfl) (Ev.t rfl) (i' := 5) rfl)) rfl ?_; clear S a w; intro a w S)
    (refine st_y S (Yr.ys (ys_ld ⟨Try.isAgg3, Try.sizeOf3⟩ (Ev.t rfl) (k := 0) rfl rfl)) rfl ?_; clear S a w; intro a w S)
    (refine st_y S (Yr.ys (ys_lss (Ev.t rfl) Ev.c)) rfl ?_; clear S a w; intro a w S)
    (refine st_y S (Yr.ys (ys_move (Ev.t rfl))) rfl ?_; clear S a w; intro a w S)
    (refine st_yf S rfl rfl (Yr.ys (ys_fieldN (FieldT.mk Try.underlying64 rfl Try.sizeOf3 rfl) (Ev.t rfl) (i' := 5) rfl)) rfl ?_; clear S a w; intro a w S)
    (refine st_yf S rfl rfl (Yr.ys (ys_ld ⟨Try.isAgg3, Try.sizeOf3⟩ (Ev.g rfl) (k := 0) rfl rfl)) rfl ?_; clear S a w; intro a w S)
    (refine st_yf S rfl rfl (Yr.ys (ys_gtr (Ev.g rfl) Ev.c)) rfl ?_; clear S a w; intro a w S)
    (refine st_y S (Yr.ys (ys_or (Ev.t rfl) Ev.c (Ev.g rfl))) rfl ?_; clear S a w; intro a w S)
    rw [rw_q] at S
    (refine st_y S (Yr.ys (ys_assign (Ev.t rfl))) rfl ?_; clear S a w; intro a w S)
    refine st_nil ?_
    (refine (then_normal (hK2 _ _ ?_)); clear hK2)
    refine st_then S (Ev.t rfl) ?_
    refine wp_seq_k fun _ hK2 => ?_
    refine wp_region_lit ?_
    (refine st_y S (Yr.ys (ys_assign Ev.c)) rfl ?_; clear S a w; intro a w S)
    refine st_nil ?_
    (refine (then_normal (hK2 _ _ ?_)); clear hK2)
    refine wp_ret ?_
    refine (in_ret (then_ret ?_))
    refine st_ret S (results1 S Try.results21 (Rv.tmp rfl)) ?_
    exact ⟨by rw [if_pos hq], S.wd.below⟩
  have rw_q : (decide (u.qty < 0) || decide (1000000 < u.qty)) = false := by simp; omega
  rw [if_neg hq]
  cases rw_p : priceB u.price with
  | false =>
    refine enter1 Try.func21 rfl Try.ntmps21 rfl fun a S => ?_
    refine wp_seq_k fun _ hK1 => ?_
    refine wp_region_lit ?_
    (refine st_m (op_box S (Ev.t rfl) rfl ?_); clear S a; intro g1 a w S)
    (refine st_y S (Yr.ys (ys_assign Ev.c)) rfl ?_; clear S a w; intro a w S)
    refine st_nil ?_
    (refine (then_normal (hK1 _ _ ?_)); clear hK1)
    refine wp_seq_k fun _ hK1 => ?_
    refine wp_block ?_
    refine wp_seq_k fun _ hK2 => ?_
    refine wp_region_lit ?_
    (refine st_y S (Yr.ys (ys_fieldN (FieldT.mk Try.underlying64 rfl Try.sizeOf9 rfl) (Ev.t rfl) (i' := 0) rfl)) rfl ?_; clear S a w; intro a w S)
    (refine st_y S (Yr.ys (ys_ld ⟨Try.isAgg9, Try.sizeOf9⟩ (Ev.t rfl) (k := 0) rfl rfl)) rfl ?_; clear S a w; intro a w S)
    (refine st_y S (ys_call Try.call55 (EvL.cons (Ev.t rfl) EvL.nil) (fun hp w W => c55 _ _)) rfl ?_; clear S a w; intro a w S)
    rw [rw_k] at S
    (refine st_y S (Yr.ys (ys_not (Ev.t rfl))) rfl ?_; clear S a w; intro a w S)
    (refine st_y S (Yr.ys (ys_move (Ev.t rfl))) rfl ?_; clear S a w; intro a w S)
    (refine st_yt S rfl rfl (Yr.ys (ys_fieldN (FieldT.mk Try.underlying64 rfl Try.sizeOf9 rfl) (Ev.t rfl) (i' := 4) rfl)) rfl ?_; clear S a w; intro a w S)
    (refine st_yt S rfl rfl (Yr.ys (ys_ld ⟨Try.isAgg9, Try.sizeOf9⟩ (Ev.t rfl) (k := 0) rfl rfl)) rfl ?_; clear S a w; intro a w S)
    (refine st_yt S rfl rfl (ys_call Try.call55 (EvL.cons (Ev.t rfl) EvL.nil) (fun hp w W => c55 _ _)) rfl ?_; clear S a w; intro a w S)
    rw [rw_i] at S
    (refine st_yt S rfl rfl (Yr.ys (ys_not (Ev.t rfl))) rfl ?_; clear S a w; intro a w S)
    (refine st_y S (Yr.ys (ys_pickF (Ev.t rfl) (Ev.t rfl))) rfl ?_; clear S a w; intro a w S)
    (refine st_y S (Yr.ys (ys_assign (Ev.t rfl))) rfl ?_; clear S a w; intro a w S)
    refine st_nil ?_
    (refine (then_normal (hK2 _ _ ?_)); clear hK2)
    refine st_else S (Ev.t rfl) ?_
    refine wp_seq_k fun _ hK2 => ?_
    refine wp_region_lit ?_
    (refine st_y S (Yr.ys (ys_fieldN (FieldT.mk Try.underlying64 rfl Try.sizeOf3 rfl) (Ev.t rfl) (i' := 5) rfl)) rfl ?_; clear S a w; intro a w S)
    (refine st_y S (Yr.ys (ys_ld ⟨Try.isAgg3, Try.sizeOf3⟩ (Ev.t rfl) (k := 0) rfl rfl)) rfl ?_; clear S a w; intro a w S)
    (refine st_y S (Yr.ys (ys_F (by omega) (ys_lss (Ev.t rfl) Ev.c))) rfl ?_; clear S a w; intro a w S)
    (refine st_y S (Yr.ys (ys_move (Ev.t rfl))) rfl ?_; clear S a w; intro a w S)
    (refine st_yt S rfl rfl (Yr.ys (ys_fieldN (FieldT.mk Try.underlying64 rfl Try.sizeOf3 rfl) (Ev.t rfl) (i' := 5) rfl)) rfl ?_; clear S a w; intro a w S)
    (refine st_yt S rfl rfl (Yr.ys (ys_ld ⟨Try.isAgg3, Try.sizeOf3⟩ (Ev.t rfl) (k := 0) rfl rfl)) rfl ?_; clear S a w; intro a w S)
    (refine st_yt S rfl rfl (Yr.ys (ys_F (by omega) (ys_gtr (Ev.t rfl) Ev.c))) rfl ?_; clear S a w; intro a w S)
    (refine st_y S (Yr.ys (ys_pickF (Ev.t rfl) (Ev.t rfl))) rfl ?_; clear S a w; intro a w S)
    (refine st_y S (Yr.ys (ys_assign (Ev.t rfl))) rfl ?_; clear S a w; intro a w S)
    refine st_nil ?_
    (refine (then_normal (hK2 _ _ ?_)); clear hK2)
    refine st_else S (Ev.t rfl) ?_
    refine wp_seq_k fun _ hK2 => ?_
    refine wp_region_lit ?_
    (refine st_y S (Yr.ys (ys_fieldN (FieldT.mk Try.underlying64 rfl Try.sizeOf27 rfl) (Ev.t rfl) (i' := 6) rfl)) rfl ?_; clear S a w; intro a w S)
    (refine st_y S (Yr.ys (ys_ld ⟨Try.isAgg27, Try.sizeOf27⟩ (Ev.t rfl) (k := 0) rfl rfl)) rfl ?_; clear S a w; intro a w S)
    (refine st_y S (ys_call Try.call56 (EvL.cons (Ev.t rfl) EvL.nil) (fun hp w W => c56 _ _)) rfl ?_; clear S a w; intro a w S)
    rw [rw_p] at S
    (refine st_y S (Yr.ys (ys_not (Ev.t rfl))) rfl ?_; clear S a w; intro a w S)
    (refine st_y S (Yr.ys (ys_move (Ev.t rfl))) rfl ?_; clear S a w; intro a w S)
    (refine st_skip S rfl rfl rfl rfl ?_; clear S a w; intro a w S)
    (refine st_skip S rfl rfl rfl rfl ?_; clear S a w; intro a w S)
    (refine st_skip S rfl rfl rfl rfl ?_; clear S a w; intro a w S)
    (refine st_skip S rfl rfl rfl rfl ?_; clear S a w; intro a w S)
    (refine st_skip0 S rfl rfl rfl ?_; clear S a w; intro a w S)
    (refine st_skip0 S rfl rfl rfl ?_; clear S a w; intro a w S)
    (refine st_skip0 S rfl rfl rfl ?_; clear S a w; intro a w S)
    (refine st_skip S rfl rfl rfl rfl ?_; clear S a w; intro a w S)
    (refine st_y S (Yr.ys (ys_pickT (Ev.t rfl) Ev.c)) rfl ?_; clear S a w; intro a w S)
    (refine st_y S (Yr.ys (ys_assign (Ev.t rfl))) rfl ?_; clear S a w; intro a w S)
    refine st_nil ?_
    (refine (then_normal (hK2 _ _ ?_)); clear hK2)
    refine st_then S (Ev.t rfl) ?_
    refine wp_seq_k fun _ hK2 => ?_
    refine wp_region_lit ?_
    (refine st_y S (Yr.ys (ys_assign Ev.c)) rfl ?_; clear S a w; intro a w S)
    refine st_nil ?_
    (refine (then_normal (hK2 _ _ ?_)); clear hK2)
    refine wp_ret ?_
    refine (in_ret (then_ret ?_))
    refine st_ret S (results1 S Try.results21 (Rv.tmp rfl)) ?_
    exact ⟨by rw [if_pos (.inl rfl)], S.wd.below⟩
  | true =>
  by_cases hz : u.qty = 0 ∧ u.price.toNat ≠ 0
  · have rw_z : (decide (u.qty = 0) && decide ((u.price.toNat : Int) ≠ 0)) = true := by simp; omega
    refine enter1 Try.func21 rfl Try.ntmps21 rfl fun a S => ?_
    refine wp_seq_k fun _ hK1 => ?_
    refine wp_region_lit ?_
    (refine st_m (op_box S (Ev.t rfl) rfl ?_); clear S a; intro g1 a w S)
    (refine st_y S (Yr.ys (ys_assign Ev.c)) rfl ?_; clear S a w; intro a w S)
    refine st_nil ?_
    (refine (then_normal (hK1 _ _ ?_)); clear hK1)
    refine wp_seq_k fun _ hK1 => ?_
    refine wp_block ?_
    refine wp_seq_k fun _ hK2 => ?_
    refine wp_region_lit ?_
    (refine st_y S (Yr.ys (ys_fieldN (FieldT.mk Try.underlying64 rfl Try.sizeOf9 rfl) (Ev.t rfl) (i' := 0) rfl)) rfl ?_; clear S a w; intro a w S)
    (refine st_y S (Yr.ys (ys_ld ⟨Try.isAgg9, Try.sizeOf9⟩ (Ev.t rfl) (k := 0) rfl rfl)) rfl ?_; clear S a w; intro a w S)
    (refine st_y S (ys_call Try.call55 (EvL.cons (Ev.t rfl) EvL.nil) (fun hp w W => c55 _ _)) rfl ?_; clear S a w; intro a w S)
    rw [rw_k] at S
    (refine st_y S (Yr.ys (ys_not (Ev.t rfl))) rfl ?_; clear S a w; intro a w S)
    (refine st_y S (Yr.ys (ys_move (Ev.t rfl))) rfl ?_; clear S a w; intro a w S)
    (refine st_yt S rfl rfl (Yr.ys (ys_fieldN (FieldT.mk Try.underlying64 rfl Try.sizeOf9 rfl) (Ev.t rfl) (i' := 4) rfl)) rfl ?_; clear S a w; intro a w S)
    (refine st_yt S rfl rfl (Yr.ys (ys_ld ⟨Try.isAgg9, Try.sizeOf9⟩ (Ev.t rfl) (k := 0) rfl rfl)) rfl ?_; clear S a w; intro a w S)
    (refine st_yt S rfl rfl (ys_call Try.call55 (EvL.cons (Ev.t rfl) EvL.nil) (fun hp w W => c55 _ _)) rfl ?_; clear S a w; intro a w S)
    rw [rw_i] at S
    (refine st_yt S rfl rfl (Yr.ys (ys_not (Ev.t rfl))) rfl ?_; clear S a w; intro a w S)
    (refine st_y S (Yr.ys (ys_pickF (Ev.t rfl) (Ev.t rfl))) rfl ?_; clear S a w; intro a w S)
    (refine st_y S (Yr.ys (ys_assign (Ev.t rfl))) rfl ?_; clear S a w; intro a w S)
    refine st_nil ?_
    (refine (then_normal (hK2 _ _ ?_)); clear hK2)
    refine st_else S (Ev.t rfl) ?_
    refine wp_seq_k fun _ hK2 => ?_
    refine wp_region_lit ?_
    (refine st_y S (Yr.ys (ys_fieldN (FieldT.mk Try.underlying64 rfl Try.sizeOf3 rfl) (Ev.t rfl) (i' := 5) rfl)) rfl ?_; clear S a w; intro a w S)
    (refine st_y S (Yr.ys (ys_ld ⟨Try.isAgg3, Try.sizeOf3⟩ (Ev.t rfl) (k := 0) rfl rfl)) rfl ?_; clear S a w; intro a w S)
    (refine st_y S (Yr.ys (ys_F (by omega) (ys_lss (Ev.t rfl) Ev.c))) rfl ?_; clear S a w; intro a w S)
    (refine st_y S (Yr.ys (ys_move (Ev.t rfl))) rfl ?_; clear S a w; intro a w S)
    (refine st_yt S rfl rfl (Yr.ys (ys_fieldN (FieldT.mk Try.underlying64 rfl Try.sizeOf3 rfl) (Ev.t rfl) (i' := 5) rfl)) rfl ?_; clear S a w; intro a w S)
    (refine st_yt S rfl rfl (Yr.ys (ys_ld ⟨Try.isAgg3, Try.sizeOf3⟩ (Ev.t rfl) (k := 0) rfl rfl)) rfl ?_; clear S a w; intro a w S)
    (refine st_yt S rfl rfl (Yr.ys (ys_F (by omega) (ys_gtr (Ev.t rfl) Ev.c))) rfl ?_; clear S a w; intro a w S)
    (refine st_y S (Yr.ys (ys_pickF (Ev.t rfl) (Ev.t rfl))) rfl ?_; clear S a w; intro a w S)
    (refine st_y S (Yr.ys (ys_assign (Ev.t rfl))) rfl ?_; clear S a w; intro a w S)
    refine st_nil ?_
    (refine (then_normal (hK2 _ _ ?_)); clear hK2)
    refine st_else S (Ev.t rfl) ?_
    refine wp_seq_k fun _ hK2 => ?_
    refine wp_region_lit ?_
    (refine st_y S (Yr.ys (ys_fieldN (FieldT.mk Try.underlying64 rfl Try.sizeOf27 rfl) (Ev.t rfl) (i' := 6) rfl)) rfl ?_; clear S a w; intro a w S)
    (refine st_y S (Yr.ys (ys_ld ⟨Try.isAgg27, Try.sizeOf27⟩ (Ev.t rfl) (k := 0) rfl rfl)) rfl ?_; clear S a w; intro a w S)
    (refine st_y S (ys_call Try.call56 (EvL.cons (Ev.t rfl) EvL.nil) (fun hp w W => c56 _ _)) rfl ?_; clear S a w; intro a w S)
    rw [rw_p] at S
    (refine st_y S (Yr.ys (ys_not (Ev.t rfl))) rfl ?_; clear S a w; intro a w S)
    (refine st_y S (Yr.ys (ys_move (Ev.t rfl))) rfl ?_; clear S a w; intro a w S)
    (refine st_yt S rfl rfl (Yr.ys (ys_fieldN (FieldT.mk Try.underlying64 rfl Try.sizeOf3 rfl) (Ev.t rfl) (i' := 5) rfl)) rfl ?_; clear S a w; intro a w S)
    (refine st_yt S rfl rfl (Yr.ys (ys_ld ⟨Try.isAgg3, Try.sizeOf3⟩ (Ev.t rfl) (k := 0) rfl rfl)) rfl ?_; clear S a w; intro a w S)
    (refine st_yt S rfl rfl (Yr.ys (ys_T (by omega) (ys_eql (Ev.t rfl) Ev.c))) rfl ?_; clear S a w; intro a w S)
    (refine st_yt S rfl rfl (Yr.ys (ys_move (Ev.t rfl))) rfl ?_; clear S a w; intro a w S)
    (refine st_yt S rfl rfl (Yr.ys (ys_fieldN (FieldT.mk Try.underlying64 rfl Try.sizeOf27 rfl) (Ev.t rfl) (i' := 6) rfl)) rfl ?_; clear S a w; intro a w S)
    (refine st_yt S rfl rfl (Yr.ys (ys_ld ⟨Try.isAgg27, Try.sizeOf27⟩ (Ev.t rfl) (k := 0) rfl rfl)) rfl ?_; clear S a w; intro a w S)
    (refine st_yt S rfl rfl (Yr.ys (ys_T (by omega) (ys_neq (Ev.t rfl) Ev.c))) rfl ?_; clear S a w; intro a w S)
    (refine st_yt S rfl rfl (Yr.ys (ys_pickT (Ev.t rfl) (Ev.t rfl))) rfl ?_; clear S a w; intro a w S)
    (refine st_y S (Yr.ys (ys_pickF (Ev.t rfl) (Ev.t rfl))) rfl ?_; clear S a w; intro a w S)
    (refine st_y S (Yr.ys (ys_assign (Ev.t rfl))) rfl ?_; clear S a w; intro a w S)
    refine st_nil ?_
    (refine (then_normal (hK2 _ _ ?_)); clear hK2)
    refine st_then S (Ev.t rfl) ?_
    refine wp_seq_k fun _ hK2 => ?_
    refine wp_region_lit ?_
    (refine st_y S (Yr.ys (ys_assign Ev.c)) rfl ?_; clear S a w; intro a w S)
    refine st_nil ?_
    (refine (then_normal (hK2 _ _ ?_)); clear hK2)
    refine wp_ret ?_
    refine (in_ret (then_ret ?_))
    refine st_ret S (results1 S Try.results21 (Rv.tmp rfl)) ?_
    exact ⟨by rw [if_pos (.inr hz)], S.wd.below⟩
  have rw_z : (decide (u.qty = 0) && decide ((u.price.toNat : Int) ≠ 0)) = false := by
    by_cases h0 : u.qty = 0
    · have : u.price.toNat = 0 := Decidable.byContradiction fun h => hz ⟨h0, h⟩
      simp [this]
    · simp [h0]
  rw [if_neg (by rintro (h | h); cases h; exact hz h)]
  by_cases he : canE u.seen = 0
  rotate_left
  · refine enter1 Try.func21 rfl Try.ntmps21 rfl fun a S => ?_
    refine wp_seq_k fun _ hK1 => ?_
    refine wp_region_lit ?_
    (refine st_m (op_box S (Ev.t rfl) rfl ?_); clear S a; intro g1 a w S)
    (refine st_y S (Yr.ys (ys_assign Ev.c)) rfl ?_; clear S a w; intro a w S)
    refine st_nil ?_
    (refine (then_normal (hK1 _ _ ?_)); clear hK1)
    refine wp_seq_k fun _ hK1 => ?_
    refine wp_block ?_
    refine wp_seq_k fun _ hK2 => ?_
    refine wp_region_lit ?_
    (refine st_y S (Yr.ys (ys_fieldN (FieldT.mk Try.underlying64 rfl Try.sizeOf9 rfl) (Ev.t rfl) (i' := 0) rfl)) rfl ?_; clear S a w; intro a w S)
    (refine st_y S (Yr.ys (ys_ld ⟨Try.isAgg9, Try.sizeOf9⟩ (Ev.t rfl) (k := 0) rfl rfl)) rfl ?_; clear S a w; intro a w S)
    (refine st_y S (ys_call Try.call55 (EvL.cons (Ev.t rfl) EvL.nil) (fun hp w W => c55 _ _)) rfl ?_; clear S a w; intro a w S)
    rw [rw_k] at S
    (refine st_y S (Yr.ys (ys_not (Ev.t rfl))) rfl ?_; clear S a w; intro a w S)
    (refine st_y S (Yr.ys (ys_move (Ev.t rfl))) rfl ?_; clear S a w; intro a w S)
    (refine st_yt S rfl rfl (Yr.ys (ys_fieldN (FieldT.mk Try.underlying64 rfl Try.sizeOf9 rfl) (Ev.t rfl) (i' := 4) rfl)) rfl ?_; clear S a w; intro a w S)
    (refine st_yt S rfl rfl (Yr.ys (ys_ld ⟨Try.isAgg9, Try.sizeOf9⟩ (Ev.t rfl) (k := 0) rfl rfl)) rfl ?_; clear S a w; intro a w S)
    (refine st_yt S rfl rfl (ys_call Try.call55 (EvL.cons (Ev.t rfl) EvL.nil) (fun hp w W => c55 _ _)) rfl ?_; clear S a w; intro a w S)
    rw [rw_i] at S
    (refine st_yt S rfl rfl (Yr.ys (ys_not (Ev.t rfl))) rfl ?_; clear S a w; intro a w S)
    (refine st_y S (Yr.ys (ys_pickF (Ev.t rfl) (Ev.t rfl))) rfl ?_; clear S a w; intro a w S)
    (refine st_y S (Yr.ys (ys_assign (Ev.t rfl))) rfl ?_; clear S a w; intro a w S)
    refine st_nil ?_
    (refine (then_normal (hK2 _ _ ?_)); clear hK2)
    refine st_else S (Ev.t rfl) ?_
    refine wp_seq_k fun _ hK2 => ?_
    refine wp_region_lit ?_
    (refine st_y S (Yr.ys (ys_fieldN (FieldT.mk Try.underlying64 rfl Try.sizeOf3 rfl) (Ev.t rfl) (i' := 5) rfl)) rfl ?_; clear S a w; intro a w S)
    (refine st_y S (Yr.ys (ys_ld ⟨Try.isAgg3, Try.sizeOf3⟩ (Ev.t rfl) (k := 0) rfl rfl)) rfl ?_; clear S a w; intro a w S)
    (refine st_y S (Yr.ys (ys_F (by omega) (ys_lss (Ev.t rfl) Ev.c))) rfl ?_; clear S a w; intro a w S)
    (refine st_y S (Yr.ys (ys_move (Ev.t rfl))) rfl ?_; clear S a w; intro a w S)
    (refine st_yt S rfl rfl (Yr.ys (ys_fieldN (FieldT.mk Try.underlying64 rfl Try.sizeOf3 rfl) (Ev.t rfl) (i' := 5) rfl)) rfl ?_; clear S a w; intro a w S)
    (refine st_yt S rfl rfl (Yr.ys (ys_ld ⟨Try.isAgg3, Try.sizeOf3⟩ (Ev.t rfl) (k := 0) rfl rfl)) rfl ?_; clear S a w; intro a w S)
    (refine st_yt S rfl rfl (Yr.ys (ys_F (by omega) (ys_gtr (Ev.t rfl) Ev.c))) rfl ?_; clear S a w; intro a w S)
    (refine st_y S (Yr.ys (ys_pickF (Ev.t rfl) (Ev.t rfl))) rfl ?_; clear S a w; intro a w S)
    (refine st_y S (Yr.ys (ys_assign (Ev.t rfl))) rfl ?_; clear S a w; intro a w S)
    refine st_nil ?_
    (refine (then_normal (hK2 _ _ ?_)); clear hK2)
    refine st_else S (Ev.t rfl) ?_
    refine wp_seq_k fun _ hK2 => ?_
    refine wp_region_lit ?_
    (refine st_y S (Yr.ys (ys_fieldN (FieldT.mk Try.underlying64 rfl Try.sizeOf27 rfl) (Ev.t rfl) (i' := 6) rfl)) rfl ?_; clear S a w; intro a w S)
    (refine st_y S (Yr.ys (ys_ld ⟨Try.isAgg27, Try.sizeOf27⟩ (Ev.t rfl) (k := 0) rfl rfl)) rfl ?_; clear S a w; intro a w S)
    (refine st_y S (ys_call Try.call56 (EvL.cons (Ev.t rfl) EvL.nil) (fun hp w W => c56 _ _)) rfl ?_; clear S a w; intro a w S)
    rw [rw_p] at S
    (refine st_y S (Yr.ys (ys_not (Ev.t rfl))) rfl ?_; clear S a w; intro a w S)
    (refine st_y S (Yr.ys (ys_move (Ev.t rfl))) rfl ?_; clear S a w; intro a w S)
    (refine st_yt S rfl rfl (Yr.ys (ys_fieldN (FieldT.mk Try.underlying64 rfl Try.sizeOf3 rfl) (Ev.t rfl) (i' := 5) rfl)) rfl ?_; clear S a w; intro a w S)
    (refine st_yt S rfl rfl (Yr.ys (ys_ld ⟨Try.isAgg3, Try.sizeOf3⟩ (Ev.t rfl) (k := 0) rfl rfl)) rfl ?_; clear S a w; intro a w S)
    (refine st_yt S rfl rfl (Yr.ys (ys_eql (Ev.t rfl) Ev.c)) rfl ?_; clear S a w; intro a w S)
    (refine st_yt S rfl rfl (Yr.ys (ys_move (Ev.t rfl))) rfl ?_; clear S a w; intro a w S)
    (refine st_yg S rfl rfl (Yr.ys (ys_fieldN (FieldT.mk Try.underlying64 rfl Try.sizeOf27 rfl) (Ev.t rfl) (i' := 6) rfl)) rfl ?_; clear S a w; intro a w S)
    (refine st_yg S rfl rfl (Yr.ys (ys_ld ⟨Try.isAgg27, Try.sizeOf27⟩ (Ev.g rfl) (k := 0) rfl rfl)) rfl ?_; clear S a w; intro a w S)
    (refine st_yg S rfl rfl (Yr.ys (ys_neq (Ev.g rfl) Ev.c)) rfl ?_; clear S a w; intro a w S)
    (refine st_yt S rfl rfl (Yr.ys (ys_and2 (Ev.t rfl) (Ev.g rfl) Ev.c)) rfl ?_; clear S a w; intro a w S)
    rw [rw_z] at S
    (refine st_y S (Yr.ys (ys_pickF (Ev.t rfl) (Ev.t rfl))) rfl ?_; clear S a w; intro a w S)
    (refine st_y S (Yr.ys (ys_assign (Ev.t rfl))) rfl ?_; clear S a w; intro a w S)
    refine st_nil ?_
    (refine (then_normal (hK2 _ _ ?_)); clear hK2)
    refine st_else S (Ev.t rfl) ?_
    refine wp_skip ?_
    (refine (in_normal (then_normal (hK1 _ _ ?_))); clear hK1)
    refine wp_seq_k fun _ hK1 => ?_
    refine wp_region_lit ?_
    (refine st_y S (Yr.ys (ys_fieldN (FieldT.mk Try.underlying64 rfl Try.sizeOf40 rfl) (Ev.t rfl) (i' := 7) rfl)) rfl ?_; clear S a w; intro a w S)
    (refine st_y S (Yr.ys (ys_ldA ⟨Try.isAgg40, Try.sizeOf40⟩ (Ev.t rfl) (k := 0) rfl rfl)) rfl ?_; clear S a w; intro a w S)
    (refine st_y S (ys_call Try.call9 (EvL.cons (Ev.t rfl) EvL.nil) (fun hp w W => c9 _ _ _ _ _ (by exact .old W (by assumption)) (by exact .old W (by assumption)))) rfl ?_; clear S a w; intro a w S)
    (refine st_y S (Yr.ys (ys_assign (Ev.t rfl))) rfl ?_; clear S a w; intro a w S)
    refine st_nil ?_
    (refine (then_normal (hK1 _ _ ?_)); clear hK1)
    refine wp_seq_k fun _ hK1 => ?_
    refine wp_seq_k fun _ hK2 => ?_
    refine wp_region_lit ?_
    (refine st_y S (Yr.ys (ys_move (Ev.t rfl))) rfl ?_; clear S a w; intro a w S)
    (refine st_y S (Yr.ys (ys_T (by omega) (ys_neq (Ev.t rfl) Ev.c))) rfl ?_; clear S a w; intro a w S)
    refine st_nil ?_
    (refine (then_normal (hK2 _ _ ?_)); clear hK2)
    refine st_then S (Ev.t rfl) ?_
    refine wp_seq_k fun _ hK2 => ?_
    refine wp_region_lit ?_
    (refine st_y S (Yr.ys (ys_move (Ev.t rfl))) rfl ?_; clear S a w; intro a w S)
    (refine st_y S (Yr.ys (ys_assign (Ev.t rfl))) rfl ?_; clear S a w; intro a w S)
    refine st_nil ?_
    (refine (then_normal (hK2 _ _ ?_)); clear hK2)
    refine wp_ret ?_
    refine (then_ret ?_)
    refine st_ret S (results1 S Try.results21 (Rv.tmp rfl)) ?_
    exact ⟨by rw [if_neg he], S.wd.below⟩
  have rw_e := he
  rw [if_pos he]
  have hn1 := norm_one (d := u.dot)
  cases hd : mayD u.dot with
  | false =>
    have rw_n : (normalL [] [⟨u.dot.node, u.dot.life, u.dot.count⟩]).2 = 1 := by rw [hd] at hn1; exact hn1
    refine enter1 Try.func21 rfl Try.ntmps21 rfl fun a S => ?_
    refine wp_seq_k fun _ hK1 => ?_
    refine wp_region_lit ?_
    (refine st_m (op_box S (Ev.t rfl) rfl ?_); clear S a; intro g1 a w S)
    (refine st_y S (Yr.ys (ys_assign Ev.c)) rfl ?_; clear S a w; intro a w S)
    refine st_nil ?_
    (refine (then_normal (hK1 _ _ ?_)); clear hK1)
    refine wp_seq_k fun _ hK1 => ?_
    refine wp_block ?_
    refine wp_seq_k fun _ hK2 => ?_
    refine wp_region_lit ?_
    (refine st_y S (Yr.ys (ys_fieldN (FieldT.mk Try.underlying64 rfl Try.sizeOf9 rfl) (Ev.t rfl) (i' := 0) rfl)) rfl ?_; clear S a w; intro a w S)
    (refine st_y S (Yr.ys (ys_ld ⟨Try.isAgg9, Try.sizeOf9⟩ (Ev.t rfl) (k := 0) rfl rfl)) rfl ?_; clear S a w; intro a w S)
    (refine st_y S (ys_call Try.call55 (EvL.cons (Ev.t rfl) EvL.nil) (fun hp w W => c55 _ _)) rfl ?_; clear S a w; intro a w S)
    rw [rw_k] at S
    (refine st_y S (Yr.ys (ys_not (Ev.t rfl))) rfl ?_; clear S a w; intro a w S)
    (refine st_y S (Yr.ys (ys_move (Ev.t rfl))) rfl ?_; clear S a w; intro a w S)
    (refine st_yt S rfl rfl (Yr.ys (ys_fieldN (FieldT.mk Try.underlying64 rfl Try.sizeOf9 rfl) (Ev.t rfl) (i' := 4) rfl)) rfl ?_; clear S a w; intro a w S)
    (refine st_yt S rfl rfl (Yr.ys (ys_ld ⟨Try.isAgg9, Try.sizeOf9⟩ (Ev.t rfl) (k := 0) rfl rfl)) rfl ?_; clear S a w; intro a w S)
    (refine st_yt S rfl rfl (ys_call Try.call55 (EvL.cons (Ev.t rfl) EvL.nil) (fun hp w W => c55 _ _)) rfl ?_; clear S a w; intro a w S)
    rw [rw_i] at S
    (refine st_yt S rfl rfl (Yr.ys (ys_not (Ev.t rfl))) rfl ?_; clear S a w; intro a w S)
    (refine st_y S (Yr.ys (ys_pickF (Ev.t rfl) (Ev.t rfl))) rfl ?_; clear S a w; intro a w S)
    (refine st_y S (Yr.ys (ys_assign (Ev.t rfl))) rfl ?_; clear S a w; intro a w S)
    refine st_nil ?_
    (refine (then_normal (hK2 _ _ ?_)); clear hK2)
    refine st_else S (Ev.t rfl) ?_
    refine wp_seq_k fun _ hK2 => ?_
    refine wp_region_lit ?_
    (refine st_y S (Yr.ys (ys_fieldN (FieldT.mk Try.underlying64 rfl Try.sizeOf3 rfl) (Ev.t rfl) (i' := 5) rfl)) rfl ?_; clear S a w; intro a w S)
    (refine st_y S (Yr.ys (ys_ld ⟨Try.isAgg3, Try.sizeOf3⟩ (Ev.t rfl) (k := 0) rfl rfl)) rfl ?_; clear S a w; intro a w S)
    (refine st_y S (Yr.ys (ys_F (by omega) (ys_lss (Ev.t rfl) Ev.c))) rfl ?_; clear S a w; intro a w S)
    (refine st_y S (Yr.ys (ys_move (Ev.t rfl))) rfl ?_; clear S a w; intro a w S)
    (refine st_yt S rfl rfl (Yr.ys (ys_fieldN (FieldT.mk Try.underlying64 rfl Try.sizeOf3 rfl) (Ev.t rfl) (i' := 5) rfl)) rfl ?_; clear S a w; intro a w S)
    (refine st_yt S rfl rfl (Yr.ys (ys_ld ⟨Try.isAgg3, Try.sizeOf3⟩ (Ev.t rfl) (k := 0) rfl rfl)) rfl ?_; clear S a w; intro a w S)
    (refine st_yt S rfl rfl (Yr.ys (ys_F (by omega) (ys_gtr (Ev.t rfl) Ev.c))) rfl ?_; clear S a w; intro a w S)
    (refine st_y S (Yr.ys (ys_pickF (Ev.t rfl) (Ev.t rfl))) rfl ?_; clear S a w; intro a w S)
    (refine st_y S (Yr.ys (ys_assign (Ev.t rfl))) rfl ?_; clear S a w; intro a w S)
    refine st_nil ?_
    (refine (then_normal (hK2 _ _ ?_)); clear hK2)
    refine st_else S (Ev.t rfl) ?_
    refine wp_seq_k fun _ hK2 => ?_
    refine wp_region_lit ?_
    (refine st_y S (Yr.ys (ys_fieldN (FieldT.mk Try.underlying64 rfl Try.sizeOf27 rfl) (Ev.t rfl) (i' := 6) rfl)) rfl ?_; clear S a w; intro a w S)
    (refine st_y S (Yr.ys (ys_ld ⟨Try.isAgg27, Try.sizeOf27⟩ (Ev.t rfl) (k := 0) rfl rfl)) rfl ?_; clear S a w; intro a w S)
    (refine st_y S (ys_call Try.call56 (EvL.cons (Ev.t rfl) EvL.nil) (fun hp w W => c56 _ _)) rfl ?_; clear S a w; intro a w S)
    rw [rw_p] at S
    (refine st_y S (Yr.ys (ys_not (Ev.t rfl))) rfl ?_; clear S a w; intro a w S)
    (refine st_y S (Yr.ys (ys_move (Ev.t rfl))) rfl ?_; clear S a w; intro a w S)
    (refine st_yt S rfl rfl (Yr.ys (ys_fieldN (FieldT.mk Try.underlying64 rfl Try.sizeOf3 rfl) (Ev.t rfl) (i' := 5) rfl)) rfl ?_; clear S a w; intro a w S)
    (refine st_yt S rfl rfl (Yr.ys (ys_ld ⟨Try.isAgg3, Try.sizeOf3⟩ (Ev.t rfl) (k := 0) rfl rfl)) rfl ?_; clear S a w; intro a w S)
    (refine st_yt S rfl rfl (Yr.ys (ys_eql (Ev.t rfl) Ev.c)) rfl ?_; clear S a w; intro a w S)
    (refine st_yt S rfl rfl (Yr.ys (ys_move (Ev.t rfl))) rfl ?_; clear S a w; intro a w S)
    (refine st_yg S rfl rfl (Yr.ys (ys_fieldN (FieldT.mk Try.underlying64 rfl Try.sizeOf27 rfl) (Ev.t rfl) (i' := 6) rfl)) rfl ?_; clear S a w; intro a w S)
    (refine st_yg S rfl rfl (Yr.ys (ys_ld ⟨Try.isAgg27, Try.sizeOf27⟩ (Ev.g rfl) (k := 0) rfl rfl)) rfl ?_; clear S a w; intro a w S)
    (refine st_yg S rfl rfl (Yr.ys (ys_neq (Ev.g rfl) Ev.c)) rfl ?_; clear S a w; intro a w S)
    (refine st_yt S rfl rfl (Yr.ys (ys_and2 (Ev.t rfl) (Ev.g rfl) Ev.c)) rfl ?_; clear S a w; intro a w S)
    rw [rw_z] at S
    (refine st_y S (Yr.ys (ys_pickF (Ev.t rfl) (Ev.t rfl))) rfl ?_; clear S a w; intro a w S)
    (refine st_y S (Yr.ys (ys_assign (Ev.t rfl))) rfl ?_; clear S a w; intro a w S)
    refine st_nil ?_
    (refine (then_normal (hK2 _ _ ?_)); clear hK2)
    refine st_else S (Ev.t rfl) ?_
    refine wp_skip ?_
    (refine (in_normal (then_normal (hK1 _ _ ?_))); clear hK1)
    refine wp_seq_k fun _ hK1 => ?_
    refine wp_region_lit ?_
    (refine st_y S (Yr.ys (ys_fieldN (FieldT.mk Try.underlying64 rfl Try.sizeOf40 rfl) (Ev.t rfl) (i' := 7) rfl)) rfl ?_; clear S a w; intro a w S)
    (refine st_y S (Yr.ys (ys_ldA ⟨Try.isAgg40, Try.sizeOf40⟩ (Ev.t rfl) (k := 0) rfl rfl)) rfl ?_; clear S a w; intro a w S)
    (refine st_y S (ys_call Try.call9 (EvL.cons (Ev.t rfl) EvL.nil) (fun hp w W => c9 _ _ _ _ _ (by exact .old W (by assumption)) (by exact .old W (by assumption)))) rfl ?_; clear S a w; intro a w S)
    rw [rw_e] at S
    (refine st_y S (Yr.ys (ys_assign (Ev.t rfl))) rfl ?_; clear S a w; intro a w S)
    refine st_nil ?_
    (refine (then_normal (hK1 _ _ ?_)); clear hK1)
    refine wp_seq_k fun _ hK1 => ?_
    refine wp_seq_k fun _ hK2 => ?_
    refine wp_region_lit ?_
    (refine st_y S (Yr.ys (ys_move (Ev.t rfl))) rfl ?_; clear S a w; intro a w S)
    (refine st_y S (Yr.ys (ys_F (by omega) (ys_neq (Ev.t rfl) Ev.c))) rfl ?_; clear S a w; intro a w S)
    refine st_nil ?_
    (refine (then_normal (hK2 _ _ ?_)); clear hK2)
    refine st_else S (Ev.t rfl) ?_
    refine wp_skip ?_
    (refine (then_normal (hK1 _ _ ?_)); clear hK1)
    refine wp_seq_k fun _ hK1 => ?_
    refine wp_region_lit ?_
    (refine st_y S (Yr.ys (ys_fieldN (FieldT.mk Try.underlying64 rfl Try.sizeOf62 rfl) (Ev.t rfl) (i' := 1) rfl)) rfl ?_; clear S a w; intro a w S)
    (refine st_y S (Yr.ys (ys_ldA ⟨Try.isAgg62, Try.sizeOf62⟩ (Ev.t rfl) (k := 0) rfl rfl)) rfl ?_; clear S a w; intro a w S)
    (refine st_m (op_bslice1 S Try.underlying36 inf62 rfl rfl rfl (Ev.t rfl) rfl rfl rfl ?_); clear S a w; intro g2 a w S)
    (refine st_m (op_calls S Try.call57 (EvL.cons Ev.c (EvL.cons (Ev.t rfl) EvL.nil)) (c57 _ _ _ _ _ (by exact Sl.nil_) (by exact sl_y1 S.wd (k := 0) rfl) (by (simp; done)) (by (simp; done))) rfl ?_); clear S a w; rintro _ _ ⟨A11, c11, A21, c22, rfl, rfl⟩ a w S)
    rw [rw_n] at S
    (refine st_y S (Yr.ys (ys_move (Ev.t rfl))) rfl ?_; clear S a w; intro a w S)
    (refine st_y S (Yr.ys (ys_ext (Ev.t rfl) rfl)) rfl ?_; clear S a w; intro a w S)
    (refine st_y S (Yr.ys (ys_ext (Ev.t rfl) rfl)) rfl ?_; clear S a w; intro a w S)
    (refine st_y S (Yr.ys (ys_assign (Ev.t rfl))) rfl ?_; clear S a w; intro a w S)
    refine st_nil ?_
    (refine (then_normal (hK1 _ _ ?_)); clear hK1)
    refine wp_seq_k fun _ hK1 => ?_
    refine wp_seq_k fun _ hK2 => ?_
    refine wp_region_lit ?_
    (refine st_y S (Yr.ys (ys_move (Ev.t rfl))) rfl ?_; clear S a w; intro a w S)
    (refine st_y S (Yr.ys (ys_T (by omega) (ys_neq (Ev.t rfl) Ev.c))) rfl ?_; clear S a w; intro a w S)
    (refine st_y S (Yr.ys (ys_move (Ev.t rfl))) rfl ?_; clear S a w; intro a w S)
    (refine st_skip S rfl rfl rfl rfl ?_; clear S a w; intro a w S)
    (refine st_skip S rfl rfl rfl rfl ?_; clear S a w; intro a w S)
    (refine st_skip S rfl rfl rfl rfl ?_; clear S a w; intro a w S)
    (refine st_skip S rfl rfl rfl rfl ?_; clear S a w; intro a w S)
    (refine st_skip S rfl rfl rfl rfl ?_; clear S a w; intro a w S)
    (refine st_skip S rfl rfl rfl rfl ?_; clear S a w; intro a w S)
    (refine st_y S (Yr.ys (ys_pickT (Ev.t rfl) Ev.c)) rfl ?_; clear S a w; intro a w S)
    refine st_nil ?_
    (refine (then_normal (hK2 _ _ ?_)); clear hK2)
    refine st_then S (Ev.t rfl) ?_
    refine wp_seq_k fun _ hK2 => ?_
    refine wp_region_lit ?_
    (refine st_y S (Yr.ys (ys_assign Ev.c)) rfl ?_; clear S a w; intro a w S)
    refine st_nil ?_
    (refine (then_normal (hK2 _ _ ?_)); clear hK2)
    refine wp_ret ?_
    refine (then_ret ?_)
    refine st_ret S (results1 S Try.results21 (Rv.tmp rfl)) ?_
    exact ⟨by rw [if_pos (.inl rfl)], S.wd.below⟩
  | true =>
    have rw_n : (normalL [] [⟨u.dot.node, u.dot.life, u.dot.count⟩]).2 = 0 := by rw [hd] at hn1; exact hn1
    cases hc : u.seen.ctx.covers u.dot with
    | true =>
      have rw_c : u.seen.ctx.covers ⟨u.dot.node, u.dot.life, u.dot.count⟩ = true := hc
      refine enter1 Try.func21 rfl Try.ntmps21 rfl fun a S => ?_
      refine wp_seq_k fun _ hK1 => ?_
      refine wp_region_lit ?_
      (refine st_m (op_box S (Ev.t rfl) rfl ?_); clear S a; intro g1 a w S)
      (refine st_y S (Yr.ys (ys_assign Ev.c)) rfl ?_; clear S a w; intro a w S)
      refine st_nil ?_
      (refine (then_normal (hK1 _ _ ?_)); clear hK1)
      refine wp_seq_k fun _ hK1 => ?_
      refine wp_block ?_
      refine wp_seq_k fun _ hK2 => ?_
      refine wp_region_lit ?_
      (refine st_y S (Yr.ys (ys_fieldN (FieldT.mk Try.underlying64 rfl Try.sizeOf9 rfl) (Ev.t rfl) (i' := 0) rfl)) rfl ?_; clear S a w; intro a w S)
      (refine st_y S (Yr.ys (ys_ld ⟨Try.isAgg9, Try.sizeOf9⟩ (Ev.t rfl) (k := 0) rfl rfl)) rfl ?_; clear S a w; intro a w S)
      (refine st_y S (ys_call Try.call55 (EvL.cons (Ev.t rfl) EvL.nil) (fun hp w W => c55 _ _)) rfl ?_; clear S a w; intro a w S)
      rw [rw_k] at S
      (refine st_y S (Yr.ys (ys_not (Ev.t rfl))) rfl ?_; clear S a w; intro a w S)
      (refine st_y S (Yr.ys (ys_move (Ev.t rfl))) rfl ?_; clear S a w; intro a w S)
      (refine st_yt S rfl rfl (Yr.ys (ys_fieldN (FieldT.mk Try.underlying64 rfl Try.sizeOf9 rfl) (Ev.t rfl) (i' := 4) rfl)) rfl ?_; clear S a w; intro a w S)
      (refine st_yt S rfl rfl (Yr.ys (ys_ld ⟨Try.isAgg9, Try.sizeOf9⟩ (Ev.t rfl) (k := 0) rfl rfl)) rfl ?_; clear S a w; intro a w S)
      (refine st_yt S rfl rfl (ys_call Try.call55 (EvL.cons (Ev.t rfl) EvL.nil) (fun hp w W => c55 _ _)) rfl ?_; clear S a w; intro a w S)
      rw [rw_i] at S
      (refine st_yt S rfl rfl (Yr.ys (ys_not (Ev.t rfl))) rfl ?_; clear S a w; intro a w S)
      (refine st_y S (Yr.ys (ys_pickF (Ev.t rfl) (Ev.t rfl))) rfl ?_; clear S a w; intro a w S)
      (refine st_y S (Yr.ys (ys_assign (Ev.t rfl))) rfl ?_; clear S a w; intro a w S)
      refine st_nil ?_
      (refine (then_normal (hK2 _ _ ?_)); clear hK2)
      refine st_else S (Ev.t rfl) ?_
      refine wp_seq_k fun _ hK2 => ?_
      refine wp_region_lit ?_
      (refine st_y S (Yr.ys (ys_fieldN (FieldT.mk Try.underlying64 rfl Try.sizeOf3 rfl) (Ev.t rfl) (i' := 5) rfl)) rfl ?_; clear S a w; intro a w S)
      (refine st_y S (Yr.ys (ys_ld ⟨Try.isAgg3, Try.sizeOf3⟩ (Ev.t rfl) (k := 0) rfl rfl)) rfl ?_; clear S a w; intro a w S)
      (refine st_y S (Yr.ys (ys_F (by omega) (ys_lss (Ev.t rfl) Ev.c))) rfl ?_; clear S a w; intro a w S)
      (refine st_y S (Yr.ys (ys_move (Ev.t rfl))) rfl ?_; clear S a w; intro a w S)
      (refine st_yt S rfl rfl (Yr.ys (ys_fieldN (FieldT.mk Try.underlying64 rfl Try.sizeOf3 rfl) (Ev.t rfl) (i' := 5) rfl)) rfl ?_; clear S a w; intro a w S)
      (refine st_yt S rfl rfl (Yr.ys (ys_ld ⟨Try.isAgg3, Try.sizeOf3⟩ (Ev.t rfl) (k := 0) rfl rfl)) rfl ?_; clear S a w; intro a w S)
      (refine st_yt S rfl rfl (Yr.ys (ys_F (by omega) (ys_gtr (Ev.t rfl) Ev.c))) rfl ?_; clear S a w; intro a w S)
      (refine st_y S (Yr.ys (ys_pickF (Ev.t rfl) (Ev.t rfl))) rfl ?_; clear S a w; intro a w S)
      (refine st_y S (Yr.ys (ys_assign (Ev.t rfl))) rfl ?_; clear S a w; intro a w S)
      refine st_nil ?_
      (refine (then_normal (hK2 _ _ ?_)); clear hK2)
      refine st_else S (Ev.t rfl) ?_
      refine wp_seq_k fun _ hK2 => ?_
      refine wp_region_lit ?_
      (refine st_y S (Yr.ys (ys_fieldN (FieldT.mk Try.underlying64 rfl Try.sizeOf27 rfl) (Ev.t rfl) (i' := 6) rfl)) rfl ?_; clear S a w; intro a w S)
      (refine st_y S (Yr.ys (ys_ld ⟨Try.isAgg27, Try.sizeOf27⟩ (Ev.t rfl) (k := 0) rfl rfl)) rfl ?_; clear S a w; intro a w S)
      (refine st_y S (ys_call Try.call56 (EvL.cons (Ev.t rfl) EvL.nil) (fun hp w W => c56 _ _)) rfl ?_; clear S a w; intro a w S)
      rw [rw_p] at S
      (refine st_y S (Yr.ys (ys_not (Ev.t rfl))) rfl ?_; clear S a w; intro a w S)
      (refine st_y S (Yr.ys (ys_move (Ev.t rfl))) rfl ?_; clear S a w; intro a w S)
      (refine st_yt S rfl rfl (Yr.ys (ys_fieldN (FieldT.mk Try.underlying64 rfl Try.sizeOf3 rfl) (Ev.t rfl) (i' := 5) rfl)) rfl ?_; clear S a w; intro a w S)
      (refine st_yt S rfl rfl (Yr.ys (ys_ld ⟨Try.isAgg3, Try.sizeOf3⟩ (Ev.t rfl) (k := 0) rfl rfl)) rfl ?_; clear S a w; intro a w S)
      (refine st_yt S rfl rfl (Yr.ys (ys_eql (Ev.t rfl) Ev.c)) rfl ?_; clear S a w; intro a w S)
      (refine st_yt S rfl rfl (Yr.ys (ys_move (Ev.t rfl))) rfl ?_; clear S a w; intro a w S)
      (refine st_yg S rfl rfl (Yr.ys (ys_fieldN (FieldT.mk Try.underlying64 rfl Try.sizeOf27 rfl) (Ev.t rfl) (i' := 6) rfl)) rfl ?_; clear S a w; intro a w S)
      (refine st_yg S rfl rfl (Yr.ys (ys_ld ⟨Try.isAgg27, Try.sizeOf27⟩ (Ev.g rfl) (k := 0) rfl rfl)) rfl ?_; clear S a w; intro a w S)
      (refine st_yg S rfl rfl (Yr.ys (ys_neq (Ev.g rfl) Ev.c)) rfl ?_; clear S a w; intro a w S)
      (refine st_yt S rfl rfl (Yr.ys (ys_and2 (Ev.t rfl) (Ev.g rfl) Ev.c)) rfl ?_; clear S a w; intro a w S)
      rw [rw_z] at S
      (refine st_y S (Yr.ys (ys_pickF (Ev.t rfl) (Ev.t rfl))) rfl ?_; clear S a w; intro a w S)
      (refine st_y S (Yr.ys (ys_assign (Ev.t rfl))) rfl ?_; clear S a w; intro a w S)
      refine st_nil ?_
      (refine (then_normal (hK2 _ _ ?_)); clear hK2)
      refine st_else S (Ev.t rfl) ?_
      refine wp_skip ?_
      (refine (in_normal (then_normal (hK1 _ _ ?_))); clear hK1)
      refine wp_seq_k fun _ hK1 => ?_
      refine wp_region_lit ?_
      (refine st_y S (Yr.ys (ys_fieldN (FieldT.mk Try.underlying64 rfl Try.sizeOf40 rfl) (Ev.t rfl) (i' := 7) rfl)) rfl ?_; clear S a w; intro a w S)
      (refine st_y S (Yr.ys (ys_ldA ⟨Try.isAgg40, Try.sizeOf40⟩ (Ev.t rfl) (k := 0) rfl rfl)) rfl ?_; clear S a w; intro a w S)
      (refine st_y S (ys_call Try.call9 (EvL.cons (Ev.t rfl) EvL.nil) (fun hp w W => c9 _ _ _ _ _ (by exact .old W (by assumption)) (by exact .old W (by assumption)))) rfl ?_; clear S a w; intro a w S)
      rw [rw_e] at S
      (refine st_y S (Yr.ys (ys_assign (Ev.t rfl))) rfl ?_; clear S a w; intro a w S)
      refine st_nil ?_
      (refine (then_normal (hK1 _ _ ?_)); clear hK1)
      refine wp_seq_k fun _ hK1 => ?_
      refine wp_seq_k fun _ hK2 => ?_
      refine wp_region_lit ?_
      (refine st_y S (Yr.ys (ys_move (Ev.t rfl))) rfl ?_; clear S a w; intro a w S)
      (refine st_y S (Yr.ys (ys_F (by omega) (ys_neq (Ev.t rfl) Ev.c))) rfl ?_; clear S a w; intro a w S)
      refine st_nil ?_
      (refine (then_normal (hK2 _ _ ?_)); clear hK2)
      refine st_else S (Ev.t rfl) ?_
      refine wp_skip ?_
      (refine (then_normal (hK1 _ _ ?_)); clear hK1)
      refine wp_seq_k fun _ hK1 => ?_
      refine wp_region_lit ?_
      (refine st_y S (Yr.ys (ys_fieldN (FieldT.mk Try.underlying64 rfl Try.sizeOf62 rfl) (Ev.t rfl) (i' := 1) rfl)) rfl ?_; clear S a w; intro a w S)
      (refine st_y S (Yr.ys (ys_ldA ⟨Try.isAgg62, Try.sizeOf62⟩ (Ev.t rfl) (k := 0) rfl rfl)) rfl ?_; clear S a w; intro a w S)
      (refine st_m (op_bslice1 S Try.underlying36 inf62 rfl rfl rfl (Ev.t rfl) rfl rfl rfl ?_); clear S a w; intro g2 a w S)
      (refine st_m (op_calls S Try.call57 (EvL.cons Ev.c (EvL.cons (Ev.t rfl) EvL.nil)) (c57 _ _ _ _ _ (by exact Sl.nil_) (by exact sl_y1 S.wd (k := 0) rfl) (by (simp; done)) (by (simp; done))) rfl ?_); clear S a w; rintro _ _ ⟨A11, c11, A21, c22, rfl, rfl⟩ a w S)
      rw [rw_n] at S
      (refine st_y S (Yr.ys (ys_move (Ev.t rfl))) rfl ?_; clear S a w; intro a w S)
      (refine st_y S (Yr.ys (ys_ext (Ev.t rfl) rfl)) rfl ?_; clear S a w; intro a w S)
      (refine st_y S (Yr.ys (ys_ext (Ev.t rfl) rfl)) rfl ?_; clear S a w; intro a w S)
      (refine st_y S (Yr.ys (ys_assign (Ev.t rfl))) rfl ?_; clear S a w; intro a w S)
      refine st_nil ?_
      (refine (then_normal (hK1 _ _ ?_)); clear hK1)
      refine wp_seq_k fun _ hK1 => ?_
      refine wp_seq_k fun _ hK2 => ?_
      refine wp_region_lit ?_
      (refine st_y S (Yr.ys (ys_move (Ev.t rfl))) rfl ?_; clear S a w; intro a w S)
      (refine st_y S (Yr.ys (ys_F (by omega) (ys_neq (Ev.t rfl) Ev.c))) rfl ?_; clear S a w; intro a w S)
      (refine st_y S (Yr.ys (ys_move (Ev.t rfl))) rfl ?_; clear S a w; intro a w S)
      (refine st_yt S rfl rfl (Yr.ys (ys_fieldN (FieldT.mk Try.underlying64 rfl Try.sizeOf40 rfl) (Ev.t rfl) (i' := 7) rfl)) rfl ?_; clear S a w; intro a w S)
      (refine st_yt S rfl rfl (Yr.ys (ys_fieldN (FieldT.mk Try.underlying40 rfl Try.sizeOf38 rfl) (Ev.t rfl) (i' := 8) rfl)) rfl ?_; clear S a w; intro a w S)
      (refine st_yt S rfl rfl (Yr.ys (ys_ldA ⟨Try.isAgg38, Try.sizeOf38⟩ (Ev.t rfl) (k := 3) rfl rfl)) rfl ?_; clear S a w; intro a w S)
      (refine st_yt S rfl rfl (Yr.ys (ys_fieldN (FieldT.mk Try.underlying64 rfl Try.sizeOf62 rfl) (Ev.t rfl) (i' := 1) rfl)) rfl ?_; clear S a w; intro a w S)
      (refine st_yt S rfl rfl (Yr.ys (ys_ldA ⟨Try.isAgg62, Try.sizeOf62⟩ (Ev.t rfl) (k := 3) rfl rfl)) rfl ?_; clear S a w; intro a w S)
      (refine st_yt S rfl rfl (ys_call Try.call58 (EvL.cons (Ev.t rfl) (EvL.cons (Ev.t rfl) EvL.nil)) (fun hp w W => c58 _ _ _ _ _ _ _ (by exact .old W (by assumption)))) rfl ?_; clear S a w; intro a w S)
      rw [rw_c] at S
      (refine st_y S (Yr.ys (ys_pickF (Ev.t rfl) (Ev.t rfl))) rfl ?_; clear S a w; intro a w S)
      refine st_nil ?_
      (refine (then_normal (hK2 _ _ ?_)); clear hK2)
      refine st_then S (Ev.t rfl) ?_
      refine wp_seq_k fun _ hK2 => ?_
      refine wp_region_lit ?_
      (refine st_y S (Yr.ys (ys_assign Ev.c)) rfl ?_; clear S a w; intro a w S)
      refine st_nil ?_
      (refine (then_normal (hK2 _ _ ?_)); clear hK2)
      refine wp_ret ?_
      refine (then_ret ?_)
      refine st_ret S (results1 S Try.results21 (Rv.tmp rfl)) ?_
      exact ⟨by rw [if_pos (.inr rfl)], S.wd.below⟩
    | false =>
      have rw_c : u.seen.ctx.covers ⟨u.dot.node, u.dot.life, u.dot.count⟩ = false := hc
      refine enter1 Try.func21 rfl Try.ntmps21 rfl fun a S => ?_
      refine wp_seq_k fun _ hK1 => ?_
      refine wp_region_lit ?_
      (refine st_m (op_box S (Ev.t rfl) rfl ?_); clear S a; intro g1 a w S)
      (refine st_y S (Yr.ys (ys_assign Ev.c)) rfl ?_; clear S a w; intro a w S)
      refine st_nil ?_
      (refine (then_normal (hK1 _ _ ?_)); clear hK1)
      refine wp_seq_k fun _ hK1 => ?_
      refine wp_block ?_
      refine wp_seq_k fun _ hK2 => ?_
      refine wp_region_lit ?_
      (refine st_y S (Yr.ys (ys_fieldN (FieldT.mk Try.underlying64 rfl Try.sizeOf9 rfl) (Ev.t rfl) (i' := 0) rfl)) rfl ?_; clear S a w; intro a w S)
      (refine st_y S (Yr.ys (ys_ld ⟨Try.isAgg9, Try.sizeOf9⟩ (Ev.t rfl) (k := 0) rfl rfl)) rfl ?_; clear S a w; intro a w S)
      (refine st_y S (ys_call Try.call55 (EvL.cons (Ev.t rfl) EvL.nil) (fun hp w W => c55 _ _)) rfl ?_; clear S a w; intro a w S)
      rw [rw_k] at S
      (refine st_y S (Yr.ys (ys_not (Ev.t rfl))) rfl ?_; clear S a w; intro a w S)
      (refine st_y S (Yr.ys (ys_move (Ev.t rfl))) rfl ?_; clear S a w; intro a w S)
      (refine st_yt S rfl rfl (Yr.ys (ys_fieldN (FieldT.mk Try.underlying64 rfl Try.sizeOf9 rfl) (Ev.t rfl) (i' := 4) rfl)) rfl ?_; clear S a w; intro a w S)
      (refine st_yt S rfl rfl (Yr.ys (ys_ld ⟨Try.isAgg9, Try.sizeOf9⟩ (Ev.t rfl) (k := 0) rfl rfl)) rfl ?_; clear S a w; intro a w S)
      (refine st_yt S rfl rfl (ys_call Try.call55 (EvL.cons (Ev.t rfl) EvL.nil) (fun hp w W => c55 _ _)) rfl ?_; clear S a w; intro a w S)
      rw [rw_i] at S
      (refine st_yt S rfl rfl (Yr.ys (ys_not (Ev.t rfl))) rfl ?_; clear S a w; intro a w S)
      (refine st_y S (Yr.ys (ys_pickF (Ev.t rfl) (Ev.t rfl))) rfl ?_; clear S a w; intro a w S)
      (refine st_y S (Yr.ys (ys_assign (Ev.t rfl))) rfl ?_; clear S a w; intro a w S)
      refine st_nil ?_
      (refine (then_normal (hK2 _ _ ?_)); clear hK2)
      refine st_else S (Ev.t rfl) ?_
      refine wp_seq_k fun _ hK2 => ?_
      refine wp_region_lit ?_
      (refine st_y S (Yr.ys (ys_fieldN (FieldT.mk Try.underlying64 rfl Try.sizeOf3 rfl) (Ev.t rfl) (i' := 5) rfl)) rfl ?_; clear S a w; intro a w S)
      (refine st_y S (Yr.ys (ys_ld ⟨Try.isAgg3, Try.sizeOf3⟩ (Ev.t rfl) (k := 0) rfl rfl)) rfl ?_; clear S a w; intro a w S)
      (refine st_y S (Yr.ys (ys_F (by omega) (ys_lss (Ev.t rfl) Ev.c))) rfl ?_; clear S a w; intro a w S)
      (refine st_y S (Yr.ys (ys_move (Ev.t rfl))) rfl ?_; clear S a w; intro a w S)
      (refine st_yt S rfl rfl (Yr.ys (ys_fieldN (FieldT.mk Try.underlying64 rfl Try.sizeOf3 rfl) (Ev.t rfl) (i' := 5) rfl)) rfl ?_; clear S a w; intro a w S)
      (refine st_yt S rfl rfl (Yr.ys (ys_ld ⟨Try.isAgg3, Try.sizeOf3⟩ (Ev.t rfl) (k := 0) rfl rfl)) rfl ?_; clear S a w; intro a w S)
      (refine st_yt S rfl rfl (Yr.ys (ys_F (by omega) (ys_gtr (Ev.t rfl) Ev.c))) rfl ?_; clear S a w; intro a w S)
      (refine st_y S (Yr.ys (ys_pickF (Ev.t rfl) (Ev.t rfl))) rfl ?_; clear S a w; intro a w S)
      (refine st_y S (Yr.ys (ys_assign (Ev.t rfl))) rfl ?_; clear S a w; intro a w S)
      refine st_nil ?_
      (refine (then_normal (hK2 _ _ ?_)); clear hK2)
      refine st_else S (Ev.t rfl) ?_
      refine wp_seq_k fun _ hK2 => ?_
      refine wp_region_lit ?_
      (refine st_y S (Yr.ys (ys_fieldN (FieldT.mk Try.underlying64 rfl Try.sizeOf27 rfl) (Ev.t rfl) (i' := 6) rfl)) rfl ?_; clear S a w; intro a w S)
      (refine st_y S (Yr.ys (ys_ld ⟨Try.isAgg27, Try.sizeOf27⟩ (Ev.t rfl) (k := 0) rfl rfl)) rfl ?_; clear S a w; intro a w S)
      (refine st_y S (ys_call Try.call56 (EvL.cons (Ev.t rfl) EvL.nil) (fun hp w W => c56 _ _)) rfl ?_; clear S a w; intro a w S)
      rw [rw_p] at S
      (refine st_y S (Yr.ys (ys_not (Ev.t rfl))) rfl ?_; clear S a w; intro a w S)
      (refine st_y S (Yr.ys (ys_move (Ev.t rfl))) rfl ?_; clear S a w; intro a w S)
      (refine st_yt S rfl rfl (Yr.ys (ys_fieldN (FieldT.mk Try.underlying64 rfl Try.sizeOf3 rfl) (Ev.t rfl) (i' := 5) rfl)) rfl ?_; clear S a w; intro a w S)
      (refine st_yt S rfl rfl (Yr.ys (ys_ld ⟨Try.isAgg3, Try.sizeOf3⟩ (Ev.t rfl) (k := 0) rfl rfl)) rfl ?_; clear S a w; intro a w S)
      (refine st_yt S rfl rfl (Yr.ys (ys_eql (Ev.t rfl) Ev.c)) rfl ?_; clear S a w; intro a w S)
      (refine st_yt S rfl rfl (Yr.ys (ys_move (Ev.t rfl))) rfl ?_; clear S a w; intro a w S)
      (refine st_yg S rfl rfl (Yr.ys (ys_fieldN (FieldT.mk Try.underlying64 rfl Try.sizeOf27 rfl) (Ev.t rfl) (i' := 6) rfl)) rfl ?_; clear S a w; intro a w S)
      (refine st_yg S rfl rfl (Yr.ys (ys_ld ⟨Try.isAgg27, Try.sizeOf27⟩ (Ev.g rfl) (k := 0) rfl rfl)) rfl ?_; clear S a w; intro a w S)
      (refine st_yg S rfl rfl (Yr.ys (ys_neq (Ev.g rfl) Ev.c)) rfl ?_; clear S a w; intro a w S)
      (refine st_yt S rfl rfl (Yr.ys (ys_and2 (Ev.t rfl) (Ev.g rfl) Ev.c)) rfl ?_; clear S a w; intro a w S)
      rw [rw_z] at S
      (refine st_y S (Yr.ys (ys_pickF (Ev.t rfl) (Ev.t rfl))) rfl ?_; clear S a w; intro a w S)
      (refine st_y S (Yr.ys (ys_assign (Ev.t rfl))) rfl ?_; clear S a w; intro a w S)
      refine st_nil ?_
      (refine (then_normal (hK2 _ _ ?_)); clear hK2)
      refine st_else S (Ev.t rfl) ?_
      refine wp_skip ?_
      (refine (in_normal (then_normal (hK1 _ _ ?_))); clear hK1)
      refine wp_seq_k fun _ hK1 => ?_
      refine wp_region_lit ?_
      (refine st_y S (Yr.ys (ys_fieldN (FieldT.mk Try.underlying64 rfl Try.sizeOf40 rfl) (Ev.t rfl) (i' := 7) rfl)) rfl ?_; clear S a w; intro a w S)
      (refine st_y S (Yr.ys (ys_ldA ⟨Try.isAgg40, Try.sizeOf40⟩ (Ev.t rfl) (k := 0) rfl rfl)) rfl ?_; clear S a w; intro a w S)
      (refine st_y S (ys_call Try.call9 (EvL.cons (Ev.t rfl) EvL.nil) (fun hp w W => c9 _ _ _ _ _ (by exact .old W (by assumption)) (by exact .old W (by assumption)))) rfl ?_; clear S a w; intro a w S)
      rw [rw_e] at S
      (refine st_y S (Yr.ys (ys_assign (Ev.t rfl))) rfl ?_; clear S a w; intro a w S)
      refine st_nil ?_
      (refine (then_normal (hK1 _ _ ?_)); clear hK1)
      refine wp_seq_k fun _ hK1 => ?_
      refine wp_seq_k fun _ hK2 => ?_
      refine wp_region_lit ?_
      (refine st_y S (Yr.ys (ys_move (Ev.t rfl))) rfl ?_; clear S a w; intro a w S)
      (refine st_y S (Yr.ys (ys_F (by omega) (ys_neq (Ev.t rfl) Ev.c))) rfl ?_; clear S a w; intro a w S)
      refine st_nil ?_
      (refine (then_normal (hK2 _ _ ?_)); clear hK2)
      refine st_else S (Ev.t rfl) ?_
      refine wp_skip ?_
      (refine (then_normal (hK1 _ _ ?_)); clear hK1)
      refine wp_seq_k fun _ hK1 => ?_
      refine wp_region_lit ?_
      (refine st_y S (Yr.ys (ys_fieldN (FieldT.mk Try.underlying64 rfl Try.sizeOf62 rfl) (Ev.t rfl) (i' := 1) rfl)) rfl ?_; clear S a w; intro a w S)
      (refine st_y S (Yr.ys (ys_ldA ⟨Try.isAgg62, Try.sizeOf62⟩ (Ev.t rfl) (k := 0) rfl rfl)) rfl ?_; clear S a w; intro a w S)
      (refine st_m (op_bslice1 S Try.underlying36 inf62 rfl rfl rfl (Ev.t rfl) rfl rfl rfl ?_); clear S a w; intro g2 a w S)
      (refine st_m (op_calls S Try.call57 (EvL.cons Ev.c (EvL.cons (Ev.t rfl) EvL.nil)) (c57 _ _ _ _ _ (by exact Sl.nil_) (by exact sl_y1 S.wd (k := 0) rfl) (by (simp; done)) (by (simp; done))) rfl ?_); clear S a w; rintro _ _ ⟨A11, c11, A21, c22, rfl, rfl⟩ a w S)
      rw [rw_n] at S
      (refine st_y S (Yr.ys (ys_move (Ev.t rfl))) rfl ?_; clear S a w; intro a w S)
      (refine st_y S (Yr.ys (ys_ext (Ev.t rfl) rfl)) rfl ?_; clear S a w; intro a w S)
      (refine st_y S (Yr.ys (ys_ext (Ev.t rfl) rfl)) rfl ?_; clear S a w; intro a w S)
      (refine st_y S (Yr.ys (ys_assign (Ev.t rfl))) rfl ?_; clear S a w; intro a w S)
      refine st_nil ?_
      (refine (then_normal (hK1 _ _ ?_)); clear hK1)
      refine wp_seq_k fun _ hK1 => ?_
      refine wp_seq_k fun _ hK2 => ?_
      refine wp_region_lit ?_
      (refine st_y S (Yr.ys (ys_move (Ev.t rfl))) rfl ?_; clear S a w; intro a w S)
      (refine st_y S (Yr.ys (ys_F (by omega) (ys_neq (Ev.t rfl) Ev.c))) rfl ?_; clear S a w; intro a w S)
      (refine st_y S (Yr.ys (ys_move (Ev.t rfl))) rfl ?_; clear S a w; intro a w S)
      (refine st_yt S rfl rfl (Yr.ys (ys_fieldN (FieldT.mk Try.underlying64 rfl Try.sizeOf40 rfl) (Ev.t rfl) (i' := 7) rfl)) rfl ?_; clear S a w; intro a w S)
      (refine st_yt S rfl rfl (Yr.ys (ys_fieldN (FieldT.mk Try.underlying40 rfl Try.sizeOf38 rfl) (Ev.t rfl) (i' := 8) rfl)) rfl ?_; clear S a w; intro a w S)
      (refine st_yt S rfl rfl (Yr.ys (ys_ldA ⟨Try.isAgg38, Try.sizeOf38⟩ (Ev.t rfl) (k := 3) rfl rfl)) rfl ?_; clear S a w; intro a w S)
      (refine st_yt S rfl rfl (Yr.ys (ys_fieldN (FieldT.mk Try.underlying64 rfl Try.sizeOf62 rfl) (Ev.t rfl) (i' := 1) rfl)) rfl ?_; clear S a w; intro a w S)
      (refine st_yt S rfl rfl (Yr.ys (ys_ldA ⟨Try.isAgg62, Try.sizeOf62⟩ (Ev.t rfl) (k := 3) rfl rfl)) rfl ?_; clear S a w; intro a w S)
      (refine st_yt S rfl rfl (ys_call Try.call58 (EvL.cons (Ev.t rfl) (EvL.cons (Ev.t rfl) EvL.nil)) (fun hp w W => c58 _ _ _ _ _ _ _ (by exact .old W (by assumption)))) rfl ?_; clear S a w; intro a w S)
      rw [rw_c] at S
      (refine st_y S (Yr.ys (ys_pickF (Ev.t rfl) (Ev.t rfl))) rfl ?_; clear S a w; intro a w S)
      refine st_nil ?_
      (refine (then_normal (hK2 _ _ ?_)); clear hK2)
      refine st_else S (Ev.t rfl) ?_
      refine wp_skip ?_
      (refine (then_normal (hK1 _ _ ?_)); clear hK1)
      refine wp_seq_k fun _ hK1 => ?_
      refine wp_region_lit ?_
      (refine st_y S (Yr.ys (ys_assign Ev.c)) rfl ?_; clear S a w; intro a w S)
      refine st_nil ?_
      (refine (then_normal (hK1 _ _ ?_)); clear hK1)
      refine wp_ret ?_
      refine st_ret S (results1 S Try.results21 (Rv.tmp rfl)) ?_
      exact ⟨by rw [if_neg (by simp)], S.wd.below⟩
theorem c22 (w0 : World) (u : Upd) (v1 v2 v3 : Value) (h : Sl Ent.enc 6 w0 w0.heap.size v1 u.seen.ents) (hr : RdCtx w0 w0.heap.size v2 v3 u.seen.ctx) :
    Calls Try.prog 22 #[.agg (Upd.enc u v1 v2 v3).toArray] w0 fun e w' => e = .returned (.int .i64 (mayE u)) ∧ Bel w0.heap.size w0 w' := by
  have hs := h
  have hrr := hr
  obtain ⟨A, cap, rfl, _⟩ := h
  obtain ⟨⟨A2, cap2, rfl, _⟩, ⟨A3, cap3, rfl, _⟩⟩ := hr
  unfold mayE
  cases rw_k : nameB u.key with
  | false =>
    refine enter1 Try.func22 rfl Try.ntmps22 rfl fun a S => ?_
    refine wp_seq_k fun _ hK1 => ?_
    refine wp_region_lit ?_
    (refine st_m (op_box S (Ev.t rfl) rfl ?_); clear S a; intro g1 a w S)
    (refine st_y S (Yr.ys (ys_assign Ev.c)) rfl ?_; clear S a w; intro a w S)
    refine st_nil ?_
    (refine (then_normal (hK1 _ _ ?_)); clear hK1)
    refine wp_seq_k fun _ hK1 => ?_
    refine wp_block ?_
    refine wp_seq_k fun _ hK2 => ?_
    refine wp_region_lit ?_
    (refine st_y S (Yr.ys (ys_fieldN (FieldT.mk Try.underlying64 rfl Try.sizeOf9 rfl) (Ev.t rfl) (i' := 0) rfl)) rfl ?_; clear S a w; intro a w S)
    (refine st_y S (Yr.ys (ys_ld ⟨Try.isAgg9, Try.sizeOf9⟩ (Ev.t rfl) (k := 0) rfl rfl)) rfl ?_; clear S a w; intro a w S)
    (refine st_y S (ys_call Try.call49 (EvL.cons (Ev.t rfl) EvL.nil) (fun hp w W => c49 _ _)) rfl ?_; clear S a w; intro a w S)
    rw [rw_k] at S
    (refine st_y S (Yr.ys (ys_not (Ev.t rfl))) rfl ?_; clear S a w; intro a w S)
    (refine st_y S (Yr.ys (ys_move (Ev.t rfl))) rfl ?_; clear S a w; intro a w S)
    (refine st_skip S rfl rfl rfl rfl ?_; clear S a w; intro a w S)
    (refine st_skip S rfl rfl rfl rfl ?_; clear S a w; intro a w S)
    (refine st_skip S rfl rfl rfl rfl ?_; clear S a w; intro a w S)
    (refine st_skip S rfl rfl rfl rfl ?_; clear S a w; intro a w S)
    (refine st_y S (Yr.ys (ys_pickT (Ev.t rfl) Ev.c)) rfl ?_; clear S a w; intro a w S)
    (refine st_y S (Yr.ys (ys_assign (Ev.t rfl))) rfl ?_; clear S a w; intro a w S)
    refine st_nil ?_
    (refine (then_normal (hK2 _ _ ?_)); clear hK2)
    refine st_then S (Ev.t rfl) ?_
    refine wp_seq_k fun _ hK2 => ?_
    refine wp_region_lit ?_
    (refine st_y S (Yr.ys (ys_assign Ev.c)) rfl ?_; clear S a w; intro a w S)
    refine st_nil ?_
    (refine (then_normal (hK2 _ _ ?_)); clear hK2)
    refine wp_ret ?_
    refine (in_ret (then_ret ?_))
    refine st_ret S (results1 S Try.results22 (Rv.tmp rfl)) ?_
    exact ⟨by rw [if_pos (.inl rfl)], S.wd.below⟩
  | true =>
  cases rw_i : nameB u.item with
  | false =>
    refine enter1 Try.func22 rfl Try.ntmps22 rfl fun a S => ?_
    refine wp_seq_k fun _ hK1 => ?_
    refine wp_region_lit ?_
    (refine st_m (op_box S (Ev.t rfl) rfl ?_); clear S a; intro g1 a w S)
    (refine st_y S (Yr.ys (ys_assign Ev.c)) rfl ?_; clear S a w; intro a w S)
    refine st_nil ?_
    (refine (then_normal (hK1 _ _ ?_)); clear hK1)
    refine wp_seq_k fun _ hK1 => ?_
    refine wp_block ?_
    refine wp_seq_k fun _ hK2 => ?_
    refine wp_region_lit ?_
    (refine st_y S (Yr.ys (ys_fieldN (FieldT.mk Try.underlying64 rfl Try.sizeOf9 rfl) (Ev.t rfl) (i' := 0) rfl)) rfl ?_; clear S a w; intro a w S)
    (refine st_y S (Yr.ys (ys_ld ⟨Try.isAgg9, Try.sizeOf9⟩ (Ev.t rfl) (k := 0) rfl rfl)) rfl ?_; clear S a w; intro a w S)
    (refine st_y S (ys_call Try.call49 (EvL.cons (Ev.t rfl) EvL.nil) (fun hp w W => c49 _ _)) rfl ?_; clear S a w; intro a w S)
    rw [rw_k] at S
    (refine st_y S (Yr.ys (ys_not (Ev.t rfl))) rfl ?_; clear S a w; intro a w S)
    (refine st_y S (Yr.ys (ys_move (Ev.t rfl))) rfl ?_; clear S a w; intro a w S)
    (refine st_yt S rfl rfl (Yr.ys (ys_fieldN (FieldT.mk Try.underlying64 rfl Try.sizeOf9 rfl) (Ev.t rfl) (i' := 4) rfl)) rfl ?_; clear S a w; intro a w S)
    (refine st_yt S rfl rfl (Yr.ys (ys_ld ⟨Try.isAgg9, Try.sizeOf9⟩ (Ev.t rfl) (k := 0) rfl rfl)) rfl ?_; clear S a w; intro a w S)
    (refine st_yt S rfl rfl (ys_call Try.call49 (EvL.cons (Ev.t rfl) EvL.nil) (fun hp w W => c49 _ _)) rfl ?_; clear S a w; intro a w S)
    rw [rw_i] at S
    (refine st_yt S rfl rfl (Yr.ys (ys_not (Ev.t rfl))) rfl ?_; clear S a w; intro a w S)
    (refine st_y S (Yr.ys (ys_pickF (Ev.t rfl) (Ev.t rfl))) rfl ?_; clear S a w; intro a w S)
    (refine st_y S (Yr.ys (ys_assign (Ev.t rfl))) rfl ?_; clear S a w; intro a w S)
    refine st_nil ?_
    (refine (then_normal (hK2 _ _ ?_)); clear hK2)
    refine st_then S (Ev.t rfl) ?_
    refine wp_seq_k fun _ hK2 => ?_
    refine wp_region_lit ?_
    (refine st_y S (Yr.ys (ys_assign Ev.c)) rfl ?_; clear S a w; intro a w S)
    refine st_nil ?_
    (refine (then_normal (hK2 _ _ ?_)); clear hK2)
    refine wp_ret ?_
    refine (in_ret (then_ret ?_))
    refine st_ret S (results1 S Try.results22 (Rv.tmp rfl)) ?_
    exact ⟨by rw [if_pos (.inr rfl)], S.wd.below⟩
  | true =>
  rw [if_neg (by simp)]
  by_cases hq : u.qty < 0 ∨ 1000000 < u.qty
  · have rw_q : (decide (0 ≤ u.qty) && decide (u.qty ≤ 1000000)) = false := by simp; omega
    refine enter1 Try.func22 rfl Try.ntmps22 rfl fun a S => ?_
    refine wp_seq_k fun _ hK1 => ?_
    refine wp_region_lit ?_
    (refine st_m (op_box S (Ev.t rfl) rfl ?_); clear S a; intro g1 a w S)
    (refine st_y S (Yr.ys (ys_assign Ev.c)) rfl ?_; clear S a w; intro a w S)
    refine st_nil ?_
    (refine (then_normal (hK1 _ _ ?_)); clear hK1)
    refine wp_seq_k fun _ hK1 => ?_
    refine wp_block ?_
    refine wp_seq_k fun _ hK2 => ?_
    refine wp_region_lit ?_
    (refine st_y S (Yr.ys (ys_fieldN (FieldT.mk Try.underlying64 rfl Try.sizeOf9 rfl) (Ev.t rfl) (i' := 0) rfl)) rfl ?_; clear S a w; intro a w S)
    (refine st_y S (Yr.ys (ys_ld ⟨Try.isAgg9, Try.sizeOf9⟩ (Ev.t rfl) (k := 0) rfl rfl)) rfl ?_; clear S a w; intro a w S)
    (refine st_y S (ys_call Try.call49 (EvL.cons (Ev.t rfl) EvL.nil) (fun hp w W => c49 _ _)) rfl ?_; clear S a w; intro a w S)
    rw [rw_k] at S
    (refine st_y S (Yr.ys (ys_not (Ev.t rfl))) rfl ?_; clear S a w; intro a w S)
    (refine st_y S (Yr.ys (ys_move (Ev.t rfl))) rfl ?_; clear S a w; intro a w S)
    (refine st_yt S rfl rfl (Yr.ys (ys_fieldN (FieldT.mk Try.underlying64 rfl Try.sizeOf9 rfl) (Ev.t rfl) (i' := 4) rfl)) rfl ?_; clear S a w; intro a w S)
    (refine st_yt S rfl rfl (Yr.ys (ys_ld ⟨Try.isAgg9, Try.sizeOf9⟩ (Ev.t rfl) (k := 0) rfl rfl)) rfl ?_; clear S a w; intro a w S)
    (refine st_yt S rfl rfl (ys_call Try.call49 (EvL.cons (Ev.t rfl) EvL.nil) (fun hp w W => c49 _ _)) rfl ?_; clear S a w; intro a w S)
    rw [rw_i] at S
    (refine st_yt S rfl rfl (Yr.ys (ys_not (Ev.t rfl))) rfl ?_; clear S a w; intro a w S)
    (refine st_y S (Yr.ys (ys_pickF (Ev.t rfl) (Ev.t rfl))) rfl ?_; clear S a w; intro a w S)
    (refine st_y S (Yr.ys (ys_assign (Ev.t rfl))) rfl ?_; clear S a w; intro a w S)
    refine st_nil ?_
    (refine (then_normal (hK2 _ _ ?_)); clear hK2)
    refine st_else S (Ev.t rfl) ?_
    refine wp_seq_k fun _ hK2 => ?_
    refine wp_region_lit ?_
    (refine st_y S (Yr.ys (ys_fieldN (FieldT.mk Try.underlying64 rfl Try.sizeOf3 rfl) (Ev.t rfl) (i' := 5) rfl)) rfl ?_; clear S a w; intro a w S)
    (refine st_y S (Yr.ys (ys_ld ⟨Try.isAgg3, Try.sizeOf3⟩ (Ev.t rfl) (k := 0) rfl rfl)) rfl ?_; clear S a w; intro a w S)
    (refine st_y S (ys_call Try.call50 (EvL.cons (Ev.t rfl) (EvL.cons Ev.c EvL.nil)) (fun hp w W => c50 _ _ _)) rfl ?_; clear S a w; intro a w S)
    rw [rw_q] at S
    (refine st_y S (Yr.ys (ys_not (Ev.t rfl))) rfl ?_; clear S a w; intro a w S)
    (refine st_y S (Yr.ys (ys_assign (Ev.t rfl))) rfl ?_; clear S a w; intro a w S)
    refine st_nil ?_
    (refine (then_normal (hK2 _ _ ?_)); clear hK2)
    refine st_then S (Ev.t rfl) ?_
    refine wp_seq_k fun _ hK2 => ?_
    refine wp_region_lit ?_
    (refine st_y S (Yr.ys (ys_assign Ev.c)) rfl ?_; clear S a w; intro a w S)
    refine st_nil ?_
    (refine (then_normal (hK2 _ _ ?_)); clear hK2)
    refine wp_ret ?_
    refine (in_ret (then_ret ?_))
    refine st_ret S (results1 S Try.results22 (Rv.tmp rfl)) ?_
    exact ⟨by rw [if_pos hq], S.wd.below⟩
  have rw_q : (decide (0 ≤ u.qty) && decide (u.qty ≤ 1000000)) = true := by simp; omega
  rw [if_neg hq]
  cases rw_p : priceB u.price with
  | false =>
    refine enter1 Try.func22 rfl Try.ntmps22 rfl fun a S => ?_
    refine wp_seq_k fun _ hK1 => ?_
    refine wp_region_lit ?_
    (refine st_m (op_box S (Ev.t rfl) rfl ?_); clear S a; intro g1 a w S)
    (refine st_y S (Yr.ys (ys_assign Ev.c)) rfl ?_; clear S a w; intro a w S)
    refine st_nil ?_
    (refine (then_normal (hK1 _ _ ?_)); clear hK1)
    refine wp_seq_k fun _ hK1 => ?_
    refine wp_block ?_
    refine wp_seq_k fun _ hK2 => ?_
    refine wp_region_lit ?_
    (refine st_y S (Yr.ys (ys_fieldN (FieldT.mk Try.underlying64 rfl Try.sizeOf9 rfl) (Ev.t rfl) (i' := 0) rfl)) rfl ?_; clear S a w; intro a w S)
    (refine st_y S (Yr.ys (ys_ld ⟨Try.isAgg9, Try.sizeOf9⟩ (Ev.t rfl) (k := 0) rfl rfl)) rfl ?_; clear S a w; intro a w S)
    (refine st_y S (ys_call Try.call49 (EvL.cons (Ev.t rfl) EvL.nil) (fun hp w W => c49 _ _)) rfl ?_; clear S a w; intro a w S)
    rw [rw_k] at S
    (refine st_y S (Yr.ys (ys_not (Ev.t rfl))) rfl ?_; clear S a w; intro a w S)
    (refine st_y S (Yr.ys (ys_move (Ev.t rfl))) rfl ?_; clear S a w; intro a w S)
    (refine st_yt S rfl rfl (Yr.ys (ys_fieldN (FieldT.mk Try.underlying64 rfl Try.sizeOf9 rfl) (Ev.t rfl) (i' := 4) rfl)) rfl ?_; clear S a w; intro a w S)
    (refine st_yt S rfl rfl (Yr.ys (ys_ld ⟨Try.isAgg9, Try.sizeOf9⟩ (Ev.t rfl) (k := 0) rfl rfl)) rfl ?_; clear S a w; intro a w S)
    (refine st_yt S rfl rfl (ys_call Try.call49 (EvL.cons (Ev.t rfl) EvL.nil) (fun hp w W => c49 _ _)) rfl ?_; clear S a w; intro a w S)
    rw [rw_i] at S
    (refine st_yt S rfl rfl (Yr.ys (ys_not (Ev.t rfl))) rfl ?_; clear S a w; intro a w S)
    (refine st_y S (Yr.ys (ys_pickF (Ev.t rfl) (Ev.t rfl))) rfl ?_; clear S a w; intro a w S)
    (refine st_y S (Yr.ys (ys_assign (Ev.t rfl))) rfl ?_; clear S a w; intro a w S)
    refine st_nil ?_
    (refine (then_normal (hK2 _ _ ?_)); clear hK2)
    refine st_else S (Ev.t rfl) ?_
    refine wp_seq_k fun _ hK2 => ?_
    refine wp_region_lit ?_
    (refine st_y S (Yr.ys (ys_fieldN (FieldT.mk Try.underlying64 rfl Try.sizeOf3 rfl) (Ev.t rfl) (i' := 5) rfl)) rfl ?_; clear S a w; intro a w S)
    (refine st_y S (Yr.ys (ys_ld ⟨Try.isAgg3, Try.sizeOf3⟩ (Ev.t rfl) (k := 0) rfl rfl)) rfl ?_; clear S a w; intro a w S)
    (refine st_y S (ys_call Try.call50 (EvL.cons (Ev.t rfl) (EvL.cons Ev.c EvL.nil)) (fun hp w W => c50 _ _ _)) rfl ?_; clear S a w; intro a w S)
    rw [rw_q] at S
    (refine st_y S (Yr.ys (ys_not (Ev.t rfl))) rfl ?_; clear S a w; intro a w S)
    (refine st_y S (Yr.ys (ys_assign (Ev.t rfl))) rfl ?_; clear S a w; intro a w S)
    refine st_nil ?_
    (refine (then_normal (hK2 _ _ ?_)); clear hK2)
    refine st_else S (Ev.t rfl) ?_
    refine wp_seq_k fun _ hK2 => ?_
    refine wp_region_lit ?_
    (refine st_y S (Yr.ys (ys_fieldN (FieldT.mk Try.underlying64 rfl Try.sizeOf27 rfl) (Ev.t rfl) (i' := 6) rfl)) rfl ?_; clear S a w; intro a w S)
    (refine st_y S (Yr.ys (ys_ld ⟨Try.isAgg27, Try.sizeOf27⟩ (Ev.t rfl) (k := 0) rfl rfl)) rfl ?_; clear S a w; intro a w S)
    (refine st_y S (ys_call Try.call51 (EvL.cons (Ev.t rfl) EvL.nil) (fun hp w W => c51 _ _)) rfl ?_; clear S a w; intro a w S)
    rw [rw_p] at S
    (refine st_y S (Yr.ys (ys_not (Ev.t rfl))) rfl ?_; clear S a w; intro a w S)
    (refine st_y S (Yr.ys (ys_move (Ev.t rfl))) rfl ?_; clear S a w; intro a w S)
    (refine st_skip S rfl rfl rfl rfl ?_; clear S a w; intro a w S)
    (refine st_skip S rfl rfl rfl rfl ?_; clear S a w; intro a w S)
    (refine st_skip S rfl rfl rfl rfl ?_; clear S a w; intro a w S)
    (refine st_skip S rfl rfl rfl rfl ?_; clear S a w; intro a w S)
    (refine st_skip0 S rfl rfl rfl ?_; clear S a w; intro a w S)
    (refine st_skip0 S rfl rfl rfl ?_; clear S a w; intro a w S)
    (refine st_skip0 S rfl rfl rfl ?_; clear S a w; intro a w S)
    (refine st_skip S rfl rfl rfl rfl ?_; clear S a w; intro a w S)
    (refine st_y S (Yr.ys (ys_pickT (Ev.t rfl) Ev.c)) rfl ?_; clear S a w; intro a w S)
    (refine st_y S (Yr.ys (ys_assign (Ev.t rfl))) rfl ?_; clear S a w; intro a w S)
    refine st_nil ?_
    (refine (then_normal (hK2 _ _ ?_)); clear hK2)
    refine st_then S (Ev.t rfl) ?_
    refine wp_seq_k fun _ hK2 => ?_
    refine wp_region_lit ?_
    (refine st_y S (Yr.ys (ys_assign Ev.c)) rfl ?_; clear S a w; intro a w S)
    refine st_nil ?_
    (refine (then_normal (hK2 _ _ ?_)); clear hK2)
    refine wp_ret ?_
    refine (in_ret (then_ret ?_))
    refine st_ret S (results1 S Try.results22 (Rv.tmp rfl)) ?_
    exact ⟨by rw [if_pos (.inl rfl)], S.wd.below⟩
  | true =>
  by_cases hz : u.qty = 0 ∧ u.price.toNat ≠ 0
  · have rw_z : (decide (u.qty = 0) && decide ((u.price.toNat : Int) ≠ 0)) = true := by simp; omega
    refine enter1 Try.func22 rfl Try.ntmps22 rfl fun a S => ?_
    refine wp_seq_k fun _ hK1 => ?_
    refine wp_region_lit ?_
    (refine st_m (op_box S (Ev.t rfl) rfl ?_); clear S a; intro g1 a w S)
    (refine st_y S (Yr.ys (ys_assign Ev.c)) rfl ?_; clear S a w; intro a w S)
    refine st_nil ?_
    (refine (then_normal (hK1 _ _ ?_)); clear hK1)
    refine wp_seq_k fun _ hK1 => ?_
    refine wp_block ?_
    refine wp_seq_k fun _ hK2 => ?_
    refine wp_region_lit ?_
    (refine st_y S (Yr.ys (ys_fieldN (FieldT.mk Try.underlying64 rfl Try.sizeOf9 rfl) (Ev.t rfl) (i' := 0) rfl)) rfl ?_; clear S a w; intro a w S)
    (refine st_y S (Yr.ys (ys_ld ⟨Try.isAgg9, Try.sizeOf9⟩ (Ev.t rfl) (k := 0) rfl rfl)) rfl ?_; clear S a w; intro a w S)
    (refine st_y S (ys_call Try.call49 (EvL.cons (Ev.t rfl) EvL.nil) (fun hp w W => c49 _ _)) rfl ?_; clear S a w; intro a w S)
    rw [rw_k] at S
    (refine st_y S (Yr.ys (ys_not (Ev.t rfl))) rfl ?_; clear S a w; intro a w S)
    (refine st_y S (Yr.ys (ys_move (Ev.t rfl))) rfl ?_; clear S a w; intro a w S)
    (refine st_yt S rfl rfl (Yr.ys (ys_fieldN (FieldT.mk Try.underlying64 rfl Try.sizeOf9 rfl) (Ev.t rfl) (i' := 4) rfl)) rfl ?_; clear S a w; intro a w S)
    (refine st_yt S rfl rfl (Yr.ys (ys_ld ⟨Try.isAgg9, Try.sizeOf9⟩ (Ev.t rfl) (k := 0) rfl rfl)) rfl ?_; clear S a w; intro a w S)
    (refine st_yt S rfl rfl (ys_call Try.call49 (EvL.cons (Ev.t rfl) EvL.nil) (fun hp w W => c49 _ _)) rfl ?_; clear S a w; intro a w S)
    rw [rw_i] at S
    (refine st_yt S rfl rfl (Yr.ys (ys_not (Ev.t rfl))) rfl ?_; clear S a w; intro a w S)
    (refine st_y S (Yr.ys (ys_pickF (Ev.t rfl) (Ev.t rfl))) rfl ?_; clear S a w; intro a w S)
    (refine st_y S (Yr.ys (ys_assign (Ev.t rfl))) rfl ?_; clear S a w; intro a w S)
    refine st_nil ?_
    (refine (then_normal (hK2 _ _ ?_)); clear hK2)
    refine st_else S (Ev.t rfl) ?_
    refine wp_seq_k fun _ hK2 => ?_
    refine wp_region_lit ?_
    (refine st_y S (Yr.ys (ys_fieldN (FieldT.mk Try.underlying64 rfl Try.sizeOf3 rfl) (Ev.t rfl) (i' := 5) rfl)) rfl ?_; clear S a w; intro a w S)
    (refine st_y S (Yr.ys (ys_ld ⟨Try.isAgg3, Try.sizeOf3⟩ (Ev.t rfl) (k := 0) rfl rfl)) rfl ?_; clear S a w; intro a w S)
    (refine st_y S (ys_call Try.call50 (EvL.cons (Ev.t rfl) (EvL.cons Ev.c EvL.nil)) (fun hp w W => c50 _ _ _)) rfl ?_; clear S a w; intro a w S)
    rw [rw_q] at S
    (refine st_y S (Yr.ys (ys_not (Ev.t rfl))) rfl ?_; clear S a w; intro a w S)
    (refine st_y S (Yr.ys (ys_assign (Ev.t rfl))) rfl ?_; clear S a w; intro a w S)
    refine st_nil ?_
    (refine (then_normal (hK2 _ _ ?_)); clear hK2)
    refine st_else S (Ev.t rfl) ?_
    refine wp_seq_k fun _ hK2 => ?_
    refine wp_region_lit ?_
    (refine st_y S (Yr.ys (ys_fieldN (FieldT.mk Try.underlying64 rfl Try.sizeOf27 rfl) (Ev.t rfl) (i' := 6) rfl)) rfl ?_; clear S a w; intro a w S)
    (refine st_y S (Yr.ys (ys_ld ⟨Try.isAgg27, Try.sizeOf27⟩ (Ev.t rfl) (k := 0) rfl rfl)) rfl ?_; clear S a w; intro a w S)
    (refine st_y S (ys_call Try.call51 (EvL.cons (Ev.t rfl) EvL.nil) (fun hp w W => c51 _ _)) rfl ?_; clear S a w; intro a w S)
    rw [rw_p] at S
    (refine st_y S (Yr.ys (ys_not (Ev.t rfl))) rfl ?_; clear S a w; intro a w S)
    (refine st_y S (Yr.ys (ys_move (Ev.t rfl))) rfl ?_; clear S a w; intro a w S)
    (refine st_yt S rfl rfl (Yr.ys (ys_fieldN (FieldT.mk Try.underlying64 rfl Try.sizeOf3 rfl) (Ev.t rfl) (i' := 5) rfl)) rfl ?_; clear S a w; intro a w S)
    (refine st_yt S rfl rfl (Yr.ys (ys_ld ⟨Try.isAgg3, Try.sizeOf3⟩ (Ev.t rfl) (k := 0) rfl rfl)) rfl ?_; clear S a w; intro a w S)
    (refine st_yt S rfl rfl (Yr.ys (ys_T (by omega) (ys_eql (Ev.t rfl) Ev.c))) rfl ?_; clear S a w; intro a w S)
    (refine st_yt S rfl rfl (Yr.ys (ys_move (Ev.t rfl))) rfl ?_; clear S a w; intro a w S)
    (refine st_yt S rfl rfl (Yr.ys (ys_fieldN (FieldT.mk Try.underlying64 rfl Try.sizeOf27 rfl) (Ev.t rfl) (i' := 6) rfl)) rfl ?_; clear S a w; intro a w S)
    (refine st_yt S rfl rfl (Yr.ys (ys_ld ⟨Try.isAgg27, Try.sizeOf27⟩ (Ev.t rfl) (k := 0) rfl rfl)) rfl ?_; clear S a w; intro a w S)
    (refine st_yt S rfl rfl (Yr.ys (ys_T (by omega) (ys_neq (Ev.t rfl) Ev.c))) rfl ?_; clear S a w; intro a w S)
    (refine st_yt S rfl rfl (Yr.ys (ys_pickT (Ev.t rfl) (Ev.t rfl))) rfl ?_; clear S a w; intro a w S)
    (refine st_y S (Yr.ys (ys_pickF (Ev.t rfl) (Ev.t rfl))) rfl ?_; clear S a w; intro a w S)
    (refine st_y S (Yr.ys (ys_assign (Ev.t rfl))) rfl ?_; clear S a w; intro a w S)
    refine st_nil ?_
    (refine (then_normal (hK2 _ _ ?_)); clear hK2)
    refine st_then S (Ev.t rfl) ?_
    refine wp_seq_k fun _ hK2 => ?_
    refine wp_region_lit ?_
    (refine st_y S (Yr.ys (ys_assign Ev.c)) rfl ?_; clear S a w; intro a w S)
    refine st_nil ?_
    (refine (then_normal (hK2 _ _ ?_)); clear hK2)
    refine wp_ret ?_
    refine (in_ret (then_ret ?_))
    refine st_ret S (results1 S Try.results22 (Rv.tmp rfl)) ?_
    exact ⟨by rw [if_pos (.inr hz)], S.wd.below⟩
  have rw_z : (decide (u.qty = 0) && decide ((u.price.toNat : Int) ≠ 0)) = false := by
    by_cases h0 : u.qty = 0
    · have : u.price.toNat = 0 := Decidable.byContradiction fun h => hz ⟨h0, h⟩
      simp [this]
    · simp [h0]
  rw [if_neg (by rintro (h | h); cases h; exact hz h)]
  by_cases he : canE u.seen = 0
  rotate_left
  · refine enter1 Try.func22 rfl Try.ntmps22 rfl fun a S => ?_
    refine wp_seq_k fun _ hK1 => ?_
    refine wp_region_lit ?_
    (refine st_m (op_box S (Ev.t rfl) rfl ?_); clear S a; intro g1 a w S)
    (refine st_y S (Yr.ys (ys_assign Ev.c)) rfl ?_; clear S a w; intro a w S)
    refine st_nil ?_
    (refine (then_normal (hK1 _ _ ?_)); clear hK1)
    refine wp_seq_k fun _ hK1 => ?_
    refine wp_block ?_
    refine wp_seq_k fun _ hK2 => ?_
    refine wp_region_lit ?_
    (refine st_y S (Yr.ys (ys_fieldN (FieldT.mk Try.underlying64 rfl Try.sizeOf9 rfl) (Ev.t rfl) (i' := 0) rfl)) rfl ?_; clear S a w; intro a w S)
    (refine st_y S (Yr.ys (ys_ld ⟨Try.isAgg9, Try.sizeOf9⟩ (Ev.t rfl) (k := 0) rfl rfl)) rfl ?_; clear S a w; intro a w S)
    (refine st_y S (ys_call Try.call49 (EvL.cons (Ev.t rfl) EvL.nil) (fun hp w W => c49 _ _)) rfl ?_; clear S a w; intro a w S)
    rw [rw_k] at S
    (refine st_y S (Yr.ys (ys_not (Ev.t rfl))) rfl ?_; clear S a w; intro a w S)
    (refine st_y S (Yr.ys (ys_move (Ev.t rfl))) rfl ?_; clear S a w; intro a w S)
    (refine st_yt S rfl rfl (Yr.ys (ys_fieldN (FieldT.mk Try.underlying64 rfl Try.sizeOf9 rfl) (Ev.t rfl) (i' := 4) rfl)) rfl ?_; clear S a w; intro a w S)
    (refine st_yt S rfl rfl (Yr.ys (ys_ld ⟨Try.isAgg9, Try.sizeOf9⟩ (Ev.t rfl) (k := 0) rfl rfl)) rfl ?_; clear S a w; intro a w S)
    (refine st_yt S rfl rfl (ys_call Try.call49 (EvL.cons (Ev.t rfl) EvL.nil) (fun hp w W => c49 _ _)) rfl ?_; clear S a w; intro a w S)
    rw [rw_i] at S
    (refine st_yt S rfl rfl (Yr.ys (ys_not (Ev.t rfl))) rfl ?_; clear S a w; intro a w S)
    (refine st_y S (Yr.ys (ys_pickF (Ev.t rfl) (Ev.t rfl))) rfl ?_; clear S a w; intro a w S)
    (refine st_y S (Yr.ys (ys_assign (Ev.t rfl))) rfl ?_; clear S a w; intro a w S)
    refine st_nil ?_
    (refine (then_normal (hK2 _ _ ?_)); clear hK2)
    refine st_else S (Ev.t rfl) ?_
    refine wp_seq_k fun _ hK2 => ?_
    refine wp_region_lit ?_
    (refine st_y S (Yr.ys (ys_fieldN (FieldT.mk Try.underlying64 rfl Try.sizeOf3 rfl) (Ev.t rfl) (i' := 5) rfl)) rfl ?_; clear S a w; intro a w S)
    (refine st_y S (Yr.ys (ys_ld ⟨Try.isAgg3, Try.sizeOf3⟩ (Ev.t rfl) (k := 0) rfl rfl)) rfl ?_; clear S a w; intro a w S)
    (refine st_y S (ys_call Try.call50 (EvL.cons (Ev.t rfl) (EvL.cons Ev.c EvL.nil)) (fun hp w W => c50 _ _ _)) rfl ?_; clear S a w; intro a w S)
    rw [rw_q] at S
    (refine st_y S (Yr.ys (ys_not (Ev.t rfl))) rfl ?_; clear S a w; intro a w S)
    (refine st_y S (Yr.ys (ys_assign (Ev.t rfl))) rfl ?_; clear S a w; intro a w S)
    refine st_nil ?_
    (refine (then_normal (hK2 _ _ ?_)); clear hK2)
    refine st_else S (Ev.t rfl) ?_
    refine wp_seq_k fun _ hK2 => ?_
    refine wp_region_lit ?_
    (refine st_y S (Yr.ys (ys_fieldN (FieldT.mk Try.underlying64 rfl Try.sizeOf27 rfl) (Ev.t rfl) (i' := 6) rfl)) rfl ?_; clear S a w; intro a w S)
    (refine st_y S (Yr.ys (ys_ld ⟨Try.isAgg27, Try.sizeOf27⟩ (Ev.t rfl) (k := 0) rfl rfl)) rfl ?_; clear S a w; intro a w S)
    (refine st_y S (ys_call Try.call51 (EvL.cons (Ev.t rfl) EvL.nil) (fun hp w W => c51 _ _)) rfl ?_; clear S a w; intro a w S)
    rw [rw_p] at S
    (refine st_y S (Yr.ys (ys_not (Ev.t rfl))) rfl ?_; clear S a w; intro a w S)
    (refine st_y S (Yr.ys (ys_move (Ev.t rfl))) rfl ?_; clear S a w; intro a w S)
    (refine st_yt S rfl rfl (Yr.ys (ys_fieldN (FieldT.mk Try.underlying64 rfl Try.sizeOf3 rfl) (Ev.t rfl) (i' := 5) rfl)) rfl ?_; clear S a w; intro a w S)
    (refine st_yt S rfl rfl (Yr.ys (ys_ld ⟨Try.isAgg3, Try.sizeOf3⟩ (Ev.t rfl) (k := 0) rfl rfl)) rfl ?_; clear S a w; intro a w S)
    (refine st_yt S rfl rfl (Yr.ys (ys_eql (Ev.t rfl) Ev.c)) rfl ?_; clear S a w; intro a w S)
    (refine st_yt S rfl rfl (Yr.ys (ys_move (Ev.t rfl))) rfl ?_; clear S a w; intro a w S)
    (refine st_yg S rfl rfl (Yr.ys (ys_fieldN (FieldT.mk Try.underlying64 rfl Try.sizeOf27 rfl) (Ev.t rfl) (i' := 6) rfl)) rfl ?_; clear S a w; intro a w S)
    (refine st_yg S rfl rfl (Yr.ys (ys_ld ⟨Try.isAgg27, Try.sizeOf27⟩ (Ev.g rfl) (k := 0) rfl rfl)) rfl ?_; clear S a w; intro a w S)
    (refine st_yg S rfl rfl (Yr.ys (ys_neq (Ev.g rfl) Ev.c)) rfl ?_; clear S a w; intro a w S)
    (refine st_yt S rfl rfl (Yr.ys (ys_and2 (Ev.t rfl) (Ev.g rfl) Ev.c)) rfl ?_; clear S a w; intro a w S)
    rw [rw_z] at S
    (refine st_y S (Yr.ys (ys_pickF (Ev.t rfl) (Ev.t rfl))) rfl ?_; clear S a w; intro a w S)
    (refine st_y S (Yr.ys (ys_assign (Ev.t rfl))) rfl ?_; clear S a w; intro a w S)
    refine st_nil ?_
    (refine (then_normal (hK2 _ _ ?_)); clear hK2)
    refine st_else S (Ev.t rfl) ?_
    refine wp_skip ?_
    (refine (in_normal (then_normal (hK1 _ _ ?_))); clear hK1)
    refine wp_seq_k fun _ hK1 => ?_
    refine wp_seq_k fun _ hK2 => ?_
    refine wp_region_lit ?_
    (refine st_y S (Yr.ys (ys_fieldN (FieldT.mk Try.underlying64 rfl Try.sizeOf40 rfl) (Ev.t rfl) (i' := 7) rfl)) rfl ?_; clear S a w; intro a w S)
    (refine st_y S (Yr.ys (ys_ldA ⟨Try.isAgg40, Try.sizeOf40⟩ (Ev.t rfl) (k := 0) rfl rfl)) rfl ?_; clear S a w; intro a w S)
    (refine st_y S (ys_call Try.call20 (EvL.cons (Ev.t rfl) EvL.nil) (fun hp w W => c20 _ _ _ _ _ (by exact .old W (by assumption)) (by exact .old W (by assumption)))) rfl ?_; clear S a w; intro a w S)
    (refine st_y S (Yr.ys (ys_assign (Ev.t rfl))) rfl ?_; clear S a w; intro a w S)
    refine st_nil ?_
    (refine (then_normal (hK2 _ _ ?_)); clear hK2)
    refine wp_seq_k fun _ hK2 => ?_
    refine wp_region_lit ?_
    (refine st_y S (Yr.ys (ys_move (Ev.t rfl))) rfl ?_; clear S a w; intro a w S)
    (refine st_y S (Yr.ys (ys_T (by omega) (ys_neq (Ev.t rfl) Ev.c))) rfl ?_; clear S a w; intro a w S)
    refine st_nil ?_
    (refine (then_normal (hK2 _ _ ?_)); clear hK2)
    refine st_then S (Ev.t rfl) ?_
    refine wp_seq_k fun _ hK2 => ?_
    refine wp_region_lit ?_
    (refine st_y S (Yr.ys (ys_move (Ev.t rfl))) rfl ?_; clear S a w; intro a w S)
    (refine st_y S (Yr.ys (ys_assign (Ev.t rfl))) rfl ?_; clear S a w; intro a w S)
    refine st_nil ?_
    (refine (then_normal (hK2 _ _ ?_)); clear hK2)
    refine wp_ret ?_
    refine (then_ret ?_)
    refine st_ret S (results1 S Try.results22 (Rv.tmp rfl)) ?_
    exact ⟨by rw [if_neg he], S.wd.below⟩
  have rw_e := he
  rw [if_pos he]
  have rw_cov := can_covers (can_ctx he)
  cases hd : mayD u.dot with
  | false =>
    have rw_d : mayD ⟨u.dot.node, u.dot.life, u.dot.count⟩ = false := hd
    refine enter1 Try.func22 rfl Try.ntmps22 rfl fun a S => ?_
    refine wp_seq_k fun _ hK1 => ?_
    refine wp_region_lit ?_
    (refine st_m (op_box S (Ev.t rfl) rfl ?_); clear S a; intro g1 a w S)
    (refine st_y S (Yr.ys (ys_assign Ev.c)) rfl ?_; clear S a w; intro a w S)
    refine st_nil ?_
    (refine (then_normal (hK1 _ _ ?_)); clear hK1)
    refine wp_seq_k fun _ hK1 => ?_
    refine wp_block ?_
    refine wp_seq_k fun _ hK2 => ?_
    refine wp_region_lit ?_
    (refine st_y S (Yr.ys (ys_fieldN (FieldT.mk Try.underlying64 rfl Try.sizeOf9 rfl) (Ev.t rfl) (i' := 0) rfl)) rfl ?_; clear S a w; intro a w S)
    (refine st_y S (Yr.ys (ys_ld ⟨Try.isAgg9, Try.sizeOf9⟩ (Ev.t rfl) (k := 0) rfl rfl)) rfl ?_; clear S a w; intro a w S)
    (refine st_y S (ys_call Try.call49 (EvL.cons (Ev.t rfl) EvL.nil) (fun hp w W => c49 _ _)) rfl ?_; clear S a w; intro a w S)
    rw [rw_k] at S
    (refine st_y S (Yr.ys (ys_not (Ev.t rfl))) rfl ?_; clear S a w; intro a w S)
    (refine st_y S (Yr.ys (ys_move (Ev.t rfl))) rfl ?_; clear S a w; intro a w S)
    (refine st_yt S rfl rfl (Yr.ys (ys_fieldN (FieldT.mk Try.underlying64 rfl Try.sizeOf9 rfl) (Ev.t rfl) (i' := 4) rfl)) rfl ?_; clear S a w; intro a w S)
    (refine st_yt S rfl rfl (Yr.ys (ys_ld ⟨Try.isAgg9, Try.sizeOf9⟩ (Ev.t rfl) (k := 0) rfl rfl)) rfl ?_; clear S a w; intro a w S)
    (refine st_yt S rfl rfl (ys_call Try.call49 (EvL.cons (Ev.t rfl) EvL.nil) (fun hp w W => c49 _ _)) rfl ?_; clear S a w; intro a w S)
    rw [rw_i] at S
    (refine st_yt S rfl rfl (Yr.ys (ys_not (Ev.t rfl))) rfl ?_; clear S a w; intro a w S)
    (refine st_y S (Yr.ys (ys_pickF (Ev.t rfl) (Ev.t rfl))) rfl ?_; clear S a w; intro a w S)
    (refine st_y S (Yr.ys (ys_assign (Ev.t rfl))) rfl ?_; clear S a w; intro a w S)
    refine st_nil ?_
    (refine (then_normal (hK2 _ _ ?_)); clear hK2)
    refine st_else S (Ev.t rfl) ?_
    refine wp_seq_k fun _ hK2 => ?_
    refine wp_region_lit ?_
    (refine st_y S (Yr.ys (ys_fieldN (FieldT.mk Try.underlying64 rfl Try.sizeOf3 rfl) (Ev.t rfl) (i' := 5) rfl)) rfl ?_; clear S a w; intro a w S)
    (refine st_y S (Yr.ys (ys_ld ⟨Try.isAgg3, Try.sizeOf3⟩ (Ev.t rfl) (k := 0) rfl rfl)) rfl ?_; clear S a w; intro a w S)
    (refine st_y S (ys_call Try.call50 (EvL.cons (Ev.t rfl) (EvL.cons Ev.c EvL.nil)) (fun hp w W => c50 _ _ _)) rfl ?_; clear S a w; intro a w S)
    rw [rw_q] at S
    (refine st_y S (Yr.ys (ys_not (Ev.t rfl))) rfl ?_; clear S a w; intro a w S)
    (refine st_y S (Yr.ys (ys_assign (Ev.t rfl))) rfl ?_; clear S a w; intro a w S)
    refine st_nil ?_
    (refine (then_normal (hK2 _ _ ?_)); clear hK2)
    refine st_else S (Ev.t rfl) ?_
    refine wp_seq_k fun _ hK2 => ?_
    refine wp_region_lit ?_
    (refine st_y S (Yr.ys (ys_fieldN (FieldT.mk Try.underlying64 rfl Try.sizeOf27 rfl) (Ev.t rfl) (i' := 6) rfl)) rfl ?_; clear S a w; intro a w S)
    (refine st_y S (Yr.ys (ys_ld ⟨Try.isAgg27, Try.sizeOf27⟩ (Ev.t rfl) (k := 0) rfl rfl)) rfl ?_; clear S a w; intro a w S)
    (refine st_y S (ys_call Try.call51 (EvL.cons (Ev.t rfl) EvL.nil) (fun hp w W => c51 _ _)) rfl ?_; clear S a w; intro a w S)
    rw [rw_p] at S
    (refine st_y S (Yr.ys (ys_not (Ev.t rfl))) rfl ?_; clear S a w; intro a w S)
    (refine st_y S (Yr.ys (ys_move (Ev.t rfl))) rfl ?_; clear S a w; intro a w S)
    (refine st_yt S rfl rfl (Yr.ys (ys_fieldN (FieldT.mk Try.underlying64 rfl Try.sizeOf3 rfl) (Ev.t rfl) (i' := 5) rfl)) rfl ?_; clear S a w; intro a w S)
    (refine st_yt S rfl rfl (Yr.ys (ys_ld ⟨Try.isAgg3, Try.sizeOf3⟩ (Ev.t rfl) (k := 0) rfl rfl)) rfl ?_; clear S a w; intro a w S)
    (refine st_yt S rfl rfl (Yr.ys (ys_eql (Ev.t rfl) Ev.c)) rfl ?_; clear S a w; intro a w S)
    (refine st_yt S rfl rfl (Yr.ys (ys_move (Ev.t rfl))) rfl ?_; clear S a w; intro a w S)
    (refine st_yg S rfl rfl (Yr.ys (ys_fieldN (FieldT.mk Try.underlying64 rfl Try.sizeOf27 rfl) (Ev.t rfl) (i' := 6) rfl)) rfl ?_; clear S a w; intro a w S)
    (refine st_yg S rfl rfl (Yr.ys (ys_ld ⟨Try.isAgg27, Try.sizeOf27⟩ (Ev.g rfl) (k := 0) rfl rfl)) rfl ?_; clear S a w; intro a w S)
    (refine st_yg S rfl rfl (Yr.ys (ys_neq (Ev.g rfl) Ev.c)) rfl ?_; clear S a w; intro a w S)
    (refine st_yt S rfl rfl (Yr.ys (ys_and2 (Ev.t rfl) (Ev.g rfl) Ev.c)) rfl ?_; clear S a w; intro a w S)
    rw [rw_z] at S
    (refine st_y S (Yr.ys (ys_pickF (Ev.t rfl) (Ev.t rfl))) rfl ?_; clear S a w; intro a w S)
    (refine st_y S (Yr.ys (ys_assign (Ev.t rfl))) rfl ?_; clear S a w; intro a w S)
    refine st_nil ?_
    (refine (then_normal (hK2 _ _ ?_)); clear hK2)
    refine st_else S (Ev.t rfl) ?_
    refine wp_skip ?_
    (refine (in_normal (then_normal (hK1 _ _ ?_))); clear hK1)
    refine wp_seq_k fun _ hK1 => ?_
    refine wp_seq_k fun _ hK2 => ?_
    refine wp_region_lit ?_
    (refine st_y S (Yr.ys (ys_fieldN (FieldT.mk Try.underlying64 rfl Try.sizeOf40 rfl) (Ev.t rfl) (i' := 7) rfl)) rfl ?_; clear S a w; intro a w S)
    (refine st_y S (Yr.ys (ys_ldA ⟨Try.isAgg40, Try.sizeOf40⟩ (Ev.t rfl) (k := 0) rfl rfl)) rfl ?_; clear S a w; intro a w S)
    (refine st_y S (ys_call Try.call20 (EvL.cons (Ev.t rfl) EvL.nil) (fun hp w W => c20 _ _ _ _ _ (by exact .old W (by assumption)) (by exact .old W (by assumption)))) rfl ?_; clear S a w; intro a w S)
    rw [rw_e] at S
    (refine st_y S (Yr.ys (ys_assign (Ev.t rfl))) rfl ?_; clear S a w; intro a w S)
    refine st_nil ?_
    (refine (then_normal (hK2 _ _ ?_)); clear hK2)
    refine wp_seq_k fun _ hK2 => ?_
    refine wp_region_lit ?_
    (refine st_y S (Yr.ys (ys_move (Ev.t rfl))) rfl ?_; clear S a w; intro a w S)
    (refine st_y S (Yr.ys (ys_F (by omega) (ys_neq (Ev.t rfl) Ev.c))) rfl ?_; clear S a w; intro a w S)
    refine st_nil ?_
    (refine (then_normal (hK2 _ _ ?_)); clear hK2)
    refine st_else S (Ev.t rfl) ?_
    refine wp_skip ?_
    (refine (then_normal (hK1 _ _ ?_)); clear hK1)
    refine wp_seq_k fun _ hK1 => ?_
    refine wp_seq_k fun _ hK2 => ?_
    refine wp_region_lit ?_
    (refine st_y S (Yr.ys (ys_fieldN (FieldT.mk Try.underlying64 rfl Try.sizeOf62 rfl) (Ev.t rfl) (i' := 1) rfl)) rfl ?_; clear S a w; intro a w S)
    (refine st_y S (Yr.ys (ys_ldA ⟨Try.isAgg62, Try.sizeOf62⟩ (Ev.t rfl) (k := 0) rfl rfl)) rfl ?_; clear S a w; intro a w S)
    (refine st_y S (ys_call Try.call59 (EvL.cons (Ev.t rfl) EvL.nil) (fun hp w W => c59 _ _ _ _)) rfl ?_; clear S a w; intro a w S)
    rw [rw_d] at S
    (refine st_y S (Yr.ys (ys_not (Ev.t rfl))) rfl ?_; clear S a w; intro a w S)
    (refine st_y S (Yr.ys (ys_move (Ev.t rfl))) rfl ?_; clear S a w; intro a w S)
    (refine st_skip S rfl rfl rfl rfl ?_; clear S a w; intro a w S)
    (refine st_skip S rfl rfl rfl rfl ?_; clear S a w; intro a w S)
    (refine st_skip S rfl rfl rfl rfl ?_; clear S a w; intro a w S)
    (refine st_skip S rfl rfl rfl rfl ?_; clear S a w; intro a w S)
    (refine st_skip S rfl rfl rfl rfl ?_; clear S a w; intro a w S)
    (refine st_skip S rfl rfl rfl rfl ?_; clear S a w; intro a w S)
    (refine st_y S (Yr.ys (ys_pickT (Ev.t rfl) Ev.c)) rfl ?_; clear S a w; intro a w S)
    refine st_nil ?_
    (refine (then_normal (hK2 _ _ ?_)); clear hK2)
    refine st_then S (Ev.t rfl) ?_
    refine wp_seq_k fun _ hK2 => ?_
    refine wp_region_lit ?_
    (refine st_y S (Yr.ys (ys_assign Ev.c)) rfl ?_; clear S a w; intro a w S)
    refine st_nil ?_
    (refine (then_normal (hK2 _ _ ?_)); clear hK2)
    refine wp_ret ?_
    refine (then_ret ?_)
    refine st_ret S (results1 S Try.results22 (Rv.tmp rfl)) ?_
    exact ⟨by rw [if_pos (.inl rfl)], S.wd.below⟩
  | true =>
    have rw_d : mayD ⟨u.dot.node, u.dot.life, u.dot.count⟩ = true := hd
    cases hc : u.seen.ctx.covers u.dot with
    | true =>
      have rw_c : u.seen.ctx.covers ⟨u.dot.node, u.dot.life, u.dot.count⟩ = true := hc
      refine enter1 Try.func22 rfl Try.ntmps22 rfl fun a S => ?_
      refine wp_seq_k fun _ hK1 => ?_
      refine wp_region_lit ?_
      (refine st_m (op_box S (Ev.t rfl) rfl ?_); clear S a; intro g1 a w S)
      (refine st_y S (Yr.ys (ys_assign Ev.c)) rfl ?_; clear S a w; intro a w S)
      refine st_nil ?_
      (refine (then_normal (hK1 _ _ ?_)); clear hK1)
      refine wp_seq_k fun _ hK1 => ?_
      refine wp_block ?_
      refine wp_seq_k fun _ hK2 => ?_
      refine wp_region_lit ?_
      (refine st_y S (Yr.ys (ys_fieldN (FieldT.mk Try.underlying64 rfl Try.sizeOf9 rfl) (Ev.t rfl) (i' := 0) rfl)) rfl ?_; clear S a w; intro a w S)
      (refine st_y S (Yr.ys (ys_ld ⟨Try.isAgg9, Try.sizeOf9⟩ (Ev.t rfl) (k := 0) rfl rfl)) rfl ?_; clear S a w; intro a w S)
      (refine st_y S (ys_call Try.call49 (EvL.cons (Ev.t rfl) EvL.nil) (fun hp w W => c49 _ _)) rfl ?_; clear S a w; intro a w S)
      rw [rw_k] at S
      (refine st_y S (Yr.ys (ys_not (Ev.t rfl))) rfl ?_; clear S a w; intro a w S)
      (refine st_y S (Yr.ys (ys_move (Ev.t rfl))) rfl ?_; clear S a w; intro a w S)
      (refine st_yt S rfl rfl (Yr.ys (ys_fieldN (FieldT.mk Try.underlying64 rfl Try.sizeOf9 rfl) (Ev.t rfl) (i' := 4) rfl)) rfl ?_; clear S a w; intro a w S)
      (refine st_yt S rfl rfl (Yr.ys (ys_ld ⟨Try.isAgg9, Try.sizeOf9⟩ (Ev.t rfl) (k := 0) rfl rfl)) rfl ?_; clear S a w; intro a w S)
      (refine st_yt S rfl rfl (ys_call Try.call49 (EvL.cons (Ev.t rfl) EvL.nil) (fun hp w W => c49 _ _)) rfl ?_; clear S a w; intro a w S)
      rw [rw_i] at S
      (refine st_yt S rfl rfl (Yr.ys (ys_not (Ev.t rfl))) rfl ?_; clear S a w; intro a w S)
      (refine st_y S (Yr.ys (ys_pickF (Ev.t rfl) (Ev.t rfl))) rfl ?_; clear S a w; intro a w S)
      (refine st_y S (Yr.ys (ys_assign (Ev.t rfl))) rfl ?_; clear S a w; intro a w S)
      refine st_nil ?_
      (refine (then_normal (hK2 _ _ ?_)); clear hK2)
      refine st_else S (Ev.t rfl) ?_
      refine wp_seq_k fun _ hK2 => ?_
      refine wp_region_lit ?_
      (refine st_y S (Yr.ys (ys_fieldN (FieldT.mk Try.underlying64 rfl Try.sizeOf3 rfl) (Ev.t rfl) (i' := 5) rfl)) rfl ?_; clear S a w; intro a w S)
      (refine st_y S (Yr.ys (ys_ld ⟨Try.isAgg3, Try.sizeOf3⟩ (Ev.t rfl) (k := 0) rfl rfl)) rfl ?_; clear S a w; intro a w S)
      (refine st_y S (ys_call Try.call50 (EvL.cons (Ev.t rfl) (EvL.cons Ev.c EvL.nil)) (fun hp w W => c50 _ _ _)) rfl ?_; clear S a w; intro a w S)
      rw [rw_q] at S
      (refine st_y S (Yr.ys (ys_not (Ev.t rfl))) rfl ?_; clear S a w; intro a w S)
      (refine st_y S (Yr.ys (ys_assign (Ev.t rfl))) rfl ?_; clear S a w; intro a w S)
      refine st_nil ?_
      (refine (then_normal (hK2 _ _ ?_)); clear hK2)
      refine st_else S (Ev.t rfl) ?_
      refine wp_seq_k fun _ hK2 => ?_
      refine wp_region_lit ?_
      (refine st_y S (Yr.ys (ys_fieldN (FieldT.mk Try.underlying64 rfl Try.sizeOf27 rfl) (Ev.t rfl) (i' := 6) rfl)) rfl ?_; clear S a w; intro a w S)
      (refine st_y S (Yr.ys (ys_ld ⟨Try.isAgg27, Try.sizeOf27⟩ (Ev.t rfl) (k := 0) rfl rfl)) rfl ?_; clear S a w; intro a w S)
      (refine st_y S (ys_call Try.call51 (EvL.cons (Ev.t rfl) EvL.nil) (fun hp w W => c51 _ _)) rfl ?_; clear S a w; intro a w S)
      rw [rw_p] at S
      (refine st_y S (Yr.ys (ys_not (Ev.t rfl))) rfl ?_; clear S a w; intro a w S)
      (refine st_y S (Yr.ys (ys_move (Ev.t rfl))) rfl ?_; clear S a w; intro a w S)
      (refine st_yt S rfl rfl (Yr.ys (ys_fieldN (FieldT.mk Try.underlying64 rfl Try.sizeOf3 rfl) (Ev.t rfl) (i' := 5) rfl)) rfl ?_; clear S a w; intro a w S)
      (refine st_yt S rfl rfl (Yr.ys (ys_ld ⟨Try.isAgg3, Try.sizeOf3⟩ (Ev.t rfl) (k := 0) rfl rfl)) rfl ?_; clear S a w; intro a w S)
      (refine st_yt S rfl rfl (Yr.ys (ys_eql (Ev.t rfl) Ev.c)) rfl ?_; clear S a w; intro a w S)
      (refine st_yt S rfl rfl (Yr.ys (ys_move (Ev.t rfl))) rfl ?_; clear S a w; intro a w S)
      (refine st_yg S rfl rfl (Yr.ys (ys_fieldN (FieldT.mk Try.underlying64 rfl Try.sizeOf27 rfl) (Ev.t rfl) (i' := 6) rfl)) rfl ?_; clear S a w; intro a w S)
      (refine st_yg S rfl rfl (Yr.ys (ys_ld ⟨Try.isAgg27, Try.sizeOf27⟩ (Ev.g rfl) (k := 0) rfl rfl)) rfl ?_; clear S a w; intro a w S)
      (refine st_yg S rfl rfl (Yr.ys (ys_neq (Ev.g rfl) Ev.c)) rfl ?_; clear S a w; intro a w S)
      (refine st_yt S rfl rfl (Yr.ys (ys_and2 (Ev.t rfl) (Ev.g rfl) Ev.c)) rfl ?_; clear S a w; intro a w S)
      rw [rw_z] at S
      (refine st_y S (Yr.ys (ys_pickF (Ev.t rfl) (Ev.t rfl))) rfl ?_; clear S a w; intro a w S)
      (refine st_y S (Yr.ys (ys_assign (Ev.t rfl))) rfl ?_; clear S a w; intro a w S)
      refine st_nil ?_
      (refine (then_normal (hK2 _ _ ?_)); clear hK2)
      refine st_else S (Ev.t rfl) ?_
      refine wp_skip ?_
      (refine (in_normal (then_normal (hK1 _ _ ?_))); clear hK1)
      refine wp_seq_k fun _ hK1 => ?_
      refine wp_seq_k fun _ hK2 => ?_
      refine wp_region_lit ?_
      (refine st_y S (Yr.ys (ys_fieldN (FieldT.mk Try.underlying64 rfl Try.sizeOf40 rfl) (Ev.t rfl) (i' := 7) rfl)) rfl ?_; clear S a w; intro a w S)
      (refine st_y S (Yr.ys (ys_ldA ⟨Try.isAgg40, Try.sizeOf40⟩ (Ev.t rfl) (k := 0) rfl rfl)) rfl ?_; clear S a w; intro a w S)
      (refine st_y S (ys_call Try.call20 (EvL.cons (Ev.t rfl) EvL.nil) (fun hp w W => c20 _ _ _ _ _ (by exact .old W (by assumption)) (by exact .old W (by assumption)))) rfl ?_; clear S a w; intro a w S)
      rw [rw_e] at S
      (refine st_y S (Yr.ys (ys_assign (Ev.t rfl))) rfl ?_; clear S a w; intro a w S)
      refine st_nil ?_
      (refine (then_normal (hK2 _ _ ?_)); clear hK2)
      refine wp_seq_k fun _ hK2 => ?_
      refine wp_region_lit ?_
      (refine st_y S (Yr.ys (ys_move (Ev.t rfl))) rfl ?_; clear S a w; intro a w S)
      (refine st_y S (Yr.ys (ys_F (by omega) (ys_neq (Ev.t rfl) Ev.c))) rfl ?_; clear S a w; intro a w S)
      refine st_nil ?_
      (refine (then_normal (hK2 _ _ ?_)); clear hK2)
      refine st_else S (Ev.t rfl) ?_
      refine wp_skip ?_
      (refine (then_normal (hK1 _ _ ?_)); clear hK1)
      refine wp_seq_k fun _ hK1 => ?_
      refine wp_seq_k fun _ hK2 => ?_
      refine wp_region_lit ?_
      (refine st_y S (Yr.ys (ys_fieldN (FieldT.mk Try.underlying64 rfl Try.sizeOf62 rfl) (Ev.t rfl) (i' := 1) rfl)) rfl ?_; clear S a w; intro a w S)
      (refine st_y S (Yr.ys (ys_ldA ⟨Try.isAgg62, Try.sizeOf62⟩ (Ev.t rfl) (k := 0) rfl rfl)) rfl ?_; clear S a w; intro a w S)
      (refine st_y S (ys_call Try.call59 (EvL.cons (Ev.t rfl) EvL.nil) (fun hp w W => c59 _ _ _ _)) rfl ?_; clear S a w; intro a w S)
      rw [rw_d] at S
      (refine st_y S (Yr.ys (ys_not (Ev.t rfl))) rfl ?_; clear S a w; intro a w S)
      (refine st_y S (Yr.ys (ys_move (Ev.t rfl))) rfl ?_; clear S a w; intro a w S)
      (refine st_yt S rfl rfl (Yr.ys (ys_fieldN (FieldT.mk Try.underlying64 rfl Try.sizeOf40 rfl) (Ev.t rfl) (i' := 7) rfl)) rfl ?_; clear S a w; intro a w S)
      (refine st_yt S rfl rfl (Yr.ys (ys_fieldN (FieldT.mk Try.underlying40 rfl Try.sizeOf38 rfl) (Ev.t rfl) (i' := 8) rfl)) rfl ?_; clear S a w; intro a w S)
      (refine st_yt S rfl rfl (Yr.ys (ys_ldA ⟨Try.isAgg38, Try.sizeOf38⟩ (Ev.t rfl) (k := 0) rfl rfl)) rfl ?_; clear S a w; intro a w S)
      (refine st_yt S rfl rfl (Yr.ys (ys_fieldN (FieldT.mk Try.underlying64 rfl Try.sizeOf62 rfl) (Ev.t rfl) (i' := 1) rfl)) rfl ?_; clear S a w; intro a w S)
      (refine st_yt S rfl rfl (Yr.ys (ys_ldA ⟨Try.isAgg62, Try.sizeOf62⟩ (Ev.t rfl) (k := 0) rfl rfl)) rfl ?_; clear S a w; intro a w S)
      (refine st_yt S rfl rfl (ys_call Try.call52 (EvL.cons (Ev.t rfl) (EvL.cons (Ev.t rfl) EvL.nil)) (fun hp w W => c52 _ _ _ _ _ _ _ (by exact .old W (by assumption)))) rfl ?_; clear S a w; intro a w S)
      rw [rw_cov] at S
      rw [rw_c] at S
      (refine st_y S (Yr.ys (ys_pickF (Ev.t rfl) (Ev.t rfl))) rfl ?_; clear S a w; intro a w S)
      refine st_nil ?_
      (refine (then_normal (hK2 _ _ ?_)); clear hK2)
      refine st_then S (Ev.t rfl) ?_
      refine wp_seq_k fun _ hK2 => ?_
      refine wp_region_lit ?_
      (refine st_y S (Yr.ys (ys_assign Ev.c)) rfl ?_; clear S a w; intro a w S)
      refine st_nil ?_
      (refine (then_normal (hK2 _ _ ?_)); clear hK2)
      refine wp_ret ?_
      refine (then_ret ?_)
      refine st_ret S (results1 S Try.results22 (Rv.tmp rfl)) ?_
      exact ⟨by rw [if_pos (.inr rfl)], S.wd.below⟩
    | false =>
      have rw_c : u.seen.ctx.covers ⟨u.dot.node, u.dot.life, u.dot.count⟩ = false := hc
      refine enter1 Try.func22 rfl Try.ntmps22 rfl fun a S => ?_
      refine wp_seq_k fun _ hK1 => ?_
      refine wp_region_lit ?_
      (refine st_m (op_box S (Ev.t rfl) rfl ?_); clear S a; intro g1 a w S)
      (refine st_y S (Yr.ys (ys_assign Ev.c)) rfl ?_; clear S a w; intro a w S)
      refine st_nil ?_
      (refine (then_normal (hK1 _ _ ?_)); clear hK1)
      refine wp_seq_k fun _ hK1 => ?_
      refine wp_block ?_
      refine wp_seq_k fun _ hK2 => ?_
      refine wp_region_lit ?_
      (refine st_y S (Yr.ys (ys_fieldN (FieldT.mk Try.underlying64 rfl Try.sizeOf9 rfl) (Ev.t rfl) (i' := 0) rfl)) rfl ?_; clear S a w; intro a w S)
      (refine st_y S (Yr.ys (ys_ld ⟨Try.isAgg9, Try.sizeOf9⟩ (Ev.t rfl) (k := 0) rfl rfl)) rfl ?_; clear S a w; intro a w S)
      (refine st_y S (ys_call Try.call49 (EvL.cons (Ev.t rfl) EvL.nil) (fun hp w W => c49 _ _)) rfl ?_; clear S a w; intro a w S)
      rw [rw_k] at S
      (refine st_y S (Yr.ys (ys_not (Ev.t rfl))) rfl ?_; clear S a w; intro a w S)
      (refine st_y S (Yr.ys (ys_move (Ev.t rfl))) rfl ?_; clear S a w; intro a w S)
      (refine st_yt S rfl rfl (Yr.ys (ys_fieldN (FieldT.mk Try.underlying64 rfl Try.sizeOf9 rfl) (Ev.t rfl) (i' := 4) rfl)) rfl ?_; clear S a w; intro a w S)
      (refine st_yt S rfl rfl (Yr.ys (ys_ld ⟨Try.isAgg9, Try.sizeOf9⟩ (Ev.t rfl) (k := 0) rfl rfl)) rfl ?_; clear S a w; intro a w S)
      (refine st_yt S rfl rfl (ys_call Try.call49 (EvL.cons (Ev.t rfl) EvL.nil) (fun hp w W => c49 _ _)) rfl ?_; clear S a w; intro a w S)
      rw [rw_i] at S
      (refine st_yt S rfl rfl (Yr.ys (ys_not (Ev.t rfl))) rfl ?_; clear S a w; intro a w S)
      (refine st_y S (Yr.ys (ys_pickF (Ev.t rfl) (Ev.t rfl))) rfl ?_; clear S a w; intro a w S)
      (refine st_y S (Yr.ys (ys_assign (Ev.t rfl))) rfl ?_; clear S a w; intro a w S)
      refine st_nil ?_
      (refine (then_normal (hK2 _ _ ?_)); clear hK2)
      refine st_else S (Ev.t rfl) ?_
      refine wp_seq_k fun _ hK2 => ?_
      refine wp_region_lit ?_
      (refine st_y S (Yr.ys (ys_fieldN (FieldT.mk Try.underlying64 rfl Try.sizeOf3 rfl) (Ev.t rfl) (i' := 5) rfl)) rfl ?_; clear S a w; intro a w S)
      (refine st_y S (Yr.ys (ys_ld ⟨Try.isAgg3, Try.sizeOf3⟩ (Ev.t rfl) (k := 0) rfl rfl)) rfl ?_; clear S a w; intro a w S)
      (refine st_y S (ys_call Try.call50 (EvL.cons (Ev.t rfl) (EvL.cons Ev.c EvL.nil)) (fun hp w W => c50 _ _ _)) rfl ?_; clear S a w; intro a w S)
      rw [rw_q] at S
      (refine st_y S (Yr.ys (ys_not (Ev.t rfl))) rfl ?_; clear S a w; intro a w S)
      (refine st_y S (Yr.ys (ys_assign (Ev.t rfl))) rfl ?_; clear S a w; intro a w S)
      refine st_nil ?_
      (refine (then_normal (hK2 _ _ ?_)); clear hK2)
      refine st_else S (Ev.t rfl) ?_
      refine wp_seq_k fun _ hK2 => ?_
      refine wp_region_lit ?_
      (refine st_y S (Yr.ys (ys_fieldN (FieldT.mk Try.underlying64 rfl Try.sizeOf27 rfl) (Ev.t rfl) (i' := 6) rfl)) rfl ?_; clear S a w; intro a w S)
      (refine st_y S (Yr.ys (ys_ld ⟨Try.isAgg27, Try.sizeOf27⟩ (Ev.t rfl) (k := 0) rfl rfl)) rfl ?_; clear S a w; intro a w S)
      (refine st_y S (ys_call Try.call51 (EvL.cons (Ev.t rfl) EvL.nil) (fun hp w W => c51 _ _)) rfl ?_; clear S a w; intro a w S)
      rw [rw_p] at S
      (refine st_y S (Yr.ys (ys_not (Ev.t rfl))) rfl ?_; clear S a w; intro a w S)
      (refine st_y S (Yr.ys (ys_move (Ev.t rfl))) rfl ?_; clear S a w; intro a w S)
      (refine st_yt S rfl rfl (Yr.ys (ys_fieldN (FieldT.mk Try.underlying64 rfl Try.sizeOf3 rfl) (Ev.t rfl) (i' := 5) rfl)) rfl ?_; clear S a w; intro a w S)
      (refine st_yt S rfl rfl (Yr.ys (ys_ld ⟨Try.isAgg3, Try.sizeOf3⟩ (Ev.t rfl) (k := 0) rfl rfl)) rfl ?_; clear S a w; intro a w S)
      (refine st_yt S rfl rfl (Yr.ys (ys_eql (Ev.t rfl) Ev.c)) rfl ?_; clear S a w; intro a w S)
      (refine st_yt S rfl rfl (Yr.ys (ys_move (Ev.t rfl))) rfl ?_; clear S a w; intro a w S)
      (refine st_yg S rfl rfl (Yr.ys (ys_fieldN (FieldT.mk Try.underlying64 rfl Try.sizeOf27 rfl) (Ev.t rfl) (i' := 6) rfl)) rfl ?_; clear S a w; intro a w S)
      (refine st_yg S rfl rfl (Yr.ys (ys_ld ⟨Try.isAgg27, Try.sizeOf27⟩ (Ev.g rfl) (k := 0) rfl rfl)) rfl ?_; clear S a w; intro a w S)
      (refine st_yg S rfl rfl (Yr.ys (ys_neq (Ev.g rfl) Ev.c)) rfl ?_; clear S a w; intro a w S)
      (refine st_yt S rfl rfl (Yr.ys (ys_and2 (Ev.t rfl) (Ev.g rfl) Ev.c)) rfl ?_; clear S a w; intro a w S)
      rw [rw_z] at S
      (refine st_y S (Yr.ys (ys_pickF (Ev.t rfl) (Ev.t rfl))) rfl ?_; clear S a w; intro a w S)
      (refine st_y S (Yr.ys (ys_assign (Ev.t rfl))) rfl ?_; clear S a w; intro a w S)
      refine st_nil ?_
      (refine (then_normal (hK2 _ _ ?_)); clear hK2)
      refine st_else S (Ev.t rfl) ?_
      refine wp_skip ?_
      (refine (in_normal (then_normal (hK1 _ _ ?_))); clear hK1)
      refine wp_seq_k fun _ hK1 => ?_
      refine wp_seq_k fun _ hK2 => ?_
      refine wp_region_lit ?_
      (refine st_y S (Yr.ys (ys_fieldN (FieldT.mk Try.underlying64 rfl Try.sizeOf40 rfl) (Ev.t rfl) (i' := 7) rfl)) rfl ?_; clear S a w; intro a w S)
      (refine st_y S (Yr.ys (ys_ldA ⟨Try.isAgg40, Try.sizeOf40⟩ (Ev.t rfl) (k := 0) rfl rfl)) rfl ?_; clear S a w; intro a w S)
      (refine st_y S (ys_call Try.call20 (EvL.cons (Ev.t rfl) EvL.nil) (fun hp w W => c20 _ _ _ _ _ (by exact .old W (by assumption)) (by exact .old W (by assumption)))) rfl ?_; clear S a w; intro a w S)
      rw [rw_e] at S
      (refine st_y S (Yr.ys (ys_assign (Ev.t rfl))) rfl ?_; clear S a w; intro a w S)
      refine st_nil ?_
      (refine (then_normal (hK2 _ _ ?_)); clear hK2)
      refine wp_seq_k fun _ hK2 => ?_
      refine wp_region_lit ?_
      (refine st_y S (Yr.ys (ys_move (Ev.t rfl))) rfl ?_; clear S a w; intro a w S)
      (refine st_y S (Yr.ys (ys_F (by omega) (ys_neq (Ev.t rfl) Ev.c))) rfl ?_; clear S a w; intro a w S)
      refine st_nil ?_
      (refine (then_normal (hK2 _ _ ?_)); clear hK2)
      refine st_else S (Ev.t rfl) ?_
      refine wp_skip ?_
      (refine (then_normal (hK1 _ _ ?_)); clear hK1)
      refine wp_seq_k fun _ hK1 => ?_
      refine wp_seq_k fun _ hK2 => ?_
      refine wp_region_lit ?_
      (refine st_y S (Yr.ys (ys_fieldN (FieldT.mk Try.underlying64 rfl Try.sizeOf62 rfl) (Ev.t rfl) (i' := 1) rfl)) rfl ?_; clear S a w; intro a w S)
      (refine st_y S (Yr.ys (ys_ldA ⟨Try.isAgg62, Try.sizeOf62⟩ (Ev.t rfl) (k := 0) rfl rfl)) rfl ?_; clear S a w; intro a w S)
      (refine st_y S (ys_call Try.call59 (EvL.cons (Ev.t rfl) EvL.nil) (fun hp w W => c59 _ _ _ _)) rfl ?_; clear S a w; intro a w S)
      rw [rw_d] at S
      (refine st_y S (Yr.ys (ys_not (Ev.t rfl))) rfl ?_; clear S a w; intro a w S)
      (refine st_y S (Yr.ys (ys_move (Ev.t rfl))) rfl ?_; clear S a w; intro a w S)
      (refine st_yt S rfl rfl (Yr.ys (ys_fieldN (FieldT.mk Try.underlying64 rfl Try.sizeOf40 rfl) (Ev.t rfl) (i' := 7) rfl)) rfl ?_; clear S a w; intro a w S)
      (refine st_yt S rfl rfl (Yr.ys (ys_fieldN (FieldT.mk Try.underlying40 rfl Try.sizeOf38 rfl) (Ev.t rfl) (i' := 8) rfl)) rfl ?_; clear S a w; intro a w S)
      (refine st_yt S rfl rfl (Yr.ys (ys_ldA ⟨Try.isAgg38, Try.sizeOf38⟩ (Ev.t rfl) (k := 0) rfl rfl)) rfl ?_; clear S a w; intro a w S)
      (refine st_yt S rfl rfl (Yr.ys (ys_fieldN (FieldT.mk Try.underlying64 rfl Try.sizeOf62 rfl) (Ev.t rfl) (i' := 1) rfl)) rfl ?_; clear S a w; intro a w S)
      (refine st_yt S rfl rfl (Yr.ys (ys_ldA ⟨Try.isAgg62, Try.sizeOf62⟩ (Ev.t rfl) (k := 0) rfl rfl)) rfl ?_; clear S a w; intro a w S)
      (refine st_yt S rfl rfl (ys_call Try.call52 (EvL.cons (Ev.t rfl) (EvL.cons (Ev.t rfl) EvL.nil)) (fun hp w W => c52 _ _ _ _ _ _ _ (by exact .old W (by assumption)))) rfl ?_; clear S a w; intro a w S)
      rw [rw_cov] at S
      rw [rw_c] at S
      (refine st_y S (Yr.ys (ys_pickF (Ev.t rfl) (Ev.t rfl))) rfl ?_; clear S a w; intro a w S)
      refine st_nil ?_
      (refine (then_normal (hK2 _ _ ?_)); clear hK2)
      refine st_else S (Ev.t rfl) ?_
      refine wp_skip ?_
      (refine (then_normal (hK1 _ _ ?_)); clear hK1)
      refine wp_seq_k fun _ hK1 => ?_
      refine wp_region_lit ?_
      (refine st_y S (Yr.ys (ys_assign Ev.c)) rfl ?_; clear S a w; intro a w S)
      refine st_nil ?_
      (refine (then_normal (hK1 _ _ ?_)); clear hK1)
      refine wp_ret ?_
      refine st_ret S (results1 S Try.results22 (Rv.tmp rfl)) ?_
      exact ⟨by rw [if_neg (by simp)], S.wd.below⟩
end Go.Proofs.Ytfblmkocmnbdcaa
set_option linter.unusedVariables false
set_option linter.unusedSimpArgs false
set_option maxRecDepth 100000
namespace Go.Proofs.Ytfblmkocmnbdcaa
open Go.Fw Go.Proofs Go.RowKit Go.ChangeShapes Go.WideShapes Go.ChangeAt Go.Deep Go.Joins
section
variable {H : Type} {enc : TypeId × Value → H} {w : World}
theorem Rdr.dot {t : TypeId} {i1 i2 i3 : TypeId} {k : IntKind} {f1 f2 f3 : Field} (ht : Try.prog.underlying t = some (.struct #[f1, f2, f3])) (ho : offs Try.prog [f1, f2, f3] 0 (Try.prog.cellsOf t) = true) (h1 : Try.prog.underlying f1.type = some (.int .i64)) (h2 : Try.prog.underlying f2.type = some (.int .i64)) (h3 : Try.prog.underlying f3.type = some (.int .i64)) :
    Rdr enc Try.prog w t fun cs _ => ∃ d : Dot, cs = Dot.enc d ∧ True := by
  refine (Rdr.struct ht ho (.cons (Rdr.int h1) (.cons (Rdr.int h2) (.cons (Rdr.int h3) .nil)))).mono ?_
  rintro cs b ⟨_, _, rfl, ⟨_, _, x, rfl, _⟩, _, _, rfl, ⟨_, _, y, rfl, _⟩, _, _, rfl, ⟨_, _, z, rfl, _⟩, rfl⟩
  exact ⟨⟨x, y, z⟩, rfl, trivial⟩
theorem rdDot : Rdr enc Try.prog w 62 fun cs _ => ∃ d : Dot, cs = Dot.enc d ∧ True := Rdr.dot (i1 := 0) (i2 := 0) (i3 := 0) (k := .i64) Try.underlying62 (by kernel_rfl) Try.underlying3 Try.underlying3 Try.underlying3
theorem rdMark : Rdr enc Try.prog w 110 fun cs _ => ∃ d : Dot, cs = Dot.enc d ∧ True := Rdr.dot (i1 := 0) (i2 := 0) (i3 := 0) (k := .i64) Try.underlying110 (by kernel_rfl) Try.underlying3 Try.underlying3 Try.underlying3
theorem u64_wf {n : Int} (h : (Lit.int .u64 n).wf = true) : ∃ p : UInt64, n = (p.toNat : Int) := by
  simp only [Lit.wf, IntKind.min, IntKind.max, IntKind.signed, IntKind.bits, Bool.and_eq_true, decide_eq_true_eq, Bool.false_eq_true, if_false] at h
  have h2 : n.toNat < 18446744073709551616 := by omega
  refine ⟨UInt64.ofNat n.toNat, ?_⟩
  rw [UInt64.toNat_ofNat', Nat.mod_eq_of_lt h2]
  omega
theorem rdEnt : Rdr enc Try.prog w 74 fun cs b => ∃ x : Ent, cs = Ent.enc x ∧ x.item.length ≤ b := by
  refine (Rdr.struct Try.underlying74 (by kernel_rfl) (.cons (Rdr.str Try.underlying9) (.cons rdDot (.cons (Rdr.int Try.underlying3) (.cons (Rdr.int Try.underlying27) .nil))))).mono ?_
  rintro cs b ⟨_, _, rfl, ⟨_, hb, s, rfl, hs⟩, _, _, rfl, ⟨_, _, d, rfl, _⟩, _, _, rfl, ⟨_, _, q, rfl, _⟩, _, _, rfl, ⟨_, _, n, rfl, hn⟩, rfl⟩
  obtain ⟨p, rfl⟩ := u64_wf hn
  exact ⟨⟨s, d, q, p⟩, rfl, by dsimp only; omega⟩
theorem rdCtx : Rdr enc Try.prog w 38 fun cs b => ∃ v2 v3 C, cs = [v2, v3] ∧ RdCtx w w.heap.size v2 v3 C ∧ C.marks.length + 1 ≤ b ∧ C.cloud.length + 1 ≤ b := by
  refine (Rdr.struct Try.underlying38 (by kernel_rfl) (.cons (Rdr.slice (k := 3) Try.underlying35 (by kernel_rfl) rfl (fun _ => rfl) rdMark) (.cons (Rdr.slice (k := 3) Try.underlying36 (by kernel_rfl) rfl (fun _ => rfl) rdDot) .nil))).mono ?_
  rintro cs b ⟨_, _, rfl, ⟨_, hb, v, m, rfl, hm, hm1, _⟩, _, _, rfl, ⟨_, hb', v', d, rfl, hd, hd1, _⟩, rfl⟩
  exact ⟨v, v', ⟨m, d⟩, rfl, ⟨hm, hd⟩, by dsimp only; omega, by dsimp only; omega⟩
structure RdCart (w : World) (v1 v2 v3 : Value) (X : Cart) (b : Nat) : Prop where
  ents : Sl Ent.enc 6 w w.heap.size v1 X.ents
  ctx : RdCtx w w.heap.size v2 v3 X.ctx
  l1 : X.ents.length + 1 ≤ b
  l2 : X.ctx.marks.length + 1 ≤ b
  l3 : X.ctx.cloud.length + 1 ≤ b
  items : ∀ x ∈ X.ents, x.item.length ≤ b
theorem rdCart : Rdr enc Try.prog w 40 fun cs b => ∃ v1 v2 v3 X, cs = [v1, v2, v3] ∧ RdCart w v1 v2 v3 X b := by
  refine (Rdr.struct Try.underlying40 (by kernel_rfl) (.cons (Rdr.slice (k := 6) Try.underlying34 (by kernel_rfl) rfl (fun _ => rfl) rdEnt) (.cons rdCtx .nil))).mono ?_
  rintro cs b ⟨_, _, rfl, ⟨_, hb, v, l, rfl, hl, hl1, hli⟩, _, _, rfl, ⟨_, hb', v2, v3, C, rfl, hC, h1, h2⟩, rfl⟩
  exact ⟨v, v2, v3, ⟨l, C⟩, rfl, hl, hC, by dsimp only; omega, by dsimp only; omega, by dsimp only; omega, fun x hx => by obtain ⟨b', h3, h4⟩ := hli x hx; omega⟩
theorem rdUpd : Rdr enc Try.prog w 64 fun cs b => ∃ u v1 v2 v3, cs = Upd.enc u v1 v2 v3 ∧ RdCart w v1 v2 v3 u.seen b ∧ u.key.length ≤ b ∧ u.item.length ≤ b := by
  refine (Rdr.struct Try.underlying64 (by kernel_rfl) (.cons (Rdr.str Try.underlying9) (.cons rdDot (.cons (Rdr.str Try.underlying9) (.cons (Rdr.int Try.underlying3) (.cons (Rdr.int Try.underlying27) (.cons rdCart .nil))))))).mono ?_
  rintro cs b ⟨_, _, rfl, ⟨_, hb, s, rfl, hs⟩, _, _, rfl, ⟨_, _, d, rfl, _⟩, _, _, rfl, ⟨_, hb2, s2, rfl, hs2⟩, _, _, rfl, ⟨_, _, q, rfl, _⟩, _, _, rfl, ⟨_, _, n, rfl, hn⟩, _, _, rfl, ⟨_, hb3, v1, v2, v3, X, rfl, hX⟩, rfl⟩
  obtain ⟨p, rfl⟩ := u64_wf hn
  refine ⟨⟨s, d, s2, q, p, X⟩, v1, v2, v3, rfl, ⟨hX.ents, hX.ctx, ?_, ?_, ?_, ?_⟩, ?_, ?_⟩
  · have := hX.l1; dsimp only; omega
  · have := hX.l2; dsimp only; omega
  · have := hX.l3; dsimp only; omega
  · intro x hx; have := hX.items x hx; omega
  · dsimp only; omega
  · dsimp only; omega
theorem read_cart {t : TypeId} (e : t = 40) {r : Reach} {b0 : Nat} {v : Value} {d : DataW H} {p : List MemPlace} (hv : Value.okWide Try.prog w r b0 t v) (h : DataW.Trod enc Try.prog w 0 (fun _ => true) true t v d p) :
    ∃ v1 v2 v3 X, v = .agg #[v1, v2, v3] ∧ RdCart w v1 v2 v3 X (Rows.uptoBulk d) := by
  subst e
  obtain ⟨v1, v2, v3, X, hc, hX⟩ := Rdr.top rdCart h
  exact ⟨v1, v2, v3, X, top_agg Try.underlying40 hv hc, hX⟩
theorem read_upd {t : TypeId} (e : t = 64) {r : Reach} {b0 : Nat} {v : Value} {d : DataW H} {p : List MemPlace} (hv : Value.okWide Try.prog w r b0 t v) (h : DataW.Trod enc Try.prog w 0 (fun _ => true) true t v d p) :
    ∃ u v1 v2 v3, v = .agg (Upd.enc u v1 v2 v3).toArray ∧ RdCart w v1 v2 v3 u.seen (Rows.uptoBulk d) ∧ u.key.length ≤ Rows.uptoBulk d ∧ u.item.length ≤ Rows.uptoBulk d := by
  subst e
  obtain ⟨u, v1, v2, v3, hc, hX, h1, h2⟩ := Rdr.top rdUpd h
  exact ⟨u, v1, v2, v3, top_agg Try.underlying64 hv hc, hX, h1, h2⟩
end
end Go.Proofs.Ytfblmkocmnbdcaa
set_option linter.unusedVariables false
set_option linter.unusedSimpArgs false
namespace Go.Fw
open Go.RowKit Go.Sort Go.Proofs
abbrev MEnt := {e : Ent // mayD e.dot = true}
instance : Inhabited MEnt := ⟨⟨⟨[], ⟨0, 1, 1⟩, 0, 0⟩, rfl⟩⟩
abbrev MEnt.enc (e : MEnt) : List Value := Ent.enc e.1
end Go.Fw
set_option linter.unusedVariables false
set_option linter.unusedSimpArgs false
namespace Go.Ft
open Go.RowKit
abbrev bs (l : List UInt8) : ByteArray := ⟨l.toArray⟩
section ops
variable {P : Program} {n : Nat} {w0 : World} {K : KL} {L : List Chunk} {b : Bool} {dst : Option Tmp} {ty : TypeId} {pos : String} {aft : Array Edge} {gd : Option (Nat × Bool)}
end ops
section
variable {P : Program} {n : Nat} {w0 : World} {K : KL} {L : List Chunk} {ty : TypeId} {pos : String} {aft : Array Edge} {gd : Option (Nat × Bool)} {a : Act} {w : World} {Z : Act → World → Prop} {Q : Exit → Act → World → Prop} {d : Nat}
end
section
variable {P : Program} {n : Nat} {w0 : World} {K : KL} {L : List Chunk} {ty : TypeId} {pos : String} {aft : Array Edge} {gd : Option (Nat × Bool)} {a : Act} {w : World} {Z : Act → World → Prop} {Q : Exit → Act → World → Prop} {d : Nat}
end
section
variable {P : Program} {n : Nat} {w0 : World} {K : KL} {L : List Chunk} {ty : TypeId} {pos : String} {aft : Array Edge} {gd : Option (Nat × Bool)} {a : Act} {w : World} {Z : Act → World → Prop} {Q : Exit → Act → World → Prop} {d : Nat}
end
section
variable {P : Program} {Q : Exit → Act → World → Prop} {J : Act → World → Prop} {l i : Nat} {a : Act} {w : World}
end
section ops
variable {P : Program} {n : Nat} {w0 : World} {K : KL} {L : List Chunk} {b : Bool} {dst : Option Tmp} {ty : TypeId} {pos : String} {aft : Array Edge} {gd : Option (Nat × Bool)}
end ops
end Go.Ft
set_option linter.unusedVariables false
set_option linter.unusedSimpArgs false
namespace Go.Ft
open Go.RowKit
section ops
variable {P : Program} {n : Nat} {w0 : World} {K : KL} {L : List Chunk} {b : Bool} {dst : Option Tmp} {ty : TypeId} {pos : String} {aft : Array Edge} {gd : Option (Nat × Bool)}
end ops
section
variable {n : Nat} {w0 : World} {K : KL} {L : List Chunk} {a : Act} {w : World} {c : Chunk}
end
theorem Wd.cell {w0 w : World} {L : List Chunk} (W : Wd w0 L w) {k g i : Nat} {cs : List Value} {e : TypeId} {fr : Nat × Nat} {v : Value} (hk : L[k]? = some (.blk g (.cells cs.toArray e fr))) (hc : nth cs i = some v) : w.cell? ⟨g, i, none⟩ = some v := by
  rw [cell_of_row w g i _ e fr (W.get hk).2]
  rw [nth_eq] at hc
  simpa using hc
section split
variable {P : Program} {Q : Exit → Act → World → Prop} {n : Nat} {w0 : World} {K : KL} {L Lr : List Chunk} {a : Act} {w : World} {ops : Array Oper} {fuel : Nat} {listed : Array Bool} {md : Region.Mode}
end split
section
variable {P : Program} {n : Nat} {w0 : World} {K : KL} {L : List Chunk} {ty : TypeId} {pos : String} {aft : Array Edge} {gd : Option (Nat × Bool)} {a : Act} {w : World} {Z : Act → World → Prop} {Q : Exit → Act → World → Prop} {d : Nat}
end
end Go.Ft
set_option linter.unusedVariables false
set_option linter.unusedSimpArgs false
namespace Go.Ft
open Go.Proofs Go.RowKit
section
variable {P : Program} {n : Nat} {w0 : World} {K : KL} {L : List Chunk} {ty : TypeId} {pos : String} {aft : Array Edge} {gd : Option (Nat × Bool)} {a : Act} {w : World} {Z : Act → World → Prop} {Q : Exit → Act → World → Prop} {d : Nat} {dst : Option Tmp} {b : Bool}
variable {K' : Act → World → Prop} {i : Nat} {ps : List PanicEntry}
end
section
variable {P : Program} {f : FuncId} {fn : Func} {c : Code} {R : Ending → World → Prop} {w0 w : World} {L : List Chunk} {v0 v1 v2 v3 v4 v5 v6 v7 v8 : Value}
end
theorem Sl.sub {w : World} {α : Type} {enc : α → List Value} {size B : Nat} {A : Option Addr} {l : List α} {cap : Nat} (h : Sl enc size w B (.slice A l.length cap) l) (lo hi : Nat) (hlo : lo ≤ hi) (hhi : hi ≤ l.length) :
    Sl enc size w B (.slice (if cap = lo then A else A.map (·.add (lo * size))) (hi - lo) (cap - lo)) ((l.drop lo).take (hi - lo)) := by
  obtain ⟨A', cap', hv, h2, h3, h4⟩ := h
  simp only [Value.slice.injEq, true_and] at hv
  obtain ⟨rfl, rfl⟩ := hv
  have hl : ((l.drop lo).take (hi - lo)).length = hi - lo := by simp; omega
  refine ⟨if cap = lo then A else A.map (·.add (lo * size)), cap - lo, by rw [hl], by rw [hl]; omega, by omega, fun hp => ?_⟩
  rw [hl] at hp
  obtain ⟨g, o, rfl, hg, hc⟩ := h4 (by omega)
  rw [if_neg (by omega)]
  refine ⟨g, o + lo * size, by simp [Addr.add_mid], hg, fun k x hx j u hu => ?_⟩
  rw [List.getElem?_take] at hx
  split at hx
  · rw [List.getElem?_drop] at hx
    have := hc _ x hx j u hu
    rw [Nat.add_mul] at this
    rw [show o + lo * size + k * size + j = o + (lo * size + k * size) + j by omega]
    exact this
  · cases hx
theorem Src.subS {P : Program} {w : World} {α : Type} {enc : α → List Value} {size B : Nat} {A : Option Addr} {l : List α} {cap lo hi c : Nat} (h : Sl enc size w B (.slice A l.length cap) l) (hsz : 0 < size) (he : ∀ x, (enc x).length = size) (h1 : ∀ x, ∀ u ∈ enc x, u.oneCell' = true) (hlo : lo ≤ hi) (hhi : hi ≤ l.length) :
    Src P w size (.slice (if cap = lo then A else A.map (·.add (lo * size))) (hi - lo) c) ((l.drop lo).take (hi - lo)).length (((l.drop lo).take (hi - lo)).flatMap enc) := by
  have hl : ((l.drop lo).take (hi - lo)).length = hi - lo := by simp; omega
  have h' : Sl enc size w B (.slice (if cap = lo then A else A.map (·.add (lo * size))) ((l.drop lo).take (hi - lo)).length (cap - lo)) ((l.drop lo).take (hi - lo)) := by rw [hl]; exact h.sub lo hi hlo hhi
  have := Src.sl (P := P) (c := c) h' hsz he h1
  rw [hl] at this
  rw [hl]
  exact this
theorem Src.sub {P : Program} {α : Type} {enc : α → List Value} {size e cap k lo hi c : Nat} {w w0 : World} {L : List Chunk} {A : Option Addr} {l : List α} (W : Wd w0 L w) (hk : L[k]? = some (rowOf e size enc A cap l)) (hsz : 0 < size) (he : ∀ x, (enc x).length = size) (h1 : ∀ x, ∀ u ∈ enc x, u.oneCell' = true) (hlo : lo ≤ hi) (hhi : hi ≤ l.length) :
    Src P w size (.slice (if cap = lo then A else A.map (·.add (lo * size))) (hi - lo) c) ((l.drop lo).take (hi - lo)).length (((l.drop lo).take (hi - lo)).flatMap enc) :=
  Src.subS (Sl.of_own W hk he) hsz he h1 hlo hhi
end Go.Ft
set_option linter.unusedVariables false
set_option linter.unusedSimpArgs false
namespace Go.Ft
open Go.RowKit
def ltM (a b : Dot) : Prop := a.node < b.node ∨ (a.node = b.node ∧ a.life < b.life)
def ltC (a b : Dot) : Prop := a.node < b.node ∨ (a.node = b.node ∧ (a.life < b.life ∨ (a.life = b.life ∧ a.count < b.count)))
theorem belowC_iff (a b : Dot) : belowD a b = true ↔ ltC a b := by
  simp only [belowD, ltC]
  split
  · simp; omega
  · split <;> simp <;> omega
structure Nf (C : Ctx) : Prop where
  marks : C.marks.Pairwise ltM
  cloud : C.cloud.Pairwise ltC
  mayM : ∀ x ∈ C.marks, mayD x = true
  mayC : ∀ x ∈ C.cloud, mayD x = true
  gap : ∀ x ∈ C.cloud, markOf C.marks x.node x.life + 1 < x.count
end Go.Ft
set_option linter.unusedVariables false
set_option linter.unusedSimpArgs false
namespace Go.Ft
open Go.RowKit
structure Ent where
  item : List UInt8
  dot : Dot
  qty : Int
  price : UInt64
deriving DecidableEq
abbrev Ent.enc (e : Ent) : List Value := [.string (bs e.item), .int .i64 e.dot.node, .int .i64 e.dot.life, .int .i64 e.dot.count, .int .i64 e.qty, .int .u64 (e.price.toNat : Int)]
structure Cart where
  ents : List Ent
  ctx : Ctx
deriving DecidableEq
abbrev Cart.zero : Cart := ⟨[], ⟨[], []⟩⟩
structure Line where
  item : List UInt8
  qty : Int
  price : UInt64
deriving DecidableEq
abbrev Line.enc (e : Line) : List Value := [.string (bs e.item), .int .i64 e.qty, .int .u64 (e.price.toNat : Int)]
def ltE (a b : Ent) : Prop := Op.bytesLess a.item b.item = true ∨ (a.item = b.item ∧ ltC a.dot b.dot)
instance (a b : Ent) : Decidable (ltE a b) := decidable_of_iff (Op.bytesLess a.item b.item = true ∨ (a.item = b.item ∧ belowD a.dot b.dot = true)) (by rw [belowC_iff]; rfl)
def clashE (a b : Cart) : Prop := ∃ x ∈ a.ents, ∃ y ∈ b.ents, x.dot = y.dot ∧ x ≠ y
instance (a b : Cart) : Decidable (clashE a b) := by unfold clashE; infer_instance
end Go.Ft
set_option linter.unusedVariables false
set_option linter.unusedSimpArgs false
set_option maxRecDepth 100000
namespace Go.Proofs.Ytfblmkocmnbdcaa
open Go.Fw Go.Proofs Go.RowKit
theorem c81 (w0 : World) (v1 : Value) (l : List Dot) (h : Sl Dot.enc 3 w0 w0.heap.size v1 l) (hn : l.length ≤ 4194304) :
    Rets Try.prog 81 #[v1] w0 fun v L => ∃ A c, v = .slice A l.length c ∧ L = [rowOf 110 3 Dot.enc A c l] := by
  have h0 := h
  obtain ⟨A, cap, rfl, hl, hcap, hA⟩ := h
  unfold Go.Fw.Rets
  refine enter1 Try.func81 rfl Try.ntmps81 rfl fun a S => ?_
  refine wp_seq_k fun _ hK1 => ?_
  refine wp_region_lit ?_
  (refine st_y S (Yr.ys (ys_assign Ev.c)) rfl ?_; clear S a; intro a w S)
  refine st_nil ?_
  (refine (then_normal (hK1 _ _ ?_)); clear hK1)
  refine wp_seq_k fun _ hK1 => ?_
  refine wp_seq_k fun _ hK2 => ?_
  refine wp_region_lit ?_
  (refine st_y S (Yr.ys (ys_move (Ev.t rfl))) rfl ?_; clear S a w; intro a w S)
  (refine st_y S (Yr.ys (ys_sNil Try.underlying35 (Ev.t rfl) Ev.c)) rfl ?_; clear S a w; intro a w S)
  refine st_nil ?_
  (refine (then_normal (hK2 _ _ ?_)); clear hK2)
  refine st_cond S (Ev.t rfl) (fun h1 => ?_) (fun h1 => ?_)
  refine wp_seq_k fun _ hK2 => ?_
  refine wp_region_lit ?_
  (refine st_y S (Yr.ys (ys_assign Ev.c)) rfl ?_; clear S a w; intro a w S)
  refine st_nil ?_
  (refine (then_normal (hK2 _ _ ?_)); clear hK2)
  refine wp_ret ?_
  refine (then_ret ?_)
  refine st_ret S (results1 S Try.results81 (Rv.tmp rfl)) ?_
  rotate_left
  refine wp_skip ?_
  (refine (then_normal (hK1 _ _ ?_)); clear hK1)
  refine wp_seq_k fun _ hK1 => ?_
  refine wp_region_lit ?_
  (refine st_m (op_bslice0 S Try.underlying35 Try.sizeOf110 rfl ?_); clear S a w; intro g1 a w S)
  (refine st_y S (Yr.ys (ys_move (Ev.t rfl))) rfl ?_; clear S a w; intro a w S)
  (refine st_m (op_extend _ (S.nil_ 110 _ Go.Fw.Dot.enc _) Try.underlying35 Try.underlying35 (.inr ⟨_, rfl⟩) inf110 rfl (k := 0) rfl (Ev.t rfl) (Ev.t rfl) (Src.sl (Sl.old S.wd h0) (by decide) Go.Fw.Dot.enc_len Go.Fw.Dot.enc_one) (by first | omega | (simp only [List.length_append, List.length_cons, List.length_nil]; omega) | (simp; omega)) rfl rfl rfl ?_); clear S a w; intro A1 cap1 a w S)
  simp only [List.nil_append] at S
  (refine st_y S (Yr.ys (ys_assign (Ev.t rfl))) rfl ?_; clear S a w; intro a w S)
  refine st_nil ?_
  (refine (then_normal (hK1 _ _ ?_)); clear hK1)
  refine wp_ret ?_
  refine st_ret S (results1 S Try.results81 (Rv.tmp rfl)) ?_
  rotate_left
  · have hnil : l = [] := by
      refine List.eq_nil_of_length_eq_zero (Decidable.byContradiction fun hne => ?_)
      obtain ⟨g, o, rfl, _⟩ := hA (by omega)
      cases h1
    subst hnil
    exact ⟨_, _, rfl, (S.nil_ 110 3 Dot.enc none).wd.sub (by repeat (first | exact List.Sublist.refl _ | exact List.nil_sublist _ | refine .cons_cons _ ?_ | refine .cons _ ?_)), none, 0, rfl, rfl⟩
  · try simp only [List.nil_append] at S ⊢
    exact ⟨_, _, rfl, S.wd.sub (by repeat (first | exact List.Sublist.refl _ | exact List.nil_sublist _ | refine .cons_cons _ ?_ | refine .cons _ ?_)), _, _, rfl, rfl⟩
end Go.Proofs.Ytfblmkocmnbdcaa
set_option linter.unusedVariables false
set_option linter.unusedSimpArgs false
set_option maxRecDepth 100000
set_option maxHeartbeats 4000000
namespace Go.Proofs.Ytfblmkocmnbdcaa
open Go.Fw Go.Proofs Go.RowKit
theorem c41 (w0 : World) (v1 v2 : Value) (C : Ctx) (h : RdCtx w0 w0.heap.size v1 v2 C) (hn : C.marks.length ≤ 1048576) (hn' : C.cloud.length ≤ 1048576) :
    Rets Try.prog 41 #[.agg #[v1, v2]] w0 fun v L => ∃ A1 r1 A2 r2, v = .agg #[.slice A1 C.marks.length r1, .slice A2 C.cloud.length r2] ∧
      L = [rowOf 110 3 Dot.enc A1 r1 C.marks, rowOf 62 3 Dot.enc A2 r2 C.cloud] := by
  obtain ⟨h1, h2⟩ := id h
  obtain ⟨B1, q1, rfl, _⟩ := id h1
  obtain ⟨B2, q2, rfl, _⟩ := id h2
  unfold Go.Fw.Rets
  refine enter1 Try.func41 rfl Try.ntmps41 rfl fun a S => ?_
  refine wp_seq_k fun _ hK1 => ?_
  refine wp_region_lit ?_
  (refine st_m (op_box S (Ev.t rfl) rfl ?_); clear S a; intro g1 a w S)
  (refine st_m (op_alloc S Try.zeroValue38 (cs := _) rfl rfl ?_); clear S a w; intro g2 a w S)
  refine st_nil ?_
  (refine (then_normal (hK1 _ _ ?_)); clear hK1)
  refine wp_seq_k fun _ hK1 => ?_
  (refine h_beginE S (by kernel_rfl) 0 ?_; clear S a w; intro a w S)
  (refine h_y (i := 0) S (by repeat (first | exact List.Sublist.refl _ | exact List.nil_sublist _ | refine .cons_cons _ ?_ | refine .cons _ ?_)) rfl (by kernel_rfl) (by kernel_rfl) (by kernel_rfl) (fun _ _ _ _ h => h) (ys_fieldN (FieldT.mk Try.underlying38 rfl Try.sizeOf35 rfl) (Ev.t rfl) (i' := 0) rfl) rfl ?_; clear S a w; intro a w S)
  (refine h_y (i := 1) S (by repeat (first | exact List.Sublist.refl _ | exact List.nil_sublist _ | refine .cons_cons _ ?_ | refine .cons _ ?_)) rfl (by kernel_rfl) (by kernel_rfl) (by kernel_rfl) (fun _ _ _ _ h => h) (ys_ld ⟨Try.isAgg35, Try.sizeOf35⟩ (Ev.t rfl) (k := 0) rfl rfl) rfl ?_; clear S a w; intro a w S)
  (refine h_y (i := 3) S (by repeat (first | exact List.Sublist.refl _ | exact List.nil_sublist _ | refine .cons_cons _ ?_ | refine .cons _ ?_)) rfl (by kernel_rfl) (by kernel_rfl) (by kernel_rfl) (fun _ _ _ _ h => h) (ys_fieldN (FieldT.mk Try.underlying38 rfl Try.sizeOf36 rfl) (Ev.t rfl) (i' := 1) rfl) rfl ?_; clear S a w; intro a w S)
  (refine h_y (i := 4) S (by repeat (first | exact List.Sublist.refl _ | exact List.nil_sublist _ | refine .cons_cons _ ?_ | refine .cons _ ?_)) rfl (by kernel_rfl) (by kernel_rfl) (by kernel_rfl) (fun _ _ _ _ h => h) (ys_ld ⟨Try.isAgg36, Try.sizeOf36⟩ (Ev.t rfl) (k := 0) rfl rfl) rfl ?_; clear S a w; intro a w S)
  (refine h_m (i := 2) rfl (by kernel_rfl) (op_calls S Try.call81 (EvL.cons (Ev.t rfl) EvL.nil) (c81 _ _ _ (by exact .old S.wd (by assumption)) (by omega)) rfl ?_); clear S a w; rintro _ _ ⟨A1, c1, rfl, rfl⟩ a w S; refine h_on S _ (List.Sublist.refl _) (by repeat (first | exact List.Sublist.refl _ | exact List.nil_sublist _ | refine .cons_cons _ ?_ | refine .cons _ ?_)) ?_)
  (refine h_m (i := 5) rfl (by kernel_rfl) (op_calls S Try.call82 (EvL.cons (Ev.t rfl) EvL.nil) (c82 _ _ _ (by exact .old S.wd (by assumption)) (by omega)) rfl ?_); clear S a w; rintro _ _ ⟨A2, c2, rfl, rfl⟩ a w S; refine h_on S _ (List.Sublist.refl _) (by repeat (first | exact List.Sublist.refl _ | exact List.nil_sublist _ | refine .cons_cons _ ?_ | refine .cons _ ?_)) ?_)
  (refine h_y (i := 6) S (by repeat (first | exact List.Sublist.refl _ | exact List.nil_sublist _ | refine .cons_cons _ ?_ | refine .cons _ ?_)) rfl (by kernel_rfl) (by kernel_rfl) (by kernel_rfl) (fun _ _ _ _ h => h) (ys_bld (ps := [(0, Go.Operand.tmp 5), (1, Go.Operand.tmp 8)]) (us := [_, _]) bld38 (EvL.cons (Ev.t rfl) (EvL.cons (Ev.t rfl) EvL.nil)) rfl) rfl ?_; clear S a w; intro a w S)
  (refine h_m0 (i := 7) rfl (by kernel_rfl) (op_stW S Try.sizeOf38 (Ev.t rfl) (Ev.t rfl) (k := 2) rfl rfl rfl (by simp [Value.oneCell']) ?_); clear S a w; intro a w S; refine h_on S _ (List.Sublist.refl _) (by repeat (first | exact List.Sublist.refl _ | exact List.nil_sublist _ | refine .cons_cons _ ?_ | refine .cons _ ?_)) ?_)
  refine h_done (by kernel_rfl) ?_
  (refine (then_normal (hK1 _ _ ?_)); clear hK1)
  refine wp_ret ?_
  refine st_ret S (results1 S Try.results41 (Rv.cell (k := 2) ⟨Try.isAgg38, Try.sizeOf38⟩ rfl rfl rfl)) ?_
  (replace S := S.pull 1 rfl; try simp only [List.set_cons_zero, List.set_cons_succ, List.eraseIdx_cons_succ, List.eraseIdx_cons_zero] at S)
  exact ⟨_, _, rfl, S.wd.sub (by repeat (first | exact List.Sublist.refl _ | exact List.nil_sublist _ | refine .cons_cons _ ?_ | refine .cons _ ?_)), _, _, _, _, rfl, rfl⟩
end Go.Proofs.Ytfblmkocmnbdcaa
set_option linter.unusedVariables false
set_option linter.unusedSimpArgs false
set_option maxRecDepth 100000
set_option maxHeartbeats 4000000
namespace Go.Fw
theorem cart_same {X Y : Cart} : (decide (X.ents = Y.ents) && decide (X.ctx = Y.ctx)) = decide (X = Y) := by
  cases X; cases Y; simp
end Go.Fw
namespace Go.Proofs.Ytfblmkocmnbdcaa
open Go.Fw Go.Proofs Go.RowKit
theorem c16 (w0 : World) (v1 v2 v3 : Value) (X : Cart) (h : Sl Ent.enc 6 w0 w0.heap.size v1 X.ents) (hr : RdCtx w0 w0.heap.size v2 v3 X.ctx) (hl1 : X.ents.length ≤ 1048576) (hl2 : X.ctx.marks.length ≤ 1048576) (hl3 : X.ctx.cloud.length ≤ 1048576) :
    Rets Try.prog 16 #[.agg #[v1, v2, v3]] w0 fun v L => ∃ A1 c1 A2 c2 A3 c3, v = .agg #[.slice A1 X.ents.length c1, .slice A2 X.ctx.marks.length c2, .slice A3 X.ctx.cloud.length c3] ∧
      L = [rowOf 74 6 Ent.enc A1 c1 X.ents, rowOf 110 3 Dot.enc A2 c2 X.ctx.marks, rowOf 62 3 Dot.enc A3 c3 X.ctx.cloud] := by
  have hs := h
  have hrr := hr
  obtain ⟨A, cap, rfl, hl, hcap, hA⟩ := h
  obtain ⟨⟨A2, cap2, rfl, _⟩, ⟨A3, cap3, rfl, _⟩⟩ := hr
  unfold Go.Fw.Rets
  refine enter1 Try.func16 rfl Try.ntmps16 rfl fun a S => ?_
  refine wp_seq_k fun _ hK1 => ?_
  refine wp_region_lit ?_
  (refine st_m (op_box S (Ev.t rfl) rfl ?_); clear S a; intro g1 a w S)
  (refine st_m (op_alloc S Try.zeroValue40 (cs := _) rfl rfl ?_); clear S a w; intro g2 a w S)
  refine st_nil ?_
  (refine (then_normal (hK1 _ _ ?_)); clear hK1)
  refine wp_seq_k fun _ hK1 => ?_
  (refine h_beginE S (by kernel_rfl) 0 ?_; clear S a w; intro a w S)
  (refine h_y (i := 0) S (by repeat (first | exact List.Sublist.refl _ | exact List.nil_sublist _ | refine .cons_cons _ ?_ | refine .cons _ ?_)) rfl (by kernel_rfl) (by kernel_rfl) (by kernel_rfl) (fun _ _ _ _ h => h) (ys_fieldN (FieldT.mk Try.underlying40 rfl Try.sizeOf34 rfl) (Ev.t rfl) (i' := 0) rfl) rfl ?_; clear S a w; intro a w S)
  (refine h_y (i := 1) S (by repeat (first | exact List.Sublist.refl _ | exact List.nil_sublist _ | refine .cons_cons _ ?_ | refine .cons _ ?_)) rfl (by kernel_rfl) (by kernel_rfl) (by kernel_rfl) (fun _ _ _ _ h => h) (ys_ld ⟨Try.isAgg34, Try.sizeOf34⟩ (Ev.t rfl) (k := 0) rfl rfl) rfl ?_; clear S a w; intro a w S)
  (refine h_y (i := 3) S (by repeat (first | exact List.Sublist.refl _ | exact List.nil_sublist _ | refine .cons_cons _ ?_ | refine .cons _ ?_)) rfl (by kernel_rfl) (by kernel_rfl) (by kernel_rfl) (fun _ _ _ _ h => h) (ys_fieldN (FieldT.mk Try.underlying40 rfl Try.sizeOf38 rfl) (Ev.t rfl) (i' := 1) rfl) rfl ?_; clear S a w; intro a w S)
  (refine h_y (i := 4) S (by repeat (first | exact List.Sublist.refl _ | exact List.nil_sublist _ | refine .cons_cons _ ?_ | refine .cons _ ?_)) rfl (by kernel_rfl) (by kernel_rfl) (by kernel_rfl) (fun _ _ _ _ h => h) (ys_ldA ⟨Try.isAgg38, Try.sizeOf38⟩ (Ev.t rfl) (k := 0) rfl rfl) rfl ?_; clear S a w; intro a w S)
  (refine h_m (i := 2) rfl (by kernel_rfl) (op_calls S Try.call40 (EvL.cons (Ev.t rfl) EvL.nil) (c40 _ _ _ (by exact .old S.wd (by assumption)) (by omega)) rfl ?_); clear S a w; rintro _ _ ⟨A1, c1, rfl, rfl⟩ a w S; refine h_on S _ (List.Sublist.refl _) (by repeat (first | exact List.Sublist.refl _ | exact List.nil_sublist _ | refine .cons_cons _ ?_ | refine .cons _ ?_)) ?_)
  (refine h_m (i := 5) rfl (by kernel_rfl) (op_calls S Try.call41 (EvL.cons (Ev.t rfl) EvL.nil) (c41 _ _ _ _ (by exact .old S.wd (by assumption)) (by assumption) (by assumption)) rfl ?_); clear S a w; rintro _ _ ⟨A11, r11, A21, r21, rfl, rfl⟩ a w S; refine h_on S _ (List.Sublist.refl _) (by repeat (first | exact List.Sublist.refl _ | exact List.nil_sublist _ | refine .cons_cons _ ?_ | refine .cons _ ?_)) ?_)
  (refine h_y (i := 6) S (by repeat (first | exact List.Sublist.refl _ | exact List.nil_sublist _ | refine .cons_cons _ ?_ | refine .cons _ ?_)) rfl (by kernel_rfl) (by kernel_rfl) (by kernel_rfl) (fun _ _ _ _ h => h) (ys_bld (ps := [(0, Go.Operand.tmp 5), (1, Go.Operand.tmp 8)]) (us := [_, _, _]) bld40 (EvL.cons (Ev.t rfl) (EvL.cons (Ev.t rfl) EvL.nil)) rfl) rfl ?_; clear S a w; intro a w S)
  (refine h_m0 (i := 7) rfl (by kernel_rfl) (op_stW S Try.sizeOf40 (Ev.t rfl) (Ev.t rfl) (k := 3) rfl rfl rfl (by simp [Value.oneCell']) ?_); clear S a w; intro a w S; refine h_on S _ (List.Sublist.refl _) (by repeat (first | exact List.Sublist.refl _ | exact List.nil_sublist _ | refine .cons_cons _ ?_ | refine .cons _ ?_)) ?_)
  refine h_done (by kernel_rfl) ?_
  (refine (then_normal (hK1 _ _ ?_)); clear hK1)
  refine wp_ret ?_
  refine st_ret S (results1 S Try.results16 (Rv.cell (k := 3) ⟨Try.isAgg40, Try.sizeOf40⟩ rfl rfl rfl)) ?_
  exact ⟨_, _, rfl, S.wd.picks (by repeat (first | exact Picks.nil | (refine Picks.rest ?_; (repeat (first | exact List.Sublist.refl _ | refine List.Sublist.cons_cons _ ?_ | refine List.Sublist.cons _ ?_)); done) | refine Picks.take 0 rfl ?_ | refine Picks.take 1 rfl ?_ | refine Picks.take 2 rfl ?_ | refine Picks.take 3 rfl ?_ | refine Picks.take 4 rfl ?_ | refine Picks.take 5 rfl ?_ | refine Picks.take 6 rfl ?_ | refine Picks.take 7 rfl ?_ | refine Picks.take 8 rfl ?_ | refine Picks.take 9 rfl ?_ | refine Picks.take 10 rfl ?_ | refine Picks.take 11 rfl ?_)), _, _, _, _, _, _, rfl, rfl⟩
theorem c11 (w0 : World) (v1 v2 v3 v4 v5 v6 : Value) (X Y : Cart) (h : Sl Ent.enc 6 w0 w0.heap.size v1 X.ents) (hr : RdCtx w0 w0.heap.size v2 v3 X.ctx) (h' : Sl Ent.enc 6 w0 w0.heap.size v4 Y.ents) (hr' : RdCtx w0 w0.heap.size v5 v6 Y.ctx) :
    Calls Try.prog 11 #[.agg #[v1, v2, v3], .agg #[v4, v5, v6]] w0 fun e w' => e = .returned (.bool (decide (X = Y))) ∧ Bel w0.heap.size w0 w' := by
  have hs := h
  have hrr := hr
  have hs' := h'
  have hrr' := hr'
  obtain ⟨A, cap, rfl, hl, hcap, hA⟩ := h
  obtain ⟨⟨A2, cap2, rfl, _⟩, ⟨A3, cap3, rfl, _⟩⟩ := hr
  obtain ⟨B, capB, rfl, hlB, hcapB, hB⟩ := h'
  obtain ⟨⟨B2, capB2, rfl, _⟩, ⟨B3, capB3, rfl, _⟩⟩ := hr'
  refine enter2 Try.func11 rfl Try.ntmps11 rfl fun a S => ?_
  refine wp_seq_k fun _ hK1 => ?_
  refine wp_region_lit ?_
  (refine st_m (op_box S (Ev.t rfl) rfl ?_); clear S a; intro g1 a w S)
  (refine st_m (op_box S (Ev.t rfl) rfl ?_); clear S a w; intro g2 a w S)
  (refine st_y S (Yr.ys (ys_assign Ev.c)) rfl ?_; clear S a w; intro a w S)
  refine st_nil ?_
  (refine (then_normal (hK1 _ _ ?_)); clear hK1)
  refine wp_seq_k fun _ hK1 => ?_
  refine wp_region_lit ?_
  (refine st_y S (Yr.ys (ys_fieldN (FieldT.mk Try.underlying40 rfl Try.sizeOf34 rfl) (Ev.t rfl) (i' := 0) rfl)) rfl ?_; clear S a w; intro a w S)
  (refine st_y S (Yr.ys (ys_ld ⟨Try.isAgg34, Try.sizeOf34⟩ (Ev.t rfl) (k := 1) rfl rfl)) rfl ?_; clear S a w; intro a w S)
  (refine st_y S (Yr.ys (ys_fieldN (FieldT.mk Try.underlying40 rfl Try.sizeOf34 rfl) (Ev.t rfl) (i' := 0) rfl)) rfl ?_; clear S a w; intro a w S)
  (refine st_y S (Yr.ys (ys_ld ⟨Try.isAgg34, Try.sizeOf34⟩ (Ev.t rfl) (k := 0) rfl rfl)) rfl ?_; clear S a w; intro a w S)
  (refine st_y S (ys_call Try.call32 (EvL.cons (Ev.t rfl) (EvL.cons (Ev.t rfl) EvL.nil)) (fun hp w W => c32 _ _ _ _ _ (by exact .old W (by assumption)) (by exact .old W (by assumption)))) rfl ?_; clear S a w; intro a w S)
  (refine st_y S (Yr.ys (ys_move (Ev.t rfl))) rfl ?_; clear S a w; intro a w S)
  (refine st_yg S rfl rfl (Yr.ys (ys_fieldN (FieldT.mk Try.underlying40 rfl Try.sizeOf38 rfl) (Ev.t rfl) (i' := 1) rfl)) rfl ?_; clear S a w; intro a w S)
  (refine st_yg S rfl rfl (Yr.ys (ys_ldA ⟨Try.isAgg38, Try.sizeOf38⟩ (Ev.g rfl) (k := 1) rfl rfl)) rfl ?_; clear S a w; intro a w S)
  (refine st_yg S rfl rfl (Yr.ys (ys_fieldN (FieldT.mk Try.underlying40 rfl Try.sizeOf38 rfl) (Ev.t rfl) (i' := 1) rfl)) rfl ?_; clear S a w; intro a w S)
  (refine st_yg S rfl rfl (Yr.ys (ys_ldA ⟨Try.isAgg38, Try.sizeOf38⟩ (Ev.g rfl) (k := 0) rfl rfl)) rfl ?_; clear S a w; intro a w S)
  (refine st_yg S rfl rfl (ys_call Try.call33 (EvL.cons (Ev.g rfl) (EvL.cons (Ev.g rfl) EvL.nil)) (fun hp w W => c33 _ _ _ _ _ _ _ (by exact .old W (by assumption)) (by exact .old W (by assumption)))) rfl ?_; clear S a w; intro a w S)
  (refine st_y S (Yr.ys (ys_and (Ev.t rfl) (Ev.g rfl) Ev.c)) rfl ?_; clear S a w; intro a w S)
  (refine st_y S (Yr.ys (ys_assign (Ev.t rfl))) rfl ?_; clear S a w; intro a w S)
  refine st_nil ?_
  (refine (then_normal (hK1 _ _ ?_)); clear hK1)
  refine wp_ret ?_
  refine st_ret S (results1 S Try.results11 (Rv.tmp rfl)) ?_
  exact ⟨by rw [cart_same], S.wd.below⟩
end Go.Proofs.Ytfblmkocmnbdcaa
set_option linter.unusedVariables false
set_option linter.unusedSimpArgs false
set_option maxRecDepth 100000
set_option maxHeartbeats 4000000
namespace Go.Proofs.Ytfblmkocmnbdcaa
open Go.Fw Go.Proofs Go.RowKit
theorem c19 (w0 : World) (u : Upd) (v1 v2 v3 : Value) (h : Sl Ent.enc 6 w0 w0.heap.size v1 u.seen.ents) (hr : RdCtx w0 w0.heap.size v2 v3 u.seen.ctx) (hl1 : u.seen.ents.length ≤ 1048576) (hl2 : u.seen.ctx.marks.length ≤ 1048576) (hl3 : u.seen.ctx.cloud.length ≤ 1048576) :
    Rets Try.prog 19 #[.agg (Upd.enc u v1 v2 v3).toArray] w0 fun v L => ∃ A1 c1 A2 c2 A3 c3, v = .agg (Upd.enc u (.slice A1 u.seen.ents.length c1) (.slice A2 u.seen.ctx.marks.length c2) (.slice A3 u.seen.ctx.cloud.length c3)).toArray ∧
      L = [rowOf 74 6 Ent.enc A1 c1 u.seen.ents, rowOf 110 3 Dot.enc A2 c2 u.seen.ctx.marks, rowOf 62 3 Dot.enc A3 c3 u.seen.ctx.cloud] := by
  have hs := h
  have hrr := hr
  obtain ⟨A, cap, rfl, hl, hcap, hA⟩ := h
  obtain ⟨⟨A2, cap2, rfl, _⟩, ⟨A3, cap3, rfl, _⟩⟩ := hr
  unfold Go.Fw.Rets
  refine enter1 Try.func19 rfl Try.ntmps19 rfl fun a S => ?_
  refine wp_seq_k fun _ hK1 => ?_
  refine wp_region_lit ?_
  (refine st_m (op_box S (Ev.t rfl) rfl ?_); clear S a; intro g1 a w S)
  (refine st_m (op_alloc S Try.zeroValue64 (cs := _) rfl rfl ?_); clear S a w; intro g2 a w S)
  refine st_nil ?_
  (refine (then_normal (hK1 _ _ ?_)); clear hK1)
  refine wp_seq_k fun _ hK1 => ?_
  refine wp_region_lit ?_
  (refine st_y S (Yr.ys (ys_fieldN (FieldT.mk Try.underlying64 rfl Try.sizeOf40 rfl) (Ev.t rfl) (i' := 7) rfl)) rfl ?_; clear S a w; intro a w S)
  (refine st_y S (Yr.ys (ys_ldA ⟨Try.isAgg40, Try.sizeOf40⟩ (Ev.t rfl) (k := 1) rfl rfl)) rfl ?_; clear S a w; intro a w S)
  (refine st_m (op_calls S Try.call16 (EvL.cons (Ev.t rfl) EvL.nil) (c16 _ _ _ _ _ (by exact .old S.wd (by assumption)) (by exact .old S.wd (by assumption)) (by assumption) (by assumption) (by assumption)) rfl ?_); clear S a w; rintro _ _ ⟨A11, c14, A21, c23, A31, c31, rfl, rfl⟩ a w S)
  (refine st_y S (Yr.ys (ys_fieldN (FieldT.mk Try.underlying64 rfl Try.sizeOf40 rfl) (Ev.t rfl) (i' := 7) rfl)) rfl ?_; clear S a w; intro a w S)
  (refine st_m (op_stA S Try.sizeOf40 (Ev.t rfl) (Ev.t rfl) (k := 4) rfl rfl (by simp [Value.oneCell']) (by simp) ?_); clear S a w; intro a w S)
  refine st_nil ?_
  (refine (then_normal (hK1 _ _ ?_)); clear hK1)
  refine wp_seq_k fun _ hK1 => ?_
  refine wp_region_lit ?_
  (refine st_y S (Yr.ys (ys_ldA ⟨Try.isAgg64, Try.sizeOf64⟩ (Ev.t rfl) (k := 4) rfl rfl)) rfl ?_; clear S a w; intro a w S)
  (refine st_m (op_stW S Try.sizeOf64 (Ev.t rfl) (Ev.t rfl) (k := 3) rfl rfl rfl (by simp [Value.oneCell']) ?_); clear S a w; intro a w S)
  refine st_nil ?_
  (refine (then_normal (hK1 _ _ ?_)); clear hK1)
  refine wp_ret ?_
  refine st_ret S (results1 S Try.results19 (Rv.cell (k := 3) ⟨Try.isAgg64, Try.sizeOf64⟩ rfl rfl rfl)) ?_
  exact ⟨_, _, rfl, S.wd.picks (by repeat (first | exact Picks.nil | (refine Picks.rest ?_; (repeat (first | exact List.Sublist.refl _ | refine List.Sublist.cons_cons _ ?_ | refine List.Sublist.cons _ ?_)); done) | refine Picks.take 0 rfl ?_ | refine Picks.take 1 rfl ?_ | refine Picks.take 2 rfl ?_ | refine Picks.take 3 rfl ?_ | refine Picks.take 4 rfl ?_ | refine Picks.take 5 rfl ?_ | refine Picks.take 6 rfl ?_ | refine Picks.take 7 rfl ?_ | refine Picks.take 8 rfl ?_ | refine Picks.take 9 rfl ?_ | refine Picks.take 10 rfl ?_ | refine Picks.take 11 rfl ?_)), _, _, _, _, _, _, rfl, rfl⟩
theorem c23 (w0 : World) (v1 v2 v3 v4 v5 v6 : Value) (u u' : Upd) (h : Sl Ent.enc 6 w0 w0.heap.size v1 u.seen.ents) (hr : RdCtx w0 w0.heap.size v2 v3 u.seen.ctx) (h' : Sl Ent.enc 6 w0 w0.heap.size v4 u'.seen.ents) (hr' : RdCtx w0 w0.heap.size v5 v6 u'.seen.ctx) (he : u = u') :
    Calls Try.prog 23 #[.agg (Upd.enc u v1 v2 v3).toArray, .agg (Upd.enc u' v4 v5 v6).toArray] w0 fun e w' => e = .returned (.bool true) ∧ Bel w0.heap.size w0 w' := by
  have hs := h
  have hrr := hr
  have hs' := h'
  have hrr' := hr'
  subst he
  obtain ⟨A, cap, rfl, hl, hcap, hA⟩ := h
  obtain ⟨⟨A2, cap2, rfl, _⟩, ⟨A3, cap3, rfl, _⟩⟩ := hr
  obtain ⟨B, capB, rfl, hlB, hcapB, hB⟩ := h'
  obtain ⟨⟨B2, capB2, rfl, _⟩, ⟨B3, capB3, rfl, _⟩⟩ := hr'
  refine enter2 Try.func23 rfl Try.ntmps23 rfl fun a S => ?_
  refine wp_seq_k fun _ hK1 => ?_
  refine wp_region_lit ?_
  (refine st_m (op_box S (Ev.t rfl) rfl ?_); clear S a; intro g1 a w S)
  (refine st_m (op_box S (Ev.t rfl) rfl ?_); clear S a w; intro g2 a w S)
  (refine st_y S (Yr.ys (ys_assign Ev.c)) rfl ?_; clear S a w; intro a w S)
  refine st_nil ?_
  (refine (then_normal (hK1 _ _ ?_)); clear hK1)
  refine wp_seq_k fun _ hK1 => ?_
  refine wp_region_lit ?_
  (refine st_y S (Yr.ys (ys_fieldN (FieldT.mk Try.underlying64 rfl Try.sizeOf9 rfl) (Ev.t rfl) (i' := 0) rfl)) rfl ?_; clear S a w; intro a w S)
  (refine st_y S (Yr.ys (ys_ld ⟨Try.isAgg9, Try.sizeOf9⟩ (Ev.t rfl) (k := 1) rfl rfl)) rfl ?_; clear S a w; intro a w S)
  (refine st_y S (Yr.ys (ys_fieldN (FieldT.mk Try.underlying64 rfl Try.sizeOf9 rfl) (Ev.t rfl) (i' := 0) rfl)) rfl ?_; clear S a w; intro a w S)
  (refine st_y S (Yr.ys (ys_ld ⟨Try.isAgg9, Try.sizeOf9⟩ (Ev.t rfl) (k := 0) rfl rfl)) rfl ?_; clear S a w; intro a w S)
  (refine st_y S (Yr.ys (ys_eqlStr (Ev.t rfl) (Ev.t rfl))) rfl ?_; clear S a w; intro a w S)
  (refine st_y S (Yr.ys (ys_move (Ev.t rfl))) rfl ?_; clear S a w; intro a w S)
  (refine st_yg S rfl rfl (Yr.ys (ys_fieldN (FieldT.mk Try.underlying64 rfl Try.sizeOf62 rfl) (Ev.t rfl) (i' := 1) rfl)) rfl ?_; clear S a w; intro a w S)
  (refine st_yg S rfl rfl (Yr.ys (ys_ldA ⟨Try.isAgg62, Try.sizeOf62⟩ (Ev.g rfl) (k := 1) rfl rfl)) rfl ?_; clear S a w; intro a w S)
  (refine st_yg S rfl rfl (Yr.ys (ys_fieldN (FieldT.mk Try.underlying64 rfl Try.sizeOf62 rfl) (Ev.t rfl) (i' := 1) rfl)) rfl ?_; clear S a w; intro a w S)
  (refine st_yg S rfl rfl (Yr.ys (ys_ldA ⟨Try.isAgg62, Try.sizeOf62⟩ (Ev.g rfl) (k := 0) rfl rfl)) rfl ?_; clear S a w; intro a w S)
  (refine st_yg S rfl rfl (Yr.ys (ys_eqA (Ev.g rfl) (Ev.g rfl) eq62)) rfl ?_; clear S a w; intro a w S)
  (refine st_y S (Yr.ys (ys_and (Ev.t rfl) (Ev.g rfl) Ev.c)) rfl ?_; clear S a w; intro a w S)
  (refine st_y S (Yr.ys (ys_move (Ev.t rfl))) rfl ?_; clear S a w; intro a w S)
  (refine st_yg S rfl rfl (Yr.ys (ys_fieldN (FieldT.mk Try.underlying64 rfl Try.sizeOf9 rfl) (Ev.t rfl) (i' := 4) rfl)) rfl ?_; clear S a w; intro a w S)
  (refine st_yg S rfl rfl (Yr.ys (ys_ld ⟨Try.isAgg9, Try.sizeOf9⟩ (Ev.g rfl) (k := 1) rfl rfl)) rfl ?_; clear S a w; intro a w S)
  (refine st_yg S rfl rfl (Yr.ys (ys_fieldN (FieldT.mk Try.underlying64 rfl Try.sizeOf9 rfl) (Ev.t rfl) (i' := 4) rfl)) rfl ?_; clear S a w; intro a w S)
  (refine st_yg S rfl rfl (Yr.ys (ys_ld ⟨Try.isAgg9, Try.sizeOf9⟩ (Ev.g rfl) (k := 0) rfl rfl)) rfl ?_; clear S a w; intro a w S)
  (refine st_yg S rfl rfl (Yr.ys (ys_eqlStr (Ev.g rfl) (Ev.g rfl))) rfl ?_; clear S a w; intro a w S)
  (refine st_y S (Yr.ys (ys_and (Ev.t rfl) (Ev.g rfl) Ev.c)) rfl ?_; clear S a w; intro a w S)
  (refine st_y S (Yr.ys (ys_move (Ev.t rfl))) rfl ?_; clear S a w; intro a w S)
  (refine st_yg S rfl rfl (Yr.ys (ys_fieldN (FieldT.mk Try.underlying64 rfl Try.sizeOf3 rfl) (Ev.t rfl) (i' := 5) rfl)) rfl ?_; clear S a w; intro a w S)
  (refine st_yg S rfl rfl (Yr.ys (ys_ld ⟨Try.isAgg3, Try.sizeOf3⟩ (Ev.g rfl) (k := 1) rfl rfl)) rfl ?_; clear S a w; intro a w S)
  (refine st_yg S rfl rfl (Yr.ys (ys_fieldN (FieldT.mk Try.underlying64 rfl Try.sizeOf3 rfl) (Ev.t rfl) (i' := 5) rfl)) rfl ?_; clear S a w; intro a w S)
  (refine st_yg S rfl rfl (Yr.ys (ys_ld ⟨Try.isAgg3, Try.sizeOf3⟩ (Ev.g rfl) (k := 0) rfl rfl)) rfl ?_; clear S a w; intro a w S)
  (refine st_yg S rfl rfl (Yr.ys (ys_T (by omega) (ys_eql (Ev.g rfl) (Ev.g rfl)))) rfl ?_; clear S a w; intro a w S)
  (refine st_y S (Yr.ys (ys_andT (Ev.t rfl) (Ev.g rfl) Ev.c)) rfl ?_; clear S a w; intro a w S)
  (refine st_y S (Yr.ys (ys_move (Ev.t rfl))) rfl ?_; clear S a w; intro a w S)
  (refine st_yg S rfl rfl (Yr.ys (ys_fieldN (FieldT.mk Try.underlying64 rfl Try.sizeOf27 rfl) (Ev.t rfl) (i' := 6) rfl)) rfl ?_; clear S a w; intro a w S)
  (refine st_yg S rfl rfl (Yr.ys (ys_ld ⟨Try.isAgg27, Try.sizeOf27⟩ (Ev.g rfl) (k := 1) rfl rfl)) rfl ?_; clear S a w; intro a w S)
  (refine st_yg S rfl rfl (Yr.ys (ys_fieldN (FieldT.mk Try.underlying64 rfl Try.sizeOf27 rfl) (Ev.t rfl) (i' := 6) rfl)) rfl ?_; clear S a w; intro a w S)
  (refine st_yg S rfl rfl (Yr.ys (ys_ld ⟨Try.isAgg27, Try.sizeOf27⟩ (Ev.g rfl) (k := 0) rfl rfl)) rfl ?_; clear S a w; intro a w S)
  (refine st_yg S rfl rfl (Yr.ys (ys_T (by omega) (ys_eql (Ev.g rfl) (Ev.g rfl)))) rfl ?_; clear S a w; intro a w S)
  (refine st_y S (Yr.ys (ys_andT (Ev.t rfl) (Ev.g rfl) Ev.c)) rfl ?_; clear S a w; intro a w S)
  (refine st_y S (Yr.ys (ys_move (Ev.t rfl))) rfl ?_; clear S a w; intro a w S)
  (refine st_yg S rfl rfl (Yr.ys (ys_fieldN (FieldT.mk Try.underlying64 rfl Try.sizeOf40 rfl) (Ev.t rfl) (i' := 7) rfl)) rfl ?_; clear S a w; intro a w S)
  (refine st_yg S rfl rfl (Yr.ys (ys_ldA ⟨Try.isAgg40, Try.sizeOf40⟩ (Ev.g rfl) (k := 1) rfl rfl)) rfl ?_; clear S a w; intro a w S)
  (refine st_yg S rfl rfl (Yr.ys (ys_fieldN (FieldT.mk Try.underlying64 rfl Try.sizeOf40 rfl) (Ev.t rfl) (i' := 7) rfl)) rfl ?_; clear S a w; intro a w S)
  (refine st_yg S rfl rfl (Yr.ys (ys_ldA ⟨Try.isAgg40, Try.sizeOf40⟩ (Ev.g rfl) (k := 0) rfl rfl)) rfl ?_; clear S a w; intro a w S)
  (refine st_yg S rfl rfl (ys_call Try.call11 (EvL.cons (Ev.g rfl) (EvL.cons (Ev.g rfl) EvL.nil)) (fun hp w W => c11 _ _ _ _ _ _ _ _ _ (by exact .old W (by assumption)) (by exact .old W (by assumption)) (by exact .old W (by assumption)) (by exact .old W (by assumption)))) rfl ?_; clear S a w; intro a w S)
  simp only [List.nil_append] at S
  (refine st_y S (Yr.ys (ys_pickT (Ev.t rfl) (Ev.g rfl))) rfl ?_; clear S a w; intro a w S)
  (refine st_y S (Yr.ys (ys_assign (Ev.t rfl))) rfl ?_; clear S a w; intro a w S)
  refine st_nil ?_
  (refine (then_normal (hK1 _ _ ?_)); clear hK1)
  refine wp_ret ?_
  refine st_ret S (results1 S Try.results23 (Rv.tmp rfl)) ?_
  exact ⟨by rw [decide_eq_true True.intro], S.wd.below⟩
end Go.Proofs.Ytfblmkocmnbdcaa
set_option linter.unusedVariables false
set_option linter.unusedSimpArgs false
set_option maxRecDepth 100000
set_option maxHeartbeats 4000000
namespace Go.Proofs.Ytfblmkocmnbdcaa
open Go.Fw Go.Proofs Go.RowKit
theorem c5 (w0 : World) (v1 v2 v3 v4 v5 v6 : Value) (X : Cart) (u : Upd) (h : Sl Ent.enc 6 w0 w0.heap.size v1 X.ents) (hr : RdCtx w0 w0.heap.size v2 v3 X.ctx) (h' : Sl Ent.enc 6 w0 w0.heap.size v4 u.seen.ents) (hr' : RdCtx w0 w0.heap.size v5 v6 u.seen.ctx)
    (hl1 : X.ents.length ≤ 1048576) (hl2 : X.ctx.marks.length ≤ 1048576) (hl3 : X.ctx.cloud.length ≤ 1048576) (hl4 : u.seen.ents.length ≤ 1048576) (hl5 : u.seen.ctx.marks.length ≤ 1048576) (hl6 : u.seen.ctx.cloud.length ≤ 1048576) :
    Calls Try.prog 5 #[.agg #[v1, v2, v3], .agg (Upd.enc u v4 v5 v6).toArray] w0 fun e w' => e = .returned (.bool true) ∧ Bel w0.heap.size w0 w' := by
  have hs := h
  have hrr := hr
  have hs' := h'
  have hrr' := hr'
  obtain ⟨A, cap, rfl, hl, hcap, hA⟩ := h
  obtain ⟨⟨A2, cap2, rfl, _⟩, ⟨A3, cap3, rfl, _⟩⟩ := hr
  obtain ⟨B, capB, rfl, hlB, hcapB, hB⟩ := h'
  obtain ⟨⟨B2, capB2, rfl, _⟩, ⟨B3, capB3, rfl, _⟩⟩ := hr'
  have rw_x : decide (X = X) = true := decide_eq_true rfl
  refine enter2 Try.func5 rfl Try.ntmps5 rfl fun a S => ?_
  refine wp_seq_k fun _ hK1 => ?_
  refine wp_region_lit ?_
  (refine st_m (op_box S (Ev.t rfl) rfl ?_); clear S a; intro g1 a w S)
  (refine st_m (op_box S (Ev.t rfl) rfl ?_); clear S a w; intro g2 a w S)
  (refine st_y S (Yr.ys (ys_assign Ev.c)) rfl ?_; clear S a w; intro a w S)
  refine st_nil ?_
  (refine (then_normal (hK1 _ _ ?_)); clear hK1)
  refine wp_seq_k fun _ hK1 => ?_
  (refine h_begin0 S (by kernel_rfl) ?_; clear S a w; intro a w S)
  (refine h_y (i := 0) S (by repeat (first | exact List.Sublist.refl _ | exact List.nil_sublist _ | refine .cons_cons _ ?_ | refine .cons _ ?_)) rfl (by kernel_rfl) (by kernel_rfl) (by kernel_rfl) (fun _ _ _ _ h => h) (ys_ldA ⟨Try.isAgg40, Try.sizeOf40⟩ (Ev.t rfl) (k := 1) rfl rfl) rfl ?_; clear S a w; intro a w S)
  (refine h_y (i := 2) S (by repeat (first | exact List.Sublist.refl _ | exact List.nil_sublist _ | refine .cons_cons _ ?_ | refine .cons _ ?_)) rfl (by kernel_rfl) (by kernel_rfl) (by kernel_rfl) (fun _ _ _ _ h => h) (ys_ldA ⟨Try.isAgg64, Try.sizeOf64⟩ (Ev.t rfl) (k := 0) rfl rfl) rfl ?_; clear S a w; intro a w S)
  refine h_split3 (i := 1) (j := 4) (k := 5) (by kernel_rfl) rfl rfl rfl ?_ ?_ ?_
  (refine op_calls S Try.call16 (EvL.cons (Ev.t rfl) EvL.nil) (c16 _ _ _ _ _ (by exact .old S.wd (by assumption)) (by exact .old S.wd (by assumption)) (by assumption) (by assumption) (by assumption)) rfl ?_; clear S a w; rintro _ _ ⟨A11, c14, A21, c210, A31, c31, rfl, rfl⟩ a w S; refine h_on S _ (List.Sublist.refl _) (by repeat (first | exact List.Sublist.refl _ | exact List.nil_sublist _ | refine .cons_cons _ ?_ | refine .cons _ ?_)) ?_)
  refine h_split3 (i := 3) (j := 4) (k := 5) (by kernel_rfl) rfl rfl rfl ?_ ?_ ?_
  (refine op_calls S Try.call19 (EvL.cons (Ev.t rfl) EvL.nil) (c19 _ _ _ _ _ (by exact .old S.wd (by assumption)) (by exact .old S.wd (by assumption)) (by assumption) (by assumption) (by assumption)) rfl ?_; clear S a w; rintro _ _ ⟨A12, c15, A22, c211, A32, c37, rfl, rfl⟩ a w S; refine h_on S _ (List.Sublist.refl _) (by repeat (first | exact List.Sublist.refl _ | exact List.nil_sublist _ | refine .cons_cons _ ?_ | refine .cons _ ?_)) ?_)
  refine h_split (i := 4) (j := 5) (by kernel_rfl) rfl rfl ?_ ?_
  (refine op_alloc S Try.zeroValue40 (cs := _) rfl rfl ?_; clear S a w; intro g3 a w S; refine h_on S _ (List.Sublist.refl _) (by repeat (first | exact List.Sublist.refl _ | exact List.nil_sublist _ | refine .cons_cons _ ?_ | refine .cons _ ?_)) ?_)
  (refine h_m (i := 5) rfl (by kernel_rfl) (op_alloc S Try.zeroValue64 (cs := _) rfl rfl ?_); clear S a w; intro g4 a w S; refine h_on S _ (List.Sublist.refl _) (by repeat (first | exact List.Sublist.refl _ | exact List.nil_sublist _ | refine .cons_cons _ ?_ | refine .cons _ ?_)) ?_)
  (refine h_m0 (i := 6) rfl (by kernel_rfl) (op_stW S Try.sizeOf40 (Ev.t rfl) (Ev.t rfl) (k := 1) rfl rfl rfl (by simp [Value.oneCell']) ?_); clear S a w; intro a w S; refine h_on S _ (List.Sublist.refl _) (by repeat (first | exact List.Sublist.refl _ | exact List.nil_sublist _ | refine .cons_cons _ ?_ | refine .cons _ ?_)) ?_)
  (refine h_m0 (i := 7) rfl (by kernel_rfl) (op_stW S Try.sizeOf64 (Ev.t rfl) (Ev.t rfl) (k := 0) rfl rfl rfl (by simp [Value.oneCell']) ?_); clear S a w; intro a w S; refine h_on S _ (List.Sublist.refl _) (by repeat (first | exact List.Sublist.refl _ | exact List.nil_sublist _ | refine .cons_cons _ ?_ | refine .cons _ ?_)) ?_)
  refine h_done (by kernel_rfl) ?_
  (refine (then_normal (hK1 _ _ ?_)); clear hK1)
  refine wp_seq_k fun _ hK1 => ?_
  refine wp_seq_k fun _ hK2 => ?_
  (refine st_quiet S (by kernel_rfl) (by kernel_rfl) ?_; clear S w; intro a S)
  (refine q_y S (Yr.ys (ys_ldA ⟨Try.isAgg40, Try.sizeOf40⟩ (Ev.t rfl) (k := 1) rfl rfl)) rfl ?_; clear S a; intro a S)
  (refine q_y S (ys_call Try.call9 (EvL.cons (Ev.t rfl) EvL.nil) (fun hp w W => c9 _ _ _ _ _ (by exact Sl.of_own W (k := 5) rfl (fun _ => rfl)) (by exact ⟨(by exact Sl.of_own W (k := 6) rfl (fun _ => rfl)), (by exact Sl.of_own W (k := 7) rfl (fun _ => rfl))⟩))) rfl ?_; clear S a; intro a S)
  (refine q_y S (Yr.ys (ys_ldA ⟨Try.isAgg40, Try.sizeOf40⟩ (Ev.t rfl) (k := 9) rfl rfl)) rfl ?_; clear S a; intro a S)
  (refine q_y S (ys_call Try.call20 (EvL.cons (Ev.t rfl) EvL.nil) (fun hp w W => c20 _ _ _ _ _ (by exact .old W (by assumption)) (by exact .old W (by assumption)))) rfl ?_; clear S a; intro a S)
  (refine q_y S (Yr.ys (ys_F (by omega) (ys_neq (Ev.t rfl) (Ev.t rfl)))) rfl ?_; clear S a; intro a S)
  (refine q_y S (Yr.ys (ys_move (Ev.t rfl))) rfl ?_; clear S a; intro a S)
  (refine q_yt S rfl rfl (Yr.ys (ys_ldA ⟨Try.isAgg64, Try.sizeOf64⟩ (Ev.t rfl) (k := 0) rfl rfl)) rfl ?_; clear S a; intro a S)
  (refine q_yt S rfl rfl (ys_call Try.call21 (EvL.cons (Ev.t rfl) EvL.nil) (fun hp w W => c21 _ _ _ _ _ (by exact Sl.of_own W (k := 2) rfl (fun _ => rfl)) (by exact ⟨(by exact Sl.of_own W (k := 3) rfl (fun _ => rfl)), (by exact Sl.of_own W (k := 4) rfl (fun _ => rfl))⟩))) rfl ?_; clear S a; intro a S)
  (refine q_yt S rfl rfl (Yr.ys (ys_ldA ⟨Try.isAgg64, Try.sizeOf64⟩ (Ev.t rfl) (k := 8) rfl rfl)) rfl ?_; clear S a; intro a S)
  (refine q_yt S rfl rfl (ys_call Try.call22 (EvL.cons (Ev.t rfl) EvL.nil) (fun hp w W => c22 _ _ _ _ _ (by exact .old W (by assumption)) (by exact .old W (by assumption)))) rfl ?_; clear S a; intro a S)
  (refine q_yt S rfl rfl (Yr.ys (ys_F (by omega) (ys_neq (Ev.t rfl) (Ev.t rfl)))) rfl ?_; clear S a; intro a S)
  (refine q_y S (Yr.ys (ys_pickF (Ev.t rfl) (Ev.t rfl))) rfl ?_; clear S a; intro a S)
  (refine q_nil ?_; intro w W; replace S := St.mk S W; clear W)
  (refine (then_normal (hK2 _ _ ?_)); clear hK2)
  refine st_else S (Ev.t rfl) ?_
  refine wp_skip ?_
  (refine (then_normal (hK1 _ _ ?_)); clear hK1)
  refine wp_seq_k fun _ hK1 => ?_
  refine wp_region_lit ?_
  (refine st_y S (Yr.ys (ys_ldA ⟨Try.isAgg40, Try.sizeOf40⟩ (Ev.t rfl) (k := 1) rfl rfl)) rfl ?_; clear S a w; intro a w S)
  (refine st_y S (Yr.ys (ys_ldA ⟨Try.isAgg40, Try.sizeOf40⟩ (Ev.t rfl) (k := 9) rfl rfl)) rfl ?_; clear S a w; intro a w S)
  (refine st_y S (ys_call Try.call11 (EvL.cons (Ev.t rfl) (EvL.cons (Ev.t rfl) EvL.nil)) (fun hp w W => c11 _ _ _ _ _ _ _ _ _ (by exact Sl.of_own W (k := 5) rfl (fun _ => rfl)) (by exact ⟨(by exact Sl.of_own W (k := 6) rfl (fun _ => rfl)), (by exact Sl.of_own W (k := 7) rfl (fun _ => rfl))⟩) (by exact .old W (by assumption)) (by exact .old W (by assumption)))) rfl ?_; clear S a w; intro a w S)
  simp only [List.nil_append] at S
  (refine st_y S (Yr.ys (ys_move (Ev.t rfl))) rfl ?_; clear S a w; intro a w S)
  (refine st_yt S rfl rfl (Yr.ys (ys_ldA ⟨Try.isAgg64, Try.sizeOf64⟩ (Ev.t rfl) (k := 0) rfl rfl)) rfl ?_; clear S a w; intro a w S)
  (refine st_yt S rfl rfl (Yr.ys (ys_ldA ⟨Try.isAgg64, Try.sizeOf64⟩ (Ev.t rfl) (k := 8) rfl rfl)) rfl ?_; clear S a w; intro a w S)
  (refine st_yt S rfl rfl (ys_call Try.call23 (EvL.cons (Ev.t rfl) (EvL.cons (Ev.t rfl) EvL.nil)) (fun hp w W => c23 _ _ _ _ _ _ _ _ _ (by exact Sl.of_own W (k := 2) rfl (fun _ => rfl)) (by exact ⟨(by exact Sl.of_own W (k := 3) rfl (fun _ => rfl)), (by exact Sl.of_own W (k := 4) rfl (fun _ => rfl))⟩) (by exact .old W (by assumption)) (by exact .old W (by assumption)) (by (simp; done)))) rfl ?_; clear S a w; intro a w S)
  (refine st_y S (Yr.ys (ys_pickT (Ev.t rfl) (Ev.t rfl))) rfl ?_; clear S a w; intro a w S)
  (refine st_y S (Yr.ys (ys_assign (Ev.t rfl))) rfl ?_; clear S a w; intro a w S)
  refine st_nil ?_
  (refine (then_normal (hK1 _ _ ?_)); clear hK1)
  refine wp_ret ?_
  refine st_ret S (results1 S Try.results5 (Rv.tmp rfl)) ?_
  rotate_left
  (refine op_alloc S Try.zeroValue64 (cs := _) rfl rfl ?_; clear S a w; intro g3 a w S; refine h_on S _ (List.Sublist.refl _) (by repeat (first | exact List.Sublist.refl _ | exact List.nil_sublist _ | refine .cons_cons _ ?_ | refine .cons _ ?_)) ?_)
  (refine h_m (i := 4) rfl (by kernel_rfl) (op_alloc S Try.zeroValue40 (cs := _) rfl rfl ?_); clear S a w; intro g4 a w S; refine h_on S _ (List.Sublist.refl _) (by repeat (first | exact List.Sublist.refl _ | exact List.nil_sublist _ | refine .cons_cons _ ?_ | refine .cons _ ?_)) ?_)
  (refine h_m0 (i := 6) rfl (by kernel_rfl) (op_stW S Try.sizeOf40 (Ev.t rfl) (Ev.t rfl) (k := 0) rfl rfl rfl (by simp [Value.oneCell']) ?_); clear S a w; intro a w S; refine h_on S _ (List.Sublist.refl _) (by repeat (first | exact List.Sublist.refl _ | exact List.nil_sublist _ | refine .cons_cons _ ?_ | refine .cons _ ?_)) ?_)
  (refine h_m0 (i := 7) rfl (by kernel_rfl) (op_stW S Try.sizeOf64 (Ev.t rfl) (Ev.t rfl) (k := 1) rfl rfl rfl (by simp [Value.oneCell']) ?_); clear S a w; intro a w S; refine h_on S _ (List.Sublist.refl _) (by repeat (first | exact List.Sublist.refl _ | exact List.nil_sublist _ | refine .cons_cons _ ?_ | refine .cons _ ?_)) ?_)
  refine h_done (by kernel_rfl) ?_
  (refine (then_normal (hK1 _ _ ?_)); clear hK1)
  refine wp_seq_k fun _ hK1 => ?_
  refine wp_seq_k fun _ hK2 => ?_
  (refine st_quiet S (by kernel_rfl) (by kernel_rfl) ?_; clear S w; intro a S)
  (refine q_y S (Yr.ys (ys_ldA ⟨Try.isAgg40, Try.sizeOf40⟩ (Ev.t rfl) (k := 0) rfl rfl)) rfl ?_; clear S a; intro a S)
  (refine q_y S (ys_call Try.call9 (EvL.cons (Ev.t rfl) EvL.nil) (fun hp w W => c9 _ _ _ _ _ (by exact Sl.of_own W (k := 5) rfl (fun _ => rfl)) (by exact ⟨(by exact Sl.of_own W (k := 6) rfl (fun _ => rfl)), (by exact Sl.of_own W (k := 7) rfl (fun _ => rfl))⟩))) rfl ?_; clear S a; intro a S)
  (refine q_y S (Yr.ys (ys_ldA ⟨Try.isAgg40, Try.sizeOf40⟩ (Ev.t rfl) (k := 9) rfl rfl)) rfl ?_; clear S a; intro a S)
  (refine q_y S (ys_call Try.call20 (EvL.cons (Ev.t rfl) EvL.nil) (fun hp w W => c20 _ _ _ _ _ (by exact .old W (by assumption)) (by exact .old W (by assumption)))) rfl ?_; clear S a; intro a S)
  (refine q_y S (Yr.ys (ys_F (by omega) (ys_neq (Ev.t rfl) (Ev.t rfl)))) rfl ?_; clear S a; intro a S)
  (refine q_y S (Yr.ys (ys_move (Ev.t rfl))) rfl ?_; clear S a; intro a S)
  (refine q_yt S rfl rfl (Yr.ys (ys_ldA ⟨Try.isAgg64, Try.sizeOf64⟩ (Ev.t rfl) (k := 1) rfl rfl)) rfl ?_; clear S a; intro a S)
  (refine q_yt S rfl rfl (ys_call Try.call21 (EvL.cons (Ev.t rfl) EvL.nil) (fun hp w W => c21 _ _ _ _ _ (by exact Sl.of_own W (k := 2) rfl (fun _ => rfl)) (by exact ⟨(by exact Sl.of_own W (k := 3) rfl (fun _ => rfl)), (by exact Sl.of_own W (k := 4) rfl (fun _ => rfl))⟩))) rfl ?_; clear S a; intro a S)
  (refine q_yt S rfl rfl (Yr.ys (ys_ldA ⟨Try.isAgg64, Try.sizeOf64⟩ (Ev.t rfl) (k := 8) rfl rfl)) rfl ?_; clear S a; intro a S)
  (refine q_yt S rfl rfl (ys_call Try.call22 (EvL.cons (Ev.t rfl) EvL.nil) (fun hp w W => c22 _ _ _ _ _ (by exact .old W (by assumption)) (by exact .old W (by assumption)))) rfl ?_; clear S a; intro a S)
  (refine q_yt S rfl rfl (Yr.ys (ys_F (by omega) (ys_neq (Ev.t rfl) (Ev.t rfl)))) rfl ?_; clear S a; intro a S)
  (refine q_y S (Yr.ys (ys_pickF (Ev.t rfl) (Ev.t rfl))) rfl ?_; clear S a; intro a S)
  (refine q_nil ?_; intro w W; replace S := St.mk S W; clear W)
  (refine (then_normal (hK2 _ _ ?_)); clear hK2)
  refine st_else S (Ev.t rfl) ?_
  refine wp_skip ?_
  (refine (then_normal (hK1 _ _ ?_)); clear hK1)
  refine wp_seq_k fun _ hK1 => ?_
  refine wp_region_lit ?_
  (refine st_y S (Yr.ys (ys_ldA ⟨Try.isAgg40, Try.sizeOf40⟩ (Ev.t rfl) (k := 0) rfl rfl)) rfl ?_; clear S a w; intro a w S)
  (refine st_y S (Yr.ys (ys_ldA ⟨Try.isAgg40, Try.sizeOf40⟩ (Ev.t rfl) (k := 9) rfl rfl)) rfl ?_; clear S a w; intro a w S)
  (refine st_y S (ys_call Try.call11 (EvL.cons (Ev.t rfl) (EvL.cons (Ev.t rfl) EvL.nil)) (fun hp w W => c11 _ _ _ _ _ _ _ _ _ (by exact Sl.of_own W (k := 5) rfl (fun _ => rfl)) (by exact ⟨(by exact Sl.of_own W (k := 6) rfl (fun _ => rfl)), (by exact Sl.of_own W (k := 7) rfl (fun _ => rfl))⟩) (by exact .old W (by assumption)) (by exact .old W (by assumption)))) rfl ?_; clear S a w; intro a w S)
  simp only [List.nil_append] at S
  (refine st_y S (Yr.ys (ys_move (Ev.t rfl))) rfl ?_; clear S a w; intro a w S)
  (refine st_yt S rfl rfl (Yr.ys (ys_ldA ⟨Try.isAgg64, Try.sizeOf64⟩ (Ev.t rfl) (k := 1) rfl rfl)) rfl ?_; clear S a w; intro a w S)
  (refine st_yt S rfl rfl (Yr.ys (ys_ldA ⟨Try.isAgg64, Try.sizeOf64⟩ (Ev.t rfl) (k := 8) rfl rfl)) rfl ?_; clear S a w; intro a w S)
  (refine st_yt S rfl rfl (ys_call Try.call23 (EvL.cons (Ev.t rfl) (EvL.cons (Ev.t rfl) EvL.nil)) (fun hp w W => c23 _ _ _ _ _ _ _ _ _ (by exact Sl.of_own W (k := 2) rfl (fun _ => rfl)) (by exact ⟨(by exact Sl.of_own W (k := 3) rfl (fun _ => rfl)), (by exact Sl.of_own W (k := 4) rfl (fun _ => rfl))⟩) (by exact .old W (by assumption)) (by exact .old W (by assumption)) (by (simp; done)))) rfl ?_; clear S a w; intro a w S)
  (refine st_y S (Yr.ys (ys_pickT (Ev.t rfl) (Ev.t rfl))) rfl ?_; clear S a w; intro a w S)
  (refine st_y S (Yr.ys (ys_assign (Ev.t rfl))) rfl ?_; clear S a w; intro a w S)
  refine st_nil ?_
  (refine (then_normal (hK1 _ _ ?_)); clear hK1)
  refine wp_ret ?_
  refine st_ret S (results1 S Try.results5 (Rv.tmp rfl)) ?_
  rotate_left
  (refine op_alloc S Try.zeroValue40 (cs := _) rfl rfl ?_; clear S a w; intro g3 a w S; refine h_on S _ (List.Sublist.refl _) (by repeat (first | exact List.Sublist.refl _ | exact List.nil_sublist _ | refine .cons_cons _ ?_ | refine .cons _ ?_)) ?_)
  refine h_split (i := 3) (j := 5) (by kernel_rfl) rfl rfl ?_ ?_
  (refine op_calls S Try.call19 (EvL.cons (Ev.t rfl) EvL.nil) (c19 _ _ _ _ _ (by exact .old S.wd (by assumption)) (by exact .old S.wd (by assumption)) (by assumption) (by assumption) (by assumption)) rfl ?_; clear S a w; rintro _ _ ⟨A12, c15, A22, c211, A32, c37, rfl, rfl⟩ a w S; refine h_on S _ (List.Sublist.refl _) (by repeat (first | exact List.Sublist.refl _ | exact List.nil_sublist _ | refine .cons_cons _ ?_ | refine .cons _ ?_)) ?_)
  (refine h_m (i := 5) rfl (by kernel_rfl) (op_alloc S Try.zeroValue64 (cs := _) rfl rfl ?_); clear S a w; intro g4 a w S; refine h_on S _ (List.Sublist.refl _) (by repeat (first | exact List.Sublist.refl _ | exact List.nil_sublist _ | refine .cons_cons _ ?_ | refine .cons _ ?_)) ?_)
  (refine h_m0 (i := 6) rfl (by kernel_rfl) (op_stW S Try.sizeOf40 (Ev.t rfl) (Ev.t rfl) (k := 4) rfl rfl rfl (by simp [Value.oneCell']) ?_); clear S a w; intro a w S; refine h_on S _ (List.Sublist.refl _) (by repeat (first | exact List.Sublist.refl _ | exact List.nil_sublist _ | refine .cons_cons _ ?_ | refine .cons _ ?_)) ?_)
  (refine h_m0 (i := 7) rfl (by kernel_rfl) (op_stW S Try.sizeOf64 (Ev.t rfl) (Ev.t rfl) (k := 0) rfl rfl rfl (by simp [Value.oneCell']) ?_); clear S a w; intro a w S; refine h_on S _ (List.Sublist.refl _) (by repeat (first | exact List.Sublist.refl _ | exact List.nil_sublist _ | refine .cons_cons _ ?_ | refine .cons _ ?_)) ?_)
  refine h_done (by kernel_rfl) ?_
  (refine (then_normal (hK1 _ _ ?_)); clear hK1)
  refine wp_seq_k fun _ hK1 => ?_
  refine wp_seq_k fun _ hK2 => ?_
  (refine st_quiet S (by kernel_rfl) (by kernel_rfl) ?_; clear S w; intro a S)
  (refine q_y S (Yr.ys (ys_ldA ⟨Try.isAgg40, Try.sizeOf40⟩ (Ev.t rfl) (k := 4) rfl rfl)) rfl ?_; clear S a; intro a S)
  (refine q_y S (ys_call Try.call9 (EvL.cons (Ev.t rfl) EvL.nil) (fun hp w W => c9 _ _ _ _ _ (by exact Sl.of_own W (k := 5) rfl (fun _ => rfl)) (by exact ⟨(by exact Sl.of_own W (k := 6) rfl (fun _ => rfl)), (by exact Sl.of_own W (k := 7) rfl (fun _ => rfl))⟩))) rfl ?_; clear S a; intro a S)
  (refine q_y S (Yr.ys (ys_ldA ⟨Try.isAgg40, Try.sizeOf40⟩ (Ev.t rfl) (k := 9) rfl rfl)) rfl ?_; clear S a; intro a S)
  (refine q_y S (ys_call Try.call20 (EvL.cons (Ev.t rfl) EvL.nil) (fun hp w W => c20 _ _ _ _ _ (by exact .old W (by assumption)) (by exact .old W (by assumption)))) rfl ?_; clear S a; intro a S)
  (refine q_y S (Yr.ys (ys_F (by omega) (ys_neq (Ev.t rfl) (Ev.t rfl)))) rfl ?_; clear S a; intro a S)
  (refine q_y S (Yr.ys (ys_move (Ev.t rfl))) rfl ?_; clear S a; intro a S)
  (refine q_yt S rfl rfl (Yr.ys (ys_ldA ⟨Try.isAgg64, Try.sizeOf64⟩ (Ev.t rfl) (k := 0) rfl rfl)) rfl ?_; clear S a; intro a S)
  (refine q_yt S rfl rfl (ys_call Try.call21 (EvL.cons (Ev.t rfl) EvL.nil) (fun hp w W => c21 _ _ _ _ _ (by exact Sl.of_own W (k := 1) rfl (fun _ => rfl)) (by exact ⟨(by exact Sl.of_own W (k := 2) rfl (fun _ => rfl)), (by exact Sl.of_own W (k := 3) rfl (fun _ => rfl))⟩))) rfl ?_; clear S a; intro a S)
  (refine q_yt S rfl rfl (Yr.ys (ys_ldA ⟨Try.isAgg64, Try.sizeOf64⟩ (Ev.t rfl) (k := 8) rfl rfl)) rfl ?_; clear S a; intro a S)
  (refine q_yt S rfl rfl (ys_call Try.call22 (EvL.cons (Ev.t rfl) EvL.nil) (fun hp w W => c22 _ _ _ _ _ (by exact .old W (by assumption)) (by exact .old W (by assumption)))) rfl ?_; clear S a; intro a S)
  (refine q_yt S rfl rfl (Yr.ys (ys_F (by omega) (ys_neq (Ev.t rfl) (Ev.t rfl)))) rfl ?_; clear S a; intro a S)
  (refine q_y S (Yr.ys (ys_pickF (Ev.t rfl) (Ev.t rfl))) rfl ?_; clear S a; intro a S)
  (refine q_nil ?_; intro w W; replace S := St.mk S W; clear W)
  (refine (then_normal (hK2 _ _ ?_)); clear hK2)
  refine st_else S (Ev.t rfl) ?_
  refine wp_skip ?_
  (refine (then_normal (hK1 _ _ ?_)); clear hK1)
  refine wp_seq_k fun _ hK1 => ?_
  refine wp_region_lit ?_
  (refine st_y S (Yr.ys (ys_ldA ⟨Try.isAgg40, Try.sizeOf40⟩ (Ev.t rfl) (k := 4) rfl rfl)) rfl ?_; clear S a w; intro a w S)
  (refine st_y S (Yr.ys (ys_ldA ⟨Try.isAgg40, Try.sizeOf40⟩ (Ev.t rfl) (k := 9) rfl rfl)) rfl ?_; clear S a w; intro a w S)
  (refine st_y S (ys_call Try.call11 (EvL.cons (Ev.t rfl) (EvL.cons (Ev.t rfl) EvL.nil)) (fun hp w W => c11 _ _ _ _ _ _ _ _ _ (by exact Sl.of_own W (k := 5) rfl (fun _ => rfl)) (by exact ⟨(by exact Sl.of_own W (k := 6) rfl (fun _ => rfl)), (by exact Sl.of_own W (k := 7) rfl (fun _ => rfl))⟩) (by exact .old W (by assumption)) (by exact .old W (by assumption)))) rfl ?_; clear S a w; intro a w S)
  simp only [List.nil_append] at S
  (refine st_y S (Yr.ys (ys_move (Ev.t rfl))) rfl ?_; clear S a w; intro a w S)
  (refine st_yt S rfl rfl (Yr.ys (ys_ldA ⟨Try.isAgg64, Try.sizeOf64⟩ (Ev.t rfl) (k := 0) rfl rfl)) rfl ?_; clear S a w; intro a w S)
  (refine st_yt S rfl rfl (Yr.ys (ys_ldA ⟨Try.isAgg64, Try.sizeOf64⟩ (Ev.t rfl) (k := 8) rfl rfl)) rfl ?_; clear S a w; intro a w S)
  (refine st_yt S rfl rfl (ys_call Try.call23 (EvL.cons (Ev.t rfl) (EvL.cons (Ev.t rfl) EvL.nil)) (fun hp w W => c23 _ _ _ _ _ _ _ _ _ (by exact Sl.of_own W (k := 1) rfl (fun _ => rfl)) (by exact ⟨(by exact Sl.of_own W (k := 2) rfl (fun _ => rfl)), (by exact Sl.of_own W (k := 3) rfl (fun _ => rfl))⟩) (by exact .old W (by assumption)) (by exact .old W (by assumption)) (by (simp; done)))) rfl ?_; clear S a w; intro a w S)
  (refine st_y S (Yr.ys (ys_pickT (Ev.t rfl) (Ev.t rfl))) rfl ?_; clear S a w; intro a w S)
  (refine st_y S (Yr.ys (ys_assign (Ev.t rfl))) rfl ?_; clear S a w; intro a w S)
  refine st_nil ?_
  (refine (then_normal (hK1 _ _ ?_)); clear hK1)
  refine wp_ret ?_
  refine st_ret S (results1 S Try.results5 (Rv.tmp rfl)) ?_
  rotate_left
  (refine op_alloc S Try.zeroValue64 (cs := _) rfl rfl ?_; clear S a w; intro g4 a w S; refine h_on S _ (List.Sublist.refl _) (by repeat (first | exact List.Sublist.refl _ | exact List.nil_sublist _ | refine .cons_cons _ ?_ | refine .cons _ ?_)) ?_)
  (refine h_m (i := 3) rfl (by kernel_rfl) (op_calls S Try.call19 (EvL.cons (Ev.t rfl) EvL.nil) (c19 _ _ _ _ _ (by exact .old S.wd (by assumption)) (by exact .old S.wd (by assumption)) (by assumption) (by assumption) (by assumption)) rfl ?_); clear S a w; rintro _ _ ⟨A12, c15, A22, c211, A32, c37, rfl, rfl⟩ a w S; refine h_on S _ (List.Sublist.refl _) (by repeat (first | exact List.Sublist.refl _ | exact List.nil_sublist _ | refine .cons_cons _ ?_ | refine .cons _ ?_)) ?_)
  (refine h_m0 (i := 6) rfl (by kernel_rfl) (op_stW S Try.sizeOf40 (Ev.t rfl) (Ev.t rfl) (k := 4) rfl rfl rfl (by simp [Value.oneCell']) ?_); clear S a w; intro a w S; refine h_on S _ (List.Sublist.refl _) (by repeat (first | exact List.Sublist.refl _ | exact List.nil_sublist _ | refine .cons_cons _ ?_ | refine .cons _ ?_)) ?_)
  (refine h_m0 (i := 7) rfl (by kernel_rfl) (op_stW S Try.sizeOf64 (Ev.t rfl) (Ev.t rfl) (k := 3) rfl rfl rfl (by simp [Value.oneCell']) ?_); clear S a w; intro a w S; refine h_on S _ (List.Sublist.refl _) (by repeat (first | exact List.Sublist.refl _ | exact List.nil_sublist _ | refine .cons_cons _ ?_ | refine .cons _ ?_)) ?_)
  refine h_done (by kernel_rfl) ?_
  (refine (then_normal (hK1 _ _ ?_)); clear hK1)
  refine wp_seq_k fun _ hK1 => ?_
  refine wp_seq_k fun _ hK2 => ?_
  (refine st_quiet S (by kernel_rfl) (by kernel_rfl) ?_; clear S w; intro a S)
  (refine q_y S (Yr.ys (ys_ldA ⟨Try.isAgg40, Try.sizeOf40⟩ (Ev.t rfl) (k := 4) rfl rfl)) rfl ?_; clear S a; intro a S)
  (refine q_y S (ys_call Try.call9 (EvL.cons (Ev.t rfl) EvL.nil) (fun hp w W => c9 _ _ _ _ _ (by exact Sl.of_own W (k := 5) rfl (fun _ => rfl)) (by exact ⟨(by exact Sl.of_own W (k := 6) rfl (fun _ => rfl)), (by exact Sl.of_own W (k := 7) rfl (fun _ => rfl))⟩))) rfl ?_; clear S a; intro a S)
  (refine q_y S (Yr.ys (ys_ldA ⟨Try.isAgg40, Try.sizeOf40⟩ (Ev.t rfl) (k := 9) rfl rfl)) rfl ?_; clear S a; intro a S)
  (refine q_y S (ys_call Try.call20 (EvL.cons (Ev.t rfl) EvL.nil) (fun hp w W => c20 _ _ _ _ _ (by exact .old W (by assumption)) (by exact .old W (by assumption)))) rfl ?_; clear S a; intro a S)
  (refine q_y S (Yr.ys (ys_F (by omega) (ys_neq (Ev.t rfl) (Ev.t rfl)))) rfl ?_; clear S a; intro a S)
  (refine q_y S (Yr.ys (ys_move (Ev.t rfl))) rfl ?_; clear S a; intro a S)
  (refine q_yt S rfl rfl (Yr.ys (ys_ldA ⟨Try.isAgg64, Try.sizeOf64⟩ (Ev.t rfl) (k := 3) rfl rfl)) rfl ?_; clear S a; intro a S)
  (refine q_yt S rfl rfl (ys_call Try.call21 (EvL.cons (Ev.t rfl) EvL.nil) (fun hp w W => c21 _ _ _ _ _ (by exact Sl.of_own W (k := 0) rfl (fun _ => rfl)) (by exact ⟨(by exact Sl.of_own W (k := 1) rfl (fun _ => rfl)), (by exact Sl.of_own W (k := 2) rfl (fun _ => rfl))⟩))) rfl ?_; clear S a; intro a S)
  (refine q_yt S rfl rfl (Yr.ys (ys_ldA ⟨Try.isAgg64, Try.sizeOf64⟩ (Ev.t rfl) (k := 8) rfl rfl)) rfl ?_; clear S a; intro a S)
  (refine q_yt S rfl rfl (ys_call Try.call22 (EvL.cons (Ev.t rfl) EvL.nil) (fun hp w W => c22 _ _ _ _ _ (by exact .old W (by assumption)) (by exact .old W (by assumption)))) rfl ?_; clear S a; intro a S)
  (refine q_yt S rfl rfl (Yr.ys (ys_F (by omega) (ys_neq (Ev.t rfl) (Ev.t rfl)))) rfl ?_; clear S a; intro a S)
  (refine q_y S (Yr.ys (ys_pickF (Ev.t rfl) (Ev.t rfl))) rfl ?_; clear S a; intro a S)
  (refine q_nil ?_; intro w W; replace S := St.mk S W; clear W)
  (refine (then_normal (hK2 _ _ ?_)); clear hK2)
  refine st_else S (Ev.t rfl) ?_
  refine wp_skip ?_
  (refine (then_normal (hK1 _ _ ?_)); clear hK1)
  refine wp_seq_k fun _ hK1 => ?_
  refine wp_region_lit ?_
  (refine st_y S (Yr.ys (ys_ldA ⟨Try.isAgg40, Try.sizeOf40⟩ (Ev.t rfl) (k := 4) rfl rfl)) rfl ?_; clear S a w; intro a w S)
  (refine st_y S (Yr.ys (ys_ldA ⟨Try.isAgg40, Try.sizeOf40⟩ (Ev.t rfl) (k := 9) rfl rfl)) rfl ?_; clear S a w; intro a w S)
  (refine st_y S (ys_call Try.call11 (EvL.cons (Ev.t rfl) (EvL.cons (Ev.t rfl) EvL.nil)) (fun hp w W => c11 _ _ _ _ _ _ _ _ _ (by exact Sl.of_own W (k := 5) rfl (fun _ => rfl)) (by exact ⟨(by exact Sl.of_own W (k := 6) rfl (fun _ => rfl)), (by exact Sl.of_own W (k := 7) rfl (fun _ => rfl))⟩) (by exact .old W (by assumption)) (by exact .old W (by assumption)))) rfl ?_; clear S a w; intro a w S)
  simp only [List.nil_append] at S
  (refine st_y S (Yr.ys (ys_move (Ev.t rfl))) rfl ?_; clear S a w; intro a w S)
  (refine st_yt S rfl rfl (Yr.ys (ys_ldA ⟨Try.isAgg64, Try.sizeOf64⟩ (Ev.t rfl) (k := 3) rfl rfl)) rfl ?_; clear S a w; intro a w S)
  (refine st_yt S rfl rfl (Yr.ys (ys_ldA ⟨Try.isAgg64, Try.sizeOf64⟩ (Ev.t rfl) (k := 8) rfl rfl)) rfl ?_; clear S a w; intro a w S)
  (refine st_yt S rfl rfl (ys_call Try.call23 (EvL.cons (Ev.t rfl) (EvL.cons (Ev.t rfl) EvL.nil)) (fun hp w W => c23 _ _ _ _ _ _ _ _ _ (by exact Sl.of_own W (k := 0) rfl (fun _ => rfl)) (by exact ⟨(by exact Sl.of_own W (k := 1) rfl (fun _ => rfl)), (by exact Sl.of_own W (k := 2) rfl (fun _ => rfl))⟩) (by exact .old W (by assumption)) (by exact .old W (by assumption)) (by (simp; done)))) rfl ?_; clear S a w; intro a w S)
  (refine st_y S (Yr.ys (ys_pickT (Ev.t rfl) (Ev.t rfl))) rfl ?_; clear S a w; intro a w S)
  (refine st_y S (Yr.ys (ys_assign (Ev.t rfl))) rfl ?_; clear S a w; intro a w S)
  refine st_nil ?_
  (refine (then_normal (hK1 _ _ ?_)); clear hK1)
  refine wp_ret ?_
  refine st_ret S (results1 S Try.results5 (Rv.tmp rfl)) ?_
  rotate_left
  (refine op_alloc S Try.zeroValue64 (cs := _) rfl rfl ?_; clear S a w; intro g3 a w S; refine h_on S _ (List.Sublist.refl _) (by repeat (first | exact List.Sublist.refl _ | exact List.nil_sublist _ | refine .cons_cons _ ?_ | refine .cons _ ?_)) ?_)
  refine h_split (i := 3) (j := 4) (by kernel_rfl) rfl rfl ?_ ?_
  (refine op_calls S Try.call19 (EvL.cons (Ev.t rfl) EvL.nil) (c19 _ _ _ _ _ (by exact .old S.wd (by assumption)) (by exact .old S.wd (by assumption)) (by assumption) (by assumption) (by assumption)) rfl ?_; clear S a w; rintro _ _ ⟨A12, c15, A22, c211, A32, c37, rfl, rfl⟩ a w S; refine h_on S _ (List.Sublist.refl _) (by repeat (first | exact List.Sublist.refl _ | exact List.nil_sublist _ | refine .cons_cons _ ?_ | refine .cons _ ?_)) ?_)
  (refine h_m (i := 4) rfl (by kernel_rfl) (op_alloc S Try.zeroValue40 (cs := _) rfl rfl ?_); clear S a w; intro g4 a w S; refine h_on S _ (List.Sublist.refl _) (by repeat (first | exact List.Sublist.refl _ | exact List.nil_sublist _ | refine .cons_cons _ ?_ | refine .cons _ ?_)) ?_)
  (refine h_m0 (i := 6) rfl (by kernel_rfl) (op_stW S Try.sizeOf40 (Ev.t rfl) (Ev.t rfl) (k := 0) rfl rfl rfl (by simp [Value.oneCell']) ?_); clear S a w; intro a w S; refine h_on S _ (List.Sublist.refl _) (by repeat (first | exact List.Sublist.refl _ | exact List.nil_sublist _ | refine .cons_cons _ ?_ | refine .cons _ ?_)) ?_)
  (refine h_m0 (i := 7) rfl (by kernel_rfl) (op_stW S Try.sizeOf64 (Ev.t rfl) (Ev.t rfl) (k := 4) rfl rfl rfl (by simp [Value.oneCell']) ?_); clear S a w; intro a w S; refine h_on S _ (List.Sublist.refl _) (by repeat (first | exact List.Sublist.refl _ | exact List.nil_sublist _ | refine .cons_cons _ ?_ | refine .cons _ ?_)) ?_)
  refine h_done (by kernel_rfl) ?_
  (refine (then_normal (hK1 _ _ ?_)); clear hK1)
  refine wp_seq_k fun _ hK1 => ?_
  refine wp_seq_k fun _ hK2 => ?_
  (refine st_quiet S (by kernel_rfl) (by kernel_rfl) ?_; clear S w; intro a S)
  (refine q_y S (Yr.ys (ys_ldA ⟨Try.isAgg40, Try.sizeOf40⟩ (Ev.t rfl) (k := 0) rfl rfl)) rfl ?_; clear S a; intro a S)
  (refine q_y S (ys_call Try.call9 (EvL.cons (Ev.t rfl) EvL.nil) (fun hp w W => c9 _ _ _ _ _ (by exact Sl.of_own W (k := 5) rfl (fun _ => rfl)) (by exact ⟨(by exact Sl.of_own W (k := 6) rfl (fun _ => rfl)), (by exact Sl.of_own W (k := 7) rfl (fun _ => rfl))⟩))) rfl ?_; clear S a; intro a S)
  (refine q_y S (Yr.ys (ys_ldA ⟨Try.isAgg40, Try.sizeOf40⟩ (Ev.t rfl) (k := 9) rfl rfl)) rfl ?_; clear S a; intro a S)
  (refine q_y S (ys_call Try.call20 (EvL.cons (Ev.t rfl) EvL.nil) (fun hp w W => c20 _ _ _ _ _ (by exact .old W (by assumption)) (by exact .old W (by assumption)))) rfl ?_; clear S a; intro a S)
  (refine q_y S (Yr.ys (ys_F (by omega) (ys_neq (Ev.t rfl) (Ev.t rfl)))) rfl ?_; clear S a; intro a S)
  (refine q_y S (Yr.ys (ys_move (Ev.t rfl))) rfl ?_; clear S a; intro a S)
  (refine q_yt S rfl rfl (Yr.ys (ys_ldA ⟨Try.isAgg64, Try.sizeOf64⟩ (Ev.t rfl) (k := 4) rfl rfl)) rfl ?_; clear S a; intro a S)
  (refine q_yt S rfl rfl (ys_call Try.call21 (EvL.cons (Ev.t rfl) EvL.nil) (fun hp w W => c21 _ _ _ _ _ (by exact Sl.of_own W (k := 1) rfl (fun _ => rfl)) (by exact ⟨(by exact Sl.of_own W (k := 2) rfl (fun _ => rfl)), (by exact Sl.of_own W (k := 3) rfl (fun _ => rfl))⟩))) rfl ?_; clear S a; intro a S)
  (refine q_yt S rfl rfl (Yr.ys (ys_ldA ⟨Try.isAgg64, Try.sizeOf64⟩ (Ev.t rfl) (k := 8) rfl rfl)) rfl ?_; clear S a; intro a S)
  (refine q_yt S rfl rfl (ys_call Try.call22 (EvL.cons (Ev.t rfl) EvL.nil) (fun hp w W => c22 _ _ _ _ _ (by exact .old W (by assumption)) (by exact .old W (by assumption)))) rfl ?_; clear S a; intro a S)
  (refine q_yt S rfl rfl (Yr.ys (ys_F (by omega) (ys_neq (Ev.t rfl) (Ev.t rfl)))) rfl ?_; clear S a; intro a S)
  (refine q_y S (Yr.ys (ys_pickF (Ev.t rfl) (Ev.t rfl))) rfl ?_; clear S a; intro a S)
  (refine q_nil ?_; intro w W; replace S := St.mk S W; clear W)
  (refine (then_normal (hK2 _ _ ?_)); clear hK2)
  refine st_else S (Ev.t rfl) ?_
  refine wp_skip ?_
  (refine (then_normal (hK1 _ _ ?_)); clear hK1)
  refine wp_seq_k fun _ hK1 => ?_
  refine wp_region_lit ?_
  (refine st_y S (Yr.ys (ys_ldA ⟨Try.isAgg40, Try.sizeOf40⟩ (Ev.t rfl) (k := 0) rfl rfl)) rfl ?_; clear S a w; intro a w S)
  (refine st_y S (Yr.ys (ys_ldA ⟨Try.isAgg40, Try.sizeOf40⟩ (Ev.t rfl) (k := 9) rfl rfl)) rfl ?_; clear S a w; intro a w S)
  (refine st_y S (ys_call Try.call11 (EvL.cons (Ev.t rfl) (EvL.cons (Ev.t rfl) EvL.nil)) (fun hp w W => c11 _ _ _ _ _ _ _ _ _ (by exact Sl.of_own W (k := 5) rfl (fun _ => rfl)) (by exact ⟨(by exact Sl.of_own W (k := 6) rfl (fun _ => rfl)), (by exact Sl.of_own W (k := 7) rfl (fun _ => rfl))⟩) (by exact .old W (by assumption)) (by exact .old W (by assumption)))) rfl ?_; clear S a w; intro a w S)
  simp only [List.nil_append] at S
  (refine st_y S (Yr.ys (ys_move (Ev.t rfl))) rfl ?_; clear S a w; intro a w S)
  (refine st_yt S rfl rfl (Yr.ys (ys_ldA ⟨Try.isAgg64, Try.sizeOf64⟩ (Ev.t rfl) (k := 4) rfl rfl)) rfl ?_; clear S a w; intro a w S)
  (refine st_yt S rfl rfl (Yr.ys (ys_ldA ⟨Try.isAgg64, Try.sizeOf64⟩ (Ev.t rfl) (k := 8) rfl rfl)) rfl ?_; clear S a w; intro a w S)
  (refine st_yt S rfl rfl (ys_call Try.call23 (EvL.cons (Ev.t rfl) (EvL.cons (Ev.t rfl) EvL.nil)) (fun hp w W => c23 _ _ _ _ _ _ _ _ _ (by exact Sl.of_own W (k := 1) rfl (fun _ => rfl)) (by exact ⟨(by exact Sl.of_own W (k := 2) rfl (fun _ => rfl)), (by exact Sl.of_own W (k := 3) rfl (fun _ => rfl))⟩) (by exact .old W (by assumption)) (by exact .old W (by assumption)) (by (simp; done)))) rfl ?_; clear S a w; intro a w S)
  (refine st_y S (Yr.ys (ys_pickT (Ev.t rfl) (Ev.t rfl))) rfl ?_; clear S a w; intro a w S)
  (refine st_y S (Yr.ys (ys_assign (Ev.t rfl))) rfl ?_; clear S a w; intro a w S)
  refine st_nil ?_
  (refine (then_normal (hK1 _ _ ?_)); clear hK1)
  refine wp_ret ?_
  refine st_ret S (results1 S Try.results5 (Rv.tmp rfl)) ?_
  rotate_left
  (refine op_alloc S Try.zeroValue40 (cs := _) rfl rfl ?_; clear S a w; intro g4 a w S; refine h_on S _ (List.Sublist.refl _) (by repeat (first | exact List.Sublist.refl _ | exact List.nil_sublist _ | refine .cons_cons _ ?_ | refine .cons _ ?_)) ?_)
  (refine h_m (i := 3) rfl (by kernel_rfl) (op_calls S Try.call19 (EvL.cons (Ev.t rfl) EvL.nil) (c19 _ _ _ _ _ (by exact .old S.wd (by assumption)) (by exact .old S.wd (by assumption)) (by assumption) (by assumption) (by assumption)) rfl ?_); clear S a w; rintro _ _ ⟨A12, c15, A22, c211, A32, c37, rfl, rfl⟩ a w S; refine h_on S _ (List.Sublist.refl _) (by repeat (first | exact List.Sublist.refl _ | exact List.nil_sublist _ | refine .cons_cons _ ?_ | refine .cons _ ?_)) ?_)
  (refine h_m0 (i := 6) rfl (by kernel_rfl) (op_stW S Try.sizeOf40 (Ev.t rfl) (Ev.t rfl) (k := 3) rfl rfl rfl (by simp [Value.oneCell']) ?_); clear S a w; intro a w S; refine h_on S _ (List.Sublist.refl _) (by repeat (first | exact List.Sublist.refl _ | exact List.nil_sublist _ | refine .cons_cons _ ?_ | refine .cons _ ?_)) ?_)
  (refine h_m0 (i := 7) rfl (by kernel_rfl) (op_stW S Try.sizeOf64 (Ev.t rfl) (Ev.t rfl) (k := 4) rfl rfl rfl (by simp [Value.oneCell']) ?_); clear S a w; intro a w S; refine h_on S _ (List.Sublist.refl _) (by repeat (first | exact List.Sublist.refl _ | exact List.nil_sublist _ | refine .cons_cons _ ?_ | refine .cons _ ?_)) ?_)
  refine h_done (by kernel_rfl) ?_
  (refine (then_normal (hK1 _ _ ?_)); clear hK1)
  refine wp_seq_k fun _ hK1 => ?_
  refine wp_seq_k fun _ hK2 => ?_
  (refine st_quiet S (by kernel_rfl) (by kernel_rfl) ?_; clear S w; intro a S)
  (refine q_y S (Yr.ys (ys_ldA ⟨Try.isAgg40, Try.sizeOf40⟩ (Ev.t rfl) (k := 3) rfl rfl)) rfl ?_; clear S a; intro a S)
  (refine q_y S (ys_call Try.call9 (EvL.cons (Ev.t rfl) EvL.nil) (fun hp w W => c9 _ _ _ _ _ (by exact Sl.of_own W (k := 5) rfl (fun _ => rfl)) (by exact ⟨(by exact Sl.of_own W (k := 6) rfl (fun _ => rfl)), (by exact Sl.of_own W (k := 7) rfl (fun _ => rfl))⟩))) rfl ?_; clear S a; intro a S)
  (refine q_y S (Yr.ys (ys_ldA ⟨Try.isAgg40, Try.sizeOf40⟩ (Ev.t rfl) (k := 9) rfl rfl)) rfl ?_; clear S a; intro a S)
  (refine q_y S (ys_call Try.call20 (EvL.cons (Ev.t rfl) EvL.nil) (fun hp w W => c20 _ _ _ _ _ (by exact .old W (by assumption)) (by exact .old W (by assumption)))) rfl ?_; clear S a; intro a S)
  (refine q_y S (Yr.ys (ys_F (by omega) (ys_neq (Ev.t rfl) (Ev.t rfl)))) rfl ?_; clear S a; intro a S)
  (refine q_y S (Yr.ys (ys_move (Ev.t rfl))) rfl ?_; clear S a; intro a S)
  (refine q_yt S rfl rfl (Yr.ys (ys_ldA ⟨Try.isAgg64, Try.sizeOf64⟩ (Ev.t rfl) (k := 4) rfl rfl)) rfl ?_; clear S a; intro a S)
  (refine q_yt S rfl rfl (ys_call Try.call21 (EvL.cons (Ev.t rfl) EvL.nil) (fun hp w W => c21 _ _ _ _ _ (by exact Sl.of_own W (k := 0) rfl (fun _ => rfl)) (by exact ⟨(by exact Sl.of_own W (k := 1) rfl (fun _ => rfl)), (by exact Sl.of_own W (k := 2) rfl (fun _ => rfl))⟩))) rfl ?_; clear S a; intro a S)
  (refine q_yt S rfl rfl (Yr.ys (ys_ldA ⟨Try.isAgg64, Try.sizeOf64⟩ (Ev.t rfl) (k := 8) rfl rfl)) rfl ?_; clear S a; intro a S)
  (refine q_yt S rfl rfl (ys_call Try.call22 (EvL.cons (Ev.t rfl) EvL.nil) (fun hp w W => c22 _ _ _ _ _ (by exact .old W (by assumption)) (by exact .old W (by assumption)))) rfl ?_; clear S a; intro a S)
  (refine q_yt S rfl rfl (Yr.ys (ys_F (by omega) (ys_neq (Ev.t rfl) (Ev.t rfl)))) rfl ?_; clear S a; intro a S)
  (refine q_y S (Yr.ys (ys_pickF (Ev.t rfl) (Ev.t rfl))) rfl ?_; clear S a; intro a S)
  (refine q_nil ?_; intro w W; replace S := St.mk S W; clear W)
  (refine (then_normal (hK2 _ _ ?_)); clear hK2)
  refine st_else S (Ev.t rfl) ?_
  refine wp_skip ?_
  (refine (then_normal (hK1 _ _ ?_)); clear hK1)
  refine wp_seq_k fun _ hK1 => ?_
  refine wp_region_lit ?_
  (refine st_y S (Yr.ys (ys_ldA ⟨Try.isAgg40, Try.sizeOf40⟩ (Ev.t rfl) (k := 3) rfl rfl)) rfl ?_; clear S a w; intro a w S)
  (refine st_y S (Yr.ys (ys_ldA ⟨Try.isAgg40, Try.sizeOf40⟩ (Ev.t rfl) (k := 9) rfl rfl)) rfl ?_; clear S a w; intro a w S)
  (refine st_y S (ys_call Try.call11 (EvL.cons (Ev.t rfl) (EvL.cons (Ev.t rfl) EvL.nil)) (fun hp w W => c11 _ _ _ _ _ _ _ _ _ (by exact Sl.of_own W (k := 5) rfl (fun _ => rfl)) (by exact ⟨(by exact Sl.of_own W (k := 6) rfl (fun _ => rfl)), (by exact Sl.of_own W (k := 7) rfl (fun _ => rfl))⟩) (by exact .old W (by assumption)) (by exact .old W (by assumption)))) rfl ?_; clear S a w; intro a w S)
  simp only [List.nil_append] at S
  (refine st_y S (Yr.ys (ys_move (Ev.t rfl))) rfl ?_; clear S a w; intro a w S)
  (refine st_yt S rfl rfl (Yr.ys (ys_ldA ⟨Try.isAgg64, Try.sizeOf64⟩ (Ev.t rfl) (k := 4) rfl rfl)) rfl ?_; clear S a w; intro a w S)
  (refine st_yt S rfl rfl (Yr.ys (ys_ldA ⟨Try.isAgg64, Try.sizeOf64⟩ (Ev.t rfl) (k := 8) rfl rfl)) rfl ?_; clear S a w; intro a w S)
  (refine st_yt S rfl rfl (ys_call Try.call23 (EvL.cons (Ev.t rfl) (EvL.cons (Ev.t rfl) EvL.nil)) (fun hp w W => c23 _ _ _ _ _ _ _ _ _ (by exact Sl.of_own W (k := 0) rfl (fun _ => rfl)) (by exact ⟨(by exact Sl.of_own W (k := 1) rfl (fun _ => rfl)), (by exact Sl.of_own W (k := 2) rfl (fun _ => rfl))⟩) (by exact .old W (by assumption)) (by exact .old W (by assumption)) (by (simp; done)))) rfl ?_; clear S a w; intro a w S)
  (refine st_y S (Yr.ys (ys_pickT (Ev.t rfl) (Ev.t rfl))) rfl ?_; clear S a w; intro a w S)
  (refine st_y S (Yr.ys (ys_assign (Ev.t rfl))) rfl ?_; clear S a w; intro a w S)
  refine st_nil ?_
  (refine (then_normal (hK1 _ _ ?_)); clear hK1)
  refine wp_ret ?_
  refine st_ret S (results1 S Try.results5 (Rv.tmp rfl)) ?_
  rotate_left
  (refine op_alloc S Try.zeroValue40 (cs := _) rfl rfl ?_; clear S a w; intro g3 a w S; refine h_on S _ (List.Sublist.refl _) (by repeat (first | exact List.Sublist.refl _ | exact List.nil_sublist _ | refine .cons_cons _ ?_ | refine .cons _ ?_)) ?_)
  refine h_split (i := 1) (j := 5) (by kernel_rfl) rfl rfl ?_ ?_
  (refine op_calls S Try.call16 (EvL.cons (Ev.t rfl) EvL.nil) (c16 _ _ _ _ _ (by exact .old S.wd (by assumption)) (by exact .old S.wd (by assumption)) (by assumption) (by assumption) (by assumption)) rfl ?_; clear S a w; rintro _ _ ⟨A11, c14, A21, c210, A31, c31, rfl, rfl⟩ a w S; refine h_on S _ (List.Sublist.refl _) (by repeat (first | exact List.Sublist.refl _ | exact List.nil_sublist _ | refine .cons_cons _ ?_ | refine .cons _ ?_)) ?_)
  refine h_split (i := 3) (j := 5) (by kernel_rfl) rfl rfl ?_ ?_
  (refine op_calls S Try.call19 (EvL.cons (Ev.t rfl) EvL.nil) (c19 _ _ _ _ _ (by exact .old S.wd (by assumption)) (by exact .old S.wd (by assumption)) (by assumption) (by assumption) (by assumption)) rfl ?_; clear S a w; rintro _ _ ⟨A12, c15, A22, c211, A32, c37, rfl, rfl⟩ a w S; refine h_on S _ (List.Sublist.refl _) (by repeat (first | exact List.Sublist.refl _ | exact List.nil_sublist _ | refine .cons_cons _ ?_ | refine .cons _ ?_)) ?_)
  (refine h_m (i := 5) rfl (by kernel_rfl) (op_alloc S Try.zeroValue64 (cs := _) rfl rfl ?_); clear S a w; intro g4 a w S; refine h_on S _ (List.Sublist.refl _) (by repeat (first | exact List.Sublist.refl _ | exact List.nil_sublist _ | refine .cons_cons _ ?_ | refine .cons _ ?_)) ?_)
  (refine h_m0 (i := 6) rfl (by kernel_rfl) (op_stW S Try.sizeOf40 (Ev.t rfl) (Ev.t rfl) (k := 7) rfl rfl rfl (by simp [Value.oneCell']) ?_); clear S a w; intro a w S; refine h_on S _ (List.Sublist.refl _) (by repeat (first | exact List.Sublist.refl _ | exact List.nil_sublist _ | refine .cons_cons _ ?_ | refine .cons _ ?_)) ?_)
  (refine h_m0 (i := 7) rfl (by kernel_rfl) (op_stW S Try.sizeOf64 (Ev.t rfl) (Ev.t rfl) (k := 0) rfl rfl rfl (by simp [Value.oneCell']) ?_); clear S a w; intro a w S; refine h_on S _ (List.Sublist.refl _) (by repeat (first | exact List.Sublist.refl _ | exact List.nil_sublist _ | refine .cons_cons _ ?_ | refine .cons _ ?_)) ?_)
  refine h_done (by kernel_rfl) ?_
  (refine (then_normal (hK1 _ _ ?_)); clear hK1)
  refine wp_seq_k fun _ hK1 => ?_
  refine wp_seq_k fun _ hK2 => ?_
  (refine st_quiet S (by kernel_rfl) (by kernel_rfl) ?_; clear S w; intro a S)
  (refine q_y S (Yr.ys (ys_ldA ⟨Try.isAgg40, Try.sizeOf40⟩ (Ev.t rfl) (k := 7) rfl rfl)) rfl ?_; clear S a; intro a S)
  (refine q_y S (ys_call Try.call9 (EvL.cons (Ev.t rfl) EvL.nil) (fun hp w W => c9 _ _ _ _ _ (by exact Sl.of_own W (k := 4) rfl (fun _ => rfl)) (by exact ⟨(by exact Sl.of_own W (k := 5) rfl (fun _ => rfl)), (by exact Sl.of_own W (k := 6) rfl (fun _ => rfl))⟩))) rfl ?_; clear S a; intro a S)
  (refine q_y S (Yr.ys (ys_ldA ⟨Try.isAgg40, Try.sizeOf40⟩ (Ev.t rfl) (k := 9) rfl rfl)) rfl ?_; clear S a; intro a S)
  (refine q_y S (ys_call Try.call20 (EvL.cons (Ev.t rfl) EvL.nil) (fun hp w W => c20 _ _ _ _ _ (by exact .old W (by assumption)) (by exact .old W (by assumption)))) rfl ?_; clear S a; intro a S)
  (refine q_y S (Yr.ys (ys_F (by omega) (ys_neq (Ev.t rfl) (Ev.t rfl)))) rfl ?_; clear S a; intro a S)
  (refine q_y S (Yr.ys (ys_move (Ev.t rfl))) rfl ?_; clear S a; intro a S)
  (refine q_yt S rfl rfl (Yr.ys (ys_ldA ⟨Try.isAgg64, Try.sizeOf64⟩ (Ev.t rfl) (k := 0) rfl rfl)) rfl ?_; clear S a; intro a S)
  (refine q_yt S rfl rfl (ys_call Try.call21 (EvL.cons (Ev.t rfl) EvL.nil) (fun hp w W => c21 _ _ _ _ _ (by exact Sl.of_own W (k := 1) rfl (fun _ => rfl)) (by exact ⟨(by exact Sl.of_own W (k := 2) rfl (fun _ => rfl)), (by exact Sl.of_own W (k := 3) rfl (fun _ => rfl))⟩))) rfl ?_; clear S a; intro a S)
  (refine q_yt S rfl rfl (Yr.ys (ys_ldA ⟨Try.isAgg64, Try.sizeOf64⟩ (Ev.t rfl) (k := 8) rfl rfl)) rfl ?_; clear S a; intro a S)
  (refine q_yt S rfl rfl (ys_call Try.call22 (EvL.cons (Ev.t rfl) EvL.nil) (fun hp w W => c22 _ _ _ _ _ (by exact .old W (by assumption)) (by exact .old W (by assumption)))) rfl ?_; clear S a; intro a S)
  (refine q_yt S rfl rfl (Yr.ys (ys_F (by omega) (ys_neq (Ev.t rfl) (Ev.t rfl)))) rfl ?_; clear S a; intro a S)
  (refine q_y S (Yr.ys (ys_pickF (Ev.t rfl) (Ev.t rfl))) rfl ?_; clear S a; intro a S)
  (refine q_nil ?_; intro w W; replace S := St.mk S W; clear W)
  (refine (then_normal (hK2 _ _ ?_)); clear hK2)
  refine st_else S (Ev.t rfl) ?_
  refine wp_skip ?_
  (refine (then_normal (hK1 _ _ ?_)); clear hK1)
  refine wp_seq_k fun _ hK1 => ?_
  refine wp_region_lit ?_
  (refine st_y S (Yr.ys (ys_ldA ⟨Try.isAgg40, Try.sizeOf40⟩ (Ev.t rfl) (k := 7) rfl rfl)) rfl ?_; clear S a w; intro a w S)
  (refine st_y S (Yr.ys (ys_ldA ⟨Try.isAgg40, Try.sizeOf40⟩ (Ev.t rfl) (k := 9) rfl rfl)) rfl ?_; clear S a w; intro a w S)
  (refine st_y S (ys_call Try.call11 (EvL.cons (Ev.t rfl) (EvL.cons (Ev.t rfl) EvL.nil)) (fun hp w W => c11 _ _ _ _ _ _ _ _ _ (by exact Sl.of_own W (k := 4) rfl (fun _ => rfl)) (by exact ⟨(by exact Sl.of_own W (k := 5) rfl (fun _ => rfl)), (by exact Sl.of_own W (k := 6) rfl (fun _ => rfl))⟩) (by exact .old W (by assumption)) (by exact .old W (by assumption)))) rfl ?_; clear S a w; intro a w S)
  simp only [List.nil_append] at S
  (refine st_y S (Yr.ys (ys_move (Ev.t rfl))) rfl ?_; clear S a w; intro a w S)
  (refine st_yt S rfl rfl (Yr.ys (ys_ldA ⟨Try.isAgg64, Try.sizeOf64⟩ (Ev.t rfl) (k := 0) rfl rfl)) rfl ?_; clear S a w; intro a w S)
  (refine st_yt S rfl rfl (Yr.ys (ys_ldA ⟨Try.isAgg64, Try.sizeOf64⟩ (Ev.t rfl) (k := 8) rfl rfl)) rfl ?_; clear S a w; intro a w S)
  (refine st_yt S rfl rfl (ys_call Try.call23 (EvL.cons (Ev.t rfl) (EvL.cons (Ev.t rfl) EvL.nil)) (fun hp w W => c23 _ _ _ _ _ _ _ _ _ (by exact Sl.of_own W (k := 1) rfl (fun _ => rfl)) (by exact ⟨(by exact Sl.of_own W (k := 2) rfl (fun _ => rfl)), (by exact Sl.of_own W (k := 3) rfl (fun _ => rfl))⟩) (by exact .old W (by assumption)) (by exact .old W (by assumption)) (by (simp; done)))) rfl ?_; clear S a w; intro a w S)
  (refine st_y S (Yr.ys (ys_pickT (Ev.t rfl) (Ev.t rfl))) rfl ?_; clear S a w; intro a w S)
  (refine st_y S (Yr.ys (ys_assign (Ev.t rfl))) rfl ?_; clear S a w; intro a w S)
  refine st_nil ?_
  (refine (then_normal (hK1 _ _ ?_)); clear hK1)
  refine wp_ret ?_
  refine st_ret S (results1 S Try.results5 (Rv.tmp rfl)) ?_
  rotate_left
  (refine op_alloc S Try.zeroValue64 (cs := _) rfl rfl ?_; clear S a w; intro g4 a w S; refine h_on S _ (List.Sublist.refl _) (by repeat (first | exact List.Sublist.refl _ | exact List.nil_sublist _ | refine .cons_cons _ ?_ | refine .cons _ ?_)) ?_)
  (refine h_m (i := 3) rfl (by kernel_rfl) (op_calls S Try.call19 (EvL.cons (Ev.t rfl) EvL.nil) (c19 _ _ _ _ _ (by exact .old S.wd (by assumption)) (by exact .old S.wd (by assumption)) (by assumption) (by assumption) (by assumption)) rfl ?_); clear S a w; rintro _ _ ⟨A12, c15, A22, c211, A32, c37, rfl, rfl⟩ a w S; refine h_on S _ (List.Sublist.refl _) (by repeat (first | exact List.Sublist.refl _ | exact List.nil_sublist _ | refine .cons_cons _ ?_ | refine .cons _ ?_)) ?_)
  (refine h_m0 (i := 6) rfl (by kernel_rfl) (op_stW S Try.sizeOf40 (Ev.t rfl) (Ev.t rfl) (k := 7) rfl rfl rfl (by simp [Value.oneCell']) ?_); clear S a w; intro a w S; refine h_on S _ (List.Sublist.refl _) (by repeat (first | exact List.Sublist.refl _ | exact List.nil_sublist _ | refine .cons_cons _ ?_ | refine .cons _ ?_)) ?_)
  (refine h_m0 (i := 7) rfl (by kernel_rfl) (op_stW S Try.sizeOf64 (Ev.t rfl) (Ev.t rfl) (k := 3) rfl rfl rfl (by simp [Value.oneCell']) ?_); clear S a w; intro a w S; refine h_on S _ (List.Sublist.refl _) (by repeat (first | exact List.Sublist.refl _ | exact List.nil_sublist _ | refine .cons_cons _ ?_ | refine .cons _ ?_)) ?_)
  refine h_done (by kernel_rfl) ?_
  (refine (then_normal (hK1 _ _ ?_)); clear hK1)
  refine wp_seq_k fun _ hK1 => ?_
  refine wp_seq_k fun _ hK2 => ?_
  (refine st_quiet S (by kernel_rfl) (by kernel_rfl) ?_; clear S w; intro a S)
  (refine q_y S (Yr.ys (ys_ldA ⟨Try.isAgg40, Try.sizeOf40⟩ (Ev.t rfl) (k := 7) rfl rfl)) rfl ?_; clear S a; intro a S)
  (refine q_y S (ys_call Try.call9 (EvL.cons (Ev.t rfl) EvL.nil) (fun hp w W => c9 _ _ _ _ _ (by exact Sl.of_own W (k := 4) rfl (fun _ => rfl)) (by exact ⟨(by exact Sl.of_own W (k := 5) rfl (fun _ => rfl)), (by exact Sl.of_own W (k := 6) rfl (fun _ => rfl))⟩))) rfl ?_; clear S a; intro a S)
  (refine q_y S (Yr.ys (ys_ldA ⟨Try.isAgg40, Try.sizeOf40⟩ (Ev.t rfl) (k := 9) rfl rfl)) rfl ?_; clear S a; intro a S)
  (refine q_y S (ys_call Try.call20 (EvL.cons (Ev.t rfl) EvL.nil) (fun hp w W => c20 _ _ _ _ _ (by exact .old W (by assumption)) (by exact .old W (by assumption)))) rfl ?_; clear S a; intro a S)
  (refine q_y S (Yr.ys (ys_F (by omega) (ys_neq (Ev.t rfl) (Ev.t rfl)))) rfl ?_; clear S a; intro a S)
  (refine q_y S (Yr.ys (ys_move (Ev.t rfl))) rfl ?_; clear S a; intro a S)
  (refine q_yt S rfl rfl (Yr.ys (ys_ldA ⟨Try.isAgg64, Try.sizeOf64⟩ (Ev.t rfl) (k := 3) rfl rfl)) rfl ?_; clear S a; intro a S)
  (refine q_yt S rfl rfl (ys_call Try.call21 (EvL.cons (Ev.t rfl) EvL.nil) (fun hp w W => c21 _ _ _ _ _ (by exact Sl.of_own W (k := 0) rfl (fun _ => rfl)) (by exact ⟨(by exact Sl.of_own W (k := 1) rfl (fun _ => rfl)), (by exact Sl.of_own W (k := 2) rfl (fun _ => rfl))⟩))) rfl ?_; clear S a; intro a S)
  (refine q_yt S rfl rfl (Yr.ys (ys_ldA ⟨Try.isAgg64, Try.sizeOf64⟩ (Ev.t rfl) (k := 8) rfl rfl)) rfl ?_; clear S a; intro a S)
  (refine q_yt S rfl rfl (ys_call Try.call22 (EvL.cons (Ev.t rfl) EvL.nil) (fun hp w W => c22 _ _ _ _ _ (by exact .old W (by assumption)) (by exact .old W (by assumption)))) rfl ?_; clear S a; intro a S)
  (refine q_yt S rfl rfl (Yr.ys (ys_F (by omega) (ys_neq (Ev.t rfl) (Ev.t rfl)))) rfl ?_; clear S a; intro a S)
  (refine q_y S (Yr.ys (ys_pickF (Ev.t rfl) (Ev.t rfl))) rfl ?_; clear S a; intro a S)
  (refine q_nil ?_; intro w W; replace S := St.mk S W; clear W)
  (refine (then_normal (hK2 _ _ ?_)); clear hK2)
  refine st_else S (Ev.t rfl) ?_
  refine wp_skip ?_
  (refine (then_normal (hK1 _ _ ?_)); clear hK1)
  refine wp_seq_k fun _ hK1 => ?_
  refine wp_region_lit ?_
  (refine st_y S (Yr.ys (ys_ldA ⟨Try.isAgg40, Try.sizeOf40⟩ (Ev.t rfl) (k := 7) rfl rfl)) rfl ?_; clear S a w; intro a w S)
  (refine st_y S (Yr.ys (ys_ldA ⟨Try.isAgg40, Try.sizeOf40⟩ (Ev.t rfl) (k := 9) rfl rfl)) rfl ?_; clear S a w; intro a w S)
  (refine st_y S (ys_call Try.call11 (EvL.cons (Ev.t rfl) (EvL.cons (Ev.t rfl) EvL.nil)) (fun hp w W => c11 _ _ _ _ _ _ _ _ _ (by exact Sl.of_own W (k := 4) rfl (fun _ => rfl)) (by exact ⟨(by exact Sl.of_own W (k := 5) rfl (fun _ => rfl)), (by exact Sl.of_own W (k := 6) rfl (fun _ => rfl))⟩) (by exact .old W (by assumption)) (by exact .old W (by assumption)))) rfl ?_; clear S a w; intro a w S)
  simp only [List.nil_append] at S
  (refine st_y S (Yr.ys (ys_move (Ev.t rfl))) rfl ?_; clear S a w; intro a w S)
  (refine st_yt S rfl rfl (Yr.ys (ys_ldA ⟨Try.isAgg64, Try.sizeOf64⟩ (Ev.t rfl) (k := 3) rfl rfl)) rfl ?_; clear S a w; intro a w S)
  (refine st_yt S rfl rfl (Yr.ys (ys_ldA ⟨Try.isAgg64, Try.sizeOf64⟩ (Ev.t rfl) (k := 8) rfl rfl)) rfl ?_; clear S a w; intro a w S)
  (refine st_yt S rfl rfl (ys_call Try.call23 (EvL.cons (Ev.t rfl) (EvL.cons (Ev.t rfl) EvL.nil)) (fun hp w W => c23 _ _ _ _ _ _ _ _ _ (by exact Sl.of_own W (k := 0) rfl (fun _ => rfl)) (by exact ⟨(by exact Sl.of_own W (k := 1) rfl (fun _ => rfl)), (by exact Sl.of_own W (k := 2) rfl (fun _ => rfl))⟩) (by exact .old W (by assumption)) (by exact .old W (by assumption)) (by (simp; done)))) rfl ?_; clear S a w; intro a w S)
  (refine st_y S (Yr.ys (ys_pickT (Ev.t rfl) (Ev.t rfl))) rfl ?_; clear S a w; intro a w S)
  (refine st_y S (Yr.ys (ys_assign (Ev.t rfl))) rfl ?_; clear S a w; intro a w S)
  refine st_nil ?_
  (refine (then_normal (hK1 _ _ ?_)); clear hK1)
  refine wp_ret ?_
  refine st_ret S (results1 S Try.results5 (Rv.tmp rfl)) ?_
  rotate_left
  (refine op_alloc S Try.zeroValue64 (cs := _) rfl rfl ?_; clear S a w; intro g4 a w S; refine h_on S _ (List.Sublist.refl _) (by repeat (first | exact List.Sublist.refl _ | exact List.nil_sublist _ | refine .cons_cons _ ?_ | refine .cons _ ?_)) ?_)
  (refine h_m (i := 1) rfl (by kernel_rfl) (op_calls S Try.call16 (EvL.cons (Ev.t rfl) EvL.nil) (c16 _ _ _ _ _ (by exact .old S.wd (by assumption)) (by exact .old S.wd (by assumption)) (by assumption) (by assumption) (by assumption)) rfl ?_); clear S a w; rintro _ _ ⟨A11, c14, A21, c210, A31, c31, rfl, rfl⟩ a w S; refine h_on S _ (List.Sublist.refl _) (by repeat (first | exact List.Sublist.refl _ | exact List.nil_sublist _ | refine .cons_cons _ ?_ | refine .cons _ ?_)) ?_)
  (refine h_m (i := 3) rfl (by kernel_rfl) (op_calls S Try.call19 (EvL.cons (Ev.t rfl) EvL.nil) (c19 _ _ _ _ _ (by exact .old S.wd (by assumption)) (by exact .old S.wd (by assumption)) (by assumption) (by assumption) (by assumption)) rfl ?_); clear S a w; rintro _ _ ⟨A12, c15, A22, c211, A32, c37, rfl, rfl⟩ a w S; refine h_on S _ (List.Sublist.refl _) (by repeat (first | exact List.Sublist.refl _ | exact List.nil_sublist _ | refine .cons_cons _ ?_ | refine .cons _ ?_)) ?_)
  (refine h_m0 (i := 6) rfl (by kernel_rfl) (op_stW S Try.sizeOf40 (Ev.t rfl) (Ev.t rfl) (k := 7) rfl rfl rfl (by simp [Value.oneCell']) ?_); clear S a w; intro a w S; refine h_on S _ (List.Sublist.refl _) (by repeat (first | exact List.Sublist.refl _ | exact List.nil_sublist _ | refine .cons_cons _ ?_ | refine .cons _ ?_)) ?_)
  (refine h_m0 (i := 7) rfl (by kernel_rfl) (op_stW S Try.sizeOf64 (Ev.t rfl) (Ev.t rfl) (k := 6) rfl rfl rfl (by simp [Value.oneCell']) ?_); clear S a w; intro a w S; refine h_on S _ (List.Sublist.refl _) (by repeat (first | exact List.Sublist.refl _ | exact List.nil_sublist _ | refine .cons_cons _ ?_ | refine .cons _ ?_)) ?_)
  refine h_done (by kernel_rfl) ?_
  (refine (then_normal (hK1 _ _ ?_)); clear hK1)
  refine wp_seq_k fun _ hK1 => ?_
  refine wp_seq_k fun _ hK2 => ?_
  (refine st_quiet S (by kernel_rfl) (by kernel_rfl) ?_; clear S w; intro a S)
  (refine q_y S (Yr.ys (ys_ldA ⟨Try.isAgg40, Try.sizeOf40⟩ (Ev.t rfl) (k := 7) rfl rfl)) rfl ?_; clear S a; intro a S)
  (refine q_y S (ys_call Try.call9 (EvL.cons (Ev.t rfl) EvL.nil) (fun hp w W => c9 _ _ _ _ _ (by exact Sl.of_own W (k := 3) rfl (fun _ => rfl)) (by exact ⟨(by exact Sl.of_own W (k := 4) rfl (fun _ => rfl)), (by exact Sl.of_own W (k := 5) rfl (fun _ => rfl))⟩))) rfl ?_; clear S a; intro a S)
  (refine q_y S (Yr.ys (ys_ldA ⟨Try.isAgg40, Try.sizeOf40⟩ (Ev.t rfl) (k := 9) rfl rfl)) rfl ?_; clear S a; intro a S)
  (refine q_y S (ys_call Try.call20 (EvL.cons (Ev.t rfl) EvL.nil) (fun hp w W => c20 _ _ _ _ _ (by exact .old W (by assumption)) (by exact .old W (by assumption)))) rfl ?_; clear S a; intro a S)
  (refine q_y S (Yr.ys (ys_F (by omega) (ys_neq (Ev.t rfl) (Ev.t rfl)))) rfl ?_; clear S a; intro a S)
  (refine q_y S (Yr.ys (ys_move (Ev.t rfl))) rfl ?_; clear S a; intro a S)
  (refine q_yt S rfl rfl (Yr.ys (ys_ldA ⟨Try.isAgg64, Try.sizeOf64⟩ (Ev.t rfl) (k := 6) rfl rfl)) rfl ?_; clear S a; intro a S)
  (refine q_yt S rfl rfl (ys_call Try.call21 (EvL.cons (Ev.t rfl) EvL.nil) (fun hp w W => c21 _ _ _ _ _ (by exact Sl.of_own W (k := 0) rfl (fun _ => rfl)) (by exact ⟨(by exact Sl.of_own W (k := 1) rfl (fun _ => rfl)), (by exact Sl.of_own W (k := 2) rfl (fun _ => rfl))⟩))) rfl ?_; clear S a; intro a S)
  (refine q_yt S rfl rfl (Yr.ys (ys_ldA ⟨Try.isAgg64, Try.sizeOf64⟩ (Ev.t rfl) (k := 8) rfl rfl)) rfl ?_; clear S a; intro a S)
  (refine q_yt S rfl rfl (ys_call Try.call22 (EvL.cons (Ev.t rfl) EvL.nil) (fun hp w W => c22 _ _ _ _ _ (by exact .old W (by assumption)) (by exact .old W (by assumption)))) rfl ?_; clear S a; intro a S)
  (refine q_yt S rfl rfl (Yr.ys (ys_F (by omega) (ys_neq (Ev.t rfl) (Ev.t rfl)))) rfl ?_; clear S a; intro a S)
  (refine q_y S (Yr.ys (ys_pickF (Ev.t rfl) (Ev.t rfl))) rfl ?_; clear S a; intro a S)
  (refine q_nil ?_; intro w W; replace S := St.mk S W; clear W)
  (refine (then_normal (hK2 _ _ ?_)); clear hK2)
  refine st_else S (Ev.t rfl) ?_
  refine wp_skip ?_
  (refine (then_normal (hK1 _ _ ?_)); clear hK1)
  refine wp_seq_k fun _ hK1 => ?_
  refine wp_region_lit ?_
  (refine st_y S (Yr.ys (ys_ldA ⟨Try.isAgg40, Try.sizeOf40⟩ (Ev.t rfl) (k := 7) rfl rfl)) rfl ?_; clear S a w; intro a w S)
  (refine st_y S (Yr.ys (ys_ldA ⟨Try.isAgg40, Try.sizeOf40⟩ (Ev.t rfl) (k := 9) rfl rfl)) rfl ?_; clear S a w; intro a w S)
  (refine st_y S (ys_call Try.call11 (EvL.cons (Ev.t rfl) (EvL.cons (Ev.t rfl) EvL.nil)) (fun hp w W => c11 _ _ _ _ _ _ _ _ _ (by exact Sl.of_own W (k := 3) rfl (fun _ => rfl)) (by exact ⟨(by exact Sl.of_own W (k := 4) rfl (fun _ => rfl)), (by exact Sl.of_own W (k := 5) rfl (fun _ => rfl))⟩) (by exact .old W (by assumption)) (by exact .old W (by assumption)))) rfl ?_; clear S a w; intro a w S)
  simp only [List.nil_append] at S
  (refine st_y S (Yr.ys (ys_move (Ev.t rfl))) rfl ?_; clear S a w; intro a w S)
  (refine st_yt S rfl rfl (Yr.ys (ys_ldA ⟨Try.isAgg64, Try.sizeOf64⟩ (Ev.t rfl) (k := 6) rfl rfl)) rfl ?_; clear S a w; intro a w S)
  (refine st_yt S rfl rfl (Yr.ys (ys_ldA ⟨Try.isAgg64, Try.sizeOf64⟩ (Ev.t rfl) (k := 8) rfl rfl)) rfl ?_; clear S a w; intro a w S)
  (refine st_yt S rfl rfl (ys_call Try.call23 (EvL.cons (Ev.t rfl) (EvL.cons (Ev.t rfl) EvL.nil)) (fun hp w W => c23 _ _ _ _ _ _ _ _ _ (by exact Sl.of_own W (k := 0) rfl (fun _ => rfl)) (by exact ⟨(by exact Sl.of_own W (k := 1) rfl (fun _ => rfl)), (by exact Sl.of_own W (k := 2) rfl (fun _ => rfl))⟩) (by exact .old W (by assumption)) (by exact .old W (by assumption)) (by (simp; done)))) rfl ?_; clear S a w; intro a w S)
  (refine st_y S (Yr.ys (ys_pickT (Ev.t rfl) (Ev.t rfl))) rfl ?_; clear S a w; intro a w S)
  (refine st_y S (Yr.ys (ys_assign (Ev.t rfl))) rfl ?_; clear S a w; intro a w S)
  refine st_nil ?_
  (refine (then_normal (hK1 _ _ ?_)); clear hK1)
  refine wp_ret ?_
  refine st_ret S (results1 S Try.results5 (Rv.tmp rfl)) ?_
  rotate_left
  (refine op_alloc S Try.zeroValue64 (cs := _) rfl rfl ?_; clear S a w; intro g3 a w S; refine h_on S _ (List.Sublist.refl _) (by repeat (first | exact List.Sublist.refl _ | exact List.nil_sublist _ | refine .cons_cons _ ?_ | refine .cons _ ?_)) ?_)
  refine h_split (i := 1) (j := 4) (by kernel_rfl) rfl rfl ?_ ?_
  (refine op_calls S Try.call16 (EvL.cons (Ev.t rfl) EvL.nil) (c16 _ _ _ _ _ (by exact .old S.wd (by assumption)) (by exact .old S.wd (by assumption)) (by assumption) (by assumption) (by assumption)) rfl ?_; clear S a w; rintro _ _ ⟨A11, c14, A21, c210, A31, c31, rfl, rfl⟩ a w S; refine h_on S _ (List.Sublist.refl _) (by repeat (first | exact List.Sublist.refl _ | exact List.nil_sublist _ | refine .cons_cons _ ?_ | refine .cons _ ?_)) ?_)
  refine h_split (i := 3) (j := 4) (by kernel_rfl) rfl rfl ?_ ?_
  (refine op_calls S Try.call19 (EvL.cons (Ev.t rfl) EvL.nil) (c19 _ _ _ _ _ (by exact .old S.wd (by assumption)) (by exact .old S.wd (by assumption)) (by assumption) (by assumption) (by assumption)) rfl ?_; clear S a w; rintro _ _ ⟨A12, c15, A22, c211, A32, c37, rfl, rfl⟩ a w S; refine h_on S _ (List.Sublist.refl _) (by repeat (first | exact List.Sublist.refl _ | exact List.nil_sublist _ | refine .cons_cons _ ?_ | refine .cons _ ?_)) ?_)
  (refine h_m (i := 4) rfl (by kernel_rfl) (op_alloc S Try.zeroValue40 (cs := _) rfl rfl ?_); clear S a w; intro g4 a w S; refine h_on S _ (List.Sublist.refl _) (by repeat (first | exact List.Sublist.refl _ | exact List.nil_sublist _ | refine .cons_cons _ ?_ | refine .cons _ ?_)) ?_)
  (refine h_m0 (i := 6) rfl (by kernel_rfl) (op_stW S Try.sizeOf40 (Ev.t rfl) (Ev.t rfl) (k := 0) rfl rfl rfl (by simp [Value.oneCell']) ?_); clear S a w; intro a w S; refine h_on S _ (List.Sublist.refl _) (by repeat (first | exact List.Sublist.refl _ | exact List.nil_sublist _ | refine .cons_cons _ ?_ | refine .cons _ ?_)) ?_)
  (refine h_m0 (i := 7) rfl (by kernel_rfl) (op_stW S Try.sizeOf64 (Ev.t rfl) (Ev.t rfl) (k := 7) rfl rfl rfl (by simp [Value.oneCell']) ?_); clear S a w; intro a w S; refine h_on S _ (List.Sublist.refl _) (by repeat (first | exact List.Sublist.refl _ | exact List.nil_sublist _ | refine .cons_cons _ ?_ | refine .cons _ ?_)) ?_)
  refine h_done (by kernel_rfl) ?_
  (refine (then_normal (hK1 _ _ ?_)); clear hK1)
  refine wp_seq_k fun _ hK1 => ?_
  refine wp_seq_k fun _ hK2 => ?_
  (refine st_quiet S (by kernel_rfl) (by kernel_rfl) ?_; clear S w; intro a S)
  (refine q_y S (Yr.ys (ys_ldA ⟨Try.isAgg40, Try.sizeOf40⟩ (Ev.t rfl) (k := 0) rfl rfl)) rfl ?_; clear S a; intro a S)
  (refine q_y S (ys_call Try.call9 (EvL.cons (Ev.t rfl) EvL.nil) (fun hp w W => c9 _ _ _ _ _ (by exact Sl.of_own W (k := 4) rfl (fun _ => rfl)) (by exact ⟨(by exact Sl.of_own W (k := 5) rfl (fun _ => rfl)), (by exact Sl.of_own W (k := 6) rfl (fun _ => rfl))⟩))) rfl ?_; clear S a; intro a S)
  (refine q_y S (Yr.ys (ys_ldA ⟨Try.isAgg40, Try.sizeOf40⟩ (Ev.t rfl) (k := 9) rfl rfl)) rfl ?_; clear S a; intro a S)
  (refine q_y S (ys_call Try.call20 (EvL.cons (Ev.t rfl) EvL.nil) (fun hp w W => c20 _ _ _ _ _ (by exact .old W (by assumption)) (by exact .old W (by assumption)))) rfl ?_; clear S a; intro a S)
  (refine q_y S (Yr.ys (ys_F (by omega) (ys_neq (Ev.t rfl) (Ev.t rfl)))) rfl ?_; clear S a; intro a S)
  (refine q_y S (Yr.ys (ys_move (Ev.t rfl))) rfl ?_; clear S a; intro a S)
  (refine q_yt S rfl rfl (Yr.ys (ys_ldA ⟨Try.isAgg64, Try.sizeOf64⟩ (Ev.t rfl) (k := 7) rfl rfl)) rfl ?_; clear S a; intro a S)
  (refine q_yt S rfl rfl (ys_call Try.call21 (EvL.cons (Ev.t rfl) EvL.nil) (fun hp w W => c21 _ _ _ _ _ (by exact Sl.of_own W (k := 1) rfl (fun _ => rfl)) (by exact ⟨(by exact Sl.of_own W (k := 2) rfl (fun _ => rfl)), (by exact Sl.of_own W (k := 3) rfl (fun _ => rfl))⟩))) rfl ?_; clear S a; intro a S)
  (refine q_yt S rfl rfl (Yr.ys (ys_ldA ⟨Try.isAgg64, Try.sizeOf64⟩ (Ev.t rfl) (k := 8) rfl rfl)) rfl ?_; clear S a; intro a S)
  (refine q_yt S rfl rfl (ys_call Try.call22 (EvL.cons (Ev.t rfl) EvL.nil) (fun hp w W => c22 _ _ _ _ _ (by exact .old W (by assumption)) (by exact .old W (by assumption)))) rfl ?_; clear S a; intro a S)
  (refine q_yt S rfl rfl (Yr.ys (ys_F (by omega) (ys_neq (Ev.t rfl) (Ev.t rfl)))) rfl ?_; clear S a; intro a S)
  (refine q_y S (Yr.ys (ys_pickF (Ev.t rfl) (Ev.t rfl))) rfl ?_; clear S a; intro a S)
  (refine q_nil ?_; intro w W; replace S := St.mk S W; clear W)
  (refine (then_normal (hK2 _ _ ?_)); clear hK2)
  refine st_else S (Ev.t rfl) ?_
  refine wp_skip ?_
  (refine (then_normal (hK1 _ _ ?_)); clear hK1)
  refine wp_seq_k fun _ hK1 => ?_
  refine wp_region_lit ?_
  (refine st_y S (Yr.ys (ys_ldA ⟨Try.isAgg40, Try.sizeOf40⟩ (Ev.t rfl) (k := 0) rfl rfl)) rfl ?_; clear S a w; intro a w S)
  (refine st_y S (Yr.ys (ys_ldA ⟨Try.isAgg40, Try.sizeOf40⟩ (Ev.t rfl) (k := 9) rfl rfl)) rfl ?_; clear S a w; intro a w S)
  (refine st_y S (ys_call Try.call11 (EvL.cons (Ev.t rfl) (EvL.cons (Ev.t rfl) EvL.nil)) (fun hp w W => c11 _ _ _ _ _ _ _ _ _ (by exact Sl.of_own W (k := 4) rfl (fun _ => rfl)) (by exact ⟨(by exact Sl.of_own W (k := 5) rfl (fun _ => rfl)), (by exact Sl.of_own W (k := 6) rfl (fun _ => rfl))⟩) (by exact .old W (by assumption)) (by exact .old W (by assumption)))) rfl ?_; clear S a w; intro a w S)
  simp only [List.nil_append] at S
  (refine st_y S (Yr.ys (ys_move (Ev.t rfl))) rfl ?_; clear S a w; intro a w S)
  (refine st_yt S rfl rfl (Yr.ys (ys_ldA ⟨Try.isAgg64, Try.sizeOf64⟩ (Ev.t rfl) (k := 7) rfl rfl)) rfl ?_; clear S a w; intro a w S)
  (refine st_yt S rfl rfl (Yr.ys (ys_ldA ⟨Try.isAgg64, Try.sizeOf64⟩ (Ev.t rfl) (k := 8) rfl rfl)) rfl ?_; clear S a w; intro a w S)
  (refine st_yt S rfl rfl (ys_call Try.call23 (EvL.cons (Ev.t rfl) (EvL.cons (Ev.t rfl) EvL.nil)) (fun hp w W => c23 _ _ _ _ _ _ _ _ _ (by exact Sl.of_own W (k := 1) rfl (fun _ => rfl)) (by exact ⟨(by exact Sl.of_own W (k := 2) rfl (fun _ => rfl)), (by exact Sl.of_own W (k := 3) rfl (fun _ => rfl))⟩) (by exact .old W (by assumption)) (by exact .old W (by assumption)) (by (simp; done)))) rfl ?_; clear S a w; intro a w S)
  (refine st_y S (Yr.ys (ys_pickT (Ev.t rfl) (Ev.t rfl))) rfl ?_; clear S a w; intro a w S)
  (refine st_y S (Yr.ys (ys_assign (Ev.t rfl))) rfl ?_; clear S a w; intro a w S)
  refine st_nil ?_
  (refine (then_normal (hK1 _ _ ?_)); clear hK1)
  refine wp_ret ?_
  refine st_ret S (results1 S Try.results5 (Rv.tmp rfl)) ?_
  rotate_left
  (refine op_alloc S Try.zeroValue40 (cs := _) rfl rfl ?_; clear S a w; intro g4 a w S; refine h_on S _ (List.Sublist.refl _) (by repeat (first | exact List.Sublist.refl _ | exact List.nil_sublist _ | refine .cons_cons _ ?_ | refine .cons _ ?_)) ?_)
  (refine h_m (i := 3) rfl (by kernel_rfl) (op_calls S Try.call19 (EvL.cons (Ev.t rfl) EvL.nil) (c19 _ _ _ _ _ (by exact .old S.wd (by assumption)) (by exact .old S.wd (by assumption)) (by assumption) (by assumption) (by assumption)) rfl ?_); clear S a w; rintro _ _ ⟨A12, c15, A22, c211, A32, c37, rfl, rfl⟩ a w S; refine h_on S _ (List.Sublist.refl _) (by repeat (first | exact List.Sublist.refl _ | exact List.nil_sublist _ | refine .cons_cons _ ?_ | refine .cons _ ?_)) ?_)
  (refine h_m0 (i := 6) rfl (by kernel_rfl) (op_stW S Try.sizeOf40 (Ev.t rfl) (Ev.t rfl) (k := 3) rfl rfl rfl (by simp [Value.oneCell']) ?_); clear S a w; intro a w S; refine h_on S _ (List.Sublist.refl _) (by repeat (first | exact List.Sublist.refl _ | exact List.nil_sublist _ | refine .cons_cons _ ?_ | refine .cons _ ?_)) ?_)
  (refine h_m0 (i := 7) rfl (by kernel_rfl) (op_stW S Try.sizeOf64 (Ev.t rfl) (Ev.t rfl) (k := 7) rfl rfl rfl (by simp [Value.oneCell']) ?_); clear S a w; intro a w S; refine h_on S _ (List.Sublist.refl _) (by repeat (first | exact List.Sublist.refl _ | exact List.nil_sublist _ | refine .cons_cons _ ?_ | refine .cons _ ?_)) ?_)
  refine h_done (by kernel_rfl) ?_
  (refine (then_normal (hK1 _ _ ?_)); clear hK1)
  refine wp_seq_k fun _ hK1 => ?_
  refine wp_seq_k fun _ hK2 => ?_
  (refine st_quiet S (by kernel_rfl) (by kernel_rfl) ?_; clear S w; intro a S)
  (refine q_y S (Yr.ys (ys_ldA ⟨Try.isAgg40, Try.sizeOf40⟩ (Ev.t rfl) (k := 3) rfl rfl)) rfl ?_; clear S a; intro a S)
  (refine q_y S (ys_call Try.call9 (EvL.cons (Ev.t rfl) EvL.nil) (fun hp w W => c9 _ _ _ _ _ (by exact Sl.of_own W (k := 4) rfl (fun _ => rfl)) (by exact ⟨(by exact Sl.of_own W (k := 5) rfl (fun _ => rfl)), (by exact Sl.of_own W (k := 6) rfl (fun _ => rfl))⟩))) rfl ?_; clear S a; intro a S)
  (refine q_y S (Yr.ys (ys_ldA ⟨Try.isAgg40, Try.sizeOf40⟩ (Ev.t rfl) (k := 9) rfl rfl)) rfl ?_; clear S a; intro a S)
  (refine q_y S (ys_call Try.call20 (EvL.cons (Ev.t rfl) EvL.nil) (fun hp w W => c20 _ _ _ _ _ (by exact .old W (by assumption)) (by exact .old W (by assumption)))) rfl ?_; clear S a; intro a S)
  (refine q_y S (Yr.ys (ys_F (by omega) (ys_neq (Ev.t rfl) (Ev.t rfl)))) rfl ?_; clear S a; intro a S)
  (refine q_y S (Yr.ys (ys_move (Ev.t rfl))) rfl ?_; clear S a; intro a S)
  (refine q_yt S rfl rfl (Yr.ys (ys_ldA ⟨Try.isAgg64, Try.sizeOf64⟩ (Ev.t rfl) (k := 7) rfl rfl)) rfl ?_; clear S a; intro a S)
  (refine q_yt S rfl rfl (ys_call Try.call21 (EvL.cons (Ev.t rfl) EvL.nil) (fun hp w W => c21 _ _ _ _ _ (by exact Sl.of_own W (k := 0) rfl (fun _ => rfl)) (by exact ⟨(by exact Sl.of_own W (k := 1) rfl (fun _ => rfl)), (by exact Sl.of_own W (k := 2) rfl (fun _ => rfl))⟩))) rfl ?_; clear S a; intro a S)
  (refine q_yt S rfl rfl (Yr.ys (ys_ldA ⟨Try.isAgg64, Try.sizeOf64⟩ (Ev.t rfl) (k := 8) rfl rfl)) rfl ?_; clear S a; intro a S)
  (refine q_yt S rfl rfl (ys_call Try.call22 (EvL.cons (Ev.t rfl) EvL.nil) (fun hp w W => c22 _ _ _ _ _ (by exact .old W (by assumption)) (by exact .old W (by assumption)))) rfl ?_; clear S a; intro a S)
  (refine q_yt S rfl rfl (Yr.ys (ys_F (by omega) (ys_neq (Ev.t rfl) (Ev.t rfl)))) rfl ?_; clear S a; intro a S)
  (refine q_y S (Yr.ys (ys_pickF (Ev.t rfl) (Ev.t rfl))) rfl ?_; clear S a; intro a S)
  (refine q_nil ?_; intro w W; replace S := St.mk S W; clear W)
  (refine (then_normal (hK2 _ _ ?_)); clear hK2)
  refine st_else S (Ev.t rfl) ?_
  refine wp_skip ?_
  (refine (then_normal (hK1 _ _ ?_)); clear hK1)
  refine wp_seq_k fun _ hK1 => ?_
  refine wp_region_lit ?_
  (refine st_y S (Yr.ys (ys_ldA ⟨Try.isAgg40, Try.sizeOf40⟩ (Ev.t rfl) (k := 3) rfl rfl)) rfl ?_; clear S a w; intro a w S)
  (refine st_y S (Yr.ys (ys_ldA ⟨Try.isAgg40, Try.sizeOf40⟩ (Ev.t rfl) (k := 9) rfl rfl)) rfl ?_; clear S a w; intro a w S)
  (refine st_y S (ys_call Try.call11 (EvL.cons (Ev.t rfl) (EvL.cons (Ev.t rfl) EvL.nil)) (fun hp w W => c11 _ _ _ _ _ _ _ _ _ (by exact Sl.of_own W (k := 4) rfl (fun _ => rfl)) (by exact ⟨(by exact Sl.of_own W (k := 5) rfl (fun _ => rfl)), (by exact Sl.of_own W (k := 6) rfl (fun _ => rfl))⟩) (by exact .old W (by assumption)) (by exact .old W (by assumption)))) rfl ?_; clear S a w; intro a w S)
  simp only [List.nil_append] at S
  (refine st_y S (Yr.ys (ys_move (Ev.t rfl))) rfl ?_; clear S a w; intro a w S)
  (refine st_yt S rfl rfl (Yr.ys (ys_ldA ⟨Try.isAgg64, Try.sizeOf64⟩ (Ev.t rfl) (k := 7) rfl rfl)) rfl ?_; clear S a w; intro a w S)
  (refine st_yt S rfl rfl (Yr.ys (ys_ldA ⟨Try.isAgg64, Try.sizeOf64⟩ (Ev.t rfl) (k := 8) rfl rfl)) rfl ?_; clear S a w; intro a w S)
  (refine st_yt S rfl rfl (ys_call Try.call23 (EvL.cons (Ev.t rfl) (EvL.cons (Ev.t rfl) EvL.nil)) (fun hp w W => c23 _ _ _ _ _ _ _ _ _ (by exact Sl.of_own W (k := 0) rfl (fun _ => rfl)) (by exact ⟨(by exact Sl.of_own W (k := 1) rfl (fun _ => rfl)), (by exact Sl.of_own W (k := 2) rfl (fun _ => rfl))⟩) (by exact .old W (by assumption)) (by exact .old W (by assumption)) (by (simp; done)))) rfl ?_; clear S a w; intro a w S)
  (refine st_y S (Yr.ys (ys_pickT (Ev.t rfl) (Ev.t rfl))) rfl ?_; clear S a w; intro a w S)
  (refine st_y S (Yr.ys (ys_assign (Ev.t rfl))) rfl ?_; clear S a w; intro a w S)
  refine st_nil ?_
  (refine (then_normal (hK1 _ _ ?_)); clear hK1)
  refine wp_ret ?_
  refine st_ret S (results1 S Try.results5 (Rv.tmp rfl)) ?_
  rotate_left
  (refine op_alloc S Try.zeroValue40 (cs := _) rfl rfl ?_; clear S a w; intro g4 a w S; refine h_on S _ (List.Sublist.refl _) (by repeat (first | exact List.Sublist.refl _ | exact List.nil_sublist _ | refine .cons_cons _ ?_ | refine .cons _ ?_)) ?_)
  (refine h_m (i := 1) rfl (by kernel_rfl) (op_calls S Try.call16 (EvL.cons (Ev.t rfl) EvL.nil) (c16 _ _ _ _ _ (by exact .old S.wd (by assumption)) (by exact .old S.wd (by assumption)) (by assumption) (by assumption) (by assumption)) rfl ?_); clear S a w; rintro _ _ ⟨A11, c14, A21, c210, A31, c31, rfl, rfl⟩ a w S; refine h_on S _ (List.Sublist.refl _) (by repeat (first | exact List.Sublist.refl _ | exact List.nil_sublist _ | refine .cons_cons _ ?_ | refine .cons _ ?_)) ?_)
  (refine h_m (i := 3) rfl (by kernel_rfl) (op_calls S Try.call19 (EvL.cons (Ev.t rfl) EvL.nil) (c19 _ _ _ _ _ (by exact .old S.wd (by assumption)) (by exact .old S.wd (by assumption)) (by assumption) (by assumption) (by assumption)) rfl ?_); clear S a w; rintro _ _ ⟨A12, c15, A22, c211, A32, c37, rfl, rfl⟩ a w S; refine h_on S _ (List.Sublist.refl _) (by repeat (first | exact List.Sublist.refl _ | exact List.nil_sublist _ | refine .cons_cons _ ?_ | refine .cons _ ?_)) ?_)
  (refine h_m0 (i := 6) rfl (by kernel_rfl) (op_stW S Try.sizeOf40 (Ev.t rfl) (Ev.t rfl) (k := 6) rfl rfl rfl (by simp [Value.oneCell']) ?_); clear S a w; intro a w S; refine h_on S _ (List.Sublist.refl _) (by repeat (first | exact List.Sublist.refl _ | exact List.nil_sublist _ | refine .cons_cons _ ?_ | refine .cons _ ?_)) ?_)
  (refine h_m0 (i := 7) rfl (by kernel_rfl) (op_stW S Try.sizeOf64 (Ev.t rfl) (Ev.t rfl) (k := 7) rfl rfl rfl (by simp [Value.oneCell']) ?_); clear S a w; intro a w S; refine h_on S _ (List.Sublist.refl _) (by repeat (first | exact List.Sublist.refl _ | exact List.nil_sublist _ | refine .cons_cons _ ?_ | refine .cons _ ?_)) ?_)
  refine h_done (by kernel_rfl) ?_
  (refine (then_normal (hK1 _ _ ?_)); clear hK1)
  refine wp_seq_k fun _ hK1 => ?_
  refine wp_seq_k fun _ hK2 => ?_
  (refine st_quiet S (by kernel_rfl) (by kernel_rfl) ?_; clear S w; intro a S)
  (refine q_y S (Yr.ys (ys_ldA ⟨Try.isAgg40, Try.sizeOf40⟩ (Ev.t rfl) (k := 6) rfl rfl)) rfl ?_; clear S a; intro a S)
  (refine q_y S (ys_call Try.call9 (EvL.cons (Ev.t rfl) EvL.nil) (fun hp w W => c9 _ _ _ _ _ (by exact Sl.of_own W (k := 3) rfl (fun _ => rfl)) (by exact ⟨(by exact Sl.of_own W (k := 4) rfl (fun _ => rfl)), (by exact Sl.of_own W (k := 5) rfl (fun _ => rfl))⟩))) rfl ?_; clear S a; intro a S)
  (refine q_y S (Yr.ys (ys_ldA ⟨Try.isAgg40, Try.sizeOf40⟩ (Ev.t rfl) (k := 9) rfl rfl)) rfl ?_; clear S a; intro a S)
  (refine q_y S (ys_call Try.call20 (EvL.cons (Ev.t rfl) EvL.nil) (fun hp w W => c20 _ _ _ _ _ (by exact .old W (by assumption)) (by exact .old W (by assumption)))) rfl ?_; clear S a; intro a S)
  (refine q_y S (Yr.ys (ys_F (by omega) (ys_neq (Ev.t rfl) (Ev.t rfl)))) rfl ?_; clear S a; intro a S)
  (refine q_y S (Yr.ys (ys_move (Ev.t rfl))) rfl ?_; clear S a; intro a S)
  (refine q_yt S rfl rfl (Yr.ys (ys_ldA ⟨Try.isAgg64, Try.sizeOf64⟩ (Ev.t rfl) (k := 7) rfl rfl)) rfl ?_; clear S a; intro a S)
  (refine q_yt S rfl rfl (ys_call Try.call21 (EvL.cons (Ev.t rfl) EvL.nil) (fun hp w W => c21 _ _ _ _ _ (by exact Sl.of_own W (k := 0) rfl (fun _ => rfl)) (by exact ⟨(by exact Sl.of_own W (k := 1) rfl (fun _ => rfl)), (by exact Sl.of_own W (k := 2) rfl (fun _ => rfl))⟩))) rfl ?_; clear S a; intro a S)
  (refine q_yt S rfl rfl (Yr.ys (ys_ldA ⟨Try.isAgg64, Try.sizeOf64⟩ (Ev.t rfl) (k := 8) rfl rfl)) rfl ?_; clear S a; intro a S)
  (refine q_yt S rfl rfl (ys_call Try.call22 (EvL.cons (Ev.t rfl) EvL.nil) (fun hp w W => c22 _ _ _ _ _ (by exact .old W (by assumption)) (by exact .old W (by assumption)))) rfl ?_; clear S a; intro a S)
  (refine q_yt S rfl rfl (Yr.ys (ys_F (by omega) (ys_neq (Ev.t rfl) (Ev.t rfl)))) rfl ?_; clear S a; intro a S)
  (refine q_y S (Yr.ys (ys_pickF (Ev.t rfl) (Ev.t rfl))) rfl ?_; clear S a; intro a S)
  (refine q_nil ?_; intro w W; replace S := St.mk S W; clear W)
  (refine (then_normal (hK2 _ _ ?_)); clear hK2)
  refine st_else S (Ev.t rfl) ?_
  refine wp_skip ?_
  (refine (then_normal (hK1 _ _ ?_)); clear hK1)
  refine wp_seq_k fun _ hK1 => ?_
  refine wp_region_lit ?_
  (refine st_y S (Yr.ys (ys_ldA ⟨Try.isAgg40, Try.sizeOf40⟩ (Ev.t rfl) (k := 6) rfl rfl)) rfl ?_; clear S a w; intro a w S)
  (refine st_y S (Yr.ys (ys_ldA ⟨Try.isAgg40, Try.sizeOf40⟩ (Ev.t rfl) (k := 9) rfl rfl)) rfl ?_; clear S a w; intro a w S)
  (refine st_y S (ys_call Try.call11 (EvL.cons (Ev.t rfl) (EvL.cons (Ev.t rfl) EvL.nil)) (fun hp w W => c11 _ _ _ _ _ _ _ _ _ (by exact Sl.of_own W (k := 3) rfl (fun _ => rfl)) (by exact ⟨(by exact Sl.of_own W (k := 4) rfl (fun _ => rfl)), (by exact Sl.of_own W (k := 5) rfl (fun _ => rfl))⟩) (by exact .old W (by assumption)) (by exact .old W (by assumption)))) rfl ?_; clear S a w; intro a w S)
  simp only [List.nil_append] at S
  (refine st_y S (Yr.ys (ys_move (Ev.t rfl))) rfl ?_; clear S a w; intro a w S)
  (refine st_yt S rfl rfl (Yr.ys (ys_ldA ⟨Try.isAgg64, Try.sizeOf64⟩ (Ev.t rfl) (k := 7) rfl rfl)) rfl ?_; clear S a w; intro a w S)
  (refine st_yt S rfl rfl (Yr.ys (ys_ldA ⟨Try.isAgg64, Try.sizeOf64⟩ (Ev.t rfl) (k := 8) rfl rfl)) rfl ?_; clear S a w; intro a w S)
  (refine st_yt S rfl rfl (ys_call Try.call23 (EvL.cons (Ev.t rfl) (EvL.cons (Ev.t rfl) EvL.nil)) (fun hp w W => c23 _ _ _ _ _ _ _ _ _ (by exact Sl.of_own W (k := 0) rfl (fun _ => rfl)) (by exact ⟨(by exact Sl.of_own W (k := 1) rfl (fun _ => rfl)), (by exact Sl.of_own W (k := 2) rfl (fun _ => rfl))⟩) (by exact .old W (by assumption)) (by exact .old W (by assumption)) (by (simp; done)))) rfl ?_; clear S a w; intro a w S)
  (refine st_y S (Yr.ys (ys_pickT (Ev.t rfl) (Ev.t rfl))) rfl ?_; clear S a w; intro a w S)
  (refine st_y S (Yr.ys (ys_assign (Ev.t rfl))) rfl ?_; clear S a w; intro a w S)
  refine st_nil ?_
  (refine (then_normal (hK1 _ _ ?_)); clear hK1)
  refine wp_ret ?_
  refine st_ret S (results1 S Try.results5 (Rv.tmp rfl)) ?_
  rotate_left
  all_goals exact ⟨rfl, S.wd.below⟩
end Go.Proofs.Ytfblmkocmnbdcaa
