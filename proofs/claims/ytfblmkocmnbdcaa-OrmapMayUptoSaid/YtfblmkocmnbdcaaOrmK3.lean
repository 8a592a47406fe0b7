/- Contracts and laws that the statement Orm leans on, part 3. -/
import Derived.Test.YtfblmkocmnbdcaaOrmK2
set_option linter.unusedVariables false
set_option linter.unusedSimpArgs false
set_option maxRecDepth 100000
set_option maxHeartbeats 4000000
namespace Go.Fw
theorem bs_iff {l m : List UInt8} : bs l = bs m ↔ l = m := ⟨fun h => by have := congrArg (fun b => b.data.toList) h; simpa [bs] using this, fun h => by rw [h]⟩
theorem ent_iff {x y : Ent} : x = y ↔ bs x.item = bs y.item ∧ x.dot.node = y.dot.node ∧ x.dot.life = y.dot.life ∧ x.dot.count = y.dot.count ∧ x.qty = y.qty ∧ (x.price.toNat : Int) = (y.price.toNat : Int) := by
  constructor
  · intro e; subst e; exact ⟨rfl, rfl, rfl, rfl, rfl, rfl⟩
  · rintro ⟨e1, e2, e3, e4, e5, e6⟩
    obtain ⟨s, ⟨a, b, c⟩, q, p⟩ := x
    obtain ⟨s', ⟨a', b', c'⟩, q', p'⟩ := y
    rw [bs_iff] at e1
    have e7 : p = p' := UInt64.toNat_inj.1 (by dsimp only at e6; omega)
    simp_all
theorem dot_iff3 {x y : Dot} : x = y ↔ x.node = y.node ∧ x.life = y.life ∧ x.count = y.count := ⟨fun e => by subst e; exact ⟨rfl, rfl, rfl⟩, fun ⟨e1, e2, e3⟩ => by cases x; cases y; simp_all⟩
theorem takeE_step {α : Type} {l l' : List α} {k : Nat} {x y : α} (h : l.take k = l'.take k) (hx : l[k]? = some x) (hy : l'[k]? = some y) (e : x = y) : l.take (k + 1) = l'.take (k + 1) := by
  rw [List.take_add_one, List.take_add_one, h, hx, hy, e]
theorem takeE_ne {α : Type} {l l' : List α} {k : Nat} {x y : α} (hx : l[k]? = some x) (hy : l'[k]? = some y) (h : x ≠ y) : l ≠ l' := fun e => by
  subst e
  rw [hx] at hy
  exact h (Option.some.inj hy)
end Go.Fw
namespace Go.Proofs.Ytfblmkocmnbdcaa
open Go.Fw Go.Proofs Go.RowKit
theorem c40 (w0 : World) (v1 : Value) (l : List Ent) (h : Sl Ent.enc 6 w0 w0.heap.size v1 l) (hn : l.length ≤ 4194304) :
    Rets Try.prog 40 #[v1] w0 fun v L => ∃ A c, v = .slice A l.length c ∧ L = [rowOf 74 6 Ent.enc A c l] := by
  have h0 := h
  obtain ⟨A, cap, rfl, hl, hcap, hA⟩ := h
  unfold Go.Fw.Rets
  refine enter1 Try.func40 rfl Try.ntmps40 rfl fun a S => ?_
  refine wp_seq_k fun _ hK1 => ?_
  refine wp_region_lit ?_
  (refine st_y S (Yr.ys (ys_assign Ev.c)) rfl ?_; clear S a; intro a w S)
  refine st_nil ?_
  (refine (then_normal (hK1 _ _ ?_)); clear hK1)
  refine wp_seq_k fun _ hK1 => ?_
  refine wp_seq_k fun _ hK2 => ?_
  refine wp_region_lit ?_
  (refine st_y S (Yr.ys (ys_move (Ev.t rfl))) rfl ?_; clear S a w; intro a w S)
  (refine st_y S (Yr.ys (ys_sNil Try.underlying34 (Ev.t rfl) Ev.c)) rfl ?_; clear S a w; intro a w S)
  refine st_nil ?_
  (refine (then_normal (hK2 _ _ ?_)); clear hK2)
  refine st_cond S (Ev.t rfl) (fun h1 => ?_) (fun h1 => ?_)
  refine wp_seq_k fun _ hK2 => ?_
  refine wp_region_lit ?_
  (refine st_y S (Yr.ys (ys_assign Ev.c)) rfl ?_; clear S a w; intro a w S)
  refine st_nil ?_
  (refine (then_normal (hK2 _ _ ?_)); clear hK2)
  refine wp_ret ?_
  refine (then_ret ?_)
  refine st_ret S (results1 S Try.results40 (Rv.tmp rfl)) ?_
  rotate_left
  refine wp_skip ?_
  (refine (then_normal (hK1 _ _ ?_)); clear hK1)
  refine wp_seq_k fun _ hK1 => ?_
  refine wp_region_lit ?_
  (refine st_m (op_bslice0 S Try.underlying34 Try.sizeOf74 rfl ?_); clear S a w; intro g1 a w S)
  (refine st_y S (Yr.ys (ys_move (Ev.t rfl))) rfl ?_; clear S a w; intro a w S)
  (refine st_m (op_extend _ (S.nil_ 74 _ Go.Fw.Ent.enc _) Try.underlying34 Try.underlying34 (.inr ⟨_, rfl⟩) inf74 rfl (k := 0) rfl (Ev.t rfl) (Ev.t rfl) (Src.sl (Sl.old S.wd h0) (by decide) Go.Fw.Ent.enc_len Go.Fw.Ent.enc_one) (by first | omega | (simp only [List.length_append, List.length_cons, List.length_nil]; omega) | (simp; omega)) rfl rfl rfl ?_); clear S a w; intro A1 cap1 a w S)
  simp only [List.nil_append] at S
  (refine st_y S (Yr.ys (ys_assign (Ev.t rfl))) rfl ?_; clear S a w; intro a w S)
  refine st_nil ?_
  (refine (then_normal (hK1 _ _ ?_)); clear hK1)
  refine wp_ret ?_
  refine st_ret S (results1 S Try.results40 (Rv.tmp rfl)) ?_
  rotate_left
  · have hnil : l = [] := by
      refine List.eq_nil_of_length_eq_zero (Decidable.byContradiction fun hne => ?_)
      obtain ⟨g, o, rfl, _⟩ := hA (by omega)
      cases h1
    subst hnil
    exact ⟨_, _, rfl, (S.nil_ 74 6 Ent.enc none).wd.sub (by repeat (first | exact List.Sublist.refl _ | exact List.nil_sublist _ | refine .cons_cons _ ?_ | refine .cons _ ?_)), none, 0, rfl, rfl⟩
  · try simp only [List.nil_append] at S ⊢
    exact ⟨_, _, rfl, S.wd.sub (by repeat (first | exact List.Sublist.refl _ | exact List.nil_sublist _ | refine .cons_cons _ ?_ | refine .cons _ ?_)), _, _, rfl, rfl⟩
theorem c32 (w0 : World) (v v' : Value) (l l' : List Ent) (h : Sl Ent.enc 6 w0 w0.heap.size v l) (h' : Sl Ent.enc 6 w0 w0.heap.size v' l') :
    Calls Try.prog 32 #[v, v'] w0 fun e w' => e = .returned (.bool (decide (l = l'))) ∧ Bel w0.heap.size w0 w' := by
  obtain ⟨A, cap, rfl, hl, hcap, hA⟩ := h
  obtain ⟨A', cap', rfl, hl', hcap', hA'⟩ := h'
  refine enter2 Try.func32 rfl Try.ntmps32 rfl fun a S => ?_
  refine wp_seq_k fun _ hK1 => ?_
  refine wp_region_lit ?_
  (refine st_y S (Yr.ys (ys_assign Ev.c)) rfl ?_; clear S a; intro a w S)
  refine st_nil ?_
  (refine (then_normal (hK1 _ _ ?_)); clear hK1)
  refine wp_seq_k fun _ hK1 => ?_
  refine wp_seq_k fun _ hK2 => ?_
  refine wp_region_lit ?_
  (refine st_y S (Yr.ys (ys_move (Ev.t rfl))) rfl ?_; clear S a w; intro a w S)
  (refine st_y S (Yr.ys (ys_lenS Try.underlying34 (Ev.t rfl))) rfl ?_; clear S a w; intro a w S)
  (refine st_y S (Yr.ys (ys_move (Ev.t rfl))) rfl ?_; clear S a w; intro a w S)
  (refine st_y S (Yr.ys (ys_lenS Try.underlying34 (Ev.t rfl))) rfl ?_; clear S a w; intro a w S)
  (refine st_y S (Yr.ys (ys_neq (Ev.t rfl) (Ev.t rfl))) rfl ?_; clear S a w; intro a w S)
  refine st_nil ?_
  (refine (then_normal (hK2 _ _ ?_)); clear hK2)
  refine st_if S (Ev.t rfl) (fun h1 => ?_) (fun h1 => ?_)
  refine wp_seq_k fun _ hK2 => ?_
  refine wp_region_lit ?_
  (refine st_y S (Yr.ys (ys_assign Ev.c)) rfl ?_; clear S a w; intro a w S)
  refine st_nil ?_
  (refine (then_normal (hK2 _ _ ?_)); clear hK2)
  refine wp_ret ?_
  refine (then_ret ?_)
  refine st_ret S (results1 S Try.results32 (Rv.tmp rfl)) ?_
  rotate_left
  refine wp_skip ?_
  (refine (then_normal (hK1 _ _ ?_)); clear hK1)
  refine wp_seq_k fun _ hK1 => ?_
  refine wp_seq_k fun _ hK2 => ?_
  refine wp_region_lit ?_
  (refine st_y S (Yr.ys (ys_move (Ev.t rfl))) rfl ?_; clear S a w; intro a w S)
  (refine st_y S (Yr.ys (ys_lenS Try.underlying34 (Ev.t rfl))) rfl ?_; clear S a w; intro a w S)
  (refine st_y S (Yr.ys (ys_move Ev.c)) rfl ?_; clear S a w; intro a w S)
  refine st_nil ?_
  (refine (then_normal (hK2 _ _ ?_)); clear hK2)
  refine wp_block ?_
  rotate_left
  · refine ⟨?_, S.wd.below⟩
    rw [decide_eq_false (fun e => h1 (by rw [e]))]
  · refine st_loopK S (X := Nat) (fun k => [(13, true, .int .i64 (k : Int))]) (fun _ L => L) (fun k => k ≤ l.length ∧ l.take k = l'.take k) (fun k => l.length - k) 0 ⟨Nat.zero_le _, rfl⟩ (by repeat (first | exact Fits.nil | refine Fits.skip rfl ?_ | refine Fits.cons rfl ?_)) (by repeat (first | exact List.Sublist.refl _ | exact List.nil_sublist _ | refine .cons_cons _ ?_ | refine .cons _ ?_)) ?_
    clear S
    intro k a w ⟨hk, hno⟩ S
    by_cases hlt : k < l.length
    · obtain ⟨g, o, m, rfl, hmm, hd, hc⟩ := row_at hA hlt
      obtain ⟨g', o', m', rfl, hmm', hd', hc'⟩ := row_at hA' (show k < l'.length by omega)
      clear hA hA'
      by_cases he : m = m'
      · have rw_e := decide_eq_true (ent_iff.1 he)
        refine wp_seq_k fun _ hK2 => ?_
        refine wp_region_lit ?_
        (refine st_y S (Yr.ys (ys_T (by omega) (ys_lss (Ev.t rfl) (Ev.t rfl)))) rfl ?_; clear S a w; intro a w S)
        refine st_nil ?_
        (refine (then_normal (hK2 _ _ ?_)); clear hK2)
        refine wp_seq_k fun _ hK2 => ?_
        refine st_then S (Ev.t rfl) ?_
        refine wp_skip ?_
        (refine (then_normal (hK2 _ _ ?_)); clear hK2)
        refine wp_seq_k fun _ hK2 => ?_
        refine wp_block ?_
        refine wp_seq_k fun _ hK3 => ?_
        refine wp_region_lit ?_
        (refine st_y S (Yr.ys (ys_move (Ev.t rfl))) rfl ?_; clear S a w; intro a w S)
        (refine st_y S (Yr.ys (ys_assign (Ev.t rfl))) rfl ?_; clear S a w; intro a w S)
        refine st_nil ?_
        (refine (then_normal (hK3 _ _ ?_)); clear hK3)
        refine wp_seq_k fun _ hK3 => ?_
        (refine st_quiet S (by kernel_rfl) (by kernel_rfl) ?_; clear S w; intro a S)
        (refine q_y S (Yr.ys (ys_move (Ev.t rfl))) rfl ?_; clear S a; intro a S)
        (refine q_y S (Yr.ys (ys_move (Ev.t rfl))) rfl ?_; clear S a; intro a S)
        (refine q_y S (Yr.ys (ys_ixS Try.underlying34 Try.sizeOf74 (Ev.t rfl) (Ev.t rfl) (fun _ => by omega))) rfl ?_; clear S a; intro a S)
        (refine q_y S (Yr.ys (ys_ldOA ⟨Try.isAgg74, Try.sizeOf74⟩ (Ev.t rfl) (vs := [_, _, _, _, _, _]) rfl (fun _ => hc))) rfl ?_; clear S a; intro a S)
        (refine q_y S (Yr.ys (ys_move (Ev.t rfl))) rfl ?_; clear S a; intro a S)
        (refine q_y S (Yr.ys (ys_move (Ev.t rfl))) rfl ?_; clear S a; intro a S)
        (refine q_y S (Yr.ys (ys_ixS Try.underlying34 Try.sizeOf74 (Ev.t rfl) (Ev.t rfl) (fun _ => by omega))) rfl ?_; clear S a; intro a S)
        (refine q_y S (Yr.ys (ys_ldOA ⟨Try.isAgg74, Try.sizeOf74⟩ (Ev.t rfl) (vs := [_, _, _, _, _, _]) rfl (fun _ => hc'))) rfl ?_; clear S a; intro a S)
        (refine q_y S (Yr.ys (ys_neA (Ev.t rfl) (Ev.t rfl) eq74)) rfl ?_; clear S a; intro a S)
        rw [rw_e] at S
        (refine q_nil ?_; intro w W; replace S := St.mk S W; clear W)
        (refine (then_normal (hK3 _ _ ?_)); clear hK3)
        refine st_else S (Ev.t rfl) ?_
        refine wp_skip ?_
        (refine (in_normal (then_normal (hK2 _ _ ?_))); clear hK2)
        refine wp_region_lit ?_
        (refine st_y S (Yr.ys (ys_addI (Ev.t rfl) Ev.c (fun _ => by unfold I64; omega))) rfl ?_; clear S a w; intro a w S)
        (refine st_y S (Yr.ys (ys_move (Ev.t rfl))) rfl ?_; clear S a w; intro a w S)
        refine st_nil ?_
        refine (then_normal ?_)
        exact ⟨k + 1, ⟨by omega, takeE_step hno hmm hmm' he⟩, by omega, S.weak (by repeat (first | exact Fits.nil | refine Fits.skip rfl ?_ | refine Fits.cons rfl ?_)) (by repeat (first | exact List.Sublist.refl _ | exact List.nil_sublist _ | refine .cons_cons _ ?_ | refine .cons _ ?_))⟩
      · have rw_e := decide_eq_false (fun h => he (ent_iff.2 h))
        refine wp_seq_k fun _ hK2 => ?_
        refine wp_region_lit ?_
        (refine st_y S (Yr.ys (ys_T (by omega) (ys_lss (Ev.t rfl) (Ev.t rfl)))) rfl ?_; clear S a w; intro a w S)
        refine st_nil ?_
        (refine (then_normal (hK2 _ _ ?_)); clear hK2)
        refine wp_seq_k fun _ hK2 => ?_
        refine st_then S (Ev.t rfl) ?_
        refine wp_skip ?_
        (refine (then_normal (hK2 _ _ ?_)); clear hK2)
        refine wp_seq_k fun _ hK2 => ?_
        refine wp_block ?_
        refine wp_seq_k fun _ hK3 => ?_
        refine wp_region_lit ?_
        (refine st_y S (Yr.ys (ys_move (Ev.t rfl))) rfl ?_; clear S a w; intro a w S)
        (refine st_y S (Yr.ys (ys_assign (Ev.t rfl))) rfl ?_; clear S a w; intro a w S)
        refine st_nil ?_
        (refine (then_normal (hK3 _ _ ?_)); clear hK3)
        refine wp_seq_k fun _ hK3 => ?_
        (refine st_quiet S (by kernel_rfl) (by kernel_rfl) ?_; clear S w; intro a S)
        (refine q_y S (Yr.ys (ys_move (Ev.t rfl))) rfl ?_; clear S a; intro a S)
        (refine q_y S (Yr.ys (ys_move (Ev.t rfl))) rfl ?_; clear S a; intro a S)
        (refine q_y S (Yr.ys (ys_ixS Try.underlying34 Try.sizeOf74 (Ev.t rfl) (Ev.t rfl) (fun _ => by omega))) rfl ?_; clear S a; intro a S)
        (refine q_y S (Yr.ys (ys_ldOA ⟨Try.isAgg74, Try.sizeOf74⟩ (Ev.t rfl) (vs := [_, _, _, _, _, _]) rfl (fun _ => hc))) rfl ?_; clear S a; intro a S)
        (refine q_y S (Yr.ys (ys_move (Ev.t rfl))) rfl ?_; clear S a; intro a S)
        (refine q_y S (Yr.ys (ys_move (Ev.t rfl))) rfl ?_; clear S a; intro a S)
        (refine q_y S (Yr.ys (ys_ixS Try.underlying34 Try.sizeOf74 (Ev.t rfl) (Ev.t rfl) (fun _ => by omega))) rfl ?_; clear S a; intro a S)
        (refine q_y S (Yr.ys (ys_ldOA ⟨Try.isAgg74, Try.sizeOf74⟩ (Ev.t rfl) (vs := [_, _, _, _, _, _]) rfl (fun _ => hc'))) rfl ?_; clear S a; intro a S)
        (refine q_y S (Yr.ys (ys_neA (Ev.t rfl) (Ev.t rfl) eq74)) rfl ?_; clear S a; intro a S)
        rw [rw_e] at S
        (refine q_nil ?_; intro w W; replace S := St.mk S W; clear W)
        (refine (then_normal (hK3 _ _ ?_)); clear hK3)
        refine st_then S (Ev.t rfl) ?_
        refine wp_seq_k fun _ hK3 => ?_
        refine wp_region_lit ?_
        (refine st_y S (Yr.ys (ys_assign Ev.c)) rfl ?_; clear S a w; intro a w S)
        refine st_nil ?_
        (refine (then_normal (hK3 _ _ ?_)); clear hK3)
        refine wp_ret ?_
        refine (in_ret (then_ret (then_ret (in_ret (then_ret ?_)))))
        refine st_ret S (results1 S Try.results32 (Rv.tmp rfl)) ?_
        exact ⟨by rw [decide_eq_false (takeE_ne hmm hmm' he)], S.wd.below⟩
    · refine wp_seq_k fun _ hK2 => ?_
      refine wp_region_lit ?_
      (refine st_y S (Yr.ys (ys_F (by omega) (ys_lss (Ev.t rfl) (Ev.t rfl)))) rfl ?_; clear S a w; intro a w S)
      refine st_nil ?_
      (refine (then_normal (hK2 _ _ ?_)); clear hK2)
      refine wp_seq_k fun _ hK2 => ?_
      refine st_else S (Ev.t rfl) ?_
      refine wp_exit ?_
      (refine (then_exit (then_exit (in_here (then_normal (hK1 _ _ ?_))))); clear hK1)
      refine wp_seq_k fun _ hK1 => ?_
      refine wp_region_lit ?_
      (refine st_y S (Yr.ys (ys_assign Ev.c)) rfl ?_; clear S a w; intro a w S)
      refine st_nil ?_
      (refine (then_normal (hK1 _ _ ?_)); clear hK1)
      refine wp_ret ?_
      refine st_ret S (results1 S Try.results32 (Rv.tmp rfl)) ?_
      refine ⟨?_, S.wd.below⟩
      rw [decide_eq_true]
      rw [List.take_of_length_le (by omega), List.take_of_length_le (by omega)] at hno
      exact hno
end Go.Proofs.Ytfblmkocmnbdcaa
set_option linter.unusedVariables false
set_option linter.unusedSimpArgs false
set_option maxRecDepth 100000
set_option maxHeartbeats 4000000
namespace Go.Proofs.Ytfblmkocmnbdcaa
open Go.Fw Go.Proofs Go.RowKit
theorem c48 (w0 : World) (v1 v2 : Value) (C : Ctx) (h : RdCtx w0 w0.heap.size v1 v2 C) :
    Calls Try.prog 48 #[.agg #[v1, v2]] w0 fun e w' => e = .returned (.bool (canL C)) ∧ Bel w0.heap.size w0 w' := by
  obtain ⟨⟨A, cap, rfl, hl, hcap, hA⟩, ⟨A', cap', rfl, hl', hcap', hA'⟩⟩ := h
  have hS : Sl Dot.enc 3 w0 w0.heap.size (.slice A C.marks.length cap) C.marks := ⟨A, cap, rfl, hl, hcap, hA⟩
  refine enter1 Try.func48 rfl Try.ntmps48 rfl fun a S => ?_
  refine wp_seq_k fun _ hK1 => ?_
  refine wp_region_lit ?_
  (refine st_m (op_box S (Ev.t rfl) rfl ?_); clear S a; intro g1 a w S)
  (refine st_y S (Yr.ys (ys_assign Ev.c)) rfl ?_; clear S a w; intro a w S)
  refine st_nil ?_
  (refine (then_normal (hK1 _ _ ?_)); clear hK1)
  refine wp_seq_k fun _ hK1 => ?_
  refine wp_seq_k fun _ hK2 => ?_
  refine wp_region_lit ?_
  (refine st_y S (Yr.ys (ys_fieldN (FieldT.mk Try.underlying38 rfl Try.sizeOf35 rfl) (Ev.t rfl) (i' := 0) rfl)) rfl ?_; clear S a w; intro a w S)
  (refine st_y S (Yr.ys (ys_ld ⟨Try.isAgg35, Try.sizeOf35⟩ (Ev.t rfl) (k := 0) rfl rfl)) rfl ?_; clear S a w; intro a w S)
  (refine st_y S (Yr.ys (ys_lenS Try.underlying35 (Ev.t rfl))) rfl ?_; clear S a w; intro a w S)
  (refine st_y S (Yr.ys (ys_gtr (Ev.t rfl) Ev.c)) rfl ?_; clear S a w; intro a w S)
  (refine st_y S (Yr.ys (ys_move (Ev.t rfl))) rfl ?_; clear S a w; intro a w S)
  (refine st_yf S rfl rfl (Yr.ys (ys_fieldN (FieldT.mk Try.underlying38 rfl Try.sizeOf36 rfl) (Ev.t rfl) (i' := 1) rfl)) rfl ?_; clear S a w; intro a w S)
  (refine st_yf S rfl rfl (Yr.ys (ys_ld ⟨Try.isAgg36, Try.sizeOf36⟩ (Ev.g rfl) (k := 0) rfl rfl)) rfl ?_; clear S a w; intro a w S)
  (refine st_yf S rfl rfl (Yr.ys (ys_lenS Try.underlying36 (Ev.g rfl))) rfl ?_; clear S a w; intro a w S)
  (refine st_yf S rfl rfl (Yr.ys (ys_gtr (Ev.g rfl) Ev.c)) rfl ?_; clear S a w; intro a w S)
  (refine st_y S (Yr.ys (ys_or (Ev.t rfl) Ev.c (Ev.g rfl))) rfl ?_; clear S a w; intro a w S)
  refine st_nil ?_
  (refine (then_normal (hK2 _ _ ?_)); clear hK2)
  refine st_cond S (Ev.t rfl) (fun h1 => ?_) (fun h1 => ?_)
  refine wp_seq_k fun _ hK2 => ?_
  refine wp_region_lit ?_
  (refine st_y S (Yr.ys (ys_assign Ev.c)) rfl ?_; clear S a w; intro a w S)
  refine st_nil ?_
  (refine (then_normal (hK2 _ _ ?_)); clear hK2)
  refine wp_ret ?_
  refine (then_ret ?_)
  refine st_ret S (results1 S Try.results48 (Rv.tmp rfl)) ?_
  rotate_left
  refine wp_skip ?_
  (refine (then_normal (hK1 _ _ ?_)); clear hK1)
  refine wp_seq_k fun _ hK1 => ?_
  refine wp_seq_k fun _ hK2 => ?_
  refine wp_region_lit ?_
  (refine st_y S (Yr.ys (ys_fieldN (FieldT.mk Try.underlying38 rfl Try.sizeOf35 rfl) (Ev.t rfl) (i' := 0) rfl)) rfl ?_; clear S a w; intro a w S)
  (refine st_y S (Yr.ys (ys_ld ⟨Try.isAgg35, Try.sizeOf35⟩ (Ev.t rfl) (k := 0) rfl rfl)) rfl ?_; clear S a w; intro a w S)
  (refine st_y S (Yr.ys (ys_lenS Try.underlying35 (Ev.t rfl))) rfl ?_; clear S a w; intro a w S)
  (refine st_y S (Yr.ys (ys_move Ev.c)) rfl ?_; clear S a w; intro a w S)
  refine st_nil ?_
  (refine (then_normal (hK2 _ _ ?_)); clear hK2)
  refine wp_block ?_
  rotate_left
  · exact ⟨by rw [canL_big (by simp at h1; omega)], S.wd.below⟩
  · have hbig : C.marks.length ≤ 64 ∧ C.cloud.length ≤ 64 := by simp at h1; omega
    refine st_loopK S (X := Nat) (fun k => [(20, true, .int .i64 (k : Int))]) (fun _ L => L) (fun k => k ≤ C.marks.length ∧ (∀ x ∈ C.marks.take k, mayD x = true) ∧ okM (prevD C.marks k) (C.marks.drop k) = okM none C.marks) (fun k => C.marks.length - k) 0 ⟨Nat.zero_le _, by simp, rfl⟩ (by repeat (first | exact Fits.nil | refine Fits.skip rfl ?_ | refine Fits.cons rfl ?_)) (by repeat (first | exact List.Sublist.refl _ | exact List.nil_sublist _ | refine .cons_cons _ ?_ | refine .cons _ ?_)) ?_
    clear S h1
    intro k a w ⟨hk, hmy, hno⟩ S
    by_cases hlt : k < C.marks.length
    · obtain ⟨g, o, m, rfl, hmm, hd, hc⟩ := row_at hA hlt
      rw [hd, okM] at hno
      obtain ⟨m1, m2, m3⟩ := m
      cases rw_b : mayD ⟨m1, m2, m3⟩ with
      | false =>
        refine wp_seq_k fun _ hK2 => ?_
        refine wp_region_lit ?_
        (refine st_y S (Yr.ys (ys_T (by omega) (ys_lss (Ev.t rfl) (Ev.t rfl)))) rfl ?_; clear S a w; intro a w S)
        refine st_nil ?_
        (refine (then_normal (hK2 _ _ ?_)); clear hK2)
        refine wp_seq_k fun _ hK2 => ?_
        refine st_then S (Ev.t rfl) ?_
        refine wp_skip ?_
        (refine (then_normal (hK2 _ _ ?_)); clear hK2)
        refine wp_seq_k fun _ hK2 => ?_
        refine wp_block ?_
        refine wp_seq_k fun _ hK3 => ?_
        refine wp_region_lit ?_
        (refine st_y S (Yr.ys (ys_move (Ev.t rfl))) rfl ?_; clear S a w; intro a w S)
        (refine st_y S (Yr.ys (ys_ixS Try.underlying35 Try.sizeOf110 (Ev.t rfl) (Ev.t rfl) (fun _ => by omega))) rfl ?_; clear S a w; intro a w S)
        (refine st_y S (Yr.ys (ys_ldOA ⟨Try.isAgg110, Try.sizeOf110⟩ (Ev.t rfl) (vs := [_, _, _]) rfl (fun _ => hc))) rfl ?_; clear S a w; intro a w S)
        (refine st_m (op_alloc S Try.zeroValue110 (cs := _) rfl rfl ?_); clear S a w; intro g2 a w S)
        (refine st_y S (Yr.ys (ys_assign (Ev.t rfl))) rfl ?_; clear S a w; intro a w S)
        (refine st_m (op_stW S Try.sizeOf110 (Ev.t rfl) (Ev.t rfl) (k := 0) rfl rfl rfl (by simp [Value.oneCell']) ?_); clear S a w; intro a w S)
        refine st_nil ?_
        (refine (then_normal (hK3 _ _ ?_)); clear hK3)
        refine wp_seq_k fun _ hK3 => ?_
        refine wp_seq_k fun _ hK4 => ?_
        refine wp_region_lit ?_
        (refine st_y S (Yr.ys (ys_ldA ⟨Try.isAgg110, Try.sizeOf110⟩ (Ev.t rfl) (k := 0) rfl rfl)) rfl ?_; clear S a w; intro a w S)
        (refine st_y S (ys_call Try.call99 (EvL.cons (Ev.t rfl) EvL.nil) (fun hp w W => c99 _ _ _ _)) rfl ?_; clear S a w; intro a w S)
        rw [rw_b] at S
        (refine st_y S (Yr.ys (ys_not (Ev.t rfl))) rfl ?_; clear S a w; intro a w S)
        refine st_nil ?_
        (refine (then_normal (hK4 _ _ ?_)); clear hK4)
        refine st_then S (Ev.t rfl) ?_
        refine wp_seq_k fun _ hK4 => ?_
        refine wp_region_lit ?_
        (refine st_y S (Yr.ys (ys_assign Ev.c)) rfl ?_; clear S a w; intro a w S)
        refine st_nil ?_
        (refine (then_normal (hK4 _ _ ?_)); clear hK4)
        refine wp_ret ?_
        refine (then_ret (in_ret (then_ret (then_ret (in_ret (then_ret ?_))))))
        refine st_ret S (results1 S Try.results48 (Rv.tmp rfl)) ?_
        exact ⟨by rw [canL_M (by rw [← hno, rw_b]; rfl)], S.wd.below⟩
      | true =>
        have hlm := may_lim rw_b
        rcases k with _ | k
        · refine wp_seq_k fun _ hK2 => ?_
          refine wp_region_lit ?_
          (refine st_y S (Yr.ys (ys_T (by omega) (ys_lss (Ev.t rfl) (Ev.t rfl)))) rfl ?_; clear S a w; intro a w S)
          refine st_nil ?_
          (refine (then_normal (hK2 _ _ ?_)); clear hK2)
          refine wp_seq_k fun _ hK2 => ?_
          refine st_then S (Ev.t rfl) ?_
          refine wp_skip ?_
          (refine (then_normal (hK2 _ _ ?_)); clear hK2)
          refine wp_seq_k fun _ hK2 => ?_
          refine wp_block ?_
          refine wp_seq_k fun _ hK3 => ?_
          refine wp_region_lit ?_
          (refine st_y S (Yr.ys (ys_move (Ev.t rfl))) rfl ?_; clear S a w; intro a w S)
          (refine st_y S (Yr.ys (ys_ixS (j := 0) Try.underlying35 Try.sizeOf110 (Ev.t rfl) (Ev.t rfl) (fun _ => by omega))) rfl ?_; clear S a w; intro a w S)
          (refine st_y S (Yr.ys (ys_ldOA ⟨Try.isAgg110, Try.sizeOf110⟩ (Ev.t rfl) (vs := [_, _, _]) rfl (fun _ => hc))) rfl ?_; clear S a w; intro a w S)
          (refine st_m (op_alloc S Try.zeroValue110 (cs := _) rfl rfl ?_); clear S a w; intro g2 a w S)
          (refine st_y S (Yr.ys (ys_assign (Ev.t rfl))) rfl ?_; clear S a w; intro a w S)
          (refine st_m (op_stW S Try.sizeOf110 (Ev.t rfl) (Ev.t rfl) (k := 0) rfl rfl rfl (by simp [Value.oneCell']) ?_); clear S a w; intro a w S)
          refine st_nil ?_
          (refine (then_normal (hK3 _ _ ?_)); clear hK3)
          refine wp_seq_k fun _ hK3 => ?_
          refine wp_seq_k fun _ hK4 => ?_
          refine wp_region_lit ?_
          (refine st_y S (Yr.ys (ys_ldA ⟨Try.isAgg110, Try.sizeOf110⟩ (Ev.t rfl) (k := 0) rfl rfl)) rfl ?_; clear S a w; intro a w S)
          (refine st_y S (ys_call Try.call99 (EvL.cons (Ev.t rfl) EvL.nil) (fun hp w W => c99 _ _ _ _)) rfl ?_; clear S a w; intro a w S)
          rw [rw_b] at S
          (refine st_y S (Yr.ys (ys_not (Ev.t rfl))) rfl ?_; clear S a w; intro a w S)
          refine st_nil ?_
          (refine (then_normal (hK4 _ _ ?_)); clear hK4)
          refine st_else S (Ev.t rfl) ?_
          refine wp_skip ?_
          (refine (then_normal (hK3 _ _ ?_)); clear hK3)
          refine wp_seq_k fun _ hK3 => ?_
          (refine st_quiet S (by kernel_rfl) (by kernel_rfl) ?_; clear S w; intro a S)
          (refine q_y S (Yr.ys (ys_move (Ev.t rfl))) rfl ?_; clear S a; intro a S)
          (refine q_y S (Yr.ys (ys_F (by omega) (ys_gtr (Ev.t rfl) Ev.c))) rfl ?_; clear S a; intro a S)
          (refine q_y S (Yr.ys (ys_move (Ev.t rfl))) rfl ?_; clear S a; intro a S)
          (refine q_skip S rfl rfl rfl rfl ?_; clear S a; intro a S)
          (refine q_skip S rfl rfl rfl rfl ?_; clear S a; intro a S)
          (refine q_skip S rfl rfl rfl rfl ?_; clear S a; intro a S)
          (refine q_skip S rfl rfl rfl rfl ?_; clear S a; intro a S)
          (refine q_skip S rfl rfl rfl rfl ?_; clear S a; intro a S)
          (refine q_skip S rfl rfl rfl rfl ?_; clear S a; intro a S)
          (refine q_skip S rfl rfl rfl rfl ?_; clear S a; intro a S)
          (refine q_skip S rfl rfl rfl rfl ?_; clear S a; intro a S)
          (refine q_skip S rfl rfl rfl rfl ?_; clear S a; intro a S)
          (refine q_skip S rfl rfl rfl rfl ?_; clear S a; intro a S)
          (refine q_skip S rfl rfl rfl rfl ?_; clear S a; intro a S)
          (refine q_skip0 S rfl rfl rfl ?_; clear S a; intro a S)
          (refine q_skip0 S rfl rfl rfl ?_; clear S a; intro a S)
          (refine q_skip0 S rfl rfl rfl ?_; clear S a; intro a S)
          (refine q_skip0 S rfl rfl rfl ?_; clear S a; intro a S)
          (refine q_skip0 S rfl rfl rfl ?_; clear S a; intro a S)
          (refine q_skip0 S rfl rfl rfl ?_; clear S a; intro a S)
          (refine q_skip0 S rfl rfl rfl ?_; clear S a; intro a S)
          (refine q_skip0 S rfl rfl rfl ?_; clear S a; intro a S)
          (refine q_skip0 S rfl rfl rfl ?_; clear S a; intro a S)
          (refine q_skip0 S rfl rfl rfl ?_; clear S a; intro a S)
          (refine q_skip0 S rfl rfl rfl ?_; clear S a; intro a S)
          (refine q_skip0 S rfl rfl rfl ?_; clear S a; intro a S)
          (refine q_skip0 S rfl rfl rfl ?_; clear S a; intro a S)
          (refine q_skip0 S rfl rfl rfl ?_; clear S a; intro a S)
          (refine q_skip0 S rfl rfl rfl ?_; clear S a; intro a S)
          (refine q_skip0 S rfl rfl rfl ?_; clear S a; intro a S)
          (refine q_skip0 S rfl rfl rfl ?_; clear S a; intro a S)
          (refine q_skip0 S rfl rfl rfl ?_; clear S a; intro a S)
          (refine q_skip0 S rfl rfl rfl ?_; clear S a; intro a S)
          (refine q_skip0 S rfl rfl rfl ?_; clear S a; intro a S)
          (refine q_skip0 S rfl rfl rfl ?_; clear S a; intro a S)
          (refine q_skip0 S rfl rfl rfl ?_; clear S a; intro a S)
          (refine q_skip S rfl rfl rfl rfl ?_; clear S a; intro a S)
          (refine q_y S (Yr.ys (ys_pickF (Ev.t rfl) Ev.c)) rfl ?_; clear S a; intro a S)
          (refine q_nil ?_; intro w W; replace S := St.mk S W; clear W)
          (refine (then_normal (hK3 _ _ ?_)); clear hK3)
          refine st_else S (Ev.t rfl) ?_
          refine wp_skip ?_
          (refine (in_normal (then_normal (hK2 _ _ ?_))); clear hK2)
          refine wp_region_lit ?_
          (refine st_y S (Yr.ys (ys_addI (Ev.t rfl) Ev.c (fun _ => by unfold I64; omega))) rfl ?_; clear S a w; intro a w S)
          (refine st_y S (Yr.ys (ys_move (Ev.t rfl))) rfl ?_; clear S a w; intro a w S)
          refine st_nil ?_
          refine (then_normal ?_)
          exact ⟨0 + 1, ⟨by omega, step_all hmm hmy rw_b, by rw [prevD, hmm, ← hno, rw_b]; rfl⟩, by omega, S.weak (by repeat (first | exact Fits.nil | refine Fits.skip rfl ?_ | refine Fits.cons rfl ?_)) (by repeat (first | exact List.Sublist.refl _ | exact List.nil_sublist _ | refine .cons_cons _ ?_ | refine .cons _ ?_))⟩
        · obtain ⟨g', o', m', e', hmm', hd', hc'⟩ := row_at hA (show k < C.marks.length by omega)
          cases e'
          obtain ⟨p1, p2, p3⟩ := m'
          have hg : gapM (prevD C.marks (k + 1)) ⟨m1, m2, m3⟩ = decide (orderD ⟨p1, p2, 0⟩ ⟨m1, m2, 0⟩ < 0) := by rw [prevD, hmm']; rfl
          unfold orderD at hg
          dsimp only at hg
          have yes : gapM (prevD C.marks (k + 1)) ⟨m1, m2, m3⟩ = true → okM (prevD C.marks (k + 1 + 1)) (C.marks.drop (k + 1 + 1)) = okM none C.marks := fun h => by
            rw [prevD, hmm, ← hno, rw_b, h]; rfl
          have no : gapM (prevD C.marks (k + 1)) ⟨m1, m2, m3⟩ = false → canL C = false := fun h => canL_M (by rw [← hno, rw_b, h]; rfl)
          clear hno
          by_cases g1 : m1 < p1
          · refine wp_seq_k fun _ hK2 => ?_
            refine wp_region_lit ?_
            (refine st_y S (Yr.ys (ys_T (by omega) (ys_lss (Ev.t rfl) (Ev.t rfl)))) rfl ?_; clear S a w; intro a w S)
            refine st_nil ?_
            (refine (then_normal (hK2 _ _ ?_)); clear hK2)
            refine wp_seq_k fun _ hK2 => ?_
            refine st_then S (Ev.t rfl) ?_
            refine wp_skip ?_
            (refine (then_normal (hK2 _ _ ?_)); clear hK2)
            refine wp_seq_k fun _ hK2 => ?_
            refine wp_block ?_
            refine wp_seq_k fun _ hK3 => ?_
            refine wp_region_lit ?_
            (refine st_y S (Yr.ys (ys_move (Ev.t rfl))) rfl ?_; clear S a w; intro a w S)
            (refine st_y S (Yr.ys (ys_ixS Try.underlying35 Try.sizeOf110 (Ev.t rfl) (Ev.t rfl) (fun _ => by omega))) rfl ?_; clear S a w; intro a w S)
            (refine st_y S (Yr.ys (ys_ldOA ⟨Try.isAgg110, Try.sizeOf110⟩ (Ev.t rfl) (vs := [_, _, _]) rfl (fun _ => hc))) rfl ?_; clear S a w; intro a w S)
            (refine st_m (op_alloc S Try.zeroValue110 (cs := _) rfl rfl ?_); clear S a w; intro g2 a w S)
            (refine st_y S (Yr.ys (ys_assign (Ev.t rfl))) rfl ?_; clear S a w; intro a w S)
            (refine st_m (op_stW S Try.sizeOf110 (Ev.t rfl) (Ev.t rfl) (k := 0) rfl rfl rfl (by simp [Value.oneCell']) ?_); clear S a w; intro a w S)
            refine st_nil ?_
            (refine (then_normal (hK3 _ _ ?_)); clear hK3)
            refine wp_seq_k fun _ hK3 => ?_
            refine wp_seq_k fun _ hK4 => ?_
            refine wp_region_lit ?_
            (refine st_y S (Yr.ys (ys_ldA ⟨Try.isAgg110, Try.sizeOf110⟩ (Ev.t rfl) (k := 0) rfl rfl)) rfl ?_; clear S a w; intro a w S)
            (refine st_y S (ys_call Try.call99 (EvL.cons (Ev.t rfl) EvL.nil) (fun hp w W => c99 _ _ _ _)) rfl ?_; clear S a w; intro a w S)
            rw [rw_b] at S
            (refine st_y S (Yr.ys (ys_not (Ev.t rfl))) rfl ?_; clear S a w; intro a w S)
            refine st_nil ?_
            (refine (then_normal (hK4 _ _ ?_)); clear hK4)
            refine st_else S (Ev.t rfl) ?_
            refine wp_skip ?_
            (refine (then_normal (hK3 _ _ ?_)); clear hK3)
            refine wp_seq_k fun _ hK3 => ?_
            (refine st_quiet S (by kernel_rfl) (by kernel_rfl) ?_; clear S w; intro a S)
            (refine q_y S (Yr.ys (ys_move (Ev.t rfl))) rfl ?_; clear S a; intro a S)
            (refine q_y S (Yr.ys (ys_T (by omega) (ys_gtr (Ev.t rfl) Ev.c))) rfl ?_; clear S a; intro a S)
            (refine q_y S (Yr.ys (ys_move (Ev.t rfl))) rfl ?_; clear S a; intro a S)
            (refine q_yt S rfl rfl (Yr.ys (ys_fieldN (FieldT.mk Try.underlying38 rfl Try.sizeOf35 rfl) (Ev.t rfl) (i' := 0) rfl)) rfl ?_; clear S a; intro a S)
            (refine q_yt S rfl rfl (Yr.ys (ys_ld ⟨Try.isAgg35, Try.sizeOf35⟩ (Ev.t rfl) (k := 1) rfl rfl)) rfl ?_; clear S a; intro a S)
            (refine q_yt S rfl rfl (Yr.ys (ys_move (Ev.t rfl))) rfl ?_; clear S a; intro a S)
            (refine q_yt S rfl rfl (Yr.ys (ys_pred (Ev.t rfl) Ev.c (by omega))) rfl ?_; clear S a; intro a S)
            (refine q_yt S rfl rfl (Yr.ys (ys_ixS Try.underlying35 Try.sizeOf110 (Ev.t rfl) (Ev.t rfl) (fun _ => by omega))) rfl ?_; clear S a; intro a S)
            (refine q_yt S rfl rfl (Yr.ys (ys_field (FieldT.mk Try.underlying110 rfl Try.sizeOf3 rfl) (Ev.t rfl))) rfl ?_; clear S a; intro a S)
            (refine q_yt S rfl rfl (Yr.ys (ys_ldO ⟨Try.isAgg3, Try.sizeOf3⟩ (Ev.t rfl) (fun _ => hc' _ _ rfl))) rfl ?_; clear S a; intro a S)
            (refine q_yt S rfl rfl (Yr.ys (ys_fieldN (FieldT.mk Try.underlying110 rfl Try.sizeOf3 rfl) (Ev.t rfl) (i' := 0) rfl)) rfl ?_; clear S a; intro a S)
            (refine q_yt S rfl rfl (Yr.ys (ys_ld ⟨Try.isAgg3, Try.sizeOf3⟩ (Ev.t rfl) (k := 0) rfl rfl)) rfl ?_; clear S a; intro a S)
            (refine q_yt S rfl rfl (Yr.ys (ys_T (by omega) (ys_gtr (Ev.t rfl) (Ev.t rfl)))) rfl ?_; clear S a; intro a S)
            (refine q_yt S rfl rfl (Yr.ys (ys_move (Ev.t rfl))) rfl ?_; clear S a; intro a S)
            (refine q_skip S rfl rfl rfl rfl ?_; clear S a; intro a S)
            (refine q_skip S rfl rfl rfl rfl ?_; clear S a; intro a S)
            (refine q_skip S rfl rfl rfl rfl ?_; clear S a; intro a S)
            (refine q_skip S rfl rfl rfl rfl ?_; clear S a; intro a S)
            (refine q_skip S rfl rfl rfl rfl ?_; clear S a; intro a S)
            (refine q_skip S rfl rfl rfl rfl ?_; clear S a; intro a S)
            (refine q_skip S rfl rfl rfl rfl ?_; clear S a; intro a S)
            (refine q_skip S rfl rfl rfl rfl ?_; clear S a; intro a S)
            (refine q_skip S rfl rfl rfl rfl ?_; clear S a; intro a S)
            (refine q_skip S rfl rfl rfl rfl ?_; clear S a; intro a S)
            (refine q_skip S rfl rfl rfl rfl ?_; clear S a; intro a S)
            (refine q_skip0 S rfl rfl rfl ?_; clear S a; intro a S)
            (refine q_skip0 S rfl rfl rfl ?_; clear S a; intro a S)
            (refine q_skip0 S rfl rfl rfl ?_; clear S a; intro a S)
            (refine q_skip0 S rfl rfl rfl ?_; clear S a; intro a S)
            (refine q_skip0 S rfl rfl rfl ?_; clear S a; intro a S)
            (refine q_skip0 S rfl rfl rfl ?_; clear S a; intro a S)
            (refine q_skip0 S rfl rfl rfl ?_; clear S a; intro a S)
            (refine q_skip0 S rfl rfl rfl ?_; clear S a; intro a S)
            (refine q_skip0 S rfl rfl rfl ?_; clear S a; intro a S)
            (refine q_skip0 S rfl rfl rfl ?_; clear S a; intro a S)
            (refine q_skip S rfl rfl rfl rfl ?_; clear S a; intro a S)
            (refine q_yt S rfl rfl (Yr.ys (ys_pickT (Ev.t rfl) Ev.c)) rfl ?_; clear S a; intro a S)
            (refine q_y S (Yr.ys (ys_pickT (Ev.t rfl) (Ev.t rfl))) rfl ?_; clear S a; intro a S)
            (refine q_nil ?_; intro w W; replace S := St.mk S W; clear W)
            (refine (then_normal (hK3 _ _ ?_)); clear hK3)
            refine st_then S (Ev.t rfl) ?_
            refine wp_seq_k fun _ hK3 => ?_
            refine wp_region_lit ?_
            (refine st_y S (Yr.ys (ys_assign Ev.c)) rfl ?_; clear S a w; intro a w S)
            refine st_nil ?_
            (refine (then_normal (hK3 _ _ ?_)); clear hK3)
            refine wp_ret ?_
            refine (in_ret (then_ret (then_ret (in_ret (then_ret ?_)))))
            refine st_ret S (results1 S Try.results48 (Rv.tmp rfl)) ?_
            exact ⟨by rw [no (by rw [hg, if_pos (by omega)]; exact decide_eq_false (by omega))], S.wd.below⟩
          · by_cases g2 : p1 = m1
            · by_cases g3 : m2 ≤ p2
              · refine wp_seq_k fun _ hK2 => ?_
                refine wp_region_lit ?_
                (refine st_y S (Yr.ys (ys_T (by omega) (ys_lss (Ev.t rfl) (Ev.t rfl)))) rfl ?_; clear S a w; intro a w S)
                refine st_nil ?_
                (refine (then_normal (hK2 _ _ ?_)); clear hK2)
                refine wp_seq_k fun _ hK2 => ?_
                refine st_then S (Ev.t rfl) ?_
                refine wp_skip ?_
                (refine (then_normal (hK2 _ _ ?_)); clear hK2)
                refine wp_seq_k fun _ hK2 => ?_
                refine wp_block ?_
                refine wp_seq_k fun _ hK3 => ?_
                refine wp_region_lit ?_
                (refine st_y S (Yr.ys (ys_move (Ev.t rfl))) rfl ?_; clear S a w; intro a w S)
                (refine st_y S (Yr.ys (ys_ixS Try.underlying35 Try.sizeOf110 (Ev.t rfl) (Ev.t rfl) (fun _ => by omega))) rfl ?_; clear S a w; intro a w S)
                (refine st_y S (Yr.ys (ys_ldOA ⟨Try.isAgg110, Try.sizeOf110⟩ (Ev.t rfl) (vs := [_, _, _]) rfl (fun _ => hc))) rfl ?_; clear S a w; intro a w S)
                (refine st_m (op_alloc S Try.zeroValue110 (cs := _) rfl rfl ?_); clear S a w; intro g4 a w S)
                (refine st_y S (Yr.ys (ys_assign (Ev.t rfl))) rfl ?_; clear S a w; intro a w S)
                (refine st_m (op_stW S Try.sizeOf110 (Ev.t rfl) (Ev.t rfl) (k := 0) rfl rfl rfl (by simp [Value.oneCell']) ?_); clear S a w; intro a w S)
                refine st_nil ?_
                (refine (then_normal (hK3 _ _ ?_)); clear hK3)
                refine wp_seq_k fun _ hK3 => ?_
                refine wp_seq_k fun _ hK4 => ?_
                refine wp_region_lit ?_
                (refine st_y S (Yr.ys (ys_ldA ⟨Try.isAgg110, Try.sizeOf110⟩ (Ev.t rfl) (k := 0) rfl rfl)) rfl ?_; clear S a w; intro a w S)
                (refine st_y S (ys_call Try.call99 (EvL.cons (Ev.t rfl) EvL.nil) (fun hp w W => c99 _ _ _ _)) rfl ?_; clear S a w; intro a w S)
                rw [rw_b] at S
                (refine st_y S (Yr.ys (ys_not (Ev.t rfl))) rfl ?_; clear S a w; intro a w S)
                refine st_nil ?_
                (refine (then_normal (hK4 _ _ ?_)); clear hK4)
                refine st_else S (Ev.t rfl) ?_
                refine wp_skip ?_
                (refine (then_normal (hK3 _ _ ?_)); clear hK3)
                refine wp_seq_k fun _ hK3 => ?_
                (refine st_quiet S (by kernel_rfl) (by kernel_rfl) ?_; clear S w; intro a S)
                (refine q_y S (Yr.ys (ys_move (Ev.t rfl))) rfl ?_; clear S a; intro a S)
                (refine q_y S (Yr.ys (ys_T (by omega) (ys_gtr (Ev.t rfl) Ev.c))) rfl ?_; clear S a; intro a S)
                (refine q_y S (Yr.ys (ys_move (Ev.t rfl))) rfl ?_; clear S a; intro a S)
                (refine q_yt S rfl rfl (Yr.ys (ys_fieldN (FieldT.mk Try.underlying38 rfl Try.sizeOf35 rfl) (Ev.t rfl) (i' := 0) rfl)) rfl ?_; clear S a; intro a S)
                (refine q_yt S rfl rfl (Yr.ys (ys_ld ⟨Try.isAgg35, Try.sizeOf35⟩ (Ev.t rfl) (k := 1) rfl rfl)) rfl ?_; clear S a; intro a S)
                (refine q_yt S rfl rfl (Yr.ys (ys_move (Ev.t rfl))) rfl ?_; clear S a; intro a S)
                (refine q_yt S rfl rfl (Yr.ys (ys_pred (Ev.t rfl) Ev.c (by omega))) rfl ?_; clear S a; intro a S)
                (refine q_yt S rfl rfl (Yr.ys (ys_ixS Try.underlying35 Try.sizeOf110 (Ev.t rfl) (Ev.t rfl) (fun _ => by omega))) rfl ?_; clear S a; intro a S)
                (refine q_yt S rfl rfl (Yr.ys (ys_field (FieldT.mk Try.underlying110 rfl Try.sizeOf3 rfl) (Ev.t rfl))) rfl ?_; clear S a; intro a S)
                (refine q_yt S rfl rfl (Yr.ys (ys_ldO ⟨Try.isAgg3, Try.sizeOf3⟩ (Ev.t rfl) (fun _ => hc' _ _ rfl))) rfl ?_; clear S a; intro a S)
                (refine q_yt S rfl rfl (Yr.ys (ys_fieldN (FieldT.mk Try.underlying110 rfl Try.sizeOf3 rfl) (Ev.t rfl) (i' := 0) rfl)) rfl ?_; clear S a; intro a S)
                (refine q_yt S rfl rfl (Yr.ys (ys_ld ⟨Try.isAgg3, Try.sizeOf3⟩ (Ev.t rfl) (k := 0) rfl rfl)) rfl ?_; clear S a; intro a S)
                (refine q_yt S rfl rfl (Yr.ys (ys_F (by omega) (ys_gtr (Ev.t rfl) (Ev.t rfl)))) rfl ?_; clear S a; intro a S)
                (refine q_yt S rfl rfl (Yr.ys (ys_move (Ev.t rfl))) rfl ?_; clear S a; intro a S)
                (refine q_yt S rfl rfl (Yr.ys (ys_fieldN (FieldT.mk Try.underlying38 rfl Try.sizeOf35 rfl) (Ev.t rfl) (i' := 0) rfl)) rfl ?_; clear S a; intro a S)
                (refine q_yt S rfl rfl (Yr.ys (ys_ld ⟨Try.isAgg35, Try.sizeOf35⟩ (Ev.t rfl) (k := 1) rfl rfl)) rfl ?_; clear S a; intro a S)
                (refine q_yt S rfl rfl (Yr.ys (ys_move (Ev.t rfl))) rfl ?_; clear S a; intro a S)
                (refine q_yt S rfl rfl (Yr.ys (ys_pred (Ev.t rfl) Ev.c (by omega))) rfl ?_; clear S a; intro a S)
                (refine q_yt S rfl rfl (Yr.ys (ys_ixS Try.underlying35 Try.sizeOf110 (Ev.t rfl) (Ev.t rfl) (fun _ => by omega))) rfl ?_; clear S a; intro a S)
                (refine q_yt S rfl rfl (Yr.ys (ys_field (FieldT.mk Try.underlying110 rfl Try.sizeOf3 rfl) (Ev.t rfl))) rfl ?_; clear S a; intro a S)
                (refine q_yt S rfl rfl (Yr.ys (ys_ldO ⟨Try.isAgg3, Try.sizeOf3⟩ (Ev.t rfl) (fun _ => hc' _ _ rfl))) rfl ?_; clear S a; intro a S)
                (refine q_yt S rfl rfl (Yr.ys (ys_fieldN (FieldT.mk Try.underlying110 rfl Try.sizeOf3 rfl) (Ev.t rfl) (i' := 0) rfl)) rfl ?_; clear S a; intro a S)
                (refine q_yt S rfl rfl (Yr.ys (ys_ld ⟨Try.isAgg3, Try.sizeOf3⟩ (Ev.t rfl) (k := 0) rfl rfl)) rfl ?_; clear S a; intro a S)
                (refine q_yt S rfl rfl (Yr.ys (ys_T (by omega) (ys_eql (Ev.t rfl) (Ev.t rfl)))) rfl ?_; clear S a; intro a S)
                (refine q_yt S rfl rfl (Yr.ys (ys_move (Ev.t rfl))) rfl ?_; clear S a; intro a S)
                (refine q_yt S rfl rfl (Yr.ys (ys_fieldN (FieldT.mk Try.underlying38 rfl Try.sizeOf35 rfl) (Ev.t rfl) (i' := 0) rfl)) rfl ?_; clear S a; intro a S)
                (refine q_yt S rfl rfl (Yr.ys (ys_ld ⟨Try.isAgg35, Try.sizeOf35⟩ (Ev.t rfl) (k := 1) rfl rfl)) rfl ?_; clear S a; intro a S)
                (refine q_yt S rfl rfl (Yr.ys (ys_move (Ev.t rfl))) rfl ?_; clear S a; intro a S)
                (refine q_yt S rfl rfl (Yr.ys (ys_pred (Ev.t rfl) Ev.c (by omega))) rfl ?_; clear S a; intro a S)
                (refine q_yt S rfl rfl (Yr.ys (ys_ixS Try.underlying35 Try.sizeOf110 (Ev.t rfl) (Ev.t rfl) (fun _ => by omega))) rfl ?_; clear S a; intro a S)
                (refine q_yt S rfl rfl (Yr.ys (ys_field (FieldT.mk Try.underlying110 rfl Try.sizeOf3 rfl) (Ev.t rfl))) rfl ?_; clear S a; intro a S)
                (refine q_yt S rfl rfl (Yr.ys (ys_ldO ⟨Try.isAgg3, Try.sizeOf3⟩ (Ev.t rfl) (fun _ => hc' _ _ rfl))) rfl ?_; clear S a; intro a S)
                (refine q_yt S rfl rfl (Yr.ys (ys_fieldN (FieldT.mk Try.underlying110 rfl Try.sizeOf3 rfl) (Ev.t rfl) (i' := 1) rfl)) rfl ?_; clear S a; intro a S)
                (refine q_yt S rfl rfl (Yr.ys (ys_ld ⟨Try.isAgg3, Try.sizeOf3⟩ (Ev.t rfl) (k := 0) rfl rfl)) rfl ?_; clear S a; intro a S)
                (refine q_yt S rfl rfl (Yr.ys (ys_T (by omega) (ys_geq (Ev.t rfl) (Ev.t rfl)))) rfl ?_; clear S a; intro a S)
                (refine q_yt S rfl rfl (Yr.ys (ys_pickT (Ev.t rfl) (Ev.t rfl))) rfl ?_; clear S a; intro a S)
                (refine q_yt S rfl rfl (Yr.ys (ys_pickF (Ev.t rfl) (Ev.t rfl))) rfl ?_; clear S a; intro a S)
                (refine q_y S (Yr.ys (ys_pickT (Ev.t rfl) (Ev.t rfl))) rfl ?_; clear S a; intro a S)
                (refine q_nil ?_; intro w W; replace S := St.mk S W; clear W)
                (refine (then_normal (hK3 _ _ ?_)); clear hK3)
                refine st_then S (Ev.t rfl) ?_
                refine wp_seq_k fun _ hK3 => ?_
                refine wp_region_lit ?_
                (refine st_y S (Yr.ys (ys_assign Ev.c)) rfl ?_; clear S a w; intro a w S)
                refine st_nil ?_
                (refine (then_normal (hK3 _ _ ?_)); clear hK3)
                refine wp_ret ?_
                refine (in_ret (then_ret (then_ret (in_ret (then_ret ?_)))))
                refine st_ret S (results1 S Try.results48 (Rv.tmp rfl)) ?_
                exact ⟨by rw [no (by rw [hg, if_neg (by omega)]; split <;> exact decide_eq_false (by omega))], S.wd.below⟩
              · refine wp_seq_k fun _ hK2 => ?_
                refine wp_region_lit ?_
                (refine st_y S (Yr.ys (ys_T (by omega) (ys_lss (Ev.t rfl) (Ev.t rfl)))) rfl ?_; clear S a w; intro a w S)
                refine st_nil ?_
                (refine (then_normal (hK2 _ _ ?_)); clear hK2)
                refine wp_seq_k fun _ hK2 => ?_
                refine st_then S (Ev.t rfl) ?_
                refine wp_skip ?_
                (refine (then_normal (hK2 _ _ ?_)); clear hK2)
                refine wp_seq_k fun _ hK2 => ?_
                refine wp_block ?_
                refine wp_seq_k fun _ hK3 => ?_
                refine wp_region_lit ?_
                (refine st_y S (Yr.ys (ys_move (Ev.t rfl))) rfl ?_; clear S a w; intro a w S)
                (refine st_y S (Yr.ys (ys_ixS Try.underlying35 Try.sizeOf110 (Ev.t rfl) (Ev.t rfl) (fun _ => by omega))) rfl ?_; clear S a w; intro a w S)
                (refine st_y S (Yr.ys (ys_ldOA ⟨Try.isAgg110, Try.sizeOf110⟩ (Ev.t rfl) (vs := [_, _, _]) rfl (fun _ => hc))) rfl ?_; clear S a w; intro a w S)
                (refine st_m (op_alloc S Try.zeroValue110 (cs := _) rfl rfl ?_); clear S a w; intro g4 a w S)
                (refine st_y S (Yr.ys (ys_assign (Ev.t rfl))) rfl ?_; clear S a w; intro a w S)
                (refine st_m (op_stW S Try.sizeOf110 (Ev.t rfl) (Ev.t rfl) (k := 0) rfl rfl rfl (by simp [Value.oneCell']) ?_); clear S a w; intro a w S)
                refine st_nil ?_
                (refine (then_normal (hK3 _ _ ?_)); clear hK3)
                refine wp_seq_k fun _ hK3 => ?_
                refine wp_seq_k fun _ hK4 => ?_
                refine wp_region_lit ?_
                (refine st_y S (Yr.ys (ys_ldA ⟨Try.isAgg110, Try.sizeOf110⟩ (Ev.t rfl) (k := 0) rfl rfl)) rfl ?_; clear S a w; intro a w S)
                (refine st_y S (ys_call Try.call99 (EvL.cons (Ev.t rfl) EvL.nil) (fun hp w W => c99 _ _ _ _)) rfl ?_; clear S a w; intro a w S)
                rw [rw_b] at S
                (refine st_y S (Yr.ys (ys_not (Ev.t rfl))) rfl ?_; clear S a w; intro a w S)
                refine st_nil ?_
                (refine (then_normal (hK4 _ _ ?_)); clear hK4)
                refine st_else S (Ev.t rfl) ?_
                refine wp_skip ?_
                (refine (then_normal (hK3 _ _ ?_)); clear hK3)
                refine wp_seq_k fun _ hK3 => ?_
                (refine st_quiet S (by kernel_rfl) (by kernel_rfl) ?_; clear S w; intro a S)
                (refine q_y S (Yr.ys (ys_move (Ev.t rfl))) rfl ?_; clear S a; intro a S)
                (refine q_y S (Yr.ys (ys_T (by omega) (ys_gtr (Ev.t rfl) Ev.c))) rfl ?_; clear S a; intro a S)
                (refine q_y S (Yr.ys (ys_move (Ev.t rfl))) rfl ?_; clear S a; intro a S)
                (refine q_yt S rfl rfl (Yr.ys (ys_fieldN (FieldT.mk Try.underlying38 rfl Try.sizeOf35 rfl) (Ev.t rfl) (i' := 0) rfl)) rfl ?_; clear S a; intro a S)
                (refine q_yt S rfl rfl (Yr.ys (ys_ld ⟨Try.isAgg35, Try.sizeOf35⟩ (Ev.t rfl) (k := 1) rfl rfl)) rfl ?_; clear S a; intro a S)
                (refine q_yt S rfl rfl (Yr.ys (ys_move (Ev.t rfl))) rfl ?_; clear S a; intro a S)
                (refine q_yt S rfl rfl (Yr.ys (ys_pred (Ev.t rfl) Ev.c (by omega))) rfl ?_; clear S a; intro a S)
                (refine q_yt S rfl rfl (Yr.ys (ys_ixS Try.underlying35 Try.sizeOf110 (Ev.t rfl) (Ev.t rfl) (fun _ => by omega))) rfl ?_; clear S a; intro a S)
                (refine q_yt S rfl rfl (Yr.ys (ys_field (FieldT.mk Try.underlying110 rfl Try.sizeOf3 rfl) (Ev.t rfl))) rfl ?_; clear S a; intro a S)
                (refine q_yt S rfl rfl (Yr.ys (ys_ldO ⟨Try.isAgg3, Try.sizeOf3⟩ (Ev.t rfl) (fun _ => hc' _ _ rfl))) rfl ?_; clear S a; intro a S)
                (refine q_yt S rfl rfl (Yr.ys (ys_fieldN (FieldT.mk Try.underlying110 rfl Try.sizeOf3 rfl) (Ev.t rfl) (i' := 0) rfl)) rfl ?_; clear S a; intro a S)
                (refine q_yt S rfl rfl (Yr.ys (ys_ld ⟨Try.isAgg3, Try.sizeOf3⟩ (Ev.t rfl) (k := 0) rfl rfl)) rfl ?_; clear S a; intro a S)
                (refine q_yt S rfl rfl (Yr.ys (ys_F (by omega) (ys_gtr (Ev.t rfl) (Ev.t rfl)))) rfl ?_; clear S a; intro a S)
                (refine q_yt S rfl rfl (Yr.ys (ys_move (Ev.t rfl))) rfl ?_; clear S a; intro a S)
                (refine q_yt S rfl rfl (Yr.ys (ys_fieldN (FieldT.mk Try.underlying38 rfl Try.sizeOf35 rfl) (Ev.t rfl) (i' := 0) rfl)) rfl ?_; clear S a; intro a S)
                (refine q_yt S rfl rfl (Yr.ys (ys_ld ⟨Try.isAgg35, Try.sizeOf35⟩ (Ev.t rfl) (k := 1) rfl rfl)) rfl ?_; clear S a; intro a S)
                (refine q_yt S rfl rfl (Yr.ys (ys_move (Ev.t rfl))) rfl ?_; clear S a; intro a S)
                (refine q_yt S rfl rfl (Yr.ys (ys_pred (Ev.t rfl) Ev.c (by omega))) rfl ?_; clear S a; intro a S)
                (refine q_yt S rfl rfl (Yr.ys (ys_ixS Try.underlying35 Try.sizeOf110 (Ev.t rfl) (Ev.t rfl) (fun _ => by omega))) rfl ?_; clear S a; intro a S)
                (refine q_yt S rfl rfl (Yr.ys (ys_field (FieldT.mk Try.underlying110 rfl Try.sizeOf3 rfl) (Ev.t rfl))) rfl ?_; clear S a; intro a S)
                (refine q_yt S rfl rfl (Yr.ys (ys_ldO ⟨Try.isAgg3, Try.sizeOf3⟩ (Ev.t rfl) (fun _ => hc' _ _ rfl))) rfl ?_; clear S a; intro a S)
                (refine q_yt S rfl rfl (Yr.ys (ys_fieldN (FieldT.mk Try.underlying110 rfl Try.sizeOf3 rfl) (Ev.t rfl) (i' := 0) rfl)) rfl ?_; clear S a; intro a S)
                (refine q_yt S rfl rfl (Yr.ys (ys_ld ⟨Try.isAgg3, Try.sizeOf3⟩ (Ev.t rfl) (k := 0) rfl rfl)) rfl ?_; clear S a; intro a S)
                (refine q_yt S rfl rfl (Yr.ys (ys_T (by omega) (ys_eql (Ev.t rfl) (Ev.t rfl)))) rfl ?_; clear S a; intro a S)
                (refine q_yt S rfl rfl (Yr.ys (ys_move (Ev.t rfl))) rfl ?_; clear S a; intro a S)
                (refine q_yt S rfl rfl (Yr.ys (ys_fieldN (FieldT.mk Try.underlying38 rfl Try.sizeOf35 rfl) (Ev.t rfl) (i' := 0) rfl)) rfl ?_; clear S a; intro a S)
                (refine q_yt S rfl rfl (Yr.ys (ys_ld ⟨Try.isAgg35, Try.sizeOf35⟩ (Ev.t rfl) (k := 1) rfl rfl)) rfl ?_; clear S a; intro a S)
                (refine q_yt S rfl rfl (Yr.ys (ys_move (Ev.t rfl))) rfl ?_; clear S a; intro a S)
                (refine q_yt S rfl rfl (Yr.ys (ys_pred (Ev.t rfl) Ev.c (by omega))) rfl ?_; clear S a; intro a S)
                (refine q_yt S rfl rfl (Yr.ys (ys_ixS Try.underlying35 Try.sizeOf110 (Ev.t rfl) (Ev.t rfl) (fun _ => by omega))) rfl ?_; clear S a; intro a S)
                (refine q_yt S rfl rfl (Yr.ys (ys_field (FieldT.mk Try.underlying110 rfl Try.sizeOf3 rfl) (Ev.t rfl))) rfl ?_; clear S a; intro a S)
                (refine q_yt S rfl rfl (Yr.ys (ys_ldO ⟨Try.isAgg3, Try.sizeOf3⟩ (Ev.t rfl) (fun _ => hc' _ _ rfl))) rfl ?_; clear S a; intro a S)
                (refine q_yt S rfl rfl (Yr.ys (ys_fieldN (FieldT.mk Try.underlying110 rfl Try.sizeOf3 rfl) (Ev.t rfl) (i' := 1) rfl)) rfl ?_; clear S a; intro a S)
                (refine q_yt S rfl rfl (Yr.ys (ys_ld ⟨Try.isAgg3, Try.sizeOf3⟩ (Ev.t rfl) (k := 0) rfl rfl)) rfl ?_; clear S a; intro a S)
                (refine q_yt S rfl rfl (Yr.ys (ys_F (by omega) (ys_geq (Ev.t rfl) (Ev.t rfl)))) rfl ?_; clear S a; intro a S)
                (refine q_yt S rfl rfl (Yr.ys (ys_pickT (Ev.t rfl) (Ev.t rfl))) rfl ?_; clear S a; intro a S)
                (refine q_yt S rfl rfl (Yr.ys (ys_pickF (Ev.t rfl) (Ev.t rfl))) rfl ?_; clear S a; intro a S)
                (refine q_y S (Yr.ys (ys_pickT (Ev.t rfl) (Ev.t rfl))) rfl ?_; clear S a; intro a S)
                (refine q_nil ?_; intro w W; replace S := St.mk S W; clear W)
                (refine (then_normal (hK3 _ _ ?_)); clear hK3)
                refine st_else S (Ev.t rfl) ?_
                refine wp_skip ?_
                (refine (in_normal (then_normal (hK2 _ _ ?_))); clear hK2)
                refine wp_region_lit ?_
                (refine st_y S (Yr.ys (ys_addI (Ev.t rfl) Ev.c (fun _ => by unfold I64; omega))) rfl ?_; clear S a w; intro a w S)
                (refine st_y S (Yr.ys (ys_move (Ev.t rfl))) rfl ?_; clear S a w; intro a w S)
                refine st_nil ?_
                refine (then_normal ?_)
                exact ⟨k + 1 + 1, ⟨by omega, step_all hmm hmy rw_b, yes (by rw [hg, if_neg (by omega), if_pos (by omega)]; exact decide_eq_true (by omega))⟩, by omega, S.weak (by repeat (first | exact Fits.nil | refine Fits.skip rfl ?_ | refine Fits.cons rfl ?_)) (by repeat (first | exact List.Sublist.refl _ | exact List.nil_sublist _ | refine .cons_cons _ ?_ | refine .cons _ ?_))⟩
            · refine wp_seq_k fun _ hK2 => ?_
              refine wp_region_lit ?_
              (refine st_y S (Yr.ys (ys_T (by omega) (ys_lss (Ev.t rfl) (Ev.t rfl)))) rfl ?_; clear S a w; intro a w S)
              refine st_nil ?_
              (refine (then_normal (hK2 _ _ ?_)); clear hK2)
              refine wp_seq_k fun _ hK2 => ?_
              refine st_then S (Ev.t rfl) ?_
              refine wp_skip ?_
              (refine (then_normal (hK2 _ _ ?_)); clear hK2)
              refine wp_seq_k fun _ hK2 => ?_
              refine wp_block ?_
              refine wp_seq_k fun _ hK3 => ?_
              refine wp_region_lit ?_
              (refine st_y S (Yr.ys (ys_move (Ev.t rfl))) rfl ?_; clear S a w; intro a w S)
              (refine st_y S (Yr.ys (ys_ixS Try.underlying35 Try.sizeOf110 (Ev.t rfl) (Ev.t rfl) (fun _ => by omega))) rfl ?_; clear S a w; intro a w S)
              (refine st_y S (Yr.ys (ys_ldOA ⟨Try.isAgg110, Try.sizeOf110⟩ (Ev.t rfl) (vs := [_, _, _]) rfl (fun _ => hc))) rfl ?_; clear S a w; intro a w S)
              (refine st_m (op_alloc S Try.zeroValue110 (cs := _) rfl rfl ?_); clear S a w; intro g3 a w S)
              (refine st_y S (Yr.ys (ys_assign (Ev.t rfl))) rfl ?_; clear S a w; intro a w S)
              (refine st_m (op_stW S Try.sizeOf110 (Ev.t rfl) (Ev.t rfl) (k := 0) rfl rfl rfl (by simp [Value.oneCell']) ?_); clear S a w; intro a w S)
              refine st_nil ?_
              (refine (then_normal (hK3 _ _ ?_)); clear hK3)
              refine wp_seq_k fun _ hK3 => ?_
              refine wp_seq_k fun _ hK4 => ?_
              refine wp_region_lit ?_
              (refine st_y S (Yr.ys (ys_ldA ⟨Try.isAgg110, Try.sizeOf110⟩ (Ev.t rfl) (k := 0) rfl rfl)) rfl ?_; clear S a w; intro a w S)
              (refine st_y S (ys_call Try.call99 (EvL.cons (Ev.t rfl) EvL.nil) (fun hp w W => c99 _ _ _ _)) rfl ?_; clear S a w; intro a w S)
              rw [rw_b] at S
              (refine st_y S (Yr.ys (ys_not (Ev.t rfl))) rfl ?_; clear S a w; intro a w S)
              refine st_nil ?_
              (refine (then_normal (hK4 _ _ ?_)); clear hK4)
              refine st_else S (Ev.t rfl) ?_
              refine wp_skip ?_
              (refine (then_normal (hK3 _ _ ?_)); clear hK3)
              refine wp_seq_k fun _ hK3 => ?_
              (refine st_quiet S (by kernel_rfl) (by kernel_rfl) ?_; clear S w; intro a S)
              (refine q_y S (Yr.ys (ys_move (Ev.t rfl))) rfl ?_; clear S a; intro a S)
              (refine q_y S (Yr.ys (ys_T (by omega) (ys_gtr (Ev.t rfl) Ev.c))) rfl ?_; clear S a; intro a S)
              (refine q_y S (Yr.ys (ys_move (Ev.t rfl))) rfl ?_; clear S a; intro a S)
              (refine q_yt S rfl rfl (Yr.ys (ys_fieldN (FieldT.mk Try.underlying38 rfl Try.sizeOf35 rfl) (Ev.t rfl) (i' := 0) rfl)) rfl ?_; clear S a; intro a S)
              (refine q_yt S rfl rfl (Yr.ys (ys_ld ⟨Try.isAgg35, Try.sizeOf35⟩ (Ev.t rfl) (k := 1) rfl rfl)) rfl ?_; clear S a; intro a S)
              (refine q_yt S rfl rfl (Yr.ys (ys_move (Ev.t rfl))) rfl ?_; clear S a; intro a S)
              (refine q_yt S rfl rfl (Yr.ys (ys_pred (Ev.t rfl) Ev.c (by omega))) rfl ?_; clear S a; intro a S)
              (refine q_yt S rfl rfl (Yr.ys (ys_ixS Try.underlying35 Try.sizeOf110 (Ev.t rfl) (Ev.t rfl) (fun _ => by omega))) rfl ?_; clear S a; intro a S)
              (refine q_yt S rfl rfl (Yr.ys (ys_field (FieldT.mk Try.underlying110 rfl Try.sizeOf3 rfl) (Ev.t rfl))) rfl ?_; clear S a; intro a S)
              (refine q_yt S rfl rfl (Yr.ys (ys_ldO ⟨Try.isAgg3, Try.sizeOf3⟩ (Ev.t rfl) (fun _ => hc' _ _ rfl))) rfl ?_; clear S a; intro a S)
              (refine q_yt S rfl rfl (Yr.ys (ys_fieldN (FieldT.mk Try.underlying110 rfl Try.sizeOf3 rfl) (Ev.t rfl) (i' := 0) rfl)) rfl ?_; clear S a; intro a S)
              (refine q_yt S rfl rfl (Yr.ys (ys_ld ⟨Try.isAgg3, Try.sizeOf3⟩ (Ev.t rfl) (k := 0) rfl rfl)) rfl ?_; clear S a; intro a S)
              (refine q_yt S rfl rfl (Yr.ys (ys_F (by omega) (ys_gtr (Ev.t rfl) (Ev.t rfl)))) rfl ?_; clear S a; intro a S)
              (refine q_yt S rfl rfl (Yr.ys (ys_move (Ev.t rfl))) rfl ?_; clear S a; intro a S)
              (refine q_yt S rfl rfl (Yr.ys (ys_fieldN (FieldT.mk Try.underlying38 rfl Try.sizeOf35 rfl) (Ev.t rfl) (i' := 0) rfl)) rfl ?_; clear S a; intro a S)
              (refine q_yt S rfl rfl (Yr.ys (ys_ld ⟨Try.isAgg35, Try.sizeOf35⟩ (Ev.t rfl) (k := 1) rfl rfl)) rfl ?_; clear S a; intro a S)
              (refine q_yt S rfl rfl (Yr.ys (ys_move (Ev.t rfl))) rfl ?_; clear S a; intro a S)
              (refine q_yt S rfl rfl (Yr.ys (ys_pred (Ev.t rfl) Ev.c (by omega))) rfl ?_; clear S a; intro a S)
              (refine q_yt S rfl rfl (Yr.ys (ys_ixS Try.underlying35 Try.sizeOf110 (Ev.t rfl) (Ev.t rfl) (fun _ => by omega))) rfl ?_; clear S a; intro a S)
              (refine q_yt S rfl rfl (Yr.ys (ys_field (FieldT.mk Try.underlying110 rfl Try.sizeOf3 rfl) (Ev.t rfl))) rfl ?_; clear S a; intro a S)
              (refine q_yt S rfl rfl (Yr.ys (ys_ldO ⟨Try.isAgg3, Try.sizeOf3⟩ (Ev.t rfl) (fun _ => hc' _ _ rfl))) rfl ?_; clear S a; intro a S)
              (refine q_yt S rfl rfl (Yr.ys (ys_fieldN (FieldT.mk Try.underlying110 rfl Try.sizeOf3 rfl) (Ev.t rfl) (i' := 0) rfl)) rfl ?_; clear S a; intro a S)
              (refine q_yt S rfl rfl (Yr.ys (ys_ld ⟨Try.isAgg3, Try.sizeOf3⟩ (Ev.t rfl) (k := 0) rfl rfl)) rfl ?_; clear S a; intro a S)
              (refine q_yt S rfl rfl (Yr.ys (ys_F (by omega) (ys_eql (Ev.t rfl) (Ev.t rfl)))) rfl ?_; clear S a; intro a S)
              (refine q_yt S rfl rfl (Yr.ys (ys_move (Ev.t rfl))) rfl ?_; clear S a; intro a S)
              (refine q_skip S rfl rfl rfl rfl ?_; clear S a; intro a S)
              (refine q_skip S rfl rfl rfl rfl ?_; clear S a; intro a S)
              (refine q_skip S rfl rfl rfl rfl ?_; clear S a; intro a S)
              (refine q_skip S rfl rfl rfl rfl ?_; clear S a; intro a S)
              (refine q_skip S rfl rfl rfl rfl ?_; clear S a; intro a S)
              (refine q_skip S rfl rfl rfl rfl ?_; clear S a; intro a S)
              (refine q_skip S rfl rfl rfl rfl ?_; clear S a; intro a S)
              (refine q_skip S rfl rfl rfl rfl ?_; clear S a; intro a S)
              (refine q_skip S rfl rfl rfl rfl ?_; clear S a; intro a S)
              (refine q_skip S rfl rfl rfl rfl ?_; clear S a; intro a S)
              (refine q_yt S rfl rfl (Yr.ys (ys_pickF (Ev.t rfl) Ev.c)) rfl ?_; clear S a; intro a S)
              (refine q_yt S rfl rfl (Yr.ys (ys_pickF (Ev.t rfl) (Ev.t rfl))) rfl ?_; clear S a; intro a S)
              (refine q_y S (Yr.ys (ys_pickT (Ev.t rfl) (Ev.t rfl))) rfl ?_; clear S a; intro a S)
              (refine q_nil ?_; intro w W; replace S := St.mk S W; clear W)
              (refine (then_normal (hK3 _ _ ?_)); clear hK3)
              refine st_else S (Ev.t rfl) ?_
              refine wp_skip ?_
              (refine (in_normal (then_normal (hK2 _ _ ?_))); clear hK2)
              refine wp_region_lit ?_
              (refine st_y S (Yr.ys (ys_addI (Ev.t rfl) Ev.c (fun _ => by unfold I64; omega))) rfl ?_; clear S a w; intro a w S)
              (refine st_y S (Yr.ys (ys_move (Ev.t rfl))) rfl ?_; clear S a w; intro a w S)
              refine st_nil ?_
              refine (then_normal ?_)
              exact ⟨k + 1 + 1, ⟨by omega, step_all hmm hmy rw_b, yes (by rw [hg, if_pos (by omega)]; exact decide_eq_true (by omega))⟩, by omega, S.weak (by repeat (first | exact Fits.nil | refine Fits.skip rfl ?_ | refine Fits.cons rfl ?_)) (by repeat (first | exact List.Sublist.refl _ | exact List.nil_sublist _ | refine .cons_cons _ ?_ | refine .cons _ ?_))⟩
    · have hend : k = C.marks.length := by omega
      subst hend
      rw [List.take_length] at hmy
      rw [List.drop_length, okM] at hno
      have hM := hno.symm
      clear hno hk hlt
      refine wp_seq_k fun _ hK2 => ?_
      refine wp_region_lit ?_
      (refine st_y S (Yr.ys (ys_F (by omega) (ys_lss (Ev.t rfl) (Ev.t rfl)))) rfl ?_; clear S a w; intro a w S)
      refine st_nil ?_
      (refine (then_normal (hK2 _ _ ?_)); clear hK2)
      refine wp_seq_k fun _ hK2 => ?_
      refine st_else S (Ev.t rfl) ?_
      refine wp_exit ?_
      (refine (then_exit (then_exit (in_here (then_normal (hK1 _ _ ?_))))); clear hK1)
      refine wp_seq_k fun _ hK1 => ?_
      refine wp_seq_k fun _ hK3 => ?_
      refine wp_region_lit ?_
      (refine st_y S (Yr.ys (ys_fieldN (FieldT.mk Try.underlying38 rfl Try.sizeOf36 rfl) (Ev.t rfl) (i' := 1) rfl)) rfl ?_; clear S a w; intro a w S)
      (refine st_y S (Yr.ys (ys_ld ⟨Try.isAgg36, Try.sizeOf36⟩ (Ev.t rfl) (k := 0) rfl rfl)) rfl ?_; clear S a w; intro a w S)
      (refine st_y S (Yr.ys (ys_lenS Try.underlying36 (Ev.t rfl))) rfl ?_; clear S a w; intro a w S)
      (refine st_y S (Yr.ys (ys_move Ev.c)) rfl ?_; clear S a w; intro a w S)
      refine st_nil ?_
      (refine (then_normal (hK3 _ _ ?_)); clear hK3)
      refine wp_block ?_
      refine st_loopK S (X := Nat) (fun k => [(70, true, .int .i64 (k : Int))]) (fun _ L => L) (fun k => k ≤ C.cloud.length ∧ (∀ x ∈ C.cloud.take k, mayD x = true) ∧ okC C.marks (prevD C.cloud k) (C.cloud.drop k) = okC C.marks none C.cloud) (fun k => C.cloud.length - k) 0 ⟨Nat.zero_le _, by simp, rfl⟩ (by repeat (first | exact Fits.nil | refine Fits.skip rfl ?_ | refine Fits.cons rfl ?_)) (by repeat (first | exact List.Sublist.refl _ | exact List.nil_sublist _ | refine .cons_cons _ ?_ | refine .cons _ ?_)) ?_
      clear S
      intro k a w ⟨hk, hmy', hno⟩ S
      by_cases hlt : k < C.cloud.length
      · obtain ⟨g, o, m, rfl, hmm, hd, hc⟩ := row_at hA' hlt
        rw [hd, okC] at hno
        have hmk := markOf_may (x := m.node) (y := m.life) hmy
        obtain ⟨m1, m2, m3⟩ := m
        dsimp only at hmk hno
        have rw_n : (⟨m1, m2, m3⟩ : Dot).node = m1 := rfl
        have rw_l : (⟨m1, m2, m3⟩ : Dot).life = m2 := rfl
        have rw_k : (⟨m1, m2, m3⟩ : Dot).count = m3 := rfl
        cases rw_b : mayD ⟨m1, m2, m3⟩ with
        | false =>
          refine wp_seq_k fun _ hK3 => ?_
          refine wp_region_lit ?_
          (refine st_y S (Yr.ys (ys_T (by omega) (ys_lss (Ev.t rfl) (Ev.t rfl)))) rfl ?_; clear S a w; intro a w S)
          refine st_nil ?_
          (refine (then_normal (hK3 _ _ ?_)); clear hK3)
          refine wp_seq_k fun _ hK3 => ?_
          refine st_then S (Ev.t rfl) ?_
          refine wp_skip ?_
          (refine (then_normal (hK3 _ _ ?_)); clear hK3)
          refine wp_seq_k fun _ hK3 => ?_
          refine wp_block ?_
          refine wp_seq_k fun _ hK4 => ?_
          refine wp_region_lit ?_
          (refine st_y S (Yr.ys (ys_move (Ev.t rfl))) rfl ?_; clear S a w; intro a w S)
          (refine st_y S (Yr.ys (ys_ixS Try.underlying36 Try.sizeOf62 (Ev.t rfl) (Ev.t rfl) (fun _ => by omega))) rfl ?_; clear S a w; intro a w S)
          (refine st_y S (Yr.ys (ys_ldOA ⟨Try.isAgg62, Try.sizeOf62⟩ (Ev.t rfl) (vs := [_, _, _]) rfl (fun _ => hc))) rfl ?_; clear S a w; intro a w S)
          rw [rw_n] at S
          rw [rw_l] at S
          rw [rw_k] at S
          (refine st_m (op_alloc S Try.zeroValue62 (cs := _) rfl rfl ?_); clear S a w; intro g2 a w S)
          (refine st_y S (Yr.ys (ys_assign (Ev.t rfl))) rfl ?_; clear S a w; intro a w S)
          (refine st_m (op_stW S Try.sizeOf62 (Ev.t rfl) (Ev.t rfl) (k := 0) rfl rfl rfl (by simp [Value.oneCell']) ?_); clear S a w; intro a w S)
          refine st_nil ?_
          (refine (then_normal (hK4 _ _ ?_)); clear hK4)
          refine wp_seq_k fun _ hK4 => ?_
          refine wp_seq_k fun _ hK5 => ?_
          (refine st_quiet S (by kernel_rfl) (by kernel_rfl) ?_; clear S w; intro a S)
          (refine q_y S (Yr.ys (ys_ldA ⟨Try.isAgg62, Try.sizeOf62⟩ (Ev.t rfl) (k := 0) rfl rfl)) rfl ?_; clear S a; intro a S)
          (refine q_y S (ys_call Try.call59 (EvL.cons (Ev.t rfl) EvL.nil) (fun hp w W => c59 _ _ _ _)) rfl ?_; clear S a; intro a S)
          rw [rw_b] at S
          (refine q_y S (Yr.ys (ys_not (Ev.t rfl))) rfl ?_; clear S a; intro a S)
          (refine q_y S (Yr.ys (ys_move (Ev.t rfl))) rfl ?_; clear S a; intro a S)
          (refine q_skip S rfl rfl rfl rfl ?_; clear S a; intro a S)
          (refine q_skip S rfl rfl rfl rfl ?_; clear S a; intro a S)
          (refine q_skip S rfl rfl rfl rfl ?_; clear S a; intro a S)
          (refine q_skip S rfl rfl rfl rfl ?_; clear S a; intro a S)
          (refine q_skip S rfl rfl rfl rfl ?_; clear S a; intro a S)
          (refine q_skip S rfl rfl rfl rfl ?_; clear S a; intro a S)
          (refine q_skip S rfl rfl rfl rfl ?_; clear S a; intro a S)
          (refine q_skip S rfl rfl rfl rfl ?_; clear S a; intro a S)
          (refine q_skip S rfl rfl rfl rfl ?_; clear S a; intro a S)
          (refine q_skip S rfl rfl rfl rfl ?_; clear S a; intro a S)
          (refine q_skip S rfl rfl rfl rfl ?_; clear S a; intro a S)
          (refine q_y S (Yr.ys (ys_pickT (Ev.t rfl) Ev.c)) rfl ?_; clear S a; intro a S)
          (refine q_nil ?_; intro w W; replace S := St.mk S W; clear W)
          (refine (then_normal (hK5 _ _ ?_)); clear hK5)
          refine st_then S (Ev.t rfl) ?_
          refine wp_seq_k fun _ hK5 => ?_
          refine wp_region_lit ?_
          (refine st_y S (Yr.ys (ys_assign Ev.c)) rfl ?_; clear S a w; intro a w S)
          refine st_nil ?_
          (refine (then_normal (hK5 _ _ ?_)); clear hK5)
          refine wp_ret ?_
          refine (then_ret (in_ret (then_ret (then_ret (in_ret (then_ret ?_))))))
          refine st_ret S (results1 S Try.results48 (Rv.tmp rfl)) ?_
          exact ⟨by rw [canL_C (by rw [← hno, rw_b]; rfl)], S.wd.below⟩
        | true =>
          have hlm := may_lim rw_b
          dsimp only at hlm
          by_cases hgt : m3 ≤ markOf C.marks m1 m2 + 1
          · have hf : okC C.marks none C.cloud = false := by
              rw [← hno, rw_b, decide_eq_false (by omega), Bool.and_false]; rfl
            refine wp_seq_k fun _ hK3 => ?_
            refine wp_region_lit ?_
            (refine st_y S (Yr.ys (ys_T (by omega) (ys_lss (Ev.t rfl) (Ev.t rfl)))) rfl ?_; clear S a w; intro a w S)
            refine st_nil ?_
            (refine (then_normal (hK3 _ _ ?_)); clear hK3)
            refine wp_seq_k fun _ hK3 => ?_
            refine st_then S (Ev.t rfl) ?_
            refine wp_skip ?_
            (refine (then_normal (hK3 _ _ ?_)); clear hK3)
            refine wp_seq_k fun _ hK3 => ?_
            refine wp_block ?_
            refine wp_seq_k fun _ hK4 => ?_
            refine wp_region_lit ?_
            (refine st_y S (Yr.ys (ys_move (Ev.t rfl))) rfl ?_; clear S a w; intro a w S)
            (refine st_y S (Yr.ys (ys_ixS Try.underlying36 Try.sizeOf62 (Ev.t rfl) (Ev.t rfl) (fun _ => by omega))) rfl ?_; clear S a w; intro a w S)
            (refine st_y S (Yr.ys (ys_ldOA ⟨Try.isAgg62, Try.sizeOf62⟩ (Ev.t rfl) (vs := [_, _, _]) rfl (fun _ => hc))) rfl ?_; clear S a w; intro a w S)
            rw [rw_n] at S
            rw [rw_l] at S
            rw [rw_k] at S
            (refine st_m (op_alloc S Try.zeroValue62 (cs := _) rfl rfl ?_); clear S a w; intro g2 a w S)
            (refine st_y S (Yr.ys (ys_assign (Ev.t rfl))) rfl ?_; clear S a w; intro a w S)
            (refine st_m (op_stW S Try.sizeOf62 (Ev.t rfl) (Ev.t rfl) (k := 0) rfl rfl rfl (by simp [Value.oneCell']) ?_); clear S a w; intro a w S)
            refine st_nil ?_
            (refine (then_normal (hK4 _ _ ?_)); clear hK4)
            refine wp_seq_k fun _ hK4 => ?_
            refine wp_seq_k fun _ hK5 => ?_
            (refine st_quiet S (by kernel_rfl) (by kernel_rfl) ?_; clear S w; intro a S)
            (refine q_y S (Yr.ys (ys_ldA ⟨Try.isAgg62, Try.sizeOf62⟩ (Ev.t rfl) (k := 0) rfl rfl)) rfl ?_; clear S a; intro a S)
            (refine q_y S (ys_call Try.call59 (EvL.cons (Ev.t rfl) EvL.nil) (fun hp w W => c59 _ _ _ _)) rfl ?_; clear S a; intro a S)
            rw [rw_b] at S
            (refine q_y S (Yr.ys (ys_not (Ev.t rfl))) rfl ?_; clear S a; intro a S)
            (refine q_y S (Yr.ys (ys_move (Ev.t rfl))) rfl ?_; clear S a; intro a S)
            (refine q_yt S rfl rfl (Yr.ys (ys_fieldN (FieldT.mk Try.underlying62 rfl Try.sizeOf3 rfl) (Ev.t rfl) (i' := 2) rfl)) rfl ?_; clear S a; intro a S)
            (refine q_yt S rfl rfl (Yr.ys (ys_ld ⟨Try.isAgg3, Try.sizeOf3⟩ (Ev.t rfl) (k := 0) rfl rfl)) rfl ?_; clear S a; intro a S)
            (refine q_yt S rfl rfl (Yr.ys (ys_fieldN (FieldT.mk Try.underlying38 rfl Try.sizeOf35 rfl) (Ev.t rfl) (i' := 0) rfl)) rfl ?_; clear S a; intro a S)
            (refine q_yt S rfl rfl (Yr.ys (ys_ld ⟨Try.isAgg35, Try.sizeOf35⟩ (Ev.t rfl) (k := 1) rfl rfl)) rfl ?_; clear S a; intro a S)
            (refine q_yt S rfl rfl (Yr.ys (ys_fieldN (FieldT.mk Try.underlying62 rfl Try.sizeOf3 rfl) (Ev.t rfl) (i' := 0) rfl)) rfl ?_; clear S a; intro a S)
            (refine q_yt S rfl rfl (Yr.ys (ys_ld ⟨Try.isAgg3, Try.sizeOf3⟩ (Ev.t rfl) (k := 0) rfl rfl)) rfl ?_; clear S a; intro a S)
            (refine q_yt S rfl rfl (Yr.ys (ys_fieldN (FieldT.mk Try.underlying62 rfl Try.sizeOf3 rfl) (Ev.t rfl) (i' := 1) rfl)) rfl ?_; clear S a; intro a S)
            (refine q_yt S rfl rfl (Yr.ys (ys_ld ⟨Try.isAgg3, Try.sizeOf3⟩ (Ev.t rfl) (k := 0) rfl rfl)) rfl ?_; clear S a; intro a S)
            (refine q_yt S rfl rfl (ys_call Try.call100 (EvL.cons (Ev.t rfl) (EvL.cons (Ev.t rfl) (EvL.cons (Ev.t rfl) EvL.nil))) (fun hp w W => c100 _ _ _ _ _ (by exact .old W (by assumption)))) rfl ?_; clear S a; intro a S)
            (refine q_yt S rfl rfl (Yr.ys (ys_addI (Ev.t rfl) Ev.c (fun _ => by unfold I64; omega))) rfl ?_; clear S a; intro a S)
            (refine q_yt S rfl rfl (Yr.ys (ys_T (by omega) (ys_leq (Ev.t rfl) (Ev.t rfl)))) rfl ?_; clear S a; intro a S)
            (refine q_y S (Yr.ys (ys_pickF (Ev.t rfl) (Ev.t rfl))) rfl ?_; clear S a; intro a S)
            (refine q_nil ?_; intro w W; replace S := St.mk S W; clear W)
            (refine (then_normal (hK5 _ _ ?_)); clear hK5)
            refine st_then S (Ev.t rfl) ?_
            refine wp_seq_k fun _ hK5 => ?_
            refine wp_region_lit ?_
            (refine st_y S (Yr.ys (ys_assign Ev.c)) rfl ?_; clear S a w; intro a w S)
            refine st_nil ?_
            (refine (then_normal (hK5 _ _ ?_)); clear hK5)
            refine wp_ret ?_
            refine (then_ret (in_ret (then_ret (then_ret (in_ret (then_ret ?_))))))
            refine st_ret S (results1 S Try.results48 (Rv.tmp rfl)) ?_
            exact ⟨by rw [canL_C hf], S.wd.below⟩
          · rcases k with _ | k
            · refine wp_seq_k fun _ hK3 => ?_
              refine wp_region_lit ?_
              (refine st_y S (Yr.ys (ys_T (by omega) (ys_lss (Ev.t rfl) (Ev.t rfl)))) rfl ?_; clear S a w; intro a w S)
              refine st_nil ?_
              (refine (then_normal (hK3 _ _ ?_)); clear hK3)
              refine wp_seq_k fun _ hK3 => ?_
              refine st_then S (Ev.t rfl) ?_
              refine wp_skip ?_
              (refine (then_normal (hK3 _ _ ?_)); clear hK3)
              refine wp_seq_k fun _ hK3 => ?_
              refine wp_block ?_
              refine wp_seq_k fun _ hK4 => ?_
              refine wp_region_lit ?_
              (refine st_y S (Yr.ys (ys_move (Ev.t rfl))) rfl ?_; clear S a w; intro a w S)
              (refine st_y S (Yr.ys (ys_ixS (j := 0) Try.underlying36 Try.sizeOf62 (Ev.t rfl) (Ev.t rfl) (fun _ => by omega))) rfl ?_; clear S a w; intro a w S)
              (refine st_y S (Yr.ys (ys_ldOA ⟨Try.isAgg62, Try.sizeOf62⟩ (Ev.t rfl) (vs := [_, _, _]) rfl (fun _ => hc))) rfl ?_; clear S a w; intro a w S)
              rw [rw_n] at S
              rw [rw_l] at S
              rw [rw_k] at S
              (refine st_m (op_alloc S Try.zeroValue62 (cs := _) rfl rfl ?_); clear S a w; intro g2 a w S)
              (refine st_y S (Yr.ys (ys_assign (Ev.t rfl))) rfl ?_; clear S a w; intro a w S)
              (refine st_m (op_stW S Try.sizeOf62 (Ev.t rfl) (Ev.t rfl) (k := 0) rfl rfl rfl (by simp [Value.oneCell']) ?_); clear S a w; intro a w S)
              refine st_nil ?_
              (refine (then_normal (hK4 _ _ ?_)); clear hK4)
              refine wp_seq_k fun _ hK4 => ?_
              refine wp_seq_k fun _ hK5 => ?_
              (refine st_quiet S (by kernel_rfl) (by kernel_rfl) ?_; clear S w; intro a S)
              (refine q_y S (Yr.ys (ys_ldA ⟨Try.isAgg62, Try.sizeOf62⟩ (Ev.t rfl) (k := 0) rfl rfl)) rfl ?_; clear S a; intro a S)
              (refine q_y S (ys_call Try.call59 (EvL.cons (Ev.t rfl) EvL.nil) (fun hp w W => c59 _ _ _ _)) rfl ?_; clear S a; intro a S)
              rw [rw_b] at S
              (refine q_y S (Yr.ys (ys_not (Ev.t rfl))) rfl ?_; clear S a; intro a S)
              (refine q_y S (Yr.ys (ys_move (Ev.t rfl))) rfl ?_; clear S a; intro a S)
              (refine q_yt S rfl rfl (Yr.ys (ys_fieldN (FieldT.mk Try.underlying62 rfl Try.sizeOf3 rfl) (Ev.t rfl) (i' := 2) rfl)) rfl ?_; clear S a; intro a S)
              (refine q_yt S rfl rfl (Yr.ys (ys_ld ⟨Try.isAgg3, Try.sizeOf3⟩ (Ev.t rfl) (k := 0) rfl rfl)) rfl ?_; clear S a; intro a S)
              (refine q_yt S rfl rfl (Yr.ys (ys_fieldN (FieldT.mk Try.underlying38 rfl Try.sizeOf35 rfl) (Ev.t rfl) (i' := 0) rfl)) rfl ?_; clear S a; intro a S)
              (refine q_yt S rfl rfl (Yr.ys (ys_ld ⟨Try.isAgg35, Try.sizeOf35⟩ (Ev.t rfl) (k := 1) rfl rfl)) rfl ?_; clear S a; intro a S)
              (refine q_yt S rfl rfl (Yr.ys (ys_fieldN (FieldT.mk Try.underlying62 rfl Try.sizeOf3 rfl) (Ev.t rfl) (i' := 0) rfl)) rfl ?_; clear S a; intro a S)
              (refine q_yt S rfl rfl (Yr.ys (ys_ld ⟨Try.isAgg3, Try.sizeOf3⟩ (Ev.t rfl) (k := 0) rfl rfl)) rfl ?_; clear S a; intro a S)
              (refine q_yt S rfl rfl (Yr.ys (ys_fieldN (FieldT.mk Try.underlying62 rfl Try.sizeOf3 rfl) (Ev.t rfl) (i' := 1) rfl)) rfl ?_; clear S a; intro a S)
              (refine q_yt S rfl rfl (Yr.ys (ys_ld ⟨Try.isAgg3, Try.sizeOf3⟩ (Ev.t rfl) (k := 0) rfl rfl)) rfl ?_; clear S a; intro a S)
              (refine q_yt S rfl rfl (ys_call Try.call100 (EvL.cons (Ev.t rfl) (EvL.cons (Ev.t rfl) (EvL.cons (Ev.t rfl) EvL.nil))) (fun hp w W => c100 _ _ _ _ _ (by exact .old W (by assumption)))) rfl ?_; clear S a; intro a S)
              (refine q_yt S rfl rfl (Yr.ys (ys_addI (Ev.t rfl) Ev.c (fun _ => by unfold I64; omega))) rfl ?_; clear S a; intro a S)
              (refine q_yt S rfl rfl (Yr.ys (ys_F (by omega) (ys_leq (Ev.t rfl) (Ev.t rfl)))) rfl ?_; clear S a; intro a S)
              (refine q_y S (Yr.ys (ys_pickF (Ev.t rfl) (Ev.t rfl))) rfl ?_; clear S a; intro a S)
              (refine q_nil ?_; intro w W; replace S := St.mk S W; clear W)
              (refine (then_normal (hK5 _ _ ?_)); clear hK5)
              refine st_else S (Ev.t rfl) ?_
              refine wp_skip ?_
              (refine (then_normal (hK4 _ _ ?_)); clear hK4)
              refine wp_seq_k fun _ hK4 => ?_
              (refine st_quiet S (by kernel_rfl) (by kernel_rfl) ?_; clear S w; intro a S)
              (refine q_y S (Yr.ys (ys_move (Ev.t rfl))) rfl ?_; clear S a; intro a S)
              (refine q_y S (Yr.ys (ys_F (by omega) (ys_gtr (Ev.t rfl) Ev.c))) rfl ?_; clear S a; intro a S)
              (refine q_y S (Yr.ys (ys_move (Ev.t rfl))) rfl ?_; clear S a; intro a S)
              (refine q_skip S rfl rfl rfl rfl ?_; clear S a; intro a S)
              (refine q_skip S rfl rfl rfl rfl ?_; clear S a; intro a S)
              (refine q_skip S rfl rfl rfl rfl ?_; clear S a; intro a S)
              (refine q_skip S rfl rfl rfl rfl ?_; clear S a; intro a S)
              (refine q_skip S rfl rfl rfl rfl ?_; clear S a; intro a S)
              (refine q_skip S rfl rfl rfl rfl ?_; clear S a; intro a S)
              (refine q_skip S rfl rfl rfl rfl ?_; clear S a; intro a S)
              (refine q_skip S rfl rfl rfl rfl ?_; clear S a; intro a S)
              (refine q_skip S rfl rfl rfl rfl ?_; clear S a; intro a S)
              (refine q_y S (Yr.ys (ys_pickF (Ev.t rfl) Ev.c)) rfl ?_; clear S a; intro a S)
              (refine q_nil ?_; intro w W; replace S := St.mk S W; clear W)
              (refine (then_normal (hK4 _ _ ?_)); clear hK4)
              refine st_else S (Ev.t rfl) ?_
              refine wp_skip ?_
              (refine (in_normal (then_normal (hK3 _ _ ?_))); clear hK3)
              refine wp_region_lit ?_
              (refine st_y S (Yr.ys (ys_addI (Ev.t rfl) Ev.c (fun _ => by unfold I64; omega))) rfl ?_; clear S a w; intro a w S)
              (refine st_y S (Yr.ys (ys_move (Ev.t rfl))) rfl ?_; clear S a w; intro a w S)
              refine st_nil ?_
              refine (then_normal ?_)
              exact ⟨0 + 1, ⟨by omega, step_all hmm hmy' rw_b, by rw [prevD, hmm, ← hno, rw_b, prevD, gapC, decide_eq_true (by omega)]; rfl⟩, by omega, S.weak (by repeat (first | exact Fits.nil | refine Fits.skip rfl ?_ | refine Fits.cons rfl ?_)) (by repeat (first | exact List.Sublist.refl _ | exact List.nil_sublist _ | refine .cons_cons _ ?_ | refine .cons _ ?_))⟩
            · obtain ⟨g', o', m', e', hmm', hd', hc'⟩ := row_at hA' (show k < C.cloud.length by omega)
              cases e'
              obtain ⟨p1, p2, p3⟩ := m'
              have hg : gapC (prevD C.cloud (k + 1)) ⟨m1, m2, m3⟩ = belowD ⟨p1, p2, p3⟩ ⟨m1, m2, m3⟩ := by
                rw [prevD, hmm']
                unfold gapC orderD belowD
                dsimp only
                repeat' split
                all_goals simp only [decide_eq_decide]
                all_goals omega
              cases rw_c : belowD ⟨p1, p2, p3⟩ ⟨m1, m2, m3⟩ with
              | false =>
                refine wp_seq_k fun _ hK3 => ?_
                refine wp_region_lit ?_
                (refine st_y S (Yr.ys (ys_T (by omega) (ys_lss (Ev.t rfl) (Ev.t rfl)))) rfl ?_; clear S a w; intro a w S)
                refine st_nil ?_
                (refine (then_normal (hK3 _ _ ?_)); clear hK3)
                refine wp_seq_k fun _ hK3 => ?_
                refine st_then S (Ev.t rfl) ?_
                refine wp_skip ?_
                (refine (then_normal (hK3 _ _ ?_)); clear hK3)
                refine wp_seq_k fun _ hK3 => ?_
                refine wp_block ?_
                refine wp_seq_k fun _ hK4 => ?_
                refine wp_region_lit ?_
                (refine st_y S (Yr.ys (ys_move (Ev.t rfl))) rfl ?_; clear S a w; intro a w S)
                (refine st_y S (Yr.ys (ys_ixS Try.underlying36 Try.sizeOf62 (Ev.t rfl) (Ev.t rfl) (fun _ => by omega))) rfl ?_; clear S a w; intro a w S)
                (refine st_y S (Yr.ys (ys_ldOA ⟨Try.isAgg62, Try.sizeOf62⟩ (Ev.t rfl) (vs := [_, _, _]) rfl (fun _ => hc))) rfl ?_; clear S a w; intro a w S)
                rw [rw_n] at S
                rw [rw_l] at S
                rw [rw_k] at S
                (refine st_m (op_alloc S Try.zeroValue62 (cs := _) rfl rfl ?_); clear S a w; intro g2 a w S)
                (refine st_y S (Yr.ys (ys_assign (Ev.t rfl))) rfl ?_; clear S a w; intro a w S)
                (refine st_m (op_stW S Try.sizeOf62 (Ev.t rfl) (Ev.t rfl) (k := 0) rfl rfl rfl (by simp [Value.oneCell']) ?_); clear S a w; intro a w S)
                refine st_nil ?_
                (refine (then_normal (hK4 _ _ ?_)); clear hK4)
                refine wp_seq_k fun _ hK4 => ?_
                refine wp_seq_k fun _ hK5 => ?_
                (refine st_quiet S (by kernel_rfl) (by kernel_rfl) ?_; clear S w; intro a S)
                (refine q_y S (Yr.ys (ys_ldA ⟨Try.isAgg62, Try.sizeOf62⟩ (Ev.t rfl) (k := 0) rfl rfl)) rfl ?_; clear S a; intro a S)
                (refine q_y S (ys_call Try.call59 (EvL.cons (Ev.t rfl) EvL.nil) (fun hp w W => c59 _ _ _ _)) rfl ?_; clear S a; intro a S)
                rw [rw_b] at S
                (refine q_y S (Yr.ys (ys_not (Ev.t rfl))) rfl ?_; clear S a; intro a S)
                (refine q_y S (Yr.ys (ys_move (Ev.t rfl))) rfl ?_; clear S a; intro a S)
                (refine q_yt S rfl rfl (Yr.ys (ys_fieldN (FieldT.mk Try.underlying62 rfl Try.sizeOf3 rfl) (Ev.t rfl) (i' := 2) rfl)) rfl ?_; clear S a; intro a S)
                (refine q_yt S rfl rfl (Yr.ys (ys_ld ⟨Try.isAgg3, Try.sizeOf3⟩ (Ev.t rfl) (k := 0) rfl rfl)) rfl ?_; clear S a; intro a S)
                (refine q_yt S rfl rfl (Yr.ys (ys_fieldN (FieldT.mk Try.underlying38 rfl Try.sizeOf35 rfl) (Ev.t rfl) (i' := 0) rfl)) rfl ?_; clear S a; intro a S)
                (refine q_yt S rfl rfl (Yr.ys (ys_ld ⟨Try.isAgg35, Try.sizeOf35⟩ (Ev.t rfl) (k := 1) rfl rfl)) rfl ?_; clear S a; intro a S)
                (refine q_yt S rfl rfl (Yr.ys (ys_fieldN (FieldT.mk Try.underlying62 rfl Try.sizeOf3 rfl) (Ev.t rfl) (i' := 0) rfl)) rfl ?_; clear S a; intro a S)
                (refine q_yt S rfl rfl (Yr.ys (ys_ld ⟨Try.isAgg3, Try.sizeOf3⟩ (Ev.t rfl) (k := 0) rfl rfl)) rfl ?_; clear S a; intro a S)
                (refine q_yt S rfl rfl (Yr.ys (ys_fieldN (FieldT.mk Try.underlying62 rfl Try.sizeOf3 rfl) (Ev.t rfl) (i' := 1) rfl)) rfl ?_; clear S a; intro a S)
                (refine q_yt S rfl rfl (Yr.ys (ys_ld ⟨Try.isAgg3, Try.sizeOf3⟩ (Ev.t rfl) (k := 0) rfl rfl)) rfl ?_; clear S a; intro a S)
                (refine q_yt S rfl rfl (ys_call Try.call100 (EvL.cons (Ev.t rfl) (EvL.cons (Ev.t rfl) (EvL.cons (Ev.t rfl) EvL.nil))) (fun hp w W => c100 _ _ _ _ _ (by exact .old W (by assumption)))) rfl ?_; clear S a; intro a S)
                (refine q_yt S rfl rfl (Yr.ys (ys_addI (Ev.t rfl) Ev.c (fun _ => by unfold I64; omega))) rfl ?_; clear S a; intro a S)
                (refine q_yt S rfl rfl (Yr.ys (ys_F (by omega) (ys_leq (Ev.t rfl) (Ev.t rfl)))) rfl ?_; clear S a; intro a S)
                (refine q_y S (Yr.ys (ys_pickF (Ev.t rfl) (Ev.t rfl))) rfl ?_; clear S a; intro a S)
                (refine q_nil ?_; intro w W; replace S := St.mk S W; clear W)
                (refine (then_normal (hK5 _ _ ?_)); clear hK5)
                refine st_else S (Ev.t rfl) ?_
                refine wp_skip ?_
                (refine (then_normal (hK4 _ _ ?_)); clear hK4)
                refine wp_seq_k fun _ hK4 => ?_
                (refine st_quiet S (by kernel_rfl) (by kernel_rfl) ?_; clear S w; intro a S)
                (refine q_y S (Yr.ys (ys_move (Ev.t rfl))) rfl ?_; clear S a; intro a S)
                (refine q_y S (Yr.ys (ys_T (by omega) (ys_gtr (Ev.t rfl) Ev.c))) rfl ?_; clear S a; intro a S)
                (refine q_y S (Yr.ys (ys_move (Ev.t rfl))) rfl ?_; clear S a; intro a S)
                (refine q_yt S rfl rfl (Yr.ys (ys_fieldN (FieldT.mk Try.underlying38 rfl Try.sizeOf36 rfl) (Ev.t rfl) (i' := 1) rfl)) rfl ?_; clear S a; intro a S)
                (refine q_yt S rfl rfl (Yr.ys (ys_ld ⟨Try.isAgg36, Try.sizeOf36⟩ (Ev.t rfl) (k := 1) rfl rfl)) rfl ?_; clear S a; intro a S)
                (refine q_yt S rfl rfl (Yr.ys (ys_move (Ev.t rfl))) rfl ?_; clear S a; intro a S)
                (refine q_yt S rfl rfl (Yr.ys (ys_pred (Ev.t rfl) Ev.c (by omega))) rfl ?_; clear S a; intro a S)
                (refine q_yt S rfl rfl (Yr.ys (ys_ixS Try.underlying36 Try.sizeOf62 (Ev.t rfl) (Ev.t rfl) (fun _ => by omega))) rfl ?_; clear S a; intro a S)
                (refine q_yt S rfl rfl (Yr.ys (ys_ldOA ⟨Try.isAgg62, Try.sizeOf62⟩ (Ev.t rfl) (vs := [_, _, _]) rfl (fun _ => hc'))) rfl ?_; clear S a; intro a S)
                (refine q_yt S rfl rfl (Yr.ys (ys_ldA ⟨Try.isAgg62, Try.sizeOf62⟩ (Ev.t rfl) (k := 0) rfl rfl)) rfl ?_; clear S a; intro a S)
                (refine q_yt S rfl rfl (ys_call Try.call101 (EvL.cons (Ev.t rfl) (EvL.cons (Ev.t rfl) EvL.nil)) (fun hp w W => c101 _ _ _ _ _ _ _)) rfl ?_; clear S a; intro a S)
                rw [rw_c] at S
                (refine q_yt S rfl rfl (Yr.ys (ys_not (Ev.t rfl))) rfl ?_; clear S a; intro a S)
                (refine q_y S (Yr.ys (ys_pickT (Ev.t rfl) (Ev.t rfl))) rfl ?_; clear S a; intro a S)
                (refine q_nil ?_; intro w W; replace S := St.mk S W; clear W)
                (refine (then_normal (hK4 _ _ ?_)); clear hK4)
                refine st_then S (Ev.t rfl) ?_
                refine wp_seq_k fun _ hK4 => ?_
                refine wp_region_lit ?_
                (refine st_y S (Yr.ys (ys_assign Ev.c)) rfl ?_; clear S a w; intro a w S)
                refine st_nil ?_
                (refine (then_normal (hK4 _ _ ?_)); clear hK4)
                refine wp_ret ?_
                refine (in_ret (then_ret (then_ret (in_ret (then_ret ?_)))))
                refine st_ret S (results1 S Try.results48 (Rv.tmp rfl)) ?_
                exact ⟨by rw [canL_C (by rw [← hno, rw_b, hg, rw_c]; rfl)], S.wd.below⟩
              | true =>
                refine wp_seq_k fun _ hK3 => ?_
                refine wp_region_lit ?_
                (refine st_y S (Yr.ys (ys_T (by omega) (ys_lss (Ev.t rfl) (Ev.t rfl)))) rfl ?_; clear S a w; intro a w S)
                refine st_nil ?_
                (refine (then_normal (hK3 _ _ ?_)); clear hK3)
                refine wp_seq_k fun _ hK3 => ?_
                refine st_then S (Ev.t rfl) ?_
                refine wp_skip ?_
                (refine (then_normal (hK3 _ _ ?_)); clear hK3)
                refine wp_seq_k fun _ hK3 => ?_
                refine wp_block ?_
                refine wp_seq_k fun _ hK4 => ?_
                refine wp_region_lit ?_
                (refine st_y S (Yr.ys (ys_move (Ev.t rfl))) rfl ?_; clear S a w; intro a w S)
                (refine st_y S (Yr.ys (ys_ixS Try.underlying36 Try.sizeOf62 (Ev.t rfl) (Ev.t rfl) (fun _ => by omega))) rfl ?_; clear S a w; intro a w S)
                (refine st_y S (Yr.ys (ys_ldOA ⟨Try.isAgg62, Try.sizeOf62⟩ (Ev.t rfl) (vs := [_, _, _]) rfl (fun _ => hc))) rfl ?_; clear S a w; intro a w S)
                rw [rw_n] at S
                rw [rw_l] at S
                rw [rw_k] at S
                (refine st_m (op_alloc S Try.zeroValue62 (cs := _) rfl rfl ?_); clear S a w; intro g2 a w S)
                (refine st_y S (Yr.ys (ys_assign (Ev.t rfl))) rfl ?_; clear S a w; intro a w S)
                (refine st_m (op_stW S Try.sizeOf62 (Ev.t rfl) (Ev.t rfl) (k := 0) rfl rfl rfl (by simp [Value.oneCell']) ?_); clear S a w; intro a w S)
                refine st_nil ?_
                (refine (then_normal (hK4 _ _ ?_)); clear hK4)
                refine wp_seq_k fun _ hK4 => ?_
                refine wp_seq_k fun _ hK5 => ?_
                (refine st_quiet S (by kernel_rfl) (by kernel_rfl) ?_; clear S w; intro a S)
                (refine q_y S (Yr.ys (ys_ldA ⟨Try.isAgg62, Try.sizeOf62⟩ (Ev.t rfl) (k := 0) rfl rfl)) rfl ?_; clear S a; intro a S)
                (refine q_y S (ys_call Try.call59 (EvL.cons (Ev.t rfl) EvL.nil) (fun hp w W => c59 _ _ _ _)) rfl ?_; clear S a; intro a S)
                rw [rw_b] at S
                (refine q_y S (Yr.ys (ys_not (Ev.t rfl))) rfl ?_; clear S a; intro a S)
                (refine q_y S (Yr.ys (ys_move (Ev.t rfl))) rfl ?_; clear S a; intro a S)
                (refine q_yt S rfl rfl (Yr.ys (ys_fieldN (FieldT.mk Try.underlying62 rfl Try.sizeOf3 rfl) (Ev.t rfl) (i' := 2) rfl)) rfl ?_; clear S a; intro a S)
                (refine q_yt S rfl rfl (Yr.ys (ys_ld ⟨Try.isAgg3, Try.sizeOf3⟩ (Ev.t rfl) (k := 0) rfl rfl)) rfl ?_; clear S a; intro a S)
                (refine q_yt S rfl rfl (Yr.ys (ys_fieldN (FieldT.mk Try.underlying38 rfl Try.sizeOf35 rfl) (Ev.t rfl) (i' := 0) rfl)) rfl ?_; clear S a; intro a S)
                (refine q_yt S rfl rfl (Yr.ys (ys_ld ⟨Try.isAgg35, Try.sizeOf35⟩ (Ev.t rfl) (k := 1) rfl rfl)) rfl ?_; clear S a; intro a S)
                (refine q_yt S rfl rfl (Yr.ys (ys_fieldN (FieldT.mk Try.underlying62 rfl Try.sizeOf3 rfl) (Ev.t rfl) (i' := 0) rfl)) rfl ?_; clear S a; intro a S)
                (refine q_yt S rfl rfl (Yr.ys (ys_ld ⟨Try.isAgg3, Try.sizeOf3⟩ (Ev.t rfl) (k := 0) rfl rfl)) rfl ?_; clear S a; intro a S)
                (refine q_yt S rfl rfl (Yr.ys (ys_fieldN (FieldT.mk Try.underlying62 rfl Try.sizeOf3 rfl) (Ev.t rfl) (i' := 1) rfl)) rfl ?_; clear S a; intro a S)
                (refine q_yt S rfl rfl (Yr.ys (ys_ld ⟨Try.isAgg3, Try.sizeOf3⟩ (Ev.t rfl) (k := 0) rfl rfl)) rfl ?_; clear S a; intro a S)
                (refine q_yt S rfl rfl (ys_call Try.call100 (EvL.cons (Ev.t rfl) (EvL.cons (Ev.t rfl) (EvL.cons (Ev.t rfl) EvL.nil))) (fun hp w W => c100 _ _ _ _ _ (by exact .old W (by assumption)))) rfl ?_; clear S a; intro a S)
                (refine q_yt S rfl rfl (Yr.ys (ys_addI (Ev.t rfl) Ev.c (fun _ => by unfold I64; omega))) rfl ?_; clear S a; intro a S)
                (refine q_yt S rfl rfl (Yr.ys (ys_F (by omega) (ys_leq (Ev.t rfl) (Ev.t rfl)))) rfl ?_; clear S a; intro a S)
                (refine q_y S (Yr.ys (ys_pickF (Ev.t rfl) (Ev.t rfl))) rfl ?_; clear S a; intro a S)
                (refine q_nil ?_; intro w W; replace S := St.mk S W; clear W)
                (refine (then_normal (hK5 _ _ ?_)); clear hK5)
                refine st_else S (Ev.t rfl) ?_
                refine wp_skip ?_
                (refine (then_normal (hK4 _ _ ?_)); clear hK4)
                refine wp_seq_k fun _ hK4 => ?_
                (refine st_quiet S (by kernel_rfl) (by kernel_rfl) ?_; clear S w; intro a S)
                (refine q_y S (Yr.ys (ys_move (Ev.t rfl))) rfl ?_; clear S a; intro a S)
                (refine q_y S (Yr.ys (ys_T (by omega) (ys_gtr (Ev.t rfl) Ev.c))) rfl ?_; clear S a; intro a S)
                (refine q_y S (Yr.ys (ys_move (Ev.t rfl))) rfl ?_; clear S a; intro a S)
                (refine q_yt S rfl rfl (Yr.ys (ys_fieldN (FieldT.mk Try.underlying38 rfl Try.sizeOf36 rfl) (Ev.t rfl) (i' := 1) rfl)) rfl ?_; clear S a; intro a S)
                (refine q_yt S rfl rfl (Yr.ys (ys_ld ⟨Try.isAgg36, Try.sizeOf36⟩ (Ev.t rfl) (k := 1) rfl rfl)) rfl ?_; clear S a; intro a S)
                (refine q_yt S rfl rfl (Yr.ys (ys_move (Ev.t rfl))) rfl ?_; clear S a; intro a S)
                (refine q_yt S rfl rfl (Yr.ys (ys_pred (Ev.t rfl) Ev.c (by omega))) rfl ?_; clear S a; intro a S)
                (refine q_yt S rfl rfl (Yr.ys (ys_ixS Try.underlying36 Try.sizeOf62 (Ev.t rfl) (Ev.t rfl) (fun _ => by omega))) rfl ?_; clear S a; intro a S)
                (refine q_yt S rfl rfl (Yr.ys (ys_ldOA ⟨Try.isAgg62, Try.sizeOf62⟩ (Ev.t rfl) (vs := [_, _, _]) rfl (fun _ => hc'))) rfl ?_; clear S a; intro a S)
                (refine q_yt S rfl rfl (Yr.ys (ys_ldA ⟨Try.isAgg62, Try.sizeOf62⟩ (Ev.t rfl) (k := 0) rfl rfl)) rfl ?_; clear S a; intro a S)
                (refine q_yt S rfl rfl (ys_call Try.call101 (EvL.cons (Ev.t rfl) (EvL.cons (Ev.t rfl) EvL.nil)) (fun hp w W => c101 _ _ _ _ _ _ _)) rfl ?_; clear S a; intro a S)
                rw [rw_c] at S
                (refine q_yt S rfl rfl (Yr.ys (ys_not (Ev.t rfl))) rfl ?_; clear S a; intro a S)
                (refine q_y S (Yr.ys (ys_pickT (Ev.t rfl) (Ev.t rfl))) rfl ?_; clear S a; intro a S)
                (refine q_nil ?_; intro w W; replace S := St.mk S W; clear W)
                (refine (then_normal (hK4 _ _ ?_)); clear hK4)
                refine st_else S (Ev.t rfl) ?_
                refine wp_skip ?_
                (refine (in_normal (then_normal (hK3 _ _ ?_))); clear hK3)
                refine wp_region_lit ?_
                (refine st_y S (Yr.ys (ys_addI (Ev.t rfl) Ev.c (fun _ => by unfold I64; omega))) rfl ?_; clear S a w; intro a w S)
                (refine st_y S (Yr.ys (ys_move (Ev.t rfl))) rfl ?_; clear S a w; intro a w S)
                refine st_nil ?_
                refine (then_normal ?_)
                exact ⟨k + 1 + 1, ⟨by omega, step_all hmm hmy' rw_b, by rw [prevD, hmm, ← hno, rw_b, hg, rw_c, decide_eq_true (by omega)]; rfl⟩, by omega, S.weak (by repeat (first | exact Fits.nil | refine Fits.skip rfl ?_ | refine Fits.cons rfl ?_)) (by repeat (first | exact List.Sublist.refl _ | exact List.nil_sublist _ | refine .cons_cons _ ?_ | refine .cons _ ?_))⟩
      · have hend : k = C.cloud.length := by omega
        subst hend
        rw [List.drop_length, okC] at hno
        refine wp_seq_k fun _ hK3 => ?_
        refine wp_region_lit ?_
        (refine st_y S (Yr.ys (ys_F (by omega) (ys_lss (Ev.t rfl) (Ev.t rfl)))) rfl ?_; clear S a w; intro a w S)
        refine st_nil ?_
        (refine (then_normal (hK3 _ _ ?_)); clear hK3)
        refine wp_seq_k fun _ hK3 => ?_
        refine st_else S (Ev.t rfl) ?_
        refine wp_exit ?_
        (refine (then_exit (then_exit (in_here (then_normal (hK1 _ _ ?_))))); clear hK1)
        refine wp_seq_k fun _ hK1 => ?_
        refine wp_region_lit ?_
        (refine st_y S (Yr.ys (ys_assign Ev.c)) rfl ?_; clear S a w; intro a w S)
        refine st_nil ?_
        (refine (then_normal (hK1 _ _ ?_)); clear hK1)
        refine wp_ret ?_
        refine st_ret S (results1 S Try.results48 (Rv.tmp rfl)) ?_
        exact ⟨by rw [canL_yes hbig hM hno.symm], S.wd.below⟩
end Go.Proofs.Ytfblmkocmnbdcaa
set_option linter.unusedVariables false
set_option linter.unusedSimpArgs false
set_option maxRecDepth 100000
set_option maxHeartbeats 4000000
namespace Go.Fw
theorem can_covers {C : Ctx} (h : canL C = true) (d : Dot) : C.coversR d = C.covers d := (covers_eq (fun m hm => by
  have := may_lim ((can_nf h).mayC m hm)
  omega) d).symm
theorem items_step {l : List Ent} {k : Nat} {x : Ent} (hx : l[k]? = some x) : itemsN (l.take (k + 1)) = itemsN (l.take k) + if (l.take k).getLast?.map (·.item) = some x.item then 0 else 1 := by
  rw [List.take_add_one, hx, Option.toList_some]
  unfold itemsN
  rw [items_snoc]
  simp
theorem take_last {l : List Ent} {k : Nat} {p : Ent} (hp : l[k]? = some p) : (l.take (k + 1)).getLast? = some p := by
  rw [List.take_add_one, hp, Option.toList_some]
  simp
theorem ents_step {C : Ctx} {l : List Ent} {k : Nat} {x : Ent} (hx : l[k]? = some x) : entsE C (l.take k) (l.drop k) = if entE C (l.take k) x = 0 then entsE C (l.take (k + 1)) (l.drop (k + 1)) else entE C (l.take k) x := by
  have hlt : k < l.length := (List.getElem?_eq_some_iff.1 hx).1
  have e : l[k] = x := (List.getElem?_eq_some_iff.1 hx).2
  rw [List.drop_eq_getElem_cons hlt, e, entsE, List.take_add_one, hx, Option.toList_some]
theorem dup_at {l : List Ent} {k j : Nat} {y : Ent} (hj : j < k) (hy : l[j]? = some y) : y.dot ∈ (l.take k).map (·.dot) := by
  refine List.mem_map.2 ⟨y, List.mem_of_getElem? (i := j) ?_, rfl⟩
  rw [List.getElem?_take, if_pos hj, hy]
theorem dup_step {l : List Ent} {j : Nat} {y : Ent} {d : Dot} (hy : l[j]? = some y) (h : d ∉ (l.take j).map (·.dot)) (hne : y.dot ≠ d) : d ∉ (l.take (j + 1)).map (·.dot) := by
  rw [List.take_add_one, hy, Option.toList_some, List.map_append]
  intro hm
  rcases List.mem_append.1 hm with hm | hm
  · exact h hm
  · simp at hm
    exact hne hm.symm
end Go.Fw
namespace Go.Proofs.Ytfblmkocmnbdcaa
open Go.Fw Go.Proofs Go.RowKit
theorem c54 (w0 : World) (v : Value) (l : List Ent) (h : Sl Ent.enc 6 w0 w0.heap.size v l) (hn : l.length ≤ 4194304) :
    Calls Try.prog 54 #[v] w0 fun e w' => e = .returned (.int .i64 (itemsN l : Int)) ∧ Bel w0.heap.size w0 w' := by
  obtain ⟨A, cap, rfl, hl, hcap, hA⟩ := h
  refine enter1 Try.func54 rfl Try.ntmps54 rfl fun a S => ?_
  refine wp_seq_k fun _ hK1 => ?_
  refine wp_region_lit ?_
  (refine st_y S (Yr.ys (ys_assign Ev.c)) rfl ?_; clear S a; intro a w S)
  refine st_nil ?_
  (refine (then_normal (hK1 _ _ ?_)); clear hK1)
  refine wp_seq_k fun _ hK1 => ?_
  refine wp_region_lit ?_
  (refine st_y S (Yr.ys (ys_assign Ev.c)) rfl ?_; clear S a w; intro a w S)
  refine st_nil ?_
  (refine (then_normal (hK1 _ _ ?_)); clear hK1)
  refine wp_seq_k fun _ hK1 => ?_
  refine wp_seq_k fun _ hK2 => ?_
  refine wp_region_lit ?_
  (refine st_y S (Yr.ys (ys_move (Ev.t rfl))) rfl ?_; clear S a w; intro a w S)
  (refine st_y S (Yr.ys (ys_lenS Try.underlying34 (Ev.t rfl))) rfl ?_; clear S a w; intro a w S)
  (refine st_y S (Yr.ys (ys_move Ev.c)) rfl ?_; clear S a w; intro a w S)
  refine st_nil ?_
  (refine (then_normal (hK2 _ _ ?_)); clear hK2)
  refine wp_block ?_
  refine st_loopM S [3, 4, 5, 8] (X := Nat) (fun k => [(3, true, .int .i64 (itemsN (l.take k) : Int)), (8, true, .int .i64 (k : Int))]) (fun _ => []) (fun k => k ≤ l.length) (fun k => l.length - k) 0 (Nat.zero_le _) (by repeat (first | exact Fits.nil | refine Fits.skip rfl ?_ | refine Fits.cons rfl ?_)) (by repeat (first | exact Picks.nil | (refine Picks.rest ?_; (repeat (first | exact List.Sublist.refl _ | refine List.Sublist.cons_cons _ ?_ | refine List.Sublist.cons _ ?_)); done) | refine Picks.take 0 rfl ?_ | refine Picks.take 1 rfl ?_ | refine Picks.take 2 rfl ?_ | refine Picks.take 3 rfl ?_ | refine Picks.take 4 rfl ?_ | refine Picks.take 5 rfl ?_ | refine Picks.take 6 rfl ?_ | refine Picks.take 7 rfl ?_ | refine Picks.take 8 rfl ?_ | refine Picks.take 9 rfl ?_ | refine Picks.take 10 rfl ?_ | refine Picks.take 11 rfl ?_)) ?_
  clear S
  intro k a w hk S
  by_cases hlt : k < l.length
  · obtain ⟨g, o, x, rfl, hx, hd, hc⟩ := row_at hA hlt
    have hst := items_step hx
    have hle := itemsFrom_le (l.take k) none
    rw [show itemsFrom none (l.take k) = itemsN (l.take k) from rfl, List.length_take] at hle
    rcases k with _ | k
    · have rw_1 : ((itemsN (l.take 0) : Nat) : Int) + 1 = ((itemsN (l.take 1) : Nat) : Int) := by rw [hst]; simp
      refine wp_seq_k fun _ hK2 => ?_
      refine wp_region_lit ?_
      (refine st_y S (Yr.ys (ys_T (by omega) (ys_lss (Ev.t rfl) (Ev.t rfl)))) rfl ?_; clear S a w; intro a w S)
      refine st_nil ?_
      (refine (then_normal (hK2 _ _ ?_)); clear hK2)
      refine wp_seq_k fun _ hK2 => ?_
      refine st_then S (Ev.t rfl) ?_
      refine wp_skip ?_
      (refine (then_normal (hK2 _ _ ?_)); clear hK2)
      refine wp_seq_k fun _ hK2 => ?_
      refine wp_block ?_
      refine wp_seq_k fun _ hK3 => ?_
      refine wp_region_lit ?_
      (refine st_y S (Yr.ys (ys_move (Ev.t rfl))) rfl ?_; clear S a w; intro a w S)
      (refine st_y S (Yr.ys (ys_ixS (j := 0) Try.underlying34 Try.sizeOf74 (Ev.t rfl) (Ev.t rfl) (fun _ => by omega))) rfl ?_; clear S a w; intro a w S)
      (refine st_y S (Yr.ys (ys_ldOA ⟨Try.isAgg74, Try.sizeOf74⟩ (Ev.t rfl) (vs := [_, _, _, _, _, _]) rfl (fun _ => hc))) rfl ?_; clear S a w; intro a w S)
      (refine st_m (op_alloc S Try.zeroValue74 (cs := _) rfl rfl ?_); clear S a w; intro g1 a w S)
      (refine st_y S (Yr.ys (ys_assign (Ev.t rfl))) rfl ?_; clear S a w; intro a w S)
      (refine st_m (op_stW S Try.sizeOf74 (Ev.t rfl) (Ev.t rfl) (k := 0) rfl rfl rfl (by simp [Value.oneCell']) ?_); clear S a w; intro a w S)
      refine st_nil ?_
      (refine (then_normal (hK3 _ _ ?_)); clear hK3)
      refine wp_seq_k fun _ hK3 => ?_
      (refine st_quiet S (by kernel_rfl) (by kernel_rfl) ?_; clear S w; intro a S)
      (refine q_y S (Yr.ys (ys_move (Ev.t rfl))) rfl ?_; clear S a; intro a S)
      (refine q_y S (Yr.ys (ys_T (by omega) (ys_eql (Ev.t rfl) Ev.c))) rfl ?_; clear S a; intro a S)
      (refine q_y S (Yr.ys (ys_move (Ev.t rfl))) rfl ?_; clear S a; intro a S)
      (refine q_skip S rfl rfl rfl rfl ?_; clear S a; intro a S)
      (refine q_skip S rfl rfl rfl rfl ?_; clear S a; intro a S)
      (refine q_skip S rfl rfl rfl rfl ?_; clear S a; intro a S)
      (refine q_skip S rfl rfl rfl rfl ?_; clear S a; intro a S)
      (refine q_skip S rfl rfl rfl rfl ?_; clear S a; intro a S)
      (refine q_skip S rfl rfl rfl rfl ?_; clear S a; intro a S)
      (refine q_skip S rfl rfl rfl rfl ?_; clear S a; intro a S)
      (refine q_skip S rfl rfl rfl rfl ?_; clear S a; intro a S)
      (refine q_skip S rfl rfl rfl rfl ?_; clear S a; intro a S)
      (refine q_y S (Yr.ys (ys_pickT (Ev.t rfl) Ev.c)) rfl ?_; clear S a; intro a S)
      (refine q_nil ?_; intro w W; replace S := St.mk S W; clear W)
      (refine (then_normal (hK3 _ _ ?_)); clear hK3)
      refine st_then S (Ev.t rfl) ?_
      refine wp_region_lit ?_
      (refine st_y S (Yr.ys (ys_move (Ev.t rfl))) rfl ?_; clear S a w; intro a w S)
      (refine st_y S (Yr.ys (ys_addI (Ev.t rfl) Ev.c (fun _ => by unfold I64; omega))) rfl ?_; clear S a w; intro a w S)
      rw [rw_1] at S
      (refine st_y S (Yr.ys (ys_assign (Ev.t rfl))) rfl ?_; clear S a w; intro a w S)
      refine st_nil ?_
      (refine (in_normal (then_normal (hK2 _ _ ?_))); clear hK2)
      refine wp_region_lit ?_
      (refine st_y S (Yr.ys (ys_addI (Ev.t rfl) Ev.c (fun _ => by unfold I64; omega))) rfl ?_; clear S a w; intro a w S)
      (refine st_y S (Yr.ys (ys_move (Ev.t rfl))) rfl ?_; clear S a w; intro a w S)
      refine st_nil ?_
      refine (then_normal ?_)
      exact ⟨0 + 1, by omega, by omega, S.picks (by repeat (first | exact Fits.nil | refine Fits.skip rfl ?_ | refine Fits.cons rfl ?_)) (by repeat (first | exact Picks.nil | (refine Picks.rest ?_; (repeat (first | exact List.Sublist.refl _ | refine List.Sublist.cons_cons _ ?_ | refine List.Sublist.cons _ ?_)); done) | refine Picks.take 0 rfl ?_ | refine Picks.take 1 rfl ?_ | refine Picks.take 2 rfl ?_ | refine Picks.take 3 rfl ?_ | refine Picks.take 4 rfl ?_ | refine Picks.take 5 rfl ?_ | refine Picks.take 6 rfl ?_ | refine Picks.take 7 rfl ?_ | refine Picks.take 8 rfl ?_ | refine Picks.take 9 rfl ?_ | refine Picks.take 10 rfl ?_ | refine Picks.take 11 rfl ?_))⟩
    · obtain ⟨g', o', p, e', hp, hd', hc'⟩ := row_at hA (show k < l.length by omega)
      cases e'
      rw [take_last hp] at hst
      clear hA
      by_cases he : p.item = x.item
      · rw [if_pos (by simp [he])] at hst
        have rw_e : decide (p.item ≠ x.item) = false := decide_eq_false (fun h => h he)
        refine wp_seq_k fun _ hK2 => ?_
        refine wp_region_lit ?_
        (refine st_y S (Yr.ys (ys_T (by omega) (ys_lss (Ev.t rfl) (Ev.t rfl)))) rfl ?_; clear S a w; intro a w S)
        refine st_nil ?_
        (refine (then_normal (hK2 _ _ ?_)); clear hK2)
        refine wp_seq_k fun _ hK2 => ?_
        refine st_then S (Ev.t rfl) ?_
        refine wp_skip ?_
        (refine (then_normal (hK2 _ _ ?_)); clear hK2)
        refine wp_seq_k fun _ hK2 => ?_
        refine wp_block ?_
        refine wp_seq_k fun _ hK3 => ?_
        refine wp_region_lit ?_
        (refine st_y S (Yr.ys (ys_move (Ev.t rfl))) rfl ?_; clear S a w; intro a w S)
        (refine st_y S (Yr.ys (ys_ixS Try.underlying34 Try.sizeOf74 (Ev.t rfl) (Ev.t rfl) (fun _ => by omega))) rfl ?_; clear S a w; intro a w S)
        (refine st_y S (Yr.ys (ys_ldOA ⟨Try.isAgg74, Try.sizeOf74⟩ (Ev.t rfl) (vs := [_, _, _, _, _, _]) rfl (fun _ => hc))) rfl ?_; clear S a w; intro a w S)
        (refine st_m (op_alloc S Try.zeroValue74 (cs := _) rfl rfl ?_); clear S a w; intro g1 a w S)
        (refine st_y S (Yr.ys (ys_assign (Ev.t rfl))) rfl ?_; clear S a w; intro a w S)
        (refine st_m (op_stW S Try.sizeOf74 (Ev.t rfl) (Ev.t rfl) (k := 0) rfl rfl rfl (by simp [Value.oneCell']) ?_); clear S a w; intro a w S)
        refine st_nil ?_
        (refine (then_normal (hK3 _ _ ?_)); clear hK3)
        refine wp_seq_k fun _ hK3 => ?_
        (refine st_quiet S (by kernel_rfl) (by kernel_rfl) ?_; clear S w; intro a S)
        (refine q_y S (Yr.ys (ys_move (Ev.t rfl))) rfl ?_; clear S a; intro a S)
        (refine q_y S (Yr.ys (ys_F (by omega) (ys_eql (Ev.t rfl) Ev.c))) rfl ?_; clear S a; intro a S)
        (refine q_y S (Yr.ys (ys_move (Ev.t rfl))) rfl ?_; clear S a; intro a S)
        (refine q_yt S rfl rfl (Yr.ys (ys_move (Ev.t rfl))) rfl ?_; clear S a; intro a S)
        (refine q_yt S rfl rfl (Yr.ys (ys_move (Ev.t rfl))) rfl ?_; clear S a; intro a S)
        (refine q_yt S rfl rfl (Yr.ys (ys_pred (Ev.t rfl) Ev.c (by omega))) rfl ?_; clear S a; intro a S)
        (refine q_yt S rfl rfl (Yr.ys (ys_ixS Try.underlying34 Try.sizeOf74 (Ev.t rfl) (Ev.t rfl) (fun _ => by omega))) rfl ?_; clear S a; intro a S)
        (refine q_yt S rfl rfl (Yr.ys (ys_field (FieldT.mk Try.underlying74 rfl Try.sizeOf9 rfl) (Ev.t rfl))) rfl ?_; clear S a; intro a S)
        (refine q_yt S rfl rfl (Yr.ys (ys_ldO ⟨Try.isAgg9, Try.sizeOf9⟩ (Ev.t rfl) (fun _ => hc' _ _ rfl))) rfl ?_; clear S a; intro a S)
        (refine q_yt S rfl rfl (Yr.ys (ys_fieldN (FieldT.mk Try.underlying74 rfl Try.sizeOf9 rfl) (Ev.t rfl) (i' := 0) rfl)) rfl ?_; clear S a; intro a S)
        (refine q_yt S rfl rfl (Yr.ys (ys_ld ⟨Try.isAgg9, Try.sizeOf9⟩ (Ev.t rfl) (k := 0) rfl rfl)) rfl ?_; clear S a; intro a S)
        (refine q_yt S rfl rfl (Yr.ys (ys_neqStr (Ev.t rfl) (Ev.t rfl))) rfl ?_; clear S a; intro a S)
        rw [rw_e] at S
        (refine q_y S (Yr.ys (ys_pickF (Ev.t rfl) (Ev.t rfl))) rfl ?_; clear S a; intro a S)
        (refine q_nil ?_; intro w W; replace S := St.mk S W; clear W)
        (refine (then_normal (hK3 _ _ ?_)); clear hK3)
        refine st_else S (Ev.t rfl) ?_
        refine wp_skip ?_
        (refine (in_normal (then_normal (hK2 _ _ ?_))); clear hK2)
        refine wp_region_lit ?_
        (refine st_y S (Yr.ys (ys_addI (Ev.t rfl) Ev.c (fun _ => by unfold I64; omega))) rfl ?_; clear S a w; intro a w S)
        (refine st_y S (Yr.ys (ys_move (Ev.t rfl))) rfl ?_; clear S a w; intro a w S)
        refine st_nil ?_
        refine (then_normal ?_)
        rw [← show itemsN (l.take (k + 1 + 1)) = itemsN (l.take (k + 1)) by rw [hst]; rfl] at S
        exact ⟨k + 1 + 1, by omega, by omega, S.picks (by repeat (first | exact Fits.nil | refine Fits.skip rfl ?_ | refine Fits.cons rfl ?_)) (by repeat (first | exact Picks.nil | (refine Picks.rest ?_; (repeat (first | exact List.Sublist.refl _ | refine List.Sublist.cons_cons _ ?_ | refine List.Sublist.cons _ ?_)); done) | refine Picks.take 0 rfl ?_ | refine Picks.take 1 rfl ?_ | refine Picks.take 2 rfl ?_ | refine Picks.take 3 rfl ?_ | refine Picks.take 4 rfl ?_ | refine Picks.take 5 rfl ?_ | refine Picks.take 6 rfl ?_ | refine Picks.take 7 rfl ?_ | refine Picks.take 8 rfl ?_ | refine Picks.take 9 rfl ?_ | refine Picks.take 10 rfl ?_ | refine Picks.take 11 rfl ?_))⟩
      · rw [if_neg (by simp [he])] at hst
        have rw_e : decide (p.item ≠ x.item) = true := decide_eq_true he
        have rw_1 : ((itemsN (l.take (k + 1)) : Nat) : Int) + 1 = ((itemsN (l.take (k + 1 + 1)) : Nat) : Int) := by rw [hst]; omega
        refine wp_seq_k fun _ hK2 => ?_
        refine wp_region_lit ?_
        (refine st_y S (Yr.ys (ys_T (by omega) (ys_lss (Ev.t rfl) (Ev.t rfl)))) rfl ?_; clear S a w; intro a w S)
        refine st_nil ?_
        (refine (then_normal (hK2 _ _ ?_)); clear hK2)
        refine wp_seq_k fun _ hK2 => ?_
        refine st_then S (Ev.t rfl) ?_
        refine wp_skip ?_
        (refine (then_normal (hK2 _ _ ?_)); clear hK2)
        refine wp_seq_k fun _ hK2 => ?_
        refine wp_block ?_
        refine wp_seq_k fun _ hK3 => ?_
        refine wp_region_lit ?_
        (refine st_y S (Yr.ys (ys_move (Ev.t rfl))) rfl ?_; clear S a w; intro a w S)
        (refine st_y S (Yr.ys (ys_ixS Try.underlying34 Try.sizeOf74 (Ev.t rfl) (Ev.t rfl) (fun _ => by omega))) rfl ?_; clear S a w; intro a w S)
        (refine st_y S (Yr.ys (ys_ldOA ⟨Try.isAgg74, Try.sizeOf74⟩ (Ev.t rfl) (vs := [_, _, _, _, _, _]) rfl (fun _ => hc))) rfl ?_; clear S a w; intro a w S)
        (refine st_m (op_alloc S Try.zeroValue74 (cs := _) rfl rfl ?_); clear S a w; intro g1 a w S)
        (refine st_y S (Yr.ys (ys_assign (Ev.t rfl))) rfl ?_; clear S a w; intro a w S)
        (refine st_m (op_stW S Try.sizeOf74 (Ev.t rfl) (Ev.t rfl) (k := 0) rfl rfl rfl (by simp [Value.oneCell']) ?_); clear S a w; intro a w S)
        refine st_nil ?_
        (refine (then_normal (hK3 _ _ ?_)); clear hK3)
        refine wp_seq_k fun _ hK3 => ?_
        (refine st_quiet S (by kernel_rfl) (by kernel_rfl) ?_; clear S w; intro a S)
        (refine q_y S (Yr.ys (ys_move (Ev.t rfl))) rfl ?_; clear S a; intro a S)
        (refine q_y S (Yr.ys (ys_F (by omega) (ys_eql (Ev.t rfl) Ev.c))) rfl ?_; clear S a; intro a S)
        (refine q_y S (Yr.ys (ys_move (Ev.t rfl))) rfl ?_; clear S a; intro a S)
        (refine q_yt S rfl rfl (Yr.ys (ys_move (Ev.t rfl))) rfl ?_; clear S a; intro a S)
        (refine q_yt S rfl rfl (Yr.ys (ys_move (Ev.t rfl))) rfl ?_; clear S a; intro a S)
        (refine q_yt S rfl rfl (Yr.ys (ys_pred (Ev.t rfl) Ev.c (by omega))) rfl ?_; clear S a; intro a S)
        (refine q_yt S rfl rfl (Yr.ys (ys_ixS Try.underlying34 Try.sizeOf74 (Ev.t rfl) (Ev.t rfl) (fun _ => by omega))) rfl ?_; clear S a; intro a S)
        (refine q_yt S rfl rfl (Yr.ys (ys_field (FieldT.mk Try.underlying74 rfl Try.sizeOf9 rfl) (Ev.t rfl))) rfl ?_; clear S a; intro a S)
        (refine q_yt S rfl rfl (Yr.ys (ys_ldO ⟨Try.isAgg9, Try.sizeOf9⟩ (Ev.t rfl) (fun _ => hc' _ _ rfl))) rfl ?_; clear S a; intro a S)
        (refine q_yt S rfl rfl (Yr.ys (ys_fieldN (FieldT.mk Try.underlying74 rfl Try.sizeOf9 rfl) (Ev.t rfl) (i' := 0) rfl)) rfl ?_; clear S a; intro a S)
        (refine q_yt S rfl rfl (Yr.ys (ys_ld ⟨Try.isAgg9, Try.sizeOf9⟩ (Ev.t rfl) (k := 0) rfl rfl)) rfl ?_; clear S a; intro a S)
        (refine q_yt S rfl rfl (Yr.ys (ys_neqStr (Ev.t rfl) (Ev.t rfl))) rfl ?_; clear S a; intro a S)
        rw [rw_e] at S
        (refine q_y S (Yr.ys (ys_pickF (Ev.t rfl) (Ev.t rfl))) rfl ?_; clear S a; intro a S)
        (refine q_nil ?_; intro w W; replace S := St.mk S W; clear W)
        (refine (then_normal (hK3 _ _ ?_)); clear hK3)
        refine st_then S (Ev.t rfl) ?_
        refine wp_region_lit ?_
        (refine st_y S (Yr.ys (ys_move (Ev.t rfl))) rfl ?_; clear S a w; intro a w S)
        (refine st_y S (Yr.ys (ys_addI (Ev.t rfl) Ev.c (fun _ => by unfold I64; omega))) rfl ?_; clear S a w; intro a w S)
        rw [rw_1] at S
        (refine st_y S (Yr.ys (ys_assign (Ev.t rfl))) rfl ?_; clear S a w; intro a w S)
        refine st_nil ?_
        (refine (in_normal (then_normal (hK2 _ _ ?_))); clear hK2)
        refine wp_region_lit ?_
        (refine st_y S (Yr.ys (ys_addI (Ev.t rfl) Ev.c (fun _ => by unfold I64; omega))) rfl ?_; clear S a w; intro a w S)
        (refine st_y S (Yr.ys (ys_move (Ev.t rfl))) rfl ?_; clear S a w; intro a w S)
        refine st_nil ?_
        refine (then_normal ?_)
        exact ⟨k + 1 + 1, by omega, by omega, S.picks (by repeat (first | exact Fits.nil | refine Fits.skip rfl ?_ | refine Fits.cons rfl ?_)) (by repeat (first | exact Picks.nil | (refine Picks.rest ?_; (repeat (first | exact List.Sublist.refl _ | refine List.Sublist.cons_cons _ ?_ | refine List.Sublist.cons _ ?_)); done) | refine Picks.take 0 rfl ?_ | refine Picks.take 1 rfl ?_ | refine Picks.take 2 rfl ?_ | refine Picks.take 3 rfl ?_ | refine Picks.take 4 rfl ?_ | refine Picks.take 5 rfl ?_ | refine Picks.take 6 rfl ?_ | refine Picks.take 7 rfl ?_ | refine Picks.take 8 rfl ?_ | refine Picks.take 9 rfl ?_ | refine Picks.take 10 rfl ?_ | refine Picks.take 11 rfl ?_))⟩
  · obtain rfl : k = l.length := by omega
    rw [List.take_length] at S
    refine wp_seq_k fun _ hK2 => ?_
    refine wp_region_lit ?_
    (refine st_y S (Yr.ys (ys_F (by omega) (ys_lss (Ev.t rfl) (Ev.t rfl)))) rfl ?_; clear S a w; intro a w S)
    refine st_nil ?_
    (refine (then_normal (hK2 _ _ ?_)); clear hK2)
    refine wp_seq_k fun _ hK2 => ?_
    refine st_else S (Ev.t rfl) ?_
    refine wp_exit ?_
    (refine (then_exit (then_exit (in_here (then_normal (hK1 _ _ ?_))))); clear hK1)
    refine wp_seq_k fun _ hK1 => ?_
    refine wp_region_lit ?_
    (refine st_y S (Yr.ys (ys_move (Ev.t rfl))) rfl ?_; clear S a w; intro a w S)
    (refine st_y S (Yr.ys (ys_assign (Ev.t rfl))) rfl ?_; clear S a w; intro a w S)
    refine st_nil ?_
    (refine (then_normal (hK1 _ _ ?_)); clear hK1)
    refine wp_ret ?_
    refine st_ret S (results1 S Try.results54 (Rv.tmp rfl)) ?_
    exact ⟨rfl, S.wd.below⟩
theorem c20 (w0 : World) (v1 v2 v3 : Value) (c : Cart) (h : Sl Ent.enc 6 w0 w0.heap.size v1 c.ents) (hr : RdCtx w0 w0.heap.size v2 v3 c.ctx) :
    Calls Try.prog 20 #[.agg #[v1, v2, v3]] w0 fun e w' => e = .returned (.int .i64 (canE c)) ∧ Bel w0.heap.size w0 w' := by
  obtain ⟨l, C⟩ := c
  dsimp only at h hr
  have hs := h
  obtain ⟨A, cap, rfl, hl, hcap, hA⟩ := h
  unfold canE
  dsimp only
  cases rw_C : canL C with
  | false =>
    refine enter1 Try.func20 rfl Try.ntmps20 rfl fun a S => ?_
    refine wp_seq_k fun _ hK1 => ?_
    refine wp_region_lit ?_
    (refine st_m (op_box S (Ev.t rfl) rfl ?_); clear S a; intro g1 a w S)
    (refine st_y S (Yr.ys (ys_assign Ev.c)) rfl ?_; clear S a w; intro a w S)
    refine st_nil ?_
    (refine (then_normal (hK1 _ _ ?_)); clear hK1)
    refine wp_seq_k fun _ hK1 => ?_
    refine wp_seq_k fun _ hK2 => ?_
    refine wp_region_lit ?_
    (refine st_y S (Yr.ys (ys_fieldN (FieldT.mk Try.underlying40 rfl Try.sizeOf38 rfl) (Ev.t rfl) (i' := 1) rfl)) rfl ?_; clear S a w; intro a w S)
    (refine st_y S (Yr.ys (ys_ldA ⟨Try.isAgg38, Try.sizeOf38⟩ (Ev.t rfl) (k := 0) rfl rfl)) rfl ?_; clear S a w; intro a w S)
    (refine st_y S (ys_call Try.call48 (EvL.cons (Ev.t rfl) EvL.nil) (fun hp w W => c48 _ _ _ _ (by exact .old W (by assumption)))) rfl ?_; clear S a w; intro a w S)
    rw [rw_C] at S
    (refine st_y S (Yr.ys (ys_not (Ev.t rfl))) rfl ?_; clear S a w; intro a w S)
    refine st_nil ?_
    (refine (then_normal (hK2 _ _ ?_)); clear hK2)
    refine st_then S (Ev.t rfl) ?_
    refine wp_seq_k fun _ hK2 => ?_
    refine wp_region_lit ?_
    (refine st_y S (Yr.ys (ys_assign Ev.c)) rfl ?_; clear S a w; intro a w S)
    refine st_nil ?_
    (refine (then_normal (hK2 _ _ ?_)); clear hK2)
    refine wp_ret ?_
    refine (then_ret ?_)
    refine st_ret S (results1 S Try.results20 (Rv.tmp rfl)) ?_
    exact ⟨rfl, S.wd.below⟩
  | true =>
  rw [if_neg (by simp)]
  by_cases hbig : 64 < l.length
  · refine enter1 Try.func20 rfl Try.ntmps20 rfl fun a S => ?_
    refine wp_seq_k fun _ hK1 => ?_
    refine wp_region_lit ?_
    (refine st_m (op_box S (Ev.t rfl) rfl ?_); clear S a; intro g1 a w S)
    (refine st_y S (Yr.ys (ys_assign Ev.c)) rfl ?_; clear S a w; intro a w S)
    refine st_nil ?_
    (refine (then_normal (hK1 _ _ ?_)); clear hK1)
    refine wp_seq_k fun _ hK1 => ?_
    refine wp_seq_k fun _ hK2 => ?_
    refine wp_region_lit ?_
    (refine st_y S (Yr.ys (ys_fieldN (FieldT.mk Try.underlying40 rfl Try.sizeOf38 rfl) (Ev.t rfl) (i' := 1) rfl)) rfl ?_; clear S a w; intro a w S)
    (refine st_y S (Yr.ys (ys_ldA ⟨Try.isAgg38, Try.sizeOf38⟩ (Ev.t rfl) (k := 0) rfl rfl)) rfl ?_; clear S a w; intro a w S)
    (refine st_y S (ys_call Try.call48 (EvL.cons (Ev.t rfl) EvL.nil) (fun hp w W => c48 _ _ _ _ (by exact .old W (by assumption)))) rfl ?_; clear S a w; intro a w S)
    rw [rw_C] at S
    (refine st_y S (Yr.ys (ys_not (Ev.t rfl))) rfl ?_; clear S a w; intro a w S)
    refine st_nil ?_
    (refine (then_normal (hK2 _ _ ?_)); clear hK2)
    refine st_else S (Ev.t rfl) ?_
    refine wp_skip ?_
    (refine (then_normal (hK1 _ _ ?_)); clear hK1)
    refine wp_seq_k fun _ hK1 => ?_
    refine wp_seq_k fun _ hK2 => ?_
    refine wp_region_lit ?_
    (refine st_y S (Yr.ys (ys_fieldN (FieldT.mk Try.underlying40 rfl Try.sizeOf34 rfl) (Ev.t rfl) (i' := 0) rfl)) rfl ?_; clear S a w; intro a w S)
    (refine st_y S (Yr.ys (ys_ld ⟨Try.isAgg34, Try.sizeOf34⟩ (Ev.t rfl) (k := 0) rfl rfl)) rfl ?_; clear S a w; intro a w S)
    (refine st_y S (Yr.ys (ys_lenS Try.underlying34 (Ev.t rfl))) rfl ?_; clear S a w; intro a w S)
    (refine st_y S (Yr.ys (ys_T (by omega) (ys_gtr (Ev.t rfl) Ev.c))) rfl ?_; clear S a w; intro a w S)
    refine st_nil ?_
    (refine (then_normal (hK2 _ _ ?_)); clear hK2)
    refine st_then S (Ev.t rfl) ?_
    refine wp_seq_k fun _ hK2 => ?_
    refine wp_region_lit ?_
    (refine st_y S (Yr.ys (ys_assign Ev.c)) rfl ?_; clear S a w; intro a w S)
    refine st_nil ?_
    (refine (then_normal (hK2 _ _ ?_)); clear hK2)
    refine wp_ret ?_
    refine (then_ret ?_)
    refine st_ret S (results1 S Try.results20 (Rv.tmp rfl)) ?_
    exact ⟨by rw [if_pos hbig], S.wd.below⟩
  rw [if_neg hbig]
  have rw_cov := can_covers rw_C
  refine enter1 Try.func20 rfl Try.ntmps20 rfl fun a S => ?_
  refine wp_seq_k fun _ hK1 => ?_
  refine wp_region_lit ?_
  (refine st_m (op_box S (Ev.t rfl) rfl ?_); clear S a; intro g1 a w S)
  (refine st_y S (Yr.ys (ys_assign Ev.c)) rfl ?_; clear S a w; intro a w S)
  refine st_nil ?_
  (refine (then_normal (hK1 _ _ ?_)); clear hK1)
  refine wp_seq_k fun _ hK1 => ?_
  refine wp_seq_k fun _ hK2 => ?_
  refine wp_region_lit ?_
  (refine st_y S (Yr.ys (ys_fieldN (FieldT.mk Try.underlying40 rfl Try.sizeOf38 rfl) (Ev.t rfl) (i' := 1) rfl)) rfl ?_; clear S a w; intro a w S)
  (refine st_y S (Yr.ys (ys_ldA ⟨Try.isAgg38, Try.sizeOf38⟩ (Ev.t rfl) (k := 0) rfl rfl)) rfl ?_; clear S a w; intro a w S)
  (refine st_y S (ys_call Try.call48 (EvL.cons (Ev.t rfl) EvL.nil) (fun hp w W => c48 _ _ _ _ (by exact .old W (by assumption)))) rfl ?_; clear S a w; intro a w S)
  rw [rw_C] at S
  (refine st_y S (Yr.ys (ys_not (Ev.t rfl))) rfl ?_; clear S a w; intro a w S)
  refine st_nil ?_
  (refine (then_normal (hK2 _ _ ?_)); clear hK2)
  refine st_else S (Ev.t rfl) ?_
  refine wp_skip ?_
  (refine (then_normal (hK1 _ _ ?_)); clear hK1)
  refine wp_seq_k fun _ hK1 => ?_
  refine wp_seq_k fun _ hK2 => ?_
  refine wp_region_lit ?_
  (refine st_y S (Yr.ys (ys_fieldN (FieldT.mk Try.underlying40 rfl Try.sizeOf34 rfl) (Ev.t rfl) (i' := 0) rfl)) rfl ?_; clear S a w; intro a w S)
  (refine st_y S (Yr.ys (ys_ld ⟨Try.isAgg34, Try.sizeOf34⟩ (Ev.t rfl) (k := 0) rfl rfl)) rfl ?_; clear S a w; intro a w S)
  (refine st_y S (Yr.ys (ys_lenS Try.underlying34 (Ev.t rfl))) rfl ?_; clear S a w; intro a w S)
  (refine st_y S (Yr.ys (ys_F (by omega) (ys_gtr (Ev.t rfl) Ev.c))) rfl ?_; clear S a w; intro a w S)
  refine st_nil ?_
  (refine (then_normal (hK2 _ _ ?_)); clear hK2)
  refine st_else S (Ev.t rfl) ?_
  refine wp_skip ?_
  (refine (then_normal (hK1 _ _ ?_)); clear hK1)
  refine wp_seq_k fun _ hK1 => ?_
  refine wp_seq_k fun _ hK2 => ?_
  refine wp_region_lit ?_
  (refine st_y S (Yr.ys (ys_fieldN (FieldT.mk Try.underlying40 rfl Try.sizeOf34 rfl) (Ev.t rfl) (i' := 0) rfl)) rfl ?_; clear S a w; intro a w S)
  (refine st_y S (Yr.ys (ys_ld ⟨Try.isAgg34, Try.sizeOf34⟩ (Ev.t rfl) (k := 0) rfl rfl)) rfl ?_; clear S a w; intro a w S)
  (refine st_y S (Yr.ys (ys_lenS Try.underlying34 (Ev.t rfl))) rfl ?_; clear S a w; intro a w S)
  (refine st_y S (Yr.ys (ys_move Ev.c)) rfl ?_; clear S a w; intro a w S)
  refine st_nil ?_
  (refine (then_normal (hK2 _ _ ?_)); clear hK2)
  refine wp_block ?_
  refine st_loopM S [3, 4, 6, 18] (X := Nat) (fun k => [(18, true, .int .i64 (k : Int))]) (fun _ => [.blk g1 (.cells #[.slice A l.length cap, v2, v3] 40)])
    (fun k => k ≤ l.length ∧ entsE C (l.take k) (l.drop k) = entsE C [] l) (fun k => l.length - k) 0 ⟨Nat.zero_le _, rfl⟩ (by repeat (first | exact Fits.nil | refine Fits.skip rfl ?_ | refine Fits.cons rfl ?_)) (by repeat (first | exact Picks.nil | (refine Picks.rest ?_; (repeat (first | exact List.Sublist.refl _ | refine List.Sublist.cons_cons _ ?_ | refine List.Sublist.cons _ ?_)); done) | refine Picks.take 0 rfl ?_ | refine Picks.take 1 rfl ?_ | refine Picks.take 2 rfl ?_ | refine Picks.take 3 rfl ?_ | refine Picks.take 4 rfl ?_ | refine Picks.take 5 rfl ?_ | refine Picks.take 6 rfl ?_ | refine Picks.take 7 rfl ?_ | refine Picks.take 8 rfl ?_ | refine Picks.take 9 rfl ?_ | refine Picks.take 10 rfl ?_ | refine Picks.take 11 rfl ?_)) ?_
  clear S
  intro k a w ⟨hk, hno⟩ S
  by_cases hlt : k < l.length
  rotate_left
  · obtain rfl : k = l.length := by omega
    rw [List.drop_length, entsE] at hno
    by_cases hi : 32 < itemsN l
    · refine wp_seq_k fun _ hK2 => ?_
      refine wp_region_lit ?_
      (refine st_y S (Yr.ys (ys_F (by omega) (ys_lss (Ev.t rfl) (Ev.t rfl)))) rfl ?_; clear S a w; intro a w S)
      refine st_nil ?_
      (refine (then_normal (hK2 _ _ ?_)); clear hK2)
      refine wp_seq_k fun _ hK2 => ?_
      refine st_else S (Ev.t rfl) ?_
      refine wp_exit ?_
      (refine (then_exit (then_exit (in_here (then_normal (hK1 _ _ ?_))))); clear hK1)
      refine wp_seq_k fun _ hK1 => ?_
      refine wp_seq_k fun _ hK3 => ?_
      refine wp_region_lit ?_
      (refine st_y S (Yr.ys (ys_fieldN (FieldT.mk Try.underlying40 rfl Try.sizeOf34 rfl) (Ev.t rfl) (i' := 0) rfl)) rfl ?_; clear S a w; intro a w S)
      (refine st_y S (Yr.ys (ys_ld ⟨Try.isAgg34, Try.sizeOf34⟩ (Ev.t rfl) (k := 0) rfl rfl)) rfl ?_; clear S a w; intro a w S)
      (refine st_y S (ys_call Try.call54 (EvL.cons (Ev.t rfl) EvL.nil) (fun hp w W => c54 _ _ _ (by exact .old W (by assumption)) (by omega))) rfl ?_; clear S a w; intro a w S)
      (refine st_y S (Yr.ys (ys_T (by omega) (ys_gtr (Ev.t rfl) Ev.c))) rfl ?_; clear S a w; intro a w S)
      refine st_nil ?_
      (refine (then_normal (hK3 _ _ ?_)); clear hK3)
      refine st_then S (Ev.t rfl) ?_
      refine wp_seq_k fun _ hK3 => ?_
      refine wp_region_lit ?_
      (refine st_y S (Yr.ys (ys_assign Ev.c)) rfl ?_; clear S a w; intro a w S)
      refine st_nil ?_
      (refine (then_normal (hK3 _ _ ?_)); clear hK3)
      refine wp_ret ?_
      refine (then_ret ?_)
      refine st_ret S (results1 S Try.results20 (Rv.tmp rfl)) ?_
      exact ⟨by rw [if_pos hno.symm, if_pos hi], S.wd.below⟩
    · refine wp_seq_k fun _ hK2 => ?_
      refine wp_region_lit ?_
      (refine st_y S (Yr.ys (ys_F (by omega) (ys_lss (Ev.t rfl) (Ev.t rfl)))) rfl ?_; clear S a w; intro a w S)
      refine st_nil ?_
      (refine (then_normal (hK2 _ _ ?_)); clear hK2)
      refine wp_seq_k fun _ hK2 => ?_
      refine st_else S (Ev.t rfl) ?_
      refine wp_exit ?_
      (refine (then_exit (then_exit (in_here (then_normal (hK1 _ _ ?_))))); clear hK1)
      refine wp_seq_k fun _ hK1 => ?_
      refine wp_seq_k fun _ hK3 => ?_
      refine wp_region_lit ?_
      (refine st_y S (Yr.ys (ys_fieldN (FieldT.mk Try.underlying40 rfl Try.sizeOf34 rfl) (Ev.t rfl) (i' := 0) rfl)) rfl ?_; clear S a w; intro a w S)
      (refine st_y S (Yr.ys (ys_ld ⟨Try.isAgg34, Try.sizeOf34⟩ (Ev.t rfl) (k := 0) rfl rfl)) rfl ?_; clear S a w; intro a w S)
      (refine st_y S (ys_call Try.call54 (EvL.cons (Ev.t rfl) EvL.nil) (fun hp w W => c54 _ _ _ (by exact .old W (by assumption)) (by omega))) rfl ?_; clear S a w; intro a w S)
      (refine st_y S (Yr.ys (ys_F (by omega) (ys_gtr (Ev.t rfl) Ev.c))) rfl ?_; clear S a w; intro a w S)
      refine st_nil ?_
      (refine (then_normal (hK3 _ _ ?_)); clear hK3)
      refine st_else S (Ev.t rfl) ?_
      refine wp_skip ?_
      (refine (then_normal (hK1 _ _ ?_)); clear hK1)
      refine wp_seq_k fun _ hK1 => ?_
      refine wp_region_lit ?_
      (refine st_y S (Yr.ys (ys_assign Ev.c)) rfl ?_; clear S a w; intro a w S)
      refine st_nil ?_
      (refine (then_normal (hK1 _ _ ?_)); clear hK1)
      refine wp_ret ?_
      refine st_ret S (results1 S Try.results20 (Rv.tmp rfl)) ?_
      exact ⟨by rw [if_pos hno.symm, if_neg hi], S.wd.below⟩
  obtain ⟨g, o, x, rfl, hx, hd, hc⟩ := row_at hA hlt
  have hst := ents_step (C := C) hx
  rw [hno] at hst
  have bad : entE C (l.take k) x ≠ 0 → (if entsE C [] l = 0 then (if 32 < itemsN l then (51 : Int) else 0) else entsE C [] l) = entE C (l.take k) x := fun h => by
    rw [if_neg h] at hst
    rw [hst, if_neg h]
  cases rw_n : nameB x.item with
  | false =>
    have he : entE C (l.take k) x = 6 := by unfold entE; rw [if_pos rw_n]
    rw [bad (by rw [he]; decide), he]
    refine wp_seq_k fun _ hK2 => ?_
    refine wp_region_lit ?_
    (refine st_y S (Yr.ys (ys_T (by omega) (ys_lss (Ev.t rfl) (Ev.t rfl)))) rfl ?_; clear S a w; intro a w S)
    refine st_nil ?_
    (refine (then_normal (hK2 _ _ ?_)); clear hK2)
    refine wp_seq_k fun _ hK2 => ?_
    refine st_then S (Ev.t rfl) ?_
    refine wp_skip ?_
    (refine (then_normal (hK2 _ _ ?_)); clear hK2)
    refine wp_seq_k fun _ hK2 => ?_
    refine wp_block ?_
    refine wp_seq_k fun _ hK3 => ?_
    refine wp_region_lit ?_
    (refine st_y S (Yr.ys (ys_move (Ev.t rfl))) rfl ?_; clear S a w; intro a w S)
    (refine st_y S (Yr.ys (ys_ixS Try.underlying34 Try.sizeOf74 (Ev.t rfl) (Ev.t rfl) (fun _ => by omega))) rfl ?_; clear S a w; intro a w S)
    (refine st_y S (Yr.ys (ys_ldOA ⟨Try.isAgg74, Try.sizeOf74⟩ (Ev.t rfl) (vs := [_, _, _, _, _, _]) rfl (fun _ => hc))) rfl ?_; clear S a w; intro a w S)
    (refine st_m (op_alloc S Try.zeroValue74 (cs := _) rfl rfl ?_); clear S a w; intro g2 a w S)
    (refine st_y S (Yr.ys (ys_assign (Ev.t rfl))) rfl ?_; clear S a w; intro a w S)
    (refine st_m (op_stW S Try.sizeOf74 (Ev.t rfl) (Ev.t rfl) (k := 0) rfl rfl rfl (by simp [Value.oneCell']) ?_); clear S a w; intro a w S)
    refine st_nil ?_
    (refine (then_normal (hK3 _ _ ?_)); clear hK3)
    refine wp_seq_k fun _ hK3 => ?_
    refine wp_block ?_
    refine wp_seq_k fun _ hK4 => ?_
    refine wp_region_lit ?_
    (refine st_y S (Yr.ys (ys_fieldN (FieldT.mk Try.underlying74 rfl Try.sizeOf9 rfl) (Ev.t rfl) (i' := 0) rfl)) rfl ?_; clear S a w; intro a w S)
    (refine st_y S (Yr.ys (ys_ld ⟨Try.isAgg9, Try.sizeOf9⟩ (Ev.t rfl) (k := 0) rfl rfl)) rfl ?_; clear S a w; intro a w S)
    (refine st_y S (ys_call Try.call49 (EvL.cons (Ev.t rfl) EvL.nil) (fun hp w W => c49 _ _)) rfl ?_; clear S a w; intro a w S)
    rw [rw_n] at S
    (refine st_y S (Yr.ys (ys_not (Ev.t rfl))) rfl ?_; clear S a w; intro a w S)
    (refine st_y S (Yr.ys (ys_assign (Ev.t rfl))) rfl ?_; clear S a w; intro a w S)
    refine st_nil ?_
    (refine (then_normal (hK4 _ _ ?_)); clear hK4)
    refine st_then S (Ev.t rfl) ?_
    refine wp_seq_k fun _ hK4 => ?_
    refine wp_region_lit ?_
    (refine st_y S (Yr.ys (ys_assign Ev.c)) rfl ?_; clear S a w; intro a w S)
    refine st_nil ?_
    (refine (then_normal (hK4 _ _ ?_)); clear hK4)
    refine wp_ret ?_
    refine (in_ret (then_ret (in_ret (then_ret (then_ret (in_ret (then_ret ?_)))))))
    refine st_ret S (results1 S Try.results20 (Rv.tmp rfl)) ?_
    exact ⟨rfl, S.wd.below⟩
  | true =>
  by_cases hq : x.qty < 1 ∨ 1000000 < x.qty
  · have he : entE C (l.take k) x = 52 := by unfold entE; rw [if_neg (by simp [rw_n]), if_pos hq]
    rw [bad (by rw [he]; decide), he]
    have rw_q : (decide (1 ≤ x.qty) && decide (x.qty ≤ 1000000)) = false := by simp; omega
    refine wp_seq_k fun _ hK2 => ?_
    refine wp_region_lit ?_
    (refine st_y S (Yr.ys (ys_T (by omega) (ys_lss (Ev.t rfl) (Ev.t rfl)))) rfl ?_; clear S a w; intro a w S)
    refine st_nil ?_
    (refine (then_normal (hK2 _ _ ?_)); clear hK2)
    refine wp_seq_k fun _ hK2 => ?_
    refine st_then S (Ev.t rfl) ?_
    refine wp_skip ?_
    (refine (then_normal (hK2 _ _ ?_)); clear hK2)
    refine wp_seq_k fun _ hK2 => ?_
    refine wp_block ?_
    refine wp_seq_k fun _ hK3 => ?_
    refine wp_region_lit ?_
    (refine st_y S (Yr.ys (ys_move (Ev.t rfl))) rfl ?_; clear S a w; intro a w S)
    (refine st_y S (Yr.ys (ys_ixS Try.underlying34 Try.sizeOf74 (Ev.t rfl) (Ev.t rfl) (fun _ => by omega))) rfl ?_; clear S a w; intro a w S)
    (refine st_y S (Yr.ys (ys_ldOA ⟨Try.isAgg74, Try.sizeOf74⟩ (Ev.t rfl) (vs := [_, _, _, _, _, _]) rfl (fun _ => hc))) rfl ?_; clear S a w; intro a w S)
    (refine st_m (op_alloc S Try.zeroValue74 (cs := _) rfl rfl ?_); clear S a w; intro g2 a w S)
    (refine st_y S (Yr.ys (ys_assign (Ev.t rfl))) rfl ?_; clear S a w; intro a w S)
    (refine st_m (op_stW S Try.sizeOf74 (Ev.t rfl) (Ev.t rfl) (k := 0) rfl rfl rfl (by simp [Value.oneCell']) ?_); clear S a w; intro a w S)
    refine st_nil ?_
    (refine (then_normal (hK3 _ _ ?_)); clear hK3)
    refine wp_seq_k fun _ hK3 => ?_
    refine wp_block ?_
    refine wp_seq_k fun _ hK4 => ?_
    refine wp_region_lit ?_
    (refine st_y S (Yr.ys (ys_fieldN (FieldT.mk Try.underlying74 rfl Try.sizeOf9 rfl) (Ev.t rfl) (i' := 0) rfl)) rfl ?_; clear S a w; intro a w S)
    (refine st_y S (Yr.ys (ys_ld ⟨Try.isAgg9, Try.sizeOf9⟩ (Ev.t rfl) (k := 0) rfl rfl)) rfl ?_; clear S a w; intro a w S)
    (refine st_y S (ys_call Try.call49 (EvL.cons (Ev.t rfl) EvL.nil) (fun hp w W => c49 _ _)) rfl ?_; clear S a w; intro a w S)
    rw [rw_n] at S
    (refine st_y S (Yr.ys (ys_not (Ev.t rfl))) rfl ?_; clear S a w; intro a w S)
    (refine st_y S (Yr.ys (ys_assign (Ev.t rfl))) rfl ?_; clear S a w; intro a w S)
    refine st_nil ?_
    (refine (then_normal (hK4 _ _ ?_)); clear hK4)
    refine st_else S (Ev.t rfl) ?_
    refine wp_seq_k fun _ hK4 => ?_
    refine wp_region_lit ?_
    (refine st_y S (Yr.ys (ys_fieldN (FieldT.mk Try.underlying74 rfl Try.sizeOf3 rfl) (Ev.t rfl) (i' := 4) rfl)) rfl ?_; clear S a w; intro a w S)
    (refine st_y S (Yr.ys (ys_ld ⟨Try.isAgg3, Try.sizeOf3⟩ (Ev.t rfl) (k := 0) rfl rfl)) rfl ?_; clear S a w; intro a w S)
    (refine st_y S (ys_call Try.call50 (EvL.cons (Ev.t rfl) (EvL.cons Ev.c EvL.nil)) (fun hp w W => c50 _ _ _)) rfl ?_; clear S a w; intro a w S)
    rw [rw_q] at S
    (refine st_y S (Yr.ys (ys_not (Ev.t rfl))) rfl ?_; clear S a w; intro a w S)
    (refine st_y S (Yr.ys (ys_assign (Ev.t rfl))) rfl ?_; clear S a w; intro a w S)
    refine st_nil ?_
    (refine (then_normal (hK4 _ _ ?_)); clear hK4)
    refine st_then S (Ev.t rfl) ?_
    refine wp_seq_k fun _ hK4 => ?_
    refine wp_region_lit ?_
    (refine st_y S (Yr.ys (ys_assign Ev.c)) rfl ?_; clear S a w; intro a w S)
    refine st_nil ?_
    (refine (then_normal (hK4 _ _ ?_)); clear hK4)
    refine wp_ret ?_
    refine (in_ret (then_ret (in_ret (then_ret (then_ret (in_ret (then_ret ?_)))))))
    refine st_ret S (results1 S Try.results20 (Rv.tmp rfl)) ?_
    exact ⟨rfl, S.wd.below⟩
  have rw_q : (decide (1 ≤ x.qty) && decide (x.qty ≤ 1000000)) = true := by simp; omega
  cases rw_p : priceB x.price with
  | false =>
    have he : entE C (l.take k) x = 53 := by unfold entE; rw [if_neg (by simp [rw_n]), if_neg hq, if_pos rw_p]
    rw [bad (by rw [he]; decide), he]
    refine wp_seq_k fun _ hK2 => ?_
    refine wp_region_lit ?_
    (refine st_y S (Yr.ys (ys_T (by omega) (ys_lss (Ev.t rfl) (Ev.t rfl)))) rfl ?_; clear S a w; intro a w S)
    refine st_nil ?_
    (refine (then_normal (hK2 _ _ ?_)); clear hK2)
    refine wp_seq_k fun _ hK2 => ?_
    refine st_then S (Ev.t rfl) ?_
    refine wp_skip ?_
    (refine (then_normal (hK2 _ _ ?_)); clear hK2)
    refine wp_seq_k fun _ hK2 => ?_
    refine wp_block ?_
    refine wp_seq_k fun _ hK3 => ?_
    refine wp_region_lit ?_
    (refine st_y S (Yr.ys (ys_move (Ev.t rfl))) rfl ?_; clear S a w; intro a w S)
    (refine st_y S (Yr.ys (ys_ixS Try.underlying34 Try.sizeOf74 (Ev.t rfl) (Ev.t rfl) (fun _ => by omega))) rfl ?_; clear S a w; intro a w S)
    (refine st_y S (Yr.ys (ys_ldOA ⟨Try.isAgg74, Try.sizeOf74⟩ (Ev.t rfl) (vs := [_, _, _, _, _, _]) rfl (fun _ => hc))) rfl ?_; clear S a w; intro a w S)
    (refine st_m (op_alloc S Try.zeroValue74 (cs := _) rfl rfl ?_); clear S a w; intro g2 a w S)
    (refine st_y S (Yr.ys (ys_assign (Ev.t rfl))) rfl ?_; clear S a w; intro a w S)
    (refine st_m (op_stW S Try.sizeOf74 (Ev.t rfl) (Ev.t rfl) (k := 0) rfl rfl rfl (by simp [Value.oneCell']) ?_); clear S a w; intro a w S)
    refine st_nil ?_
    (refine (then_normal (hK3 _ _ ?_)); clear hK3)
    refine wp_seq_k fun _ hK3 => ?_
    refine wp_block ?_
    refine wp_seq_k fun _ hK4 => ?_
    refine wp_region_lit ?_
    (refine st_y S (Yr.ys (ys_fieldN (FieldT.mk Try.underlying74 rfl Try.sizeOf9 rfl) (Ev.t rfl) (i' := 0) rfl)) rfl ?_; clear S a w; intro a w S)
    (refine st_y S (Yr.ys (ys_ld ⟨Try.isAgg9, Try.sizeOf9⟩ (Ev.t rfl) (k := 0) rfl rfl)) rfl ?_; clear S a w; intro a w S)
    (refine st_y S (ys_call Try.call49 (EvL.cons (Ev.t rfl) EvL.nil) (fun hp w W => c49 _ _)) rfl ?_; clear S a w; intro a w S)
    rw [rw_n] at S
    (refine st_y S (Yr.ys (ys_not (Ev.t rfl))) rfl ?_; clear S a w; intro a w S)
    (refine st_y S (Yr.ys (ys_assign (Ev.t rfl))) rfl ?_; clear S a w; intro a w S)
    refine st_nil ?_
    (refine (then_normal (hK4 _ _ ?_)); clear hK4)
    refine st_else S (Ev.t rfl) ?_
    refine wp_seq_k fun _ hK4 => ?_
    refine wp_region_lit ?_
    (refine st_y S (Yr.ys (ys_fieldN (FieldT.mk Try.underlying74 rfl Try.sizeOf3 rfl) (Ev.t rfl) (i' := 4) rfl)) rfl ?_; clear S a w; intro a w S)
    (refine st_y S (Yr.ys (ys_ld ⟨Try.isAgg3, Try.sizeOf3⟩ (Ev.t rfl) (k := 0) rfl rfl)) rfl ?_; clear S a w; intro a w S)
    (refine st_y S (ys_call Try.call50 (EvL.cons (Ev.t rfl) (EvL.cons Ev.c EvL.nil)) (fun hp w W => c50 _ _ _)) rfl ?_; clear S a w; intro a w S)
    rw [rw_q] at S
    (refine st_y S (Yr.ys (ys_not (Ev.t rfl))) rfl ?_; clear S a w; intro a w S)
    (refine st_y S (Yr.ys (ys_assign (Ev.t rfl))) rfl ?_; clear S a w; intro a w S)
    refine st_nil ?_
    (refine (then_normal (hK4 _ _ ?_)); clear hK4)
    refine st_else S (Ev.t rfl) ?_
    refine wp_seq_k fun _ hK4 => ?_
    refine wp_region_lit ?_
    (refine st_y S (Yr.ys (ys_fieldN (FieldT.mk Try.underlying74 rfl Try.sizeOf27 rfl) (Ev.t rfl) (i' := 5) rfl)) rfl ?_; clear S a w; intro a w S)
    (refine st_y S (Yr.ys (ys_ld ⟨Try.isAgg27, Try.sizeOf27⟩ (Ev.t rfl) (k := 0) rfl rfl)) rfl ?_; clear S a w; intro a w S)
    (refine st_y S (ys_call Try.call51 (EvL.cons (Ev.t rfl) EvL.nil) (fun hp w W => c51 _ _)) rfl ?_; clear S a w; intro a w S)
    rw [rw_p] at S
    (refine st_y S (Yr.ys (ys_not (Ev.t rfl))) rfl ?_; clear S a w; intro a w S)
    (refine st_y S (Yr.ys (ys_assign (Ev.t rfl))) rfl ?_; clear S a w; intro a w S)
    refine st_nil ?_
    (refine (then_normal (hK4 _ _ ?_)); clear hK4)
    refine st_then S (Ev.t rfl) ?_
    refine wp_seq_k fun _ hK4 => ?_
    refine wp_region_lit ?_
    (refine st_y S (Yr.ys (ys_assign Ev.c)) rfl ?_; clear S a w; intro a w S)
    refine st_nil ?_
    (refine (then_normal (hK4 _ _ ?_)); clear hK4)
    refine wp_ret ?_
    refine (in_ret (then_ret (in_ret (then_ret (then_ret (in_ret (then_ret ?_)))))))
    refine st_ret S (results1 S Try.results20 (Rv.tmp rfl)) ?_
    exact ⟨rfl, S.wd.below⟩
  | true =>
  have he0 : entE C (l.take k) x = if C.covers x.dot = false ∨ backE (l.take k).getLast? x = true then 50 else if x.dot ∈ (l.take k).map (·.dot) then 50 else 0 := by unfold entE; rw [if_neg (by simp [rw_n]), if_neg hq, if_neg (by simp [rw_p])]
  cases rw_c : C.covers x.dot with
  | false =>
    rw [if_pos (.inl rw_c)] at he0
    rw [bad (by rw [he0]; decide), he0]
    have rw_c2 : C.covers ⟨x.dot.node, x.dot.life, x.dot.count⟩ = false := rw_c
    refine wp_seq_k fun _ hK2 => ?_
    refine wp_region_lit ?_
    (refine st_y S (Yr.ys (ys_T (by omega) (ys_lss (Ev.t rfl) (Ev.t rfl)))) rfl ?_; clear S a w; intro a w S)
    refine st_nil ?_
    (refine (then_normal (hK2 _ _ ?_)); clear hK2)
    refine wp_seq_k fun _ hK2 => ?_
    refine st_then S (Ev.t rfl) ?_
    refine wp_skip ?_
    (refine (then_normal (hK2 _ _ ?_)); clear hK2)
    refine wp_seq_k fun _ hK2 => ?_
    refine wp_block ?_
    refine wp_seq_k fun _ hK3 => ?_
    refine wp_region_lit ?_
    (refine st_y S (Yr.ys (ys_move (Ev.t rfl))) rfl ?_; clear S a w; intro a w S)
    (refine st_y S (Yr.ys (ys_ixS Try.underlying34 Try.sizeOf74 (Ev.t rfl) (Ev.t rfl) (fun _ => by omega))) rfl ?_; clear S a w; intro a w S)
    (refine st_y S (Yr.ys (ys_ldOA ⟨Try.isAgg74, Try.sizeOf74⟩ (Ev.t rfl) (vs := [_, _, _, _, _, _]) rfl (fun _ => hc))) rfl ?_; clear S a w; intro a w S)
    (refine st_m (op_alloc S Try.zeroValue74 (cs := _) rfl rfl ?_); clear S a w; intro g2 a w S)
    (refine st_y S (Yr.ys (ys_assign (Ev.t rfl))) rfl ?_; clear S a w; intro a w S)
    (refine st_m (op_stW S Try.sizeOf74 (Ev.t rfl) (Ev.t rfl) (k := 0) rfl rfl rfl (by simp [Value.oneCell']) ?_); clear S a w; intro a w S)
    refine st_nil ?_
    (refine (then_normal (hK3 _ _ ?_)); clear hK3)
    refine wp_seq_k fun _ hK3 => ?_
    refine wp_block ?_
    refine wp_seq_k fun _ hK4 => ?_
    refine wp_region_lit ?_
    (refine st_y S (Yr.ys (ys_fieldN (FieldT.mk Try.underlying74 rfl Try.sizeOf9 rfl) (Ev.t rfl) (i' := 0) rfl)) rfl ?_; clear S a w; intro a w S)
    (refine st_y S (Yr.ys (ys_ld ⟨Try.isAgg9, Try.sizeOf9⟩ (Ev.t rfl) (k := 0) rfl rfl)) rfl ?_; clear S a w; intro a w S)
    (refine st_y S (ys_call Try.call49 (EvL.cons (Ev.t rfl) EvL.nil) (fun hp w W => c49 _ _)) rfl ?_; clear S a w; intro a w S)
    rw [rw_n] at S
    (refine st_y S (Yr.ys (ys_not (Ev.t rfl))) rfl ?_; clear S a w; intro a w S)
    (refine st_y S (Yr.ys (ys_assign (Ev.t rfl))) rfl ?_; clear S a w; intro a w S)
    refine st_nil ?_
    (refine (then_normal (hK4 _ _ ?_)); clear hK4)
    refine st_else S (Ev.t rfl) ?_
    refine wp_seq_k fun _ hK4 => ?_
    refine wp_region_lit ?_
    (refine st_y S (Yr.ys (ys_fieldN (FieldT.mk Try.underlying74 rfl Try.sizeOf3 rfl) (Ev.t rfl) (i' := 4) rfl)) rfl ?_; clear S a w; intro a w S)
    (refine st_y S (Yr.ys (ys_ld ⟨Try.isAgg3, Try.sizeOf3⟩ (Ev.t rfl) (k := 0) rfl rfl)) rfl ?_; clear S a w; intro a w S)
    (refine st_y S (ys_call Try.call50 (EvL.cons (Ev.t rfl) (EvL.cons Ev.c EvL.nil)) (fun hp w W => c50 _ _ _)) rfl ?_; clear S a w; intro a w S)
    rw [rw_q] at S
    (refine st_y S (Yr.ys (ys_not (Ev.t rfl))) rfl ?_; clear S a w; intro a w S)
    (refine st_y S (Yr.ys (ys_assign (Ev.t rfl))) rfl ?_; clear S a w; intro a w S)
    refine st_nil ?_
    (refine (then_normal (hK4 _ _ ?_)); clear hK4)
    refine st_else S (Ev.t rfl) ?_
    refine wp_seq_k fun _ hK4 => ?_
    refine wp_region_lit ?_
    (refine st_y S (Yr.ys (ys_fieldN (FieldT.mk Try.underlying74 rfl Try.sizeOf27 rfl) (Ev.t rfl) (i' := 5) rfl)) rfl ?_; clear S a w; intro a w S)
    (refine st_y S (Yr.ys (ys_ld ⟨Try.isAgg27, Try.sizeOf27⟩ (Ev.t rfl) (k := 0) rfl rfl)) rfl ?_; clear S a w; intro a w S)
    (refine st_y S (ys_call Try.call51 (EvL.cons (Ev.t rfl) EvL.nil) (fun hp w W => c51 _ _)) rfl ?_; clear S a w; intro a w S)
    rw [rw_p] at S
    (refine st_y S (Yr.ys (ys_not (Ev.t rfl))) rfl ?_; clear S a w; intro a w S)
    (refine st_y S (Yr.ys (ys_assign (Ev.t rfl))) rfl ?_; clear S a w; intro a w S)
    refine st_nil ?_
    (refine (then_normal (hK4 _ _ ?_)); clear hK4)
    refine st_else S (Ev.t rfl) ?_
    refine wp_seq_k fun _ hK4 => ?_
    (refine st_quiet S (by kernel_rfl) (by kernel_rfl) ?_; clear S w; intro a S)
    (refine q_y S (Yr.ys (ys_fieldN (FieldT.mk Try.underlying40 rfl Try.sizeOf38 rfl) (Ev.t rfl) (i' := 1) rfl)) rfl ?_; clear S a; intro a S)
    (refine q_y S (Yr.ys (ys_ldA ⟨Try.isAgg38, Try.sizeOf38⟩ (Ev.t rfl) (k := 1) rfl rfl)) rfl ?_; clear S a; intro a S)
    (refine q_y S (Yr.ys (ys_fieldN (FieldT.mk Try.underlying74 rfl Try.sizeOf62 rfl) (Ev.t rfl) (i' := 1) rfl)) rfl ?_; clear S a; intro a S)
    (refine q_y S (Yr.ys (ys_ldA ⟨Try.isAgg62, Try.sizeOf62⟩ (Ev.t rfl) (k := 0) rfl rfl)) rfl ?_; clear S a; intro a S)
    (refine q_y S (ys_call Try.call52 (EvL.cons (Ev.t rfl) (EvL.cons (Ev.t rfl) EvL.nil)) (fun hp w W => c52 _ _ _ _ _ _ _ (by exact .old W (by assumption)))) rfl ?_; clear S a; intro a S)
    rw [rw_cov] at S
    rw [rw_c] at S
    (refine q_y S (Yr.ys (ys_not (Ev.t rfl))) rfl ?_; clear S a; intro a S)
    (refine q_y S (Yr.ys (ys_move (Ev.t rfl))) rfl ?_; clear S a; intro a S)
    (refine q_skip S rfl rfl rfl rfl ?_; clear S a; intro a S)
    (refine q_skip S rfl rfl rfl rfl ?_; clear S a; intro a S)
    (refine q_skip S rfl rfl rfl rfl ?_; clear S a; intro a S)
    (refine q_skip0 S rfl rfl rfl ?_; clear S a; intro a S)
    (refine q_skip0 S rfl rfl rfl ?_; clear S a; intro a S)
    (refine q_skip0 S rfl rfl rfl ?_; clear S a; intro a S)
    (refine q_skip0 S rfl rfl rfl ?_; clear S a; intro a S)
    (refine q_skip0 S rfl rfl rfl ?_; clear S a; intro a S)
    (refine q_skip0 S rfl rfl rfl ?_; clear S a; intro a S)
    (refine q_skip0 S rfl rfl rfl ?_; clear S a; intro a S)
    (refine q_skip0 S rfl rfl rfl ?_; clear S a; intro a S)
    (refine q_skip0 S rfl rfl rfl ?_; clear S a; intro a S)
    (refine q_skip S rfl rfl rfl rfl ?_; clear S a; intro a S)
    (refine q_y S (Yr.ys (ys_pickT (Ev.t rfl) Ev.c)) rfl ?_; clear S a; intro a S)
    (refine q_y S (Yr.ys (ys_assign (Ev.t rfl))) rfl ?_; clear S a; intro a S)
    (refine q_nil ?_; intro w W; replace S := St.mk S W; clear W)
    (refine (then_normal (hK4 _ _ ?_)); clear hK4)
    refine st_then S (Ev.t rfl) ?_
    refine wp_seq_k fun _ hK4 => ?_
    refine wp_region_lit ?_
    (refine st_y S (Yr.ys (ys_assign Ev.c)) rfl ?_; clear S a w; intro a w S)
    refine st_nil ?_
    (refine (then_normal (hK4 _ _ ?_)); clear hK4)
    refine wp_ret ?_
    refine (in_ret (then_ret (in_ret (then_ret (then_ret (in_ret (then_ret ?_)))))))
    refine st_ret S (results1 S Try.results20 (Rv.tmp rfl)) ?_
    exact ⟨rfl, S.wd.below⟩
  | true =>
  have rw_c2 : C.covers ⟨x.dot.node, x.dot.life, x.dot.count⟩ = true := rw_c
  rcases k with _ | k
  · have hnb : ¬ (C.covers x.dot = false ∨ backE (l.take 0).getLast? x = true) := by simp [rw_c, backE]
    refine wp_seq_k fun _ hK2 => ?_
    refine wp_region_lit ?_
    (refine st_y S (Yr.ys (ys_T (by omega) (ys_lss (Ev.t rfl) (Ev.t rfl)))) rfl ?_; clear S a w; intro a w S)
    refine st_nil ?_
    (refine (then_normal (hK2 _ _ ?_)); clear hK2)
    refine wp_seq_k fun _ hK2 => ?_
    refine st_then S (Ev.t rfl) ?_
    refine wp_skip ?_
    (refine (then_normal (hK2 _ _ ?_)); clear hK2)
    refine wp_seq_k fun _ hK2 => ?_
    refine wp_block ?_
    refine wp_seq_k fun _ hK3 => ?_
    refine wp_region_lit ?_
    (refine st_y S (Yr.ys (ys_move (Ev.t rfl))) rfl ?_; clear S a w; intro a w S)
    (refine st_y S (Yr.ys (ys_ixS (j := 0) Try.underlying34 Try.sizeOf74 (Ev.t rfl) (Ev.t rfl) (fun _ => by omega))) rfl ?_; clear S a w; intro a w S)
    (refine st_y S (Yr.ys (ys_ldOA ⟨Try.isAgg74, Try.sizeOf74⟩ (Ev.t rfl) (vs := [_, _, _, _, _, _]) rfl (fun _ => hc))) rfl ?_; clear S a w; intro a w S)
    (refine st_m (op_alloc S Try.zeroValue74 (cs := _) rfl rfl ?_); clear S a w; intro g2 a w S)
    (refine st_y S (Yr.ys (ys_assign (Ev.t rfl))) rfl ?_; clear S a w; intro a w S)
    (refine st_m (op_stW S Try.sizeOf74 (Ev.t rfl) (Ev.t rfl) (k := 0) rfl rfl rfl (by simp [Value.oneCell']) ?_); clear S a w; intro a w S)
    refine st_nil ?_
    (refine (then_normal (hK3 _ _ ?_)); clear hK3)
    refine wp_seq_k fun _ hK3 => ?_
    refine wp_block ?_
    refine wp_seq_k fun _ hK4 => ?_
    refine wp_region_lit ?_
    (refine st_y S (Yr.ys (ys_fieldN (FieldT.mk Try.underlying74 rfl Try.sizeOf9 rfl) (Ev.t rfl) (i' := 0) rfl)) rfl ?_; clear S a w; intro a w S)
    (refine st_y S (Yr.ys (ys_ld ⟨Try.isAgg9, Try.sizeOf9⟩ (Ev.t rfl) (k := 0) rfl rfl)) rfl ?_; clear S a w; intro a w S)
    (refine st_y S (ys_call Try.call49 (EvL.cons (Ev.t rfl) EvL.nil) (fun hp w W => c49 _ _)) rfl ?_; clear S a w; intro a w S)
    rw [rw_n] at S
    (refine st_y S (Yr.ys (ys_not (Ev.t rfl))) rfl ?_; clear S a w; intro a w S)
    (refine st_y S (Yr.ys (ys_assign (Ev.t rfl))) rfl ?_; clear S a w; intro a w S)
    refine st_nil ?_
    (refine (then_normal (hK4 _ _ ?_)); clear hK4)
    refine st_else S (Ev.t rfl) ?_
    refine wp_seq_k fun _ hK4 => ?_
    refine wp_region_lit ?_
    (refine st_y S (Yr.ys (ys_fieldN (FieldT.mk Try.underlying74 rfl Try.sizeOf3 rfl) (Ev.t rfl) (i' := 4) rfl)) rfl ?_; clear S a w; intro a w S)
    (refine st_y S (Yr.ys (ys_ld ⟨Try.isAgg3, Try.sizeOf3⟩ (Ev.t rfl) (k := 0) rfl rfl)) rfl ?_; clear S a w; intro a w S)
    (refine st_y S (ys_call Try.call50 (EvL.cons (Ev.t rfl) (EvL.cons Ev.c EvL.nil)) (fun hp w W => c50 _ _ _)) rfl ?_; clear S a w; intro a w S)
    rw [rw_q] at S
    (refine st_y S (Yr.ys (ys_not (Ev.t rfl))) rfl ?_; clear S a w; intro a w S)
    (refine st_y S (Yr.ys (ys_assign (Ev.t rfl))) rfl ?_; clear S a w; intro a w S)
    refine st_nil ?_
    (refine (then_normal (hK4 _ _ ?_)); clear hK4)
    refine st_else S (Ev.t rfl) ?_
    refine wp_seq_k fun _ hK4 => ?_
    refine wp_region_lit ?_
    (refine st_y S (Yr.ys (ys_fieldN (FieldT.mk Try.underlying74 rfl Try.sizeOf27 rfl) (Ev.t rfl) (i' := 5) rfl)) rfl ?_; clear S a w; intro a w S)
    (refine st_y S (Yr.ys (ys_ld ⟨Try.isAgg27, Try.sizeOf27⟩ (Ev.t rfl) (k := 0) rfl rfl)) rfl ?_; clear S a w; intro a w S)
    (refine st_y S (ys_call Try.call51 (EvL.cons (Ev.t rfl) EvL.nil) (fun hp w W => c51 _ _)) rfl ?_; clear S a w; intro a w S)
    rw [rw_p] at S
    (refine st_y S (Yr.ys (ys_not (Ev.t rfl))) rfl ?_; clear S a w; intro a w S)
    (refine st_y S (Yr.ys (ys_assign (Ev.t rfl))) rfl ?_; clear S a w; intro a w S)
    refine st_nil ?_
    (refine (then_normal (hK4 _ _ ?_)); clear hK4)
    refine st_else S (Ev.t rfl) ?_
    refine wp_seq_k fun _ hK4 => ?_
    (refine st_quiet S (by kernel_rfl) (by kernel_rfl) ?_; clear S w; intro a S)
    (refine q_y S (Yr.ys (ys_fieldN (FieldT.mk Try.underlying40 rfl Try.sizeOf38 rfl) (Ev.t rfl) (i' := 1) rfl)) rfl ?_; clear S a; intro a S)
    (refine q_y S (Yr.ys (ys_ldA ⟨Try.isAgg38, Try.sizeOf38⟩ (Ev.t rfl) (k := 1) rfl rfl)) rfl ?_; clear S a; intro a S)
    (refine q_y S (Yr.ys (ys_fieldN (FieldT.mk Try.underlying74 rfl Try.sizeOf62 rfl) (Ev.t rfl) (i' := 1) rfl)) rfl ?_; clear S a; intro a S)
    (refine q_y S (Yr.ys (ys_ldA ⟨Try.isAgg62, Try.sizeOf62⟩ (Ev.t rfl) (k := 0) rfl rfl)) rfl ?_; clear S a; intro a S)
    (refine q_y S (ys_call Try.call52 (EvL.cons (Ev.t rfl) (EvL.cons (Ev.t rfl) EvL.nil)) (fun hp w W => c52 _ _ _ _ _ _ _ (by exact .old W (by assumption)))) rfl ?_; clear S a; intro a S)
    rw [rw_cov] at S
    rw [rw_c] at S
    (refine q_y S (Yr.ys (ys_not (Ev.t rfl))) rfl ?_; clear S a; intro a S)
    (refine q_y S (Yr.ys (ys_move (Ev.t rfl))) rfl ?_; clear S a; intro a S)
    (refine q_yt S rfl rfl (Yr.ys (ys_move (Ev.t rfl))) rfl ?_; clear S a; intro a S)
    (refine q_yt S rfl rfl (Yr.ys (ys_F (by omega) (ys_gtr (Ev.t rfl) Ev.c))) rfl ?_; clear S a; intro a S)
    (refine q_yt S rfl rfl (Yr.ys (ys_move (Ev.t rfl))) rfl ?_; clear S a; intro a S)
    (refine q_skip S rfl rfl rfl rfl ?_; clear S a; intro a S)
    (refine q_skip S rfl rfl rfl rfl ?_; clear S a; intro a S)
    (refine q_skip S rfl rfl rfl rfl ?_; clear S a; intro a S)
    (refine q_skip S rfl rfl rfl rfl ?_; clear S a; intro a S)
    (refine q_skip S rfl rfl rfl rfl ?_; clear S a; intro a S)
    (refine q_skip S rfl rfl rfl rfl ?_; clear S a; intro a S)
    (refine q_skip S rfl rfl rfl rfl ?_; clear S a; intro a S)
    (refine q_skip S rfl rfl rfl rfl ?_; clear S a; intro a S)
    (refine q_skip S rfl rfl rfl rfl ?_; clear S a; intro a S)
    (refine q_yt S rfl rfl (Yr.ys (ys_pickF (Ev.t rfl) Ev.c)) rfl ?_; clear S a; intro a S)
    (refine q_y S (Yr.ys (ys_pickF (Ev.t rfl) (Ev.t rfl))) rfl ?_; clear S a; intro a S)
    (refine q_y S (Yr.ys (ys_assign (Ev.t rfl))) rfl ?_; clear S a; intro a S)
    (refine q_nil ?_; intro w W; replace S := St.mk S W; clear W)
    (refine (then_normal (hK4 _ _ ?_)); clear hK4)
    refine st_else S (Ev.t rfl) ?_
    refine wp_skip ?_
    (refine (in_normal (then_normal (hK3 _ _ ?_))); clear hK3)
    refine wp_seq_k fun _ hK3 => ?_
    refine wp_region_lit ?_
    (refine st_y S (Yr.ys (ys_fieldN (FieldT.mk Try.underlying40 rfl Try.sizeOf34 rfl) (Ev.t rfl) (i' := 0) rfl)) rfl ?_; clear S a w; intro a w S)
    (refine st_y S (Yr.ys (ys_ld ⟨Try.isAgg34, Try.sizeOf34⟩ (Ev.t rfl) (k := 1) rfl rfl)) rfl ?_; clear S a w; intro a w S)
    (refine st_y S (Yr.ys (ys_move (Ev.t rfl))) rfl ?_; clear S a w; intro a w S)
    (refine st_y S (Yr.ys (ys_slHi Try.underlying34 Try.sizeOf74 (Ev.t rfl) (Ev.t rfl) (fun _ => by first | omega | (simp; done) | (simp; omega)))) rfl ?_; clear S a w; intro a w S)
    (refine st_y S (Yr.ys (ys_lenS Try.underlying34 (Ev.t rfl))) rfl ?_; clear S a w; intro a w S)
    (refine st_y S (Yr.ys (ys_move Ev.c)) rfl ?_; clear S a w; intro a w S)
    refine st_nil ?_
    (refine (then_normal (hK3 _ _ ?_)); clear hK3)
    refine wp_block ?_
    refine st_loopM S [6, 65] (X := Nat) (fun j => [(65, true, .int .i64 (j : Int))]) (fun _ => [.blk g2 (.cells (Ent.enc x).toArray 74), .blk g1 (.cells #[.slice (some ⟨g, o, none⟩) l.length cap, v2, v3] 40)])
      (fun j => j ≤ 0 ∧ x.dot ∉ (l.take j).map (·.dot)) (fun j => 0 - j) 0 ⟨Nat.zero_le _, by simp⟩ (by repeat (first | exact Fits.nil | refine Fits.skip rfl ?_ | refine Fits.cons rfl ?_)) (by repeat (first | exact Picks.nil | (refine Picks.rest ?_; (repeat (first | exact List.Sublist.refl _ | refine List.Sublist.cons_cons _ ?_ | refine List.Sublist.cons _ ?_)); done) | refine Picks.take 0 rfl ?_ | refine Picks.take 1 rfl ?_ | refine Picks.take 2 rfl ?_ | refine Picks.take 3 rfl ?_ | refine Picks.take 4 rfl ?_ | refine Picks.take 5 rfl ?_ | refine Picks.take 6 rfl ?_ | refine Picks.take 7 rfl ?_ | refine Picks.take 8 rfl ?_ | refine Picks.take 9 rfl ?_ | refine Picks.take 10 rfl ?_ | refine Picks.take 11 rfl ?_)) ?_
    clear S
    intro j a w ⟨hj, hdup⟩ S
    by_cases hjk : j < 0
    · obtain ⟨g3, o3, y, e3, hy, hdy, hcy⟩ := row_at hA (show j < l.length by omega)
      cases e3
      by_cases he : y.dot = x.dot
      · have hin : x.dot ∈ (l.take (0)).map (·.dot) := he ▸ dup_at hjk hy
        rw [if_neg hnb, if_pos hin] at he0
        rw [bad (by rw [he0]; decide), he0]
        have rw_e := decide_eq_true (dot_iff3.1 he)
        refine wp_seq_k fun _ hK3 => ?_
        refine wp_region_lit ?_
        (refine st_y S (Yr.ys (ys_T (by omega) (ys_lss (Ev.t rfl) (Ev.t rfl)))) rfl ?_; clear S a w; intro a w S)
        refine st_nil ?_
        (refine (then_normal (hK3 _ _ ?_)); clear hK3)
        refine wp_seq_k fun _ hK3 => ?_
        refine st_then S (Ev.t rfl) ?_
        refine wp_skip ?_
        (refine (then_normal (hK3 _ _ ?_)); clear hK3)
        refine wp_seq_k fun _ hK3 => ?_
        refine wp_block ?_
        refine wp_seq_k fun _ hK4 => ?_
        refine wp_region_lit ?_
        (refine st_y S (Yr.ys (ys_ixS Try.underlying34 Try.sizeOf74 (Ev.t rfl) (Ev.t rfl) (fun _ => by omega))) rfl ?_; clear S a w; intro a w S)
        (refine st_y S (Yr.ys (ys_ldOA ⟨Try.isAgg74, Try.sizeOf74⟩ (Ev.t rfl) (vs := [_, _, _, _, _, _]) rfl (fun _ => hcy))) rfl ?_; clear S a w; intro a w S)
        (refine st_m (op_alloc S Try.zeroValue74 (cs := _) rfl rfl ?_); clear S a w; intro g3 a w S)
        (refine st_m (op_stW S Try.sizeOf74 (Ev.t rfl) (Ev.t rfl) (k := 0) rfl rfl rfl (by simp [Value.oneCell']) ?_); clear S a w; intro a w S)
        refine st_nil ?_
        (refine (then_normal (hK4 _ _ ?_)); clear hK4)
        refine wp_seq_k fun _ hK4 => ?_
        refine wp_region_lit ?_
        (refine st_y S (Yr.ys (ys_fieldN (FieldT.mk Try.underlying74 rfl Try.sizeOf62 rfl) (Ev.t rfl) (i' := 1) rfl)) rfl ?_; clear S a w; intro a w S)
        (refine st_y S (Yr.ys (ys_ldA ⟨Try.isAgg62, Try.sizeOf62⟩ (Ev.t rfl) (k := 0) rfl rfl)) rfl ?_; clear S a w; intro a w S)
        (refine st_y S (Yr.ys (ys_fieldN (FieldT.mk Try.underlying74 rfl Try.sizeOf62 rfl) (Ev.t rfl) (i' := 1) rfl)) rfl ?_; clear S a w; intro a w S)
        (refine st_y S (Yr.ys (ys_ldA ⟨Try.isAgg62, Try.sizeOf62⟩ (Ev.t rfl) (k := 1) rfl rfl)) rfl ?_; clear S a w; intro a w S)
        (refine st_y S (Yr.ys (ys_eqA (Ev.t rfl) (Ev.t rfl) eq62)) rfl ?_; clear S a w; intro a w S)
        rw [rw_e] at S
        refine st_nil ?_
        (refine (then_normal (hK4 _ _ ?_)); clear hK4)
        refine st_then S (Ev.t rfl) ?_
        refine wp_seq_k fun _ hK4 => ?_
        refine wp_region_lit ?_
        (refine st_y S (Yr.ys (ys_assign Ev.c)) rfl ?_; clear S a w; intro a w S)
        refine st_nil ?_
        (refine (then_normal (hK4 _ _ ?_)); clear hK4)
        refine wp_ret ?_
        refine (in_ret (then_ret (then_ret (in_ret (in_ret (then_ret (then_ret (in_ret (then_ret ?_)))))))))
        refine st_ret S (results1 S Try.results20 (Rv.tmp rfl)) ?_
        exact ⟨rfl, S.wd.below⟩
      · have rw_e := decide_eq_false (fun h => he (dot_iff3.2 h))
        refine wp_seq_k fun _ hK3 => ?_
        refine wp_region_lit ?_
        (refine st_y S (Yr.ys (ys_T (by omega) (ys_lss (Ev.t rfl) (Ev.t rfl)))) rfl ?_; clear S a w; intro a w S)
        refine st_nil ?_
        (refine (then_normal (hK3 _ _ ?_)); clear hK3)
        refine wp_seq_k fun _ hK3 => ?_
        refine st_then S (Ev.t rfl) ?_
        refine wp_skip ?_
        (refine (then_normal (hK3 _ _ ?_)); clear hK3)
        refine wp_seq_k fun _ hK3 => ?_
        refine wp_block ?_
        refine wp_seq_k fun _ hK4 => ?_
        refine wp_region_lit ?_
        (refine st_y S (Yr.ys (ys_ixS Try.underlying34 Try.sizeOf74 (Ev.t rfl) (Ev.t rfl) (fun _ => by omega))) rfl ?_; clear S a w; intro a w S)
        (refine st_y S (Yr.ys (ys_ldOA ⟨Try.isAgg74, Try.sizeOf74⟩ (Ev.t rfl) (vs := [_, _, _, _, _, _]) rfl (fun _ => hcy))) rfl ?_; clear S a w; intro a w S)
        (refine st_m (op_alloc S Try.zeroValue74 (cs := _) rfl rfl ?_); clear S a w; intro g3 a w S)
        (refine st_m (op_stW S Try.sizeOf74 (Ev.t rfl) (Ev.t rfl) (k := 0) rfl rfl rfl (by simp [Value.oneCell']) ?_); clear S a w; intro a w S)
        refine st_nil ?_
        (refine (then_normal (hK4 _ _ ?_)); clear hK4)
        refine wp_seq_k fun _ hK4 => ?_
        refine wp_region_lit ?_
        (refine st_y S (Yr.ys (ys_fieldN (FieldT.mk Try.underlying74 rfl Try.sizeOf62 rfl) (Ev.t rfl) (i' := 1) rfl)) rfl ?_; clear S a w; intro a w S)
        (refine st_y S (Yr.ys (ys_ldA ⟨Try.isAgg62, Try.sizeOf62⟩ (Ev.t rfl) (k := 0) rfl rfl)) rfl ?_; clear S a w; intro a w S)
        (refine st_y S (Yr.ys (ys_fieldN (FieldT.mk Try.underlying74 rfl Try.sizeOf62 rfl) (Ev.t rfl) (i' := 1) rfl)) rfl ?_; clear S a w; intro a w S)
        (refine st_y S (Yr.ys (ys_ldA ⟨Try.isAgg62, Try.sizeOf62⟩ (Ev.t rfl) (k := 1) rfl rfl)) rfl ?_; clear S a w; intro a w S)
        (refine st_y S (Yr.ys (ys_eqA (Ev.t rfl) (Ev.t rfl) eq62)) rfl ?_; clear S a w; intro a w S)
        rw [rw_e] at S
        refine st_nil ?_
        (refine (then_normal (hK4 _ _ ?_)); clear hK4)
        refine st_else S (Ev.t rfl) ?_
        refine wp_skip ?_
        (refine (in_normal (then_normal (hK3 _ _ ?_))); clear hK3)
        refine wp_region_lit ?_
        (refine st_y S (Yr.ys (ys_addI (Ev.t rfl) Ev.c (fun _ => by unfold I64; omega))) rfl ?_; clear S a w; intro a w S)
        (refine st_y S (Yr.ys (ys_move (Ev.t rfl))) rfl ?_; clear S a w; intro a w S)
        refine st_nil ?_
        refine (then_normal ?_)
        exact ⟨j + 1, ⟨by omega, dup_step hy hdup he⟩, by omega, S.picks (by repeat (first | exact Fits.nil | refine Fits.skip rfl ?_ | refine Fits.cons rfl ?_)) (by repeat (first | exact Picks.nil | (refine Picks.rest ?_; (repeat (first | exact List.Sublist.refl _ | refine List.Sublist.cons_cons _ ?_ | refine List.Sublist.cons _ ?_)); done) | refine Picks.take 0 rfl ?_ | refine Picks.take 1 rfl ?_ | refine Picks.take 2 rfl ?_ | refine Picks.take 3 rfl ?_ | refine Picks.take 4 rfl ?_ | refine Picks.take 5 rfl ?_ | refine Picks.take 6 rfl ?_ | refine Picks.take 7 rfl ?_ | refine Picks.take 8 rfl ?_ | refine Picks.take 9 rfl ?_ | refine Picks.take 10 rfl ?_ | refine Picks.take 11 rfl ?_))⟩
    · obtain rfl : j = 0 := by omega
      rw [if_neg hnb, if_neg hdup] at he0
      rw [if_pos he0] at hst
      refine wp_seq_k fun _ hK3 => ?_
      refine wp_region_lit ?_
      (refine st_y S (Yr.ys (ys_F (by omega) (ys_lss (Ev.t rfl) (Ev.t rfl)))) rfl ?_; clear S a w; intro a w S)
      refine st_nil ?_
      (refine (then_normal (hK3 _ _ ?_)); clear hK3)
      refine wp_seq_k fun _ hK3 => ?_
      refine st_else S (Ev.t rfl) ?_
      refine wp_exit ?_
      (refine (then_exit (then_exit (in_here (in_normal (then_normal (hK2 _ _ ?_)))))); clear hK2)
      refine wp_region_lit ?_
      (refine st_y S (Yr.ys (ys_addI (Ev.t rfl) Ev.c (fun _ => by unfold I64; omega))) rfl ?_; clear S a w; intro a w S)
      (refine st_y S (Yr.ys (ys_move (Ev.t rfl))) rfl ?_; clear S a w; intro a w S)
      refine st_nil ?_
      refine (then_normal ?_)
      exact ⟨0 + 1, ⟨by omega, hst.symm⟩, by omega, S.picks (by repeat (first | exact Fits.nil | refine Fits.skip rfl ?_ | refine Fits.cons rfl ?_)) (by repeat (first | exact Picks.nil | (refine Picks.rest ?_; (repeat (first | exact List.Sublist.refl _ | refine List.Sublist.cons_cons _ ?_ | refine List.Sublist.cons _ ?_)); done) | refine Picks.take 0 rfl ?_ | refine Picks.take 1 rfl ?_ | refine Picks.take 2 rfl ?_ | refine Picks.take 3 rfl ?_ | refine Picks.take 4 rfl ?_ | refine Picks.take 5 rfl ?_ | refine Picks.take 6 rfl ?_ | refine Picks.take 7 rfl ?_ | refine Picks.take 8 rfl ?_ | refine Picks.take 9 rfl ?_ | refine Picks.take 10 rfl ?_ | refine Picks.take 11 rfl ?_))⟩
  obtain ⟨g4, o4, p, e4, hp, hdp, hcp⟩ := row_at hA (show k < l.length by omega)
  cases e4
  rw [take_last hp] at he0
  by_cases hlt2 : ltE p x
  · have hnb : ¬ (C.covers x.dot = false ∨ backE (some p) x = true) := by simp [rw_c, backE, hlt2]
    have rw_l : decide (ltE p x) = true := decide_eq_true hlt2
    refine wp_seq_k fun _ hK2 => ?_
    refine wp_region_lit ?_
    (refine st_y S (Yr.ys (ys_T (by omega) (ys_lss (Ev.t rfl) (Ev.t rfl)))) rfl ?_; clear S a w; intro a w S)
    refine st_nil ?_
    (refine (then_normal (hK2 _ _ ?_)); clear hK2)
    refine wp_seq_k fun _ hK2 => ?_
    refine st_then S (Ev.t rfl) ?_
    refine wp_skip ?_
    (refine (then_normal (hK2 _ _ ?_)); clear hK2)
    refine wp_seq_k fun _ hK2 => ?_
    refine wp_block ?_
    refine wp_seq_k fun _ hK3 => ?_
    refine wp_region_lit ?_
    (refine st_y S (Yr.ys (ys_move (Ev.t rfl))) rfl ?_; clear S a w; intro a w S)
    (refine st_y S (Yr.ys (ys_ixS Try.underlying34 Try.sizeOf74 (Ev.t rfl) (Ev.t rfl) (fun _ => by omega))) rfl ?_; clear S a w; intro a w S)
    (refine st_y S (Yr.ys (ys_ldOA ⟨Try.isAgg74, Try.sizeOf74⟩ (Ev.t rfl) (vs := [_, _, _, _, _, _]) rfl (fun _ => hc))) rfl ?_; clear S a w; intro a w S)
    (refine st_m (op_alloc S Try.zeroValue74 (cs := _) rfl rfl ?_); clear S a w; intro g2 a w S)
    (refine st_y S (Yr.ys (ys_assign (Ev.t rfl))) rfl ?_; clear S a w; intro a w S)
    (refine st_m (op_stW S Try.sizeOf74 (Ev.t rfl) (Ev.t rfl) (k := 0) rfl rfl rfl (by simp [Value.oneCell']) ?_); clear S a w; intro a w S)
    refine st_nil ?_
    (refine (then_normal (hK3 _ _ ?_)); clear hK3)
    refine wp_seq_k fun _ hK3 => ?_
    refine wp_block ?_
    refine wp_seq_k fun _ hK4 => ?_
    refine wp_region_lit ?_
    (refine st_y S (Yr.ys (ys_fieldN (FieldT.mk Try.underlying74 rfl Try.sizeOf9 rfl) (Ev.t rfl) (i' := 0) rfl)) rfl ?_; clear S a w; intro a w S)
    (refine st_y S (Yr.ys (ys_ld ⟨Try.isAgg9, Try.sizeOf9⟩ (Ev.t rfl) (k := 0) rfl rfl)) rfl ?_; clear S a w; intro a w S)
    (refine st_y S (ys_call Try.call49 (EvL.cons (Ev.t rfl) EvL.nil) (fun hp w W => c49 _ _)) rfl ?_; clear S a w; intro a w S)
    rw [rw_n] at S
    (refine st_y S (Yr.ys (ys_not (Ev.t rfl))) rfl ?_; clear S a w; intro a w S)
    (refine st_y S (Yr.ys (ys_assign (Ev.t rfl))) rfl ?_; clear S a w; intro a w S)
    refine st_nil ?_
    (refine (then_normal (hK4 _ _ ?_)); clear hK4)
    refine st_else S (Ev.t rfl) ?_
    refine wp_seq_k fun _ hK4 => ?_
    refine wp_region_lit ?_
    (refine st_y S (Yr.ys (ys_fieldN (FieldT.mk Try.underlying74 rfl Try.sizeOf3 rfl) (Ev.t rfl) (i' := 4) rfl)) rfl ?_; clear S a w; intro a w S)
    (refine st_y S (Yr.ys (ys_ld ⟨Try.isAgg3, Try.sizeOf3⟩ (Ev.t rfl) (k := 0) rfl rfl)) rfl ?_; clear S a w; intro a w S)
    (refine st_y S (ys_call Try.call50 (EvL.cons (Ev.t rfl) (EvL.cons Ev.c EvL.nil)) (fun hp w W => c50 _ _ _)) rfl ?_; clear S a w; intro a w S)
    rw [rw_q] at S
    (refine st_y S (Yr.ys (ys_not (Ev.t rfl))) rfl ?_; clear S a w; intro a w S)
    (refine st_y S (Yr.ys (ys_assign (Ev.t rfl))) rfl ?_; clear S a w; intro a w S)
    refine st_nil ?_
    (refine (then_normal (hK4 _ _ ?_)); clear hK4)
    refine st_else S (Ev.t rfl) ?_
    refine wp_seq_k fun _ hK4 => ?_
    refine wp_region_lit ?_
    (refine st_y S (Yr.ys (ys_fieldN (FieldT.mk Try.underlying74 rfl Try.sizeOf27 rfl) (Ev.t rfl) (i' := 5) rfl)) rfl ?_; clear S a w; intro a w S)
    (refine st_y S (Yr.ys (ys_ld ⟨Try.isAgg27, Try.sizeOf27⟩ (Ev.t rfl) (k := 0) rfl rfl)) rfl ?_; clear S a w; intro a w S)
    (refine st_y S (ys_call Try.call51 (EvL.cons (Ev.t rfl) EvL.nil) (fun hp w W => c51 _ _)) rfl ?_; clear S a w; intro a w S)
    rw [rw_p] at S
    (refine st_y S (Yr.ys (ys_not (Ev.t rfl))) rfl ?_; clear S a w; intro a w S)
    (refine st_y S (Yr.ys (ys_assign (Ev.t rfl))) rfl ?_; clear S a w; intro a w S)
    refine st_nil ?_
    (refine (then_normal (hK4 _ _ ?_)); clear hK4)
    refine st_else S (Ev.t rfl) ?_
    refine wp_seq_k fun _ hK4 => ?_
    (refine st_quiet S (by kernel_rfl) (by kernel_rfl) ?_; clear S w; intro a S)
    (refine q_y S (Yr.ys (ys_fieldN (FieldT.mk Try.underlying40 rfl Try.sizeOf38 rfl) (Ev.t rfl) (i' := 1) rfl)) rfl ?_; clear S a; intro a S)
    (refine q_y S (Yr.ys (ys_ldA ⟨Try.isAgg38, Try.sizeOf38⟩ (Ev.t rfl) (k := 1) rfl rfl)) rfl ?_; clear S a; intro a S)
    (refine q_y S (Yr.ys (ys_fieldN (FieldT.mk Try.underlying74 rfl Try.sizeOf62 rfl) (Ev.t rfl) (i' := 1) rfl)) rfl ?_; clear S a; intro a S)
    (refine q_y S (Yr.ys (ys_ldA ⟨Try.isAgg62, Try.sizeOf62⟩ (Ev.t rfl) (k := 0) rfl rfl)) rfl ?_; clear S a; intro a S)
    (refine q_y S (ys_call Try.call52 (EvL.cons (Ev.t rfl) (EvL.cons (Ev.t rfl) EvL.nil)) (fun hp w W => c52 _ _ _ _ _ _ _ (by exact .old W (by assumption)))) rfl ?_; clear S a; intro a S)
    rw [rw_cov] at S
    rw [rw_c] at S
    (refine q_y S (Yr.ys (ys_not (Ev.t rfl))) rfl ?_; clear S a; intro a S)
    (refine q_y S (Yr.ys (ys_move (Ev.t rfl))) rfl ?_; clear S a; intro a S)
    (refine q_yt S rfl rfl (Yr.ys (ys_move (Ev.t rfl))) rfl ?_; clear S a; intro a S)
    (refine q_yt S rfl rfl (Yr.ys (ys_T (by omega) (ys_gtr (Ev.t rfl) Ev.c))) rfl ?_; clear S a; intro a S)
    (refine q_yt S rfl rfl (Yr.ys (ys_move (Ev.t rfl))) rfl ?_; clear S a; intro a S)
    (refine q_yt S rfl rfl (Yr.ys (ys_ldA ⟨Try.isAgg74, Try.sizeOf74⟩ (Ev.t rfl) (k := 0) rfl rfl)) rfl ?_; clear S a; intro a S)
    (refine q_yt S rfl rfl (Yr.ys (ys_fieldN (FieldT.mk Try.underlying40 rfl Try.sizeOf34 rfl) (Ev.t rfl) (i' := 0) rfl)) rfl ?_; clear S a; intro a S)
    (refine q_yt S rfl rfl (Yr.ys (ys_ld ⟨Try.isAgg34, Try.sizeOf34⟩ (Ev.t rfl) (k := 1) rfl rfl)) rfl ?_; clear S a; intro a S)
    (refine q_yt S rfl rfl (Yr.ys (ys_move (Ev.t rfl))) rfl ?_; clear S a; intro a S)
    (refine q_yt S rfl rfl (Yr.ys (ys_pred (Ev.t rfl) Ev.c (by omega))) rfl ?_; clear S a; intro a S)
    (refine q_yt S rfl rfl (Yr.ys (ys_ixS Try.underlying34 Try.sizeOf74 (Ev.t rfl) (Ev.t rfl) (fun _ => by omega))) rfl ?_; clear S a; intro a S)
    (refine q_yt S rfl rfl (Yr.ys (ys_ldOA ⟨Try.isAgg74, Try.sizeOf74⟩ (Ev.t rfl) (vs := [_, _, _, _, _, _]) rfl (fun _ => hcp))) rfl ?_; clear S a; intro a S)
    (refine q_yt S rfl rfl (ys_call Try.call53 (EvL.cons (Ev.t rfl) (EvL.cons (Ev.t rfl) EvL.nil)) (fun hp w W => c53 _ _ _)) rfl ?_; clear S a; intro a S)
    rw [rw_l] at S
    (refine q_yt S rfl rfl (Yr.ys (ys_not (Ev.t rfl))) rfl ?_; clear S a; intro a S)
    (refine q_yt S rfl rfl (Yr.ys (ys_pickT (Ev.t rfl) (Ev.t rfl))) rfl ?_; clear S a; intro a S)
    (refine q_y S (Yr.ys (ys_pickF (Ev.t rfl) (Ev.t rfl))) rfl ?_; clear S a; intro a S)
    (refine q_y S (Yr.ys (ys_assign (Ev.t rfl))) rfl ?_; clear S a; intro a S)
    (refine q_nil ?_; intro w W; replace S := St.mk S W; clear W)
    (refine (then_normal (hK4 _ _ ?_)); clear hK4)
    refine st_else S (Ev.t rfl) ?_
    refine wp_skip ?_
    (refine (in_normal (then_normal (hK3 _ _ ?_))); clear hK3)
    refine wp_seq_k fun _ hK3 => ?_
    refine wp_region_lit ?_
    (refine st_y S (Yr.ys (ys_fieldN (FieldT.mk Try.underlying40 rfl Try.sizeOf34 rfl) (Ev.t rfl) (i' := 0) rfl)) rfl ?_; clear S a w; intro a w S)
    (refine st_y S (Yr.ys (ys_ld ⟨Try.isAgg34, Try.sizeOf34⟩ (Ev.t rfl) (k := 1) rfl rfl)) rfl ?_; clear S a w; intro a w S)
    (refine st_y S (Yr.ys (ys_move (Ev.t rfl))) rfl ?_; clear S a w; intro a w S)
    (refine st_y S (Yr.ys (ys_slHi Try.underlying34 Try.sizeOf74 (Ev.t rfl) (Ev.t rfl) (fun _ => by first | omega | (simp; done) | (simp; omega)))) rfl ?_; clear S a w; intro a w S)
    (refine st_y S (Yr.ys (ys_lenS Try.underlying34 (Ev.t rfl))) rfl ?_; clear S a w; intro a w S)
    (refine st_y S (Yr.ys (ys_move Ev.c)) rfl ?_; clear S a w; intro a w S)
    refine st_nil ?_
    (refine (then_normal (hK3 _ _ ?_)); clear hK3)
    refine wp_block ?_
    refine st_loopM S [6, 65] (X := Nat) (fun j => [(65, true, .int .i64 (j : Int))]) (fun _ => [.blk g2 (.cells (Ent.enc x).toArray 74), .blk g1 (.cells #[.slice (some ⟨g, o, none⟩) l.length cap, v2, v3] 40)])
      (fun j => j ≤ (k + 1) ∧ x.dot ∉ (l.take j).map (·.dot)) (fun j => (k + 1) - j) 0 ⟨Nat.zero_le _, by simp⟩ (by repeat (first | exact Fits.nil | refine Fits.skip rfl ?_ | refine Fits.cons rfl ?_)) (by repeat (first | exact Picks.nil | (refine Picks.rest ?_; (repeat (first | exact List.Sublist.refl _ | refine List.Sublist.cons_cons _ ?_ | refine List.Sublist.cons _ ?_)); done) | refine Picks.take 0 rfl ?_ | refine Picks.take 1 rfl ?_ | refine Picks.take 2 rfl ?_ | refine Picks.take 3 rfl ?_ | refine Picks.take 4 rfl ?_ | refine Picks.take 5 rfl ?_ | refine Picks.take 6 rfl ?_ | refine Picks.take 7 rfl ?_ | refine Picks.take 8 rfl ?_ | refine Picks.take 9 rfl ?_ | refine Picks.take 10 rfl ?_ | refine Picks.take 11 rfl ?_)) ?_
    clear S
    intro j a w ⟨hj, hdup⟩ S
    by_cases hjk : j < (k + 1)
    · obtain ⟨g3, o3, y, e3, hy, hdy, hcy⟩ := row_at hA (show j < l.length by omega)
      cases e3
      by_cases he : y.dot = x.dot
      · have hin : x.dot ∈ (l.take ((k + 1))).map (·.dot) := he ▸ dup_at hjk hy
        rw [if_neg hnb, if_pos hin] at he0
        rw [bad (by rw [he0]; decide), he0]
        have rw_e := decide_eq_true (dot_iff3.1 he)
        refine wp_seq_k fun _ hK3 => ?_
        refine wp_region_lit ?_
        (refine st_y S (Yr.ys (ys_T (by omega) (ys_lss (Ev.t rfl) (Ev.t rfl)))) rfl ?_; clear S a w; intro a w S)
        refine st_nil ?_
        (refine (then_normal (hK3 _ _ ?_)); clear hK3)
        refine wp_seq_k fun _ hK3 => ?_
        refine st_then S (Ev.t rfl) ?_
        refine wp_skip ?_
        (refine (then_normal (hK3 _ _ ?_)); clear hK3)
        refine wp_seq_k fun _ hK3 => ?_
        refine wp_block ?_
        refine wp_seq_k fun _ hK4 => ?_
        refine wp_region_lit ?_
        (refine st_y S (Yr.ys (ys_ixS Try.underlying34 Try.sizeOf74 (Ev.t rfl) (Ev.t rfl) (fun _ => by omega))) rfl ?_; clear S a w; intro a w S)
        (refine st_y S (Yr.ys (ys_ldOA ⟨Try.isAgg74, Try.sizeOf74⟩ (Ev.t rfl) (vs := [_, _, _, _, _, _]) rfl (fun _ => hcy))) rfl ?_; clear S a w; intro a w S)
        (refine st_m (op_alloc S Try.zeroValue74 (cs := _) rfl rfl ?_); clear S a w; intro g3 a w S)
        (refine st_m (op_stW S Try.sizeOf74 (Ev.t rfl) (Ev.t rfl) (k := 0) rfl rfl rfl (by simp [Value.oneCell']) ?_); clear S a w; intro a w S)
        refine st_nil ?_
        (refine (then_normal (hK4 _ _ ?_)); clear hK4)
        refine wp_seq_k fun _ hK4 => ?_
        refine wp_region_lit ?_
        (refine st_y S (Yr.ys (ys_fieldN (FieldT.mk Try.underlying74 rfl Try.sizeOf62 rfl) (Ev.t rfl) (i' := 1) rfl)) rfl ?_; clear S a w; intro a w S)
        (refine st_y S (Yr.ys (ys_ldA ⟨Try.isAgg62, Try.sizeOf62⟩ (Ev.t rfl) (k := 0) rfl rfl)) rfl ?_; clear S a w; intro a w S)
        (refine st_y S (Yr.ys (ys_fieldN (FieldT.mk Try.underlying74 rfl Try.sizeOf62 rfl) (Ev.t rfl) (i' := 1) rfl)) rfl ?_; clear S a w; intro a w S)
        (refine st_y S (Yr.ys (ys_ldA ⟨Try.isAgg62, Try.sizeOf62⟩ (Ev.t rfl) (k := 1) rfl rfl)) rfl ?_; clear S a w; intro a w S)
        (refine st_y S (Yr.ys (ys_eqA (Ev.t rfl) (Ev.t rfl) eq62)) rfl ?_; clear S a w; intro a w S)
        rw [rw_e] at S
        refine st_nil ?_
        (refine (then_normal (hK4 _ _ ?_)); clear hK4)
        refine st_then S (Ev.t rfl) ?_
        refine wp_seq_k fun _ hK4 => ?_
        refine wp_region_lit ?_
        (refine st_y S (Yr.ys (ys_assign Ev.c)) rfl ?_; clear S a w; intro a w S)
        refine st_nil ?_
        (refine (then_normal (hK4 _ _ ?_)); clear hK4)
        refine wp_ret ?_
        refine (in_ret (then_ret (then_ret (in_ret (in_ret (then_ret (then_ret (in_ret (then_ret ?_)))))))))
        refine st_ret S (results1 S Try.results20 (Rv.tmp rfl)) ?_
        exact ⟨rfl, S.wd.below⟩
      · have rw_e := decide_eq_false (fun h => he (dot_iff3.2 h))
        refine wp_seq_k fun _ hK3 => ?_
        refine wp_region_lit ?_
        (refine st_y S (Yr.ys (ys_T (by omega) (ys_lss (Ev.t rfl) (Ev.t rfl)))) rfl ?_; clear S a w; intro a w S)
        refine st_nil ?_
        (refine (then_normal (hK3 _ _ ?_)); clear hK3)
        refine wp_seq_k fun _ hK3 => ?_
        refine st_then S (Ev.t rfl) ?_
        refine wp_skip ?_
        (refine (then_normal (hK3 _ _ ?_)); clear hK3)
        refine wp_seq_k fun _ hK3 => ?_
        refine wp_block ?_
        refine wp_seq_k fun _ hK4 => ?_
        refine wp_region_lit ?_
        (refine st_y S (Yr.ys (ys_ixS Try.underlying34 Try.sizeOf74 (Ev.t rfl) (Ev.t rfl) (fun _ => by omega))) rfl ?_; clear S a w; intro a w S)
        (refine st_y S (Yr.ys (ys_ldOA ⟨Try.isAgg74, Try.sizeOf74⟩ (Ev.t rfl) (vs := [_, _, _, _, _, _]) rfl (fun _ => hcy))) rfl ?_; clear S a w; intro a w S)
        (refine st_m (op_alloc S Try.zeroValue74 (cs := _) rfl rfl ?_); clear S a w; intro g3 a w S)
        (refine st_m (op_stW S Try.sizeOf74 (Ev.t rfl) (Ev.t rfl) (k := 0) rfl rfl rfl (by simp [Value.oneCell']) ?_); clear S a w; intro a w S)
        refine st_nil ?_
        (refine (then_normal (hK4 _ _ ?_)); clear hK4)
        refine wp_seq_k fun _ hK4 => ?_
        refine wp_region_lit ?_
        (refine st_y S (Yr.ys (ys_fieldN (FieldT.mk Try.underlying74 rfl Try.sizeOf62 rfl) (Ev.t rfl) (i' := 1) rfl)) rfl ?_; clear S a w; intro a w S)
        (refine st_y S (Yr.ys (ys_ldA ⟨Try.isAgg62, Try.sizeOf62⟩ (Ev.t rfl) (k := 0) rfl rfl)) rfl ?_; clear S a w; intro a w S)
        (refine st_y S (Yr.ys (ys_fieldN (FieldT.mk Try.underlying74 rfl Try.sizeOf62 rfl) (Ev.t rfl) (i' := 1) rfl)) rfl ?_; clear S a w; intro a w S)
        (refine st_y S (Yr.ys (ys_ldA ⟨Try.isAgg62, Try.sizeOf62⟩ (Ev.t rfl) (k := 1) rfl rfl)) rfl ?_; clear S a w; intro a w S)
        (refine st_y S (Yr.ys (ys_eqA (Ev.t rfl) (Ev.t rfl) eq62)) rfl ?_; clear S a w; intro a w S)
        rw [rw_e] at S
        refine st_nil ?_
        (refine (then_normal (hK4 _ _ ?_)); clear hK4)
        refine st_else S (Ev.t rfl) ?_
        refine wp_skip ?_
        (refine (in_normal (then_normal (hK3 _ _ ?_))); clear hK3)
        refine wp_region_lit ?_
        (refine st_y S (Yr.ys (ys_addI (Ev.t rfl) Ev.c (fun _ => by unfold I64; omega))) rfl ?_; clear S a w; intro a w S)
        (refine st_y S (Yr.ys (ys_move (Ev.t rfl))) rfl ?_; clear S a w; intro a w S)
        refine st_nil ?_
        refine (then_normal ?_)
        exact ⟨j + 1, ⟨by omega, dup_step hy hdup he⟩, by omega, S.picks (by repeat (first | exact Fits.nil | refine Fits.skip rfl ?_ | refine Fits.cons rfl ?_)) (by repeat (first | exact Picks.nil | (refine Picks.rest ?_; (repeat (first | exact List.Sublist.refl _ | refine List.Sublist.cons_cons _ ?_ | refine List.Sublist.cons _ ?_)); done) | refine Picks.take 0 rfl ?_ | refine Picks.take 1 rfl ?_ | refine Picks.take 2 rfl ?_ | refine Picks.take 3 rfl ?_ | refine Picks.take 4 rfl ?_ | refine Picks.take 5 rfl ?_ | refine Picks.take 6 rfl ?_ | refine Picks.take 7 rfl ?_ | refine Picks.take 8 rfl ?_ | refine Picks.take 9 rfl ?_ | refine Picks.take 10 rfl ?_ | refine Picks.take 11 rfl ?_))⟩
    · obtain rfl : j = (k + 1) := by omega
      rw [if_neg hnb, if_neg hdup] at he0
      rw [if_pos he0] at hst
      refine wp_seq_k fun _ hK3 => ?_
      refine wp_region_lit ?_
      (refine st_y S (Yr.ys (ys_F (by omega) (ys_lss (Ev.t rfl) (Ev.t rfl)))) rfl ?_; clear S a w; intro a w S)
      refine st_nil ?_
      (refine (then_normal (hK3 _ _ ?_)); clear hK3)
      refine wp_seq_k fun _ hK3 => ?_
      refine st_else S (Ev.t rfl) ?_
      refine wp_exit ?_
      (refine (then_exit (then_exit (in_here (in_normal (then_normal (hK2 _ _ ?_)))))); clear hK2)
      refine wp_region_lit ?_
      (refine st_y S (Yr.ys (ys_addI (Ev.t rfl) Ev.c (fun _ => by unfold I64; omega))) rfl ?_; clear S a w; intro a w S)
      (refine st_y S (Yr.ys (ys_move (Ev.t rfl))) rfl ?_; clear S a w; intro a w S)
      refine st_nil ?_
      refine (then_normal ?_)
      exact ⟨(k + 1) + 1, ⟨by omega, hst.symm⟩, by omega, S.picks (by repeat (first | exact Fits.nil | refine Fits.skip rfl ?_ | refine Fits.cons rfl ?_)) (by repeat (first | exact Picks.nil | (refine Picks.rest ?_; (repeat (first | exact List.Sublist.refl _ | refine List.Sublist.cons_cons _ ?_ | refine List.Sublist.cons _ ?_)); done) | refine Picks.take 0 rfl ?_ | refine Picks.take 1 rfl ?_ | refine Picks.take 2 rfl ?_ | refine Picks.take 3 rfl ?_ | refine Picks.take 4 rfl ?_ | refine Picks.take 5 rfl ?_ | refine Picks.take 6 rfl ?_ | refine Picks.take 7 rfl ?_ | refine Picks.take 8 rfl ?_ | refine Picks.take 9 rfl ?_ | refine Picks.take 10 rfl ?_ | refine Picks.take 11 rfl ?_))⟩
  · rw [if_pos (.inr (by simp [backE, hlt2]))] at he0
    rw [bad (by rw [he0]; decide), he0]
    have rw_l : decide (ltE p x) = false := decide_eq_false hlt2
    refine wp_seq_k fun _ hK2 => ?_
    refine wp_region_lit ?_
    (refine st_y S (Yr.ys (ys_T (by omega) (ys_lss (Ev.t rfl) (Ev.t rfl)))) rfl ?_; clear S a w; intro a w S)
    refine st_nil ?_
    (refine (then_normal (hK2 _ _ ?_)); clear hK2)
    refine wp_seq_k fun _ hK2 => ?_
    refine st_then S (Ev.t rfl) ?_
    refine wp_skip ?_
    (refine (then_normal (hK2 _ _ ?_)); clear hK2)
    refine wp_seq_k fun _ hK2 => ?_
    refine wp_block ?_
    refine wp_seq_k fun _ hK3 => ?_
    refine wp_region_lit ?_
    (refine st_y S (Yr.ys (ys_move (Ev.t rfl))) rfl ?_; clear S a w; intro a w S)
    (refine st_y S (Yr.ys (ys_ixS Try.underlying34 Try.sizeOf74 (Ev.t rfl) (Ev.t rfl) (fun _ => by omega))) rfl ?_; clear S a w; intro a w S)
    (refine st_y S (Yr.ys (ys_ldOA ⟨Try.isAgg74, Try.sizeOf74⟩ (Ev.t rfl) (vs := [_, _, _, _, _, _]) rfl (fun _ => hc))) rfl ?_; clear S a w; intro a w S)
    (refine st_m (op_alloc S Try.zeroValue74 (cs := _) rfl rfl ?_); clear S a w; intro g2 a w S)
    (refine st_y S (Yr.ys (ys_assign (Ev.t rfl))) rfl ?_; clear S a w; intro a w S)
    (refine st_m (op_stW S Try.sizeOf74 (Ev.t rfl) (Ev.t rfl) (k := 0) rfl rfl rfl (by simp [Value.oneCell']) ?_); clear S a w; intro a w S)
    refine st_nil ?_
    (refine (then_normal (hK3 _ _ ?_)); clear hK3)
    refine wp_seq_k fun _ hK3 => ?_
    refine wp_block ?_
    refine wp_seq_k fun _ hK4 => ?_
    refine wp_region_lit ?_
    (refine st_y S (Yr.ys (ys_fieldN (FieldT.mk Try.underlying74 rfl Try.sizeOf9 rfl) (Ev.t rfl) (i' := 0) rfl)) rfl ?_; clear S a w; intro a w S)
    (refine st_y S (Yr.ys (ys_ld ⟨Try.isAgg9, Try.sizeOf9⟩ (Ev.t rfl) (k := 0) rfl rfl)) rfl ?_; clear S a w; intro a w S)
    (refine st_y S (ys_call Try.call49 (EvL.cons (Ev.t rfl) EvL.nil) (fun hp w W => c49 _ _)) rfl ?_; clear S a w; intro a w S)
    rw [rw_n] at S
    (refine st_y S (Yr.ys (ys_not (Ev.t rfl))) rfl ?_; clear S a w; intro a w S)
    (refine st_y S (Yr.ys (ys_assign (Ev.t rfl))) rfl ?_; clear S a w; intro a w S)
    refine st_nil ?_
    (refine (then_normal (hK4 _ _ ?_)); clear hK4)
    refine st_else S (Ev.t rfl) ?_
    refine wp_seq_k fun _ hK4 => ?_
    refine wp_region_lit ?_
    (refine st_y S (Yr.ys (ys_fieldN (FieldT.mk Try.underlying74 rfl Try.sizeOf3 rfl) (Ev.t rfl) (i' := 4) rfl)) rfl ?_; clear S a w; intro a w S)
    (refine st_y S (Yr.ys (ys_ld ⟨Try.isAgg3, Try.sizeOf3⟩ (Ev.t rfl) (k := 0) rfl rfl)) rfl ?_; clear S a w; intro a w S)
    (refine st_y S (ys_call Try.call50 (EvL.cons (Ev.t rfl) (EvL.cons Ev.c EvL.nil)) (fun hp w W => c50 _ _ _)) rfl ?_; clear S a w; intro a w S)
    rw [rw_q] at S
    (refine st_y S (Yr.ys (ys_not (Ev.t rfl))) rfl ?_; clear S a w; intro a w S)
    (refine st_y S (Yr.ys (ys_assign (Ev.t rfl))) rfl ?_; clear S a w; intro a w S)
    refine st_nil ?_
    (refine (then_normal (hK4 _ _ ?_)); clear hK4)
    refine st_else S (Ev.t rfl) ?_
    refine wp_seq_k fun _ hK4 => ?_
    refine wp_region_lit ?_
    (refine st_y S (Yr.ys (ys_fieldN (FieldT.mk Try.underlying74 rfl Try.sizeOf27 rfl) (Ev.t rfl) (i' := 5) rfl)) rfl ?_; clear S a w; intro a w S)
    (refine st_y S (Yr.ys (ys_ld ⟨Try.isAgg27, Try.sizeOf27⟩ (Ev.t rfl) (k := 0) rfl rfl)) rfl ?_; clear S a w; intro a w S)
    (refine st_y S (ys_call Try.call51 (EvL.cons (Ev.t rfl) EvL.nil) (fun hp w W => c51 _ _)) rfl ?_; clear S a w; intro a w S)
    rw [rw_p] at S
    (refine st_y S (Yr.ys (ys_not (Ev.t rfl))) rfl ?_; clear S a w; intro a w S)
    (refine st_y S (Yr.ys (ys_assign (Ev.t rfl))) rfl ?_; clear S a w; intro a w S)
    refine st_nil ?_
    (refine (then_normal (hK4 _ _ ?_)); clear hK4)
    refine st_else S (Ev.t rfl) ?_
    refine wp_seq_k fun _ hK4 => ?_
    (refine st_quiet S (by kernel_rfl) (by kernel_rfl) ?_; clear S w; intro a S)
    (refine q_y S (Yr.ys (ys_fieldN (FieldT.mk Try.underlying40 rfl Try.sizeOf38 rfl) (Ev.t rfl) (i' := 1) rfl)) rfl ?_; clear S a; intro a S)
    (refine q_y S (Yr.ys (ys_ldA ⟨Try.isAgg38, Try.sizeOf38⟩ (Ev.t rfl) (k := 1) rfl rfl)) rfl ?_; clear S a; intro a S)
    (refine q_y S (Yr.ys (ys_fieldN (FieldT.mk Try.underlying74 rfl Try.sizeOf62 rfl) (Ev.t rfl) (i' := 1) rfl)) rfl ?_; clear S a; intro a S)
    (refine q_y S (Yr.ys (ys_ldA ⟨Try.isAgg62, Try.sizeOf62⟩ (Ev.t rfl) (k := 0) rfl rfl)) rfl ?_; clear S a; intro a S)
    (refine q_y S (ys_call Try.call52 (EvL.cons (Ev.t rfl) (EvL.cons (Ev.t rfl) EvL.nil)) (fun hp w W => c52 _ _ _ _ _ _ _ (by exact .old W (by assumption)))) rfl ?_; clear S a; intro a S)
    rw [rw_cov] at S
    rw [rw_c] at S
    (refine q_y S (Yr.ys (ys_not (Ev.t rfl))) rfl ?_; clear S a; intro a S)
    (refine q_y S (Yr.ys (ys_move (Ev.t rfl))) rfl ?_; clear S a; intro a S)
    (refine q_yt S rfl rfl (Yr.ys (ys_move (Ev.t rfl))) rfl ?_; clear S a; intro a S)
    (refine q_yt S rfl rfl (Yr.ys (ys_T (by omega) (ys_gtr (Ev.t rfl) Ev.c))) rfl ?_; clear S a; intro a S)
    (refine q_yt S rfl rfl (Yr.ys (ys_move (Ev.t rfl))) rfl ?_; clear S a; intro a S)
    (refine q_yt S rfl rfl (Yr.ys (ys_ldA ⟨Try.isAgg74, Try.sizeOf74⟩ (Ev.t rfl) (k := 0) rfl rfl)) rfl ?_; clear S a; intro a S)
    (refine q_yt S rfl rfl (Yr.ys (ys_fieldN (FieldT.mk Try.underlying40 rfl Try.sizeOf34 rfl) (Ev.t rfl) (i' := 0) rfl)) rfl ?_; clear S a; intro a S)
    (refine q_yt S rfl rfl (Yr.ys (ys_ld ⟨Try.isAgg34, Try.sizeOf34⟩ (Ev.t rfl) (k := 1) rfl rfl)) rfl ?_; clear S a; intro a S)
    (refine q_yt S rfl rfl (Yr.ys (ys_move (Ev.t rfl))) rfl ?_; clear S a; intro a S)
    (refine q_yt S rfl rfl (Yr.ys (ys_pred (Ev.t rfl) Ev.c (by omega))) rfl ?_; clear S a; intro a S)
    (refine q_yt S rfl rfl (Yr.ys (ys_ixS Try.underlying34 Try.sizeOf74 (Ev.t rfl) (Ev.t rfl) (fun _ => by omega))) rfl ?_; clear S a; intro a S)
    (refine q_yt S rfl rfl (Yr.ys (ys_ldOA ⟨Try.isAgg74, Try.sizeOf74⟩ (Ev.t rfl) (vs := [_, _, _, _, _, _]) rfl (fun _ => hcp))) rfl ?_; clear S a; intro a S)
    (refine q_yt S rfl rfl (ys_call Try.call53 (EvL.cons (Ev.t rfl) (EvL.cons (Ev.t rfl) EvL.nil)) (fun hp w W => c53 _ _ _)) rfl ?_; clear S a; intro a S)
    rw [rw_l] at S
    (refine q_yt S rfl rfl (Yr.ys (ys_not (Ev.t rfl))) rfl ?_; clear S a; intro a S)
    (refine q_yt S rfl rfl (Yr.ys (ys_pickT (Ev.t rfl) (Ev.t rfl))) rfl ?_; clear S a; intro a S)
    (refine q_y S (Yr.ys (ys_pickF (Ev.t rfl) (Ev.t rfl))) rfl ?_; clear S a; intro a S)
    (refine q_y S (Yr.ys (ys_assign (Ev.t rfl))) rfl ?_; clear S a; intro a S)
    (refine q_nil ?_; intro w W; replace S := St.mk S W; clear W)
    (refine (then_normal (hK4 _ _ ?_)); clear hK4)
    refine st_then S (Ev.t rfl) ?_
    refine wp_seq_k fun _ hK4 => ?_
    refine wp_region_lit ?_
    (refine st_y S (Yr.ys (ys_assign Ev.c)) rfl ?_; clear S a w; intro a w S)
    refine st_nil ?_
    (refine (then_normal (hK4 _ _ ?_)); clear hK4)
    refine wp_ret ?_
    refine (in_ret (then_ret (in_ret (then_ret (then_ret (in_ret (then_ret ?_)))))))
    refine st_ret S (results1 S Try.results20 (Rv.tmp rfl)) ?_
    exact ⟨rfl, S.wd.below⟩
end Go.Proofs.Ytfblmkocmnbdcaa
set_option linter.unusedVariables false
set_option linter.unusedSimpArgs false
set_option maxRecDepth 100000
namespace Go.Proofs.Ytfblmkocmnbdcaa
open Go.Fw Go.Proofs Go.RowKit
theorem c110 (w0 : World) (x : Int) : Calls Try.prog 110 #[.int .i64 x] w0 fun e w' => e = .returned (.bool (decide (0 ≤ x) && decide (x < 8))) ∧ Bel w0.heap.size w0 w' := by
  refine enter1 Try.func110 rfl Try.ntmps110 rfl fun a S => ?_
  refine wp_seq_k fun _ hK1 => ?_
  refine wp_region_lit ?_
  (refine st_y S (Yr.ys (ys_assign Ev.c)) rfl ?_; clear S a; intro a w S)
  refine st_nil ?_
  (refine (then_normal (hK1 _ _ ?_)); clear hK1)
  refine wp_seq_k fun _ hK1 => ?_
  refine wp_region_lit ?_
  (refine st_y S (Yr.ys (ys_move (Ev.t rfl))) rfl ?_; clear S a w; intro a w S)
  (refine st_y S (Yr.ys (ys_geq (Ev.t rfl) Ev.c)) rfl ?_; clear S a w; intro a w S)
  (refine st_y S (Yr.ys (ys_move (Ev.t rfl))) rfl ?_; clear S a w; intro a w S)
  (refine st_yg S rfl rfl (Yr.ys (ys_move (Ev.t rfl))) rfl ?_; clear S a w; intro a w S)
  (refine st_yg S rfl rfl (Yr.ys (ys_lss (Ev.g rfl) Ev.c)) rfl ?_; clear S a w; intro a w S)
  (refine st_y S (Yr.ys (ys_and (Ev.t rfl) (Ev.g rfl) Ev.c)) rfl ?_; clear S a w; intro a w S)
  (refine st_y S (Yr.ys (ys_assign (Ev.t rfl))) rfl ?_; clear S a w; intro a w S)
  refine st_nil ?_
  (refine (then_normal (hK1 _ _ ?_)); clear hK1)
  refine wp_ret ?_
  refine st_ret S (results1 S Try.results110 (Rv.tmp rfl)) ?_
  exact ⟨rfl, S.wd.below⟩
theorem c111 (w0 : World) (x : Int) : Calls Try.prog 111 #[.int .i64 x] w0 fun e w' => e = .returned (.bool (decide (1 ≤ x) && decide (x ≤ 1099511627776))) ∧ Bel w0.heap.size w0 w' := by
  refine enter1 Try.func111 rfl Try.ntmps111 rfl fun a S => ?_
  refine wp_seq_k fun _ hK1 => ?_
  refine wp_region_lit ?_
  (refine st_y S (Yr.ys (ys_assign Ev.c)) rfl ?_; clear S a; intro a w S)
  refine st_nil ?_
  (refine (then_normal (hK1 _ _ ?_)); clear hK1)
  refine wp_seq_k fun _ hK1 => ?_
  refine wp_region_lit ?_
  (refine st_y S (Yr.ys (ys_move (Ev.t rfl))) rfl ?_; clear S a w; intro a w S)
  (refine st_y S (Yr.ys (ys_geq (Ev.t rfl) Ev.c)) rfl ?_; clear S a w; intro a w S)
  (refine st_y S (Yr.ys (ys_move (Ev.t rfl))) rfl ?_; clear S a w; intro a w S)
  (refine st_yg S rfl rfl (Yr.ys (ys_move (Ev.t rfl))) rfl ?_; clear S a w; intro a w S)
  (refine st_yg S rfl rfl (Yr.ys (ys_leq (Ev.g rfl) Ev.c)) rfl ?_; clear S a w; intro a w S)
  (refine st_y S (Yr.ys (ys_and (Ev.t rfl) (Ev.g rfl) Ev.c)) rfl ?_; clear S a w; intro a w S)
  (refine st_y S (Yr.ys (ys_assign (Ev.t rfl))) rfl ?_; clear S a w; intro a w S)
  refine st_nil ?_
  (refine (then_normal (hK1 _ _ ?_)); clear hK1)
  refine wp_ret ?_
  refine st_ret S (results1 S Try.results111 (Rv.tmp rfl)) ?_
  exact ⟨rfl, S.wd.below⟩
theorem c112 (w0 : World) (x : Int) : Calls Try.prog 112 #[.int .i64 x] w0 fun e w' => e = .returned (.bool (decide (1 ≤ x) && decide (x ≤ 1099511627776))) ∧ Bel w0.heap.size w0 w' := by
  refine enter1 Try.func112 rfl Try.ntmps112 rfl fun a S => ?_
  refine wp_seq_k fun _ hK1 => ?_
  refine wp_region_lit ?_
  (refine st_y S (Yr.ys (ys_assign Ev.c)) rfl ?_; clear S a; intro a w S)
  refine st_nil ?_
  (refine (then_normal (hK1 _ _ ?_)); clear hK1)
  refine wp_seq_k fun _ hK1 => ?_
  refine wp_region_lit ?_
  (refine st_y S (Yr.ys (ys_move (Ev.t rfl))) rfl ?_; clear S a w; intro a w S)
  (refine st_y S (Yr.ys (ys_geq (Ev.t rfl) Ev.c)) rfl ?_; clear S a w; intro a w S)
  (refine st_y S (Yr.ys (ys_move (Ev.t rfl))) rfl ?_; clear S a w; intro a w S)
  (refine st_yg S rfl rfl (Yr.ys (ys_move (Ev.t rfl))) rfl ?_; clear S a w; intro a w S)
  (refine st_yg S rfl rfl (Yr.ys (ys_leq (Ev.g rfl) Ev.c)) rfl ?_; clear S a w; intro a w S)
  (refine st_y S (Yr.ys (ys_and (Ev.t rfl) (Ev.g rfl) Ev.c)) rfl ?_; clear S a w; intro a w S)
  (refine st_y S (Yr.ys (ys_assign (Ev.t rfl))) rfl ?_; clear S a w; intro a w S)
  refine st_nil ?_
  (refine (then_normal (hK1 _ _ ?_)); clear hK1)
  refine wp_ret ?_
  refine st_ret S (results1 S Try.results112 (Rv.tmp rfl)) ?_
  exact ⟨rfl, S.wd.below⟩
theorem c67 (w0 : World) (x y z : Int) (b : Bool) (hb : mayD ⟨x, y, z⟩ = b) :
    Calls Try.prog 67 #[.agg #[.int .i64 x, .int .i64 y, .int .i64 z]] w0 fun e w' => e = .returned (.bool b) ∧ Bel w0.heap.size w0 w' := by
  refine enter1 Try.func67 rfl Try.ntmps67 rfl fun a S => ?_
  refine wp_seq_k fun _ hK1 => ?_
  refine wp_region_lit ?_
  (refine st_m (op_box S (Ev.t rfl) rfl ?_); clear S a; intro g1 a w S)
  (refine st_y S (Yr.ys (ys_assign Ev.c)) rfl ?_; clear S a w; intro a w S)
  refine st_nil ?_
  (refine (then_normal (hK1 _ _ ?_)); clear hK1)
  refine wp_seq_k fun _ hK1 => ?_
  refine wp_region_lit ?_
  (refine st_y S (Yr.ys (ys_fieldN (FieldT.mk Try.underlying62 rfl Try.sizeOf3 rfl) (Ev.t rfl) (i' := 0) rfl)) rfl ?_; clear S a w; intro a w S)
  (refine st_y S (Yr.ys (ys_ld ⟨Try.isAgg3, Try.sizeOf3⟩ (Ev.t rfl) (k := 0) rfl rfl)) rfl ?_; clear S a w; intro a w S)
  (refine st_y S (ys_call Try.call110 (EvL.cons (Ev.t rfl) EvL.nil) (fun hp w W => c110 _ _)) rfl ?_; clear S a w; intro a w S)
  (refine st_y S (Yr.ys (ys_move (Ev.t rfl))) rfl ?_; clear S a w; intro a w S)
  (refine st_yg S rfl rfl (Yr.ys (ys_fieldN (FieldT.mk Try.underlying62 rfl Try.sizeOf3 rfl) (Ev.t rfl) (i' := 1) rfl)) rfl ?_; clear S a w; intro a w S)
  (refine st_yg S rfl rfl (Yr.ys (ys_ld ⟨Try.isAgg3, Try.sizeOf3⟩ (Ev.g rfl) (k := 0) rfl rfl)) rfl ?_; clear S a w; intro a w S)
  (refine st_yg S rfl rfl (ys_call Try.call111 (EvL.cons (Ev.g rfl) EvL.nil) (fun hp w W => c111 _ _)) rfl ?_; clear S a w; intro a w S)
  (refine st_y S (Yr.ys (ys_and (Ev.t rfl) (Ev.g rfl) Ev.c)) rfl ?_; clear S a w; intro a w S)
  (refine st_y S (Yr.ys (ys_move (Ev.t rfl))) rfl ?_; clear S a w; intro a w S)
  (refine st_yg S rfl rfl (Yr.ys (ys_fieldN (FieldT.mk Try.underlying62 rfl Try.sizeOf3 rfl) (Ev.t rfl) (i' := 2) rfl)) rfl ?_; clear S a w; intro a w S)
  (refine st_yg S rfl rfl (Yr.ys (ys_ld ⟨Try.isAgg3, Try.sizeOf3⟩ (Ev.g rfl) (k := 0) rfl rfl)) rfl ?_; clear S a w; intro a w S)
  (refine st_yg S rfl rfl (ys_call Try.call112 (EvL.cons (Ev.g rfl) EvL.nil) (fun hp w W => c112 _ _)) rfl ?_; clear S a w; intro a w S)
  (refine st_y S (Yr.ys (ys_and (Ev.t rfl) (Ev.g rfl) Ev.c)) rfl ?_; clear S a w; intro a w S)
  (refine st_y S (Yr.ys (ys_assign (Ev.t rfl))) rfl ?_; clear S a w; intro a w S)
  refine st_nil ?_
  (refine (then_normal (hK1 _ _ ?_)); clear hK1)
  refine wp_ret ?_
  refine st_ret S (results1 S Try.results67 (Rv.tmp rfl)) ?_
  refine ⟨?_, S.wd.below⟩
  subst hb
  simp [mayD, Bool.and_assoc]
theorem c68 (w0 : World) (x y z x' y' z' : Int) (h : (0 ≤ x ∧ x ≤ 1099511627776) ∧ (0 ≤ y ∧ y ≤ 1099511627776) ∧ 0 ≤ z ∧ z ≤ 1099511627776) (h' : (0 ≤ x' ∧ x' ≤ 1099511627776) ∧ (0 ≤ y' ∧ y' ≤ 1099511627776) ∧ 0 ≤ z' ∧ z' ≤ 1099511627776) :
    Calls Try.prog 68 #[.agg #[.int .i64 x, .int .i64 y, .int .i64 z], .agg #[.int .i64 x', .int .i64 y', .int .i64 z']] w0 fun e w' => e = .returned (.int .i64 (orderD ⟨x, y, z⟩ ⟨x', y', z'⟩)) ∧ Bel w0.heap.size w0 w' := by
  refine enter2 Try.func68 rfl Try.ntmps68 rfl fun a S => ?_
  refine wp_seq_k fun _ hK1 => ?_
  refine wp_region_lit ?_
  (refine st_m (op_box S (Ev.t rfl) rfl ?_); clear S a; intro g1 a w S)
  (refine st_m (op_box S (Ev.t rfl) rfl ?_); clear S a w; intro g2 a w S)
  (refine st_y S (Yr.ys (ys_assign Ev.c)) rfl ?_; clear S a w; intro a w S)
  refine st_nil ?_
  (refine (then_normal (hK1 _ _ ?_)); clear hK1)
  refine wp_seq_k fun _ hK1 => ?_
  refine wp_block ?_
  refine wp_seq_k fun _ hK2 => ?_
  refine wp_region_lit ?_
  (refine st_y S (Yr.ys (ys_fieldN (FieldT.mk Try.underlying62 rfl Try.sizeOf3 rfl) (Ev.t rfl) (i' := 0) rfl)) rfl ?_; clear S a w; intro a w S)
  (refine st_y S (Yr.ys (ys_ld ⟨Try.isAgg3, Try.sizeOf3⟩ (Ev.t rfl) (k := 1) rfl rfl)) rfl ?_; clear S a w; intro a w S)
  (refine st_y S (Yr.ys (ys_fieldN (FieldT.mk Try.underlying62 rfl Try.sizeOf3 rfl) (Ev.t rfl) (i' := 0) rfl)) rfl ?_; clear S a w; intro a w S)
  (refine st_y S (Yr.ys (ys_ld ⟨Try.isAgg3, Try.sizeOf3⟩ (Ev.t rfl) (k := 0) rfl rfl)) rfl ?_; clear S a w; intro a w S)
  (refine st_y S (Yr.ys (ys_neq (Ev.t rfl) (Ev.t rfl))) rfl ?_; clear S a w; intro a w S)
  (refine st_y S (Yr.ys (ys_assign (Ev.t rfl))) rfl ?_; clear S a w; intro a w S)
  refine st_nil ?_
  (refine (then_normal (hK2 _ _ ?_)); clear hK2)
  refine st_if S (Ev.t rfl) (fun h1 => ?_) (fun h1 => ?_)
  refine wp_seq_k fun _ hK2 => ?_
  refine wp_region_lit ?_
  (refine st_y S (Yr.ys (ys_fieldN (FieldT.mk Try.underlying62 rfl Try.sizeOf3 rfl) (Ev.t rfl) (i' := 0) rfl)) rfl ?_; clear S a w; intro a w S)
  (refine st_y S (Yr.ys (ys_ld ⟨Try.isAgg3, Try.sizeOf3⟩ (Ev.t rfl) (k := 1) rfl rfl)) rfl ?_; clear S a w; intro a w S)
  (refine st_y S (Yr.ys (ys_fieldN (FieldT.mk Try.underlying62 rfl Try.sizeOf3 rfl) (Ev.t rfl) (i' := 0) rfl)) rfl ?_; clear S a w; intro a w S)
  (refine st_y S (Yr.ys (ys_ld ⟨Try.isAgg3, Try.sizeOf3⟩ (Ev.t rfl) (k := 0) rfl rfl)) rfl ?_; clear S a w; intro a w S)
  (refine st_y S (Yr.ys (ys_subI (Ev.t rfl) (Ev.t rfl) (fun _ => by unfold I64; omega))) rfl ?_; clear S a w; intro a w S)
  (refine st_y S (Yr.ys (ys_assign (Ev.t rfl))) rfl ?_; clear S a w; intro a w S)
  refine st_nil ?_
  (refine (then_normal (hK2 _ _ ?_)); clear hK2)
  refine wp_ret ?_
  refine (in_ret (then_ret ?_))
  refine st_ret S (results1 S Try.results68 (Rv.tmp rfl)) ?_
  rotate_left
  refine wp_seq_k fun _ hK2 => ?_
  refine wp_region_lit ?_
  (refine st_y S (Yr.ys (ys_fieldN (FieldT.mk Try.underlying62 rfl Try.sizeOf3 rfl) (Ev.t rfl) (i' := 1) rfl)) rfl ?_; clear S a w; intro a w S)
  (refine st_y S (Yr.ys (ys_ld ⟨Try.isAgg3, Try.sizeOf3⟩ (Ev.t rfl) (k := 1) rfl rfl)) rfl ?_; clear S a w; intro a w S)
  (refine st_y S (Yr.ys (ys_fieldN (FieldT.mk Try.underlying62 rfl Try.sizeOf3 rfl) (Ev.t rfl) (i' := 1) rfl)) rfl ?_; clear S a w; intro a w S)
  (refine st_y S (Yr.ys (ys_ld ⟨Try.isAgg3, Try.sizeOf3⟩ (Ev.t rfl) (k := 0) rfl rfl)) rfl ?_; clear S a w; intro a w S)
  (refine st_y S (Yr.ys (ys_neq (Ev.t rfl) (Ev.t rfl))) rfl ?_; clear S a w; intro a w S)
  (refine st_y S (Yr.ys (ys_assign (Ev.t rfl))) rfl ?_; clear S a w; intro a w S)
  refine st_nil ?_
  (refine (then_normal (hK2 _ _ ?_)); clear hK2)
  refine st_if S (Ev.t rfl) (fun h2 => ?_) (fun h2 => ?_)
  refine wp_seq_k fun _ hK2 => ?_
  refine wp_region_lit ?_
  (refine st_y S (Yr.ys (ys_fieldN (FieldT.mk Try.underlying62 rfl Try.sizeOf3 rfl) (Ev.t rfl) (i' := 1) rfl)) rfl ?_; clear S a w; intro a w S)
  (refine st_y S (Yr.ys (ys_ld ⟨Try.isAgg3, Try.sizeOf3⟩ (Ev.t rfl) (k := 1) rfl rfl)) rfl ?_; clear S a w; intro a w S)
  (refine st_y S (Yr.ys (ys_fieldN (FieldT.mk Try.underlying62 rfl Try.sizeOf3 rfl) (Ev.t rfl) (i' := 1) rfl)) rfl ?_; clear S a w; intro a w S)
  (refine st_y S (Yr.ys (ys_ld ⟨Try.isAgg3, Try.sizeOf3⟩ (Ev.t rfl) (k := 0) rfl rfl)) rfl ?_; clear S a w; intro a w S)
  (refine st_y S (Yr.ys (ys_subI (Ev.t rfl) (Ev.t rfl) (fun _ => by unfold I64; omega))) rfl ?_; clear S a w; intro a w S)
  (refine st_y S (Yr.ys (ys_assign (Ev.t rfl))) rfl ?_; clear S a w; intro a w S)
  refine st_nil ?_
  (refine (then_normal (hK2 _ _ ?_)); clear hK2)
  refine wp_ret ?_
  refine (in_ret (then_ret ?_))
  refine st_ret S (results1 S Try.results68 (Rv.tmp rfl)) ?_
  rotate_left
  refine wp_skip ?_
  (refine (in_normal (then_normal (hK1 _ _ ?_))); clear hK1)
  refine wp_seq_k fun _ hK1 => ?_
  refine wp_region_lit ?_
  (refine st_y S (Yr.ys (ys_fieldN (FieldT.mk Try.underlying62 rfl Try.sizeOf3 rfl) (Ev.t rfl) (i' := 2) rfl)) rfl ?_; clear S a w; intro a w S)
  (refine st_y S (Yr.ys (ys_ld ⟨Try.isAgg3, Try.sizeOf3⟩ (Ev.t rfl) (k := 1) rfl rfl)) rfl ?_; clear S a w; intro a w S)
  (refine st_y S (Yr.ys (ys_fieldN (FieldT.mk Try.underlying62 rfl Try.sizeOf3 rfl) (Ev.t rfl) (i' := 2) rfl)) rfl ?_; clear S a w; intro a w S)
  (refine st_y S (Yr.ys (ys_ld ⟨Try.isAgg3, Try.sizeOf3⟩ (Ev.t rfl) (k := 0) rfl rfl)) rfl ?_; clear S a w; intro a w S)
  (refine st_y S (Yr.ys (ys_subI (Ev.t rfl) (Ev.t rfl) (fun _ => by unfold I64; omega))) rfl ?_; clear S a w; intro a w S)
  (refine st_y S (Yr.ys (ys_assign (Ev.t rfl))) rfl ?_; clear S a w; intro a w S)
  refine st_nil ?_
  (refine (then_normal (hK1 _ _ ?_)); clear hK1)
  refine wp_ret ?_
  refine st_ret S (results1 S Try.results68 (Rv.tmp rfl)) ?_
  rotate_left
  all_goals refine ⟨?_, S.wd.below⟩
  all_goals simp_all [orderD]
theorem c27 (w0 : World) (v1 v2 : Value) (C : Ctx) (h : RdCtx w0 w0.heap.size v1 v2 C) :
    Calls Try.prog 27 #[.agg #[v1, v2]] w0 fun e w' => e = .returned (.bool (canL C)) ∧ Bel w0.heap.size w0 w' := by
  obtain ⟨⟨A, cap, rfl, hl, hcap, hA⟩, ⟨A', cap', rfl, hl', hcap', hA'⟩⟩ := h
  have hS : Sl Dot.enc 3 w0 w0.heap.size (.slice A C.marks.length cap) C.marks := ⟨A, cap, rfl, hl, hcap, hA⟩
  refine enter1 Try.func27 rfl Try.ntmps27 rfl fun a S => ?_
  refine wp_seq_k fun _ hK1 => ?_
  refine wp_region_lit ?_
  (refine st_m (op_box S (Ev.t rfl) rfl ?_); clear S a; intro g1 a w S)
  (refine st_y S (Yr.ys (ys_assign Ev.c)) rfl ?_; clear S a w; intro a w S)
  refine st_nil ?_
  (refine (then_normal (hK1 _ _ ?_)); clear hK1)
  refine wp_seq_k fun _ hK1 => ?_
  refine wp_seq_k fun _ hK2 => ?_
  refine wp_region_lit ?_
  (refine st_y S (Yr.ys (ys_fieldN (FieldT.mk Try.underlying38 rfl Try.sizeOf35 rfl) (Ev.t rfl) (i' := 0) rfl)) rfl ?_; clear S a w; intro a w S)
  (refine st_y S (Yr.ys (ys_ld ⟨Try.isAgg35, Try.sizeOf35⟩ (Ev.t rfl) (k := 0) rfl rfl)) rfl ?_; clear S a w; intro a w S)
  (refine st_y S (Yr.ys (ys_lenS Try.underlying35 (Ev.t rfl))) rfl ?_; clear S a w; intro a w S)
  (refine st_y S (Yr.ys (ys_gtr (Ev.t rfl) Ev.c)) rfl ?_; clear S a w; intro a w S)
  (refine st_y S (Yr.ys (ys_move (Ev.t rfl))) rfl ?_; clear S a w; intro a w S)
  (refine st_yf S rfl rfl (Yr.ys (ys_fieldN (FieldT.mk Try.underlying38 rfl Try.sizeOf36 rfl) (Ev.t rfl) (i' := 1) rfl)) rfl ?_; clear S a w; intro a w S)
  (refine st_yf S rfl rfl (Yr.ys (ys_ld ⟨Try.isAgg36, Try.sizeOf36⟩ (Ev.g rfl) (k := 0) rfl rfl)) rfl ?_; clear S a w; intro a w S)
  (refine st_yf S rfl rfl (Yr.ys (ys_lenS Try.underlying36 (Ev.g rfl))) rfl ?_; clear S a w; intro a w S)
  (refine st_yf S rfl rfl (Yr.ys (ys_gtr (Ev.g rfl) Ev.c)) rfl ?_; clear S a w; intro a w S)
  (refine st_y S (Yr.ys (ys_or (Ev.t rfl) Ev.c (Ev.g rfl))) rfl ?_; clear S a w; intro a w S)
  refine st_nil ?_
  (refine (then_normal (hK2 _ _ ?_)); clear hK2)
  refine st_cond S (Ev.t rfl) (fun h1 => ?_) (fun h1 => ?_)
  refine wp_seq_k fun _ hK2 => ?_
  refine wp_region_lit ?_
  (refine st_y S (Yr.ys (ys_assign Ev.c)) rfl ?_; clear S a w; intro a w S)
  refine st_nil ?_
  (refine (then_normal (hK2 _ _ ?_)); clear hK2)
  refine wp_ret ?_
  refine (then_ret ?_)
  refine st_ret S (results1 S Try.results27 (Rv.tmp rfl)) ?_
  rotate_left
  refine wp_skip ?_
  (refine (then_normal (hK1 _ _ ?_)); clear hK1)
  refine wp_seq_k fun _ hK1 => ?_
  refine wp_seq_k fun _ hK2 => ?_
  refine wp_region_lit ?_
  (refine st_y S (Yr.ys (ys_fieldN (FieldT.mk Try.underlying38 rfl Try.sizeOf35 rfl) (Ev.t rfl) (i' := 0) rfl)) rfl ?_; clear S a w; intro a w S)
  (refine st_y S (Yr.ys (ys_ld ⟨Try.isAgg35, Try.sizeOf35⟩ (Ev.t rfl) (k := 0) rfl rfl)) rfl ?_; clear S a w; intro a w S)
  (refine st_y S (Yr.ys (ys_lenS Try.underlying35 (Ev.t rfl))) rfl ?_; clear S a w; intro a w S)
  (refine st_y S (Yr.ys (ys_move Ev.c)) rfl ?_; clear S a w; intro a w S)
  refine st_nil ?_
  (refine (then_normal (hK2 _ _ ?_)); clear hK2)
  refine wp_block ?_
  rotate_left
  · exact ⟨by rw [canL_big (by simp at h1; omega)], S.wd.below⟩
  · have hbig : C.marks.length ≤ 64 ∧ C.cloud.length ≤ 64 := by simp at h1; omega
    refine st_loopK S (X := Nat) (fun k => [(21, true, .int .i64 (k : Int))]) (fun _ L => L) (fun k => k ≤ C.marks.length ∧ (∀ x ∈ C.marks.take k, mayD x = true) ∧ okM (prevD C.marks k) (C.marks.drop k) = okM none C.marks) (fun k => C.marks.length - k) 0 ⟨Nat.zero_le _, by simp, rfl⟩ (by repeat (first | exact Fits.nil | refine Fits.skip rfl ?_ | refine Fits.cons rfl ?_)) (by repeat (first | exact List.Sublist.refl _ | exact List.nil_sublist _ | refine .cons_cons _ ?_ | refine .cons _ ?_)) ?_
    clear S h1
    intro k a w ⟨hk, hmy, hno⟩ S
    by_cases hlt : k < C.marks.length
    · obtain ⟨g, o, m, rfl, hmm, hd, hc⟩ := row_at hA hlt
      rw [hd, okM] at hno
      cases hb : mayD m with
      | false =>
        refine wp_seq_k fun _ hK2 => ?_
        refine wp_region_lit ?_
        (refine st_y S (Yr.ys (ys_T (by omega) (ys_lss (Ev.t rfl) (Ev.t rfl)))) rfl ?_; clear S a w; intro a w S)
        refine st_nil ?_
        (refine (then_normal (hK2 _ _ ?_)); clear hK2)
        refine wp_seq_k fun _ hK2 => ?_
        refine st_then S (Ev.t rfl) ?_
        refine wp_skip ?_
        (refine (then_normal (hK2 _ _ ?_)); clear hK2)
        refine wp_seq_k fun _ hK2 => ?_
        refine wp_block ?_
        refine wp_seq_k fun _ hK3 => ?_
        refine wp_region_lit ?_
        (refine st_y S (Yr.ys (ys_move (Ev.t rfl))) rfl ?_; clear S a w; intro a w S)
        (refine st_y S (Yr.ys (ys_ixS Try.underlying35 Try.sizeOf110 (Ev.t rfl) (Ev.t rfl) (fun _ => by omega))) rfl ?_; clear S a w; intro a w S)
        (refine st_y S (Yr.ys (ys_ldOA ⟨Try.isAgg110, Try.sizeOf110⟩ (Ev.t rfl) (vs := [_, _, _]) rfl (fun _ => hc))) rfl ?_; clear S a w; intro a w S)
        (refine st_m (op_alloc S Try.zeroValue110 (cs := _) rfl rfl ?_); clear S a w; intro g2 a w S)
        (refine st_y S (Yr.ys (ys_assign (Ev.t rfl))) rfl ?_; clear S a w; intro a w S)
        (refine st_m (op_stW S Try.sizeOf110 (Ev.t rfl) (Ev.t rfl) (k := 0) rfl rfl rfl (by simp [Value.oneCell']) ?_); clear S a w; intro a w S)
        refine st_nil ?_
        (refine (then_normal (hK3 _ _ ?_)); clear hK3)
        refine wp_seq_k fun _ hK3 => ?_
        refine wp_seq_k fun _ hK4 => ?_
        refine wp_region_lit ?_
        (refine st_y S (Yr.ys (ys_ldA ⟨Try.isAgg110, Try.sizeOf110⟩ (Ev.t rfl) (k := 0) rfl rfl)) rfl ?_; clear S a w; intro a w S)
        (refine st_y S (ys_call Try.call66 (EvL.cons (Ev.t rfl) EvL.nil) (fun hp w W => c66 _ _ _ _)) rfl ?_; clear S a w; intro a w S)
        (refine st_y S (ys_call Try.call67 (EvL.cons (Ev.t rfl) EvL.nil) (fun hp w W => c67 _ _ _ _ _ (by assumption))) rfl ?_; clear S a w; intro a w S)
        (refine st_y S (Yr.ys (ys_not (Ev.t rfl))) rfl ?_; clear S a w; intro a w S)
        refine st_nil ?_
        (refine (then_normal (hK4 _ _ ?_)); clear hK4)
        refine st_then S (Ev.t rfl) ?_
        refine wp_seq_k fun _ hK4 => ?_
        refine wp_region_lit ?_
        (refine st_y S (Yr.ys (ys_assign Ev.c)) rfl ?_; clear S a w; intro a w S)
        refine st_nil ?_
        (refine (then_normal (hK4 _ _ ?_)); clear hK4)
        refine wp_ret ?_
        refine (then_ret (in_ret (then_ret (then_ret (in_ret (then_ret ?_))))))
        refine st_ret S (results1 S Try.results27 (Rv.tmp rfl)) ?_
        exact ⟨by rw [canL_M (by rw [← hno, hb]; rfl)], S.wd.below⟩
      | true =>
        have hlm := may_lim hb
        rcases k with _ | k
        · refine wp_seq_k fun _ hK2 => ?_
          refine wp_region_lit ?_
          (refine st_y S (Yr.ys (ys_T (by omega) (ys_lss (Ev.t rfl) (Ev.t rfl)))) rfl ?_; clear S a w; intro a w S)
          refine st_nil ?_
          (refine (then_normal (hK2 _ _ ?_)); clear hK2)
          refine wp_seq_k fun _ hK2 => ?_
          refine st_then S (Ev.t rfl) ?_
          refine wp_skip ?_
          (refine (then_normal (hK2 _ _ ?_)); clear hK2)
          refine wp_seq_k fun _ hK2 => ?_
          refine wp_block ?_
          refine wp_seq_k fun _ hK3 => ?_
          refine wp_region_lit ?_
          (refine st_y S (Yr.ys (ys_move (Ev.t rfl))) rfl ?_; clear S a w; intro a w S)
          (refine st_y S (Yr.ys (ys_ixS (j := 0) Try.underlying35 Try.sizeOf110 (Ev.t rfl) (Ev.t rfl) (fun _ => by omega))) rfl ?_; clear S a w; intro a w S)
          (refine st_y S (Yr.ys (ys_ldOA ⟨Try.isAgg110, Try.sizeOf110⟩ (Ev.t rfl) (vs := [_, _, _]) rfl (fun _ => hc))) rfl ?_; clear S a w; intro a w S)
          (refine st_m (op_alloc S Try.zeroValue110 (cs := _) rfl rfl ?_); clear S a w; intro g2 a w S)
          (refine st_y S (Yr.ys (ys_assign (Ev.t rfl))) rfl ?_; clear S a w; intro a w S)
          (refine st_m (op_stW S Try.sizeOf110 (Ev.t rfl) (Ev.t rfl) (k := 0) rfl rfl rfl (by simp [Value.oneCell']) ?_); clear S a w; intro a w S)
          refine st_nil ?_
          (refine (then_normal (hK3 _ _ ?_)); clear hK3)
          refine wp_seq_k fun _ hK3 => ?_
          refine wp_seq_k fun _ hK4 => ?_
          refine wp_region_lit ?_
          (refine st_y S (Yr.ys (ys_ldA ⟨Try.isAgg110, Try.sizeOf110⟩ (Ev.t rfl) (k := 0) rfl rfl)) rfl ?_; clear S a w; intro a w S)
          (refine st_y S (ys_call Try.call66 (EvL.cons (Ev.t rfl) EvL.nil) (fun hp w W => c66 _ _ _ _)) rfl ?_; clear S a w; intro a w S)
          (refine st_y S (ys_call Try.call67 (EvL.cons (Ev.t rfl) EvL.nil) (fun hp w W => c67 _ _ _ _ _ (by assumption))) rfl ?_; clear S a w; intro a w S)
          (refine st_y S (Yr.ys (ys_not (Ev.t rfl))) rfl ?_; clear S a w; intro a w S)
          refine st_nil ?_
          (refine (then_normal (hK4 _ _ ?_)); clear hK4)
          refine st_else S (Ev.t rfl) ?_
          refine wp_skip ?_
          (refine (then_normal (hK3 _ _ ?_)); clear hK3)
          refine wp_seq_k fun _ hK3 => ?_
          refine wp_region_lit ?_
          (refine st_y S (Yr.ys (ys_move (Ev.t rfl))) rfl ?_; clear S a w; intro a w S)
          (refine st_y S (Yr.ys (ys_F (by omega) (ys_gtr (Ev.t rfl) Ev.c))) rfl ?_; clear S a w; intro a w S)
          refine st_nil ?_
          (refine (then_normal (hK3 _ _ ?_)); clear hK3)
          refine st_else S (Ev.t rfl) ?_
          refine wp_skip ?_
          (refine (in_normal (then_normal (hK2 _ _ ?_))); clear hK2)
          refine wp_region_lit ?_
          (refine st_y S (Yr.ys (ys_addI (Ev.t rfl) Ev.c (fun _ => by unfold I64; omega))) rfl ?_; clear S a w; intro a w S)
          (refine st_y S (Yr.ys (ys_move (Ev.t rfl))) rfl ?_; clear S a w; intro a w S)
          refine st_nil ?_
          refine (then_normal ?_)
          exact ⟨0 + 1, ⟨by omega, all_step hmm hmy hb, by rw [prevD, hmm, ← hno, hb]; rfl⟩, by omega, S.weak (by repeat (first | exact Fits.nil | refine Fits.skip rfl ?_ | refine Fits.cons rfl ?_)) (by repeat (first | exact List.Sublist.refl _ | exact List.nil_sublist _ | refine .cons_cons _ ?_ | refine .cons _ ?_))⟩
        · obtain ⟨g', o', m', e', hmm', hd', hc'⟩ := row_at hA (show k < C.marks.length by omega)
          cases e'
          have hlm' := may_lim (hmy m' (by rw [List.take_add_one, hmm']; simp))
          have e : orderD m'.nl m.nl = orderD ⟨m'.node, m'.life, 0⟩ ⟨m.node, m.life, 0⟩ := rfl
          refine wp_seq_k fun _ hK2 => ?_
          refine wp_region_lit ?_
          (refine st_y S (Yr.ys (ys_T (by omega) (ys_lss (Ev.t rfl) (Ev.t rfl)))) rfl ?_; clear S a w; intro a w S)
          refine st_nil ?_
          (refine (then_normal (hK2 _ _ ?_)); clear hK2)
          refine wp_seq_k fun _ hK2 => ?_
          refine st_then S (Ev.t rfl) ?_
          refine wp_skip ?_
          (refine (then_normal (hK2 _ _ ?_)); clear hK2)
          refine wp_seq_k fun _ hK2 => ?_
          refine wp_block ?_
          refine wp_seq_k fun _ hK3 => ?_
          refine wp_region_lit ?_
          (refine st_y S (Yr.ys (ys_move (Ev.t rfl))) rfl ?_; clear S a w; intro a w S)
          (refine st_y S (Yr.ys (ys_ixS Try.underlying35 Try.sizeOf110 (Ev.t rfl) (Ev.t rfl) (fun _ => by omega))) rfl ?_; clear S a w; intro a w S)
          (refine st_y S (Yr.ys (ys_ldOA ⟨Try.isAgg110, Try.sizeOf110⟩ (Ev.t rfl) (vs := [_, _, _]) rfl (fun _ => hc))) rfl ?_; clear S a w; intro a w S)
          (refine st_m (op_alloc S Try.zeroValue110 (cs := _) rfl rfl ?_); clear S a w; intro g2 a w S)
          (refine st_y S (Yr.ys (ys_assign (Ev.t rfl))) rfl ?_; clear S a w; intro a w S)
          (refine st_m (op_stW S Try.sizeOf110 (Ev.t rfl) (Ev.t rfl) (k := 0) rfl rfl rfl (by simp [Value.oneCell']) ?_); clear S a w; intro a w S)
          refine st_nil ?_
          (refine (then_normal (hK3 _ _ ?_)); clear hK3)
          refine wp_seq_k fun _ hK3 => ?_
          refine wp_seq_k fun _ hK4 => ?_
          refine wp_region_lit ?_
          (refine st_y S (Yr.ys (ys_ldA ⟨Try.isAgg110, Try.sizeOf110⟩ (Ev.t rfl) (k := 0) rfl rfl)) rfl ?_; clear S a w; intro a w S)
          (refine st_y S (ys_call Try.call66 (EvL.cons (Ev.t rfl) EvL.nil) (fun hp w W => c66 _ _ _ _)) rfl ?_; clear S a w; intro a w S)
          (refine st_y S (ys_call Try.call67 (EvL.cons (Ev.t rfl) EvL.nil) (fun hp w W => c67 _ _ _ _ _ (by assumption))) rfl ?_; clear S a w; intro a w S)
          (refine st_y S (Yr.ys (ys_not (Ev.t rfl))) rfl ?_; clear S a w; intro a w S)
          refine st_nil ?_
          (refine (then_normal (hK4 _ _ ?_)); clear hK4)
          refine st_else S (Ev.t rfl) ?_
          refine wp_skip ?_
          (refine (then_normal (hK3 _ _ ?_)); clear hK3)
          refine wp_seq_k fun _ hK3 => ?_
          refine wp_region_lit ?_
          (refine st_y S (Yr.ys (ys_move (Ev.t rfl))) rfl ?_; clear S a w; intro a w S)
          (refine st_y S (Yr.ys (ys_T (by omega) (ys_gtr (Ev.t rfl) Ev.c))) rfl ?_; clear S a w; intro a w S)
          refine st_nil ?_
          (refine (then_normal (hK3 _ _ ?_)); clear hK3)
          refine st_then S (Ev.t rfl) ?_
          refine wp_seq_k fun _ hK3 => ?_
          refine wp_region_lit ?_
          (refine st_y S (Yr.ys (ys_fieldN (FieldT.mk Try.underlying38 rfl Try.sizeOf35 rfl) (Ev.t rfl) (i' := 0) rfl)) rfl ?_; clear S a w; intro a w S)
          (refine st_y S (Yr.ys (ys_ld ⟨Try.isAgg35, Try.sizeOf35⟩ (Ev.t rfl) (k := 1) rfl rfl)) rfl ?_; clear S a w; intro a w S)
          (refine st_y S (Yr.ys (ys_move (Ev.t rfl))) rfl ?_; clear S a w; intro a w S)
          (refine st_y S (Yr.ys (ys_pred (Ev.t rfl) Ev.c (by omega))) rfl ?_; clear S a w; intro a w S)
          (refine st_y S (Yr.ys (ys_ixS Try.underlying35 Try.sizeOf110 (Ev.t rfl) (Ev.t rfl) (fun _ => by omega))) rfl ?_; clear S a w; intro a w S)
          (refine st_y S (Yr.ys (ys_ldOA ⟨Try.isAgg110, Try.sizeOf110⟩ (Ev.t rfl) (vs := [_, _, _]) rfl (fun _ => hc'))) rfl ?_; clear S a w; intro a w S)
          (refine st_m (op_alloc S Try.zeroValue110 (cs := _) rfl rfl ?_); clear S a w; intro g3 a w S)
          (refine st_m (op_stW S Try.sizeOf110 (Ev.t rfl) (Ev.t rfl) (k := 0) rfl rfl rfl (by simp [Value.oneCell']) ?_); clear S a w; intro a w S)
          refine st_nil ?_
          (refine (then_normal (hK3 _ _ ?_)); clear hK3)
          refine wp_seq_k fun _ hK3 => ?_
          refine wp_region_lit ?_
          (refine st_y S (Yr.ys (ys_fieldN (FieldT.mk Try.underlying110 rfl Try.sizeOf3 rfl) (Ev.t rfl) (i' := 0) rfl)) rfl ?_; clear S a w; intro a w S)
          (refine st_y S (Yr.ys (ys_ld ⟨Try.isAgg3, Try.sizeOf3⟩ (Ev.t rfl) (k := 0) rfl rfl)) rfl ?_; clear S a w; intro a w S)
          (refine st_y S (Yr.ys (ys_fieldN (FieldT.mk Try.underlying110 rfl Try.sizeOf3 rfl) (Ev.t rfl) (i' := 1) rfl)) rfl ?_; clear S a w; intro a w S)
          (refine st_y S (Yr.ys (ys_ld ⟨Try.isAgg3, Try.sizeOf3⟩ (Ev.t rfl) (k := 0) rfl rfl)) rfl ?_; clear S a w; intro a w S)
          (refine st_y S (Yr.ys (ys_bld (ps := [(0, Go.Operand.tmp 39), (1, Go.Operand.tmp 41)]) (us := [_, _, _]) bld62 (EvL.cons (Ev.t rfl) (EvL.cons (Ev.t rfl) EvL.nil)) rfl)) rfl ?_; clear S a w; intro a w S)
          (refine st_y S (Yr.ys (ys_fieldN (FieldT.mk Try.underlying110 rfl Try.sizeOf3 rfl) (Ev.t rfl) (i' := 0) rfl)) rfl ?_; clear S a w; intro a w S)
          (refine st_y S (Yr.ys (ys_ld ⟨Try.isAgg3, Try.sizeOf3⟩ (Ev.t rfl) (k := 1) rfl rfl)) rfl ?_; clear S a w; intro a w S)
          (refine st_y S (Yr.ys (ys_fieldN (FieldT.mk Try.underlying110 rfl Try.sizeOf3 rfl) (Ev.t rfl) (i' := 1) rfl)) rfl ?_; clear S a w; intro a w S)
          (refine st_y S (Yr.ys (ys_ld ⟨Try.isAgg3, Try.sizeOf3⟩ (Ev.t rfl) (k := 1) rfl rfl)) rfl ?_; clear S a w; intro a w S)
          (refine st_y S (Yr.ys (ys_bld (ps := [(0, Go.Operand.tmp 44), (1, Go.Operand.tmp 46)]) (us := [_, _, _]) bld62 (EvL.cons (Ev.t rfl) (EvL.cons (Ev.t rfl) EvL.nil)) rfl)) rfl ?_; clear S a w; intro a w S)
          (refine st_y S (ys_call Try.call68 (EvL.cons (Ev.t rfl) (EvL.cons (Ev.t rfl) EvL.nil)) (fun hp w W => c68 _ _ _ _ _ _ _ (by omega) (by omega))) rfl ?_; clear S a w; intro a w S)
          (refine st_y S (Yr.ys (ys_geq (Ev.t rfl) Ev.c)) rfl ?_; clear S a w; intro a w S)
          refine st_nil ?_
          (refine (then_normal (hK3 _ _ ?_)); clear hK3)
          refine st_if S (Ev.t rfl) (fun h1 => ?_) (fun h1 => ?_)
          refine wp_seq_k fun _ hK3 => ?_
          refine wp_region_lit ?_
          (refine st_y S (Yr.ys (ys_assign Ev.c)) rfl ?_; clear S a w; intro a w S)
          refine st_nil ?_
          (refine (then_normal (hK3 _ _ ?_)); clear hK3)
          refine wp_ret ?_
          refine (in_ret (then_ret (then_ret (in_ret (then_ret ?_)))))
          refine st_ret S (results1 S Try.results27 (Rv.tmp rfl)) ?_
          rotate_left
          refine wp_skip ?_
          (refine (in_normal (then_normal (hK2 _ _ ?_))); clear hK2)
          refine wp_region_lit ?_
          (refine st_y S (Yr.ys (ys_addI (Ev.t rfl) Ev.c (fun _ => by unfold I64; omega))) rfl ?_; clear S a w; intro a w S)
          (refine st_y S (Yr.ys (ys_move (Ev.t rfl))) rfl ?_; clear S a w; intro a w S)
          refine st_nil ?_
          refine (then_normal ?_)
          rotate_left
          · exact ⟨by rw [canL_M (by rw [← hno, hb, prevD, hmm', gapM, decide_eq_false (by omega)]; rfl)], S.wd.below⟩
          · exact ⟨k + 1 + 1, ⟨by omega, all_step hmm hmy hb, by rw [prevD, hmm, ← hno, hb, prevD, hmm', gapM, decide_eq_true (by omega)]; rfl⟩, by omega, S.weak (by repeat (first | exact Fits.nil | refine Fits.skip rfl ?_ | refine Fits.cons rfl ?_)) (by repeat (first | exact List.Sublist.refl _ | exact List.nil_sublist _ | refine .cons_cons _ ?_ | refine .cons _ ?_))⟩
    · have hend : k = C.marks.length := by omega
      subst hend
      rw [List.take_length] at hmy
      rw [List.drop_length, okM] at hno
      have hM := hno.symm
      clear hno hk hlt
      refine wp_seq_k fun _ hK2 => ?_
      refine wp_region_lit ?_
      (refine st_y S (Yr.ys (ys_F (by omega) (ys_lss (Ev.t rfl) (Ev.t rfl)))) rfl ?_; clear S a w; intro a w S)
      refine st_nil ?_
      (refine (then_normal (hK2 _ _ ?_)); clear hK2)
      refine wp_seq_k fun _ hK2 => ?_
      refine st_else S (Ev.t rfl) ?_
      refine wp_exit ?_
      (refine (then_exit (then_exit (in_here (then_normal (hK1 _ _ ?_))))); clear hK1)
      refine wp_seq_k fun _ hK1 => ?_
      refine wp_seq_k fun _ hK3 => ?_
      refine wp_region_lit ?_
      (refine st_y S (Yr.ys (ys_fieldN (FieldT.mk Try.underlying38 rfl Try.sizeOf36 rfl) (Ev.t rfl) (i' := 1) rfl)) rfl ?_; clear S a w; intro a w S)
      (refine st_y S (Yr.ys (ys_ld ⟨Try.isAgg36, Try.sizeOf36⟩ (Ev.t rfl) (k := 0) rfl rfl)) rfl ?_; clear S a w; intro a w S)
      (refine st_y S (Yr.ys (ys_lenS Try.underlying36 (Ev.t rfl))) rfl ?_; clear S a w; intro a w S)
      (refine st_y S (Yr.ys (ys_move Ev.c)) rfl ?_; clear S a w; intro a w S)
      refine st_nil ?_
      (refine (then_normal (hK3 _ _ ?_)); clear hK3)
      refine wp_block ?_
      refine st_loopK S (X := Nat) (fun k => [(54, true, .int .i64 (k : Int))]) (fun _ L => L) (fun k => k ≤ C.cloud.length ∧ (∀ x ∈ C.cloud.take k, mayD x = true) ∧ okC C.marks (prevD C.cloud k) (C.cloud.drop k) = okC C.marks none C.cloud) (fun k => C.cloud.length - k) 0 ⟨Nat.zero_le _, by simp, rfl⟩ (by repeat (first | exact Fits.nil | refine Fits.skip rfl ?_ | refine Fits.cons rfl ?_)) (by repeat (first | exact List.Sublist.refl _ | exact List.nil_sublist _ | refine .cons_cons _ ?_ | refine .cons _ ?_)) ?_
      clear S
      intro k a w ⟨hk, hmy', hno⟩ S
      by_cases hlt : k < C.cloud.length
      · obtain ⟨g, o, m, rfl, hmm, hd, hc⟩ := row_at hA' hlt
        rw [hd, okC] at hno
        have hmk := markOf_may (x := m.node) (y := m.life) hmy
        cases hb : mayD m with
        | false =>
          refine wp_seq_k fun _ hK3 => ?_
          refine wp_region_lit ?_
          (refine st_y S (Yr.ys (ys_T (by omega) (ys_lss (Ev.t rfl) (Ev.t rfl)))) rfl ?_; clear S a w; intro a w S)
          refine st_nil ?_
          (refine (then_normal (hK3 _ _ ?_)); clear hK3)
          refine wp_seq_k fun _ hK3 => ?_
          refine st_then S (Ev.t rfl) ?_
          refine wp_skip ?_
          (refine (then_normal (hK3 _ _ ?_)); clear hK3)
          refine wp_seq_k fun _ hK3 => ?_
          refine wp_block ?_
          refine wp_seq_k fun _ hK4 => ?_
          refine wp_region_lit ?_
          (refine st_y S (Yr.ys (ys_move (Ev.t rfl))) rfl ?_; clear S a w; intro a w S)
          (refine st_y S (Yr.ys (ys_ixS Try.underlying36 Try.sizeOf62 (Ev.t rfl) (Ev.t rfl) (fun _ => by omega))) rfl ?_; clear S a w; intro a w S)
          (refine st_y S (Yr.ys (ys_ldOA ⟨Try.isAgg62, Try.sizeOf62⟩ (Ev.t rfl) (vs := [_, _, _]) rfl (fun _ => hc))) rfl ?_; clear S a w; intro a w S)
          (refine st_m (op_alloc S Try.zeroValue62 (cs := _) rfl rfl ?_); clear S a w; intro g2 a w S)
          (refine st_y S (Yr.ys (ys_assign (Ev.t rfl))) rfl ?_; clear S a w; intro a w S)
          (refine st_m (op_stW S Try.sizeOf62 (Ev.t rfl) (Ev.t rfl) (k := 0) rfl rfl rfl (by simp [Value.oneCell']) ?_); clear S a w; intro a w S)
          refine st_nil ?_
          (refine (then_normal (hK4 _ _ ?_)); clear hK4)
          refine wp_seq_k fun _ hK4 => ?_
          (refine st_quiet S (by kernel_rfl) (by kernel_rfl) ?_; clear S w; intro a S)
          (refine q_y S (Yr.ys (ys_ldA ⟨Try.isAgg62, Try.sizeOf62⟩ (Ev.t rfl) (k := 0) rfl rfl)) rfl ?_; clear S a; intro a S)
          (refine q_y S (ys_call Try.call67 (EvL.cons (Ev.t rfl) EvL.nil) (fun hp w W => c67 _ _ _ _ _ (by assumption))) rfl ?_; clear S a; intro a S)
          (refine q_y S (Yr.ys (ys_not (Ev.t rfl))) rfl ?_; clear S a; intro a S)
          (refine q_y S (Yr.ys (ys_move (Ev.t rfl))) rfl ?_; clear S a; intro a S)
          (refine q_skip S rfl rfl rfl rfl ?_; clear S a; intro a S)
          (refine q_skip S rfl rfl rfl rfl ?_; clear S a; intro a S)
          (refine q_skip S rfl rfl rfl rfl ?_; clear S a; intro a S)
          (refine q_skip0 S rfl rfl rfl ?_; clear S a; intro a S)
          (refine q_skip0 S rfl rfl rfl ?_; clear S a; intro a S)
          (refine q_skip0 S rfl rfl rfl ?_; clear S a; intro a S)
          (refine q_skip0 S rfl rfl rfl ?_; clear S a; intro a S)
          (refine q_skip0 S rfl rfl rfl ?_; clear S a; intro a S)
          (refine q_skip0 S rfl rfl rfl ?_; clear S a; intro a S)
          (refine q_skip0 S rfl rfl rfl ?_; clear S a; intro a S)
          (refine q_skip0 S rfl rfl rfl ?_; clear S a; intro a S)
          (refine q_skip0 S rfl rfl rfl ?_; clear S a; intro a S)
          (refine q_skip S rfl rfl rfl rfl ?_; clear S a; intro a S)
          (refine q_y S (Yr.ys (ys_pickT (Ev.t rfl) Ev.c)) rfl ?_; clear S a; intro a S)
          (refine q_y S (Yr.ys (ys_move (Ev.t rfl))) rfl ?_; clear S a; intro a S)
          (refine q_skip S rfl rfl rfl rfl ?_; clear S a; intro a S)
          (refine q_skip S rfl rfl rfl rfl ?_; clear S a; intro a S)
          (refine q_skip S rfl rfl rfl rfl ?_; clear S a; intro a S)
          (refine q_skip S rfl rfl rfl rfl ?_; clear S a; intro a S)
          (refine q_skip S rfl rfl rfl rfl ?_; clear S a; intro a S)
          (refine q_skip S rfl rfl rfl rfl ?_; clear S a; intro a S)
          (refine q_skip S rfl rfl rfl rfl ?_; clear S a; intro a S)
          (refine q_skip S rfl rfl rfl rfl ?_; clear S a; intro a S)
          (refine q_y S (Yr.ys (ys_pickT (Ev.t rfl) Ev.c)) rfl ?_; clear S a; intro a S)
          (refine q_nil ?_; intro w W; replace S := St.mk S W; clear W)
          (refine (then_normal (hK4 _ _ ?_)); clear hK4)
          refine st_then S (Ev.t rfl) ?_
          refine wp_seq_k fun _ hK4 => ?_
          refine wp_region_lit ?_
          (refine st_y S (Yr.ys (ys_assign Ev.c)) rfl ?_; clear S a w; intro a w S)
          refine st_nil ?_
          (refine (then_normal (hK4 _ _ ?_)); clear hK4)
          refine wp_ret ?_
          refine (in_ret (then_ret (then_ret (in_ret (then_ret ?_)))))
          refine st_ret S (results1 S Try.results27 (Rv.tmp rfl)) ?_
          exact ⟨by rw [canL_C (by rw [← hno, hb]; rfl)], S.wd.below⟩
        | true =>
          have hlm := may_lim hb
          rcases k with _ | k
          · refine wp_seq_k fun _ hK3 => ?_
            refine wp_region_lit ?_
            (refine st_y S (Yr.ys (ys_T (by omega) (ys_lss (Ev.t rfl) (Ev.t rfl)))) rfl ?_; clear S a w; intro a w S)
            refine st_nil ?_
            (refine (then_normal (hK3 _ _ ?_)); clear hK3)
            refine wp_seq_k fun _ hK3 => ?_
            refine st_then S (Ev.t rfl) ?_
            refine wp_skip ?_
            (refine (then_normal (hK3 _ _ ?_)); clear hK3)
            refine wp_seq_k fun _ hK3 => ?_
            refine wp_block ?_
            refine wp_seq_k fun _ hK4 => ?_
            refine wp_region_lit ?_
            (refine st_y S (Yr.ys (ys_move (Ev.t rfl))) rfl ?_; clear S a w; intro a w S)
            (refine st_y S (Yr.ys (ys_ixS (j := 0) Try.underlying36 Try.sizeOf62 (Ev.t rfl) (Ev.t rfl) (fun _ => by omega))) rfl ?_; clear S a w; intro a w S)
            (refine st_y S (Yr.ys (ys_ldOA ⟨Try.isAgg62, Try.sizeOf62⟩ (Ev.t rfl) (vs := [_, _, _]) rfl (fun _ => hc))) rfl ?_; clear S a w; intro a w S)
            (refine st_m (op_alloc S Try.zeroValue62 (cs := _) rfl rfl ?_); clear S a w; intro g2 a w S)
            (refine st_y S (Yr.ys (ys_assign (Ev.t rfl))) rfl ?_; clear S a w; intro a w S)
            (refine st_m (op_stW S Try.sizeOf62 (Ev.t rfl) (Ev.t rfl) (k := 0) rfl rfl rfl (by simp [Value.oneCell']) ?_); clear S a w; intro a w S)
            refine st_nil ?_
            (refine (then_normal (hK4 _ _ ?_)); clear hK4)
            refine wp_seq_k fun _ hK4 => ?_
            (refine st_quiet S (by kernel_rfl) (by kernel_rfl) ?_; clear S w; intro a S)
            (refine q_y S (Yr.ys (ys_ldA ⟨Try.isAgg62, Try.sizeOf62⟩ (Ev.t rfl) (k := 0) rfl rfl)) rfl ?_; clear S a; intro a S)
            (refine q_y S (ys_call Try.call67 (EvL.cons (Ev.t rfl) EvL.nil) (fun hp w W => c67 _ _ _ _ _ (by assumption))) rfl ?_; clear S a; intro a S)
            (refine q_y S (Yr.ys (ys_not (Ev.t rfl))) rfl ?_; clear S a; intro a S)
            (refine q_y S (Yr.ys (ys_move (Ev.t rfl))) rfl ?_; clear S a; intro a S)
            (refine q_yt S rfl rfl (Yr.ys (ys_move (Ev.t rfl))) rfl ?_; clear S a; intro a S)
            (refine q_yt S rfl rfl (Yr.ys (ys_F (by omega) (ys_gtr (Ev.t rfl) Ev.c))) rfl ?_; clear S a; intro a S)
            (refine q_yt S rfl rfl (Yr.ys (ys_move (Ev.t rfl))) rfl ?_; clear S a; intro a S)
            (refine q_skip S rfl rfl rfl rfl ?_; clear S a; intro a S)
            (refine q_skip S rfl rfl rfl rfl ?_; clear S a; intro a S)
            (refine q_skip S rfl rfl rfl rfl ?_; clear S a; intro a S)
            (refine q_skip S rfl rfl rfl rfl ?_; clear S a; intro a S)
            (refine q_skip S rfl rfl rfl rfl ?_; clear S a; intro a S)
            (refine q_skip S rfl rfl rfl rfl ?_; clear S a; intro a S)
            (refine q_skip S rfl rfl rfl rfl ?_; clear S a; intro a S)
            (refine q_skip S rfl rfl rfl rfl ?_; clear S a; intro a S)
            (refine q_skip S rfl rfl rfl rfl ?_; clear S a; intro a S)
            (refine q_yt S rfl rfl (Yr.ys (ys_pickF (Ev.t rfl) Ev.c)) rfl ?_; clear S a; intro a S)
            (refine q_y S (Yr.ys (ys_pickF (Ev.t rfl) (Ev.t rfl))) rfl ?_; clear S a; intro a S)
            (refine q_y S (Yr.ys (ys_move (Ev.t rfl))) rfl ?_; clear S a; intro a S)
            (refine q_yt S rfl rfl (Yr.ys (ys_fieldN (FieldT.mk Try.underlying62 rfl Try.sizeOf3 rfl) (Ev.t rfl) (i' := 2) rfl)) rfl ?_; clear S a; intro a S)
            (refine q_yt S rfl rfl (Yr.ys (ys_ld ⟨Try.isAgg3, Try.sizeOf3⟩ (Ev.t rfl) (k := 0) rfl rfl)) rfl ?_; clear S a; intro a S)
            (refine q_yt S rfl rfl (Yr.ys (ys_ldA ⟨Try.isAgg38, Try.sizeOf38⟩ (Ev.t rfl) (k := 1) rfl rfl)) rfl ?_; clear S a; intro a S)
            (refine q_yt S rfl rfl (Yr.ys (ys_ldA ⟨Try.isAgg62, Try.sizeOf62⟩ (Ev.t rfl) (k := 0) rfl rfl)) rfl ?_; clear S a; intro a S)
            (refine q_yt S rfl rfl (ys_call Try.call65 (EvL.cons (Ev.t rfl) EvL.nil) (fun hp w W => c65 _ _ _ _)) rfl ?_; clear S a; intro a S)
            (refine q_yt S rfl rfl (ys_call Try.call69 (EvL.cons (Ev.t rfl) (EvL.cons (Ev.t rfl) EvL.nil)) (fun hp w W => c69 _ _ _ _ _ _ (by exact .old W (by assumption)))) rfl ?_; clear S a; intro a S)
            (refine q_yt S rfl rfl (Yr.ys (ys_addI (Ev.t rfl) Ev.c (fun _ => by unfold I64; omega))) rfl ?_; clear S a; intro a S)
            (refine q_yt S rfl rfl (Yr.ys (ys_leq (Ev.t rfl) (Ev.t rfl))) rfl ?_; clear S a; intro a S)
            (refine q_y S (Yr.ys (ys_pickF (Ev.t rfl) (Ev.t rfl))) rfl ?_; clear S a; intro a S)
            (refine q_nil ?_; intro w W; replace S := St.mk S W; clear W)
            (refine (then_normal (hK4 _ _ ?_)); clear hK4)
            refine st_if S (Ev.t rfl) (fun h1 => ?_) (fun h1 => ?_)
            refine wp_seq_k fun _ hK4 => ?_
            refine wp_region_lit ?_
            (refine st_y S (Yr.ys (ys_assign Ev.c)) rfl ?_; clear S a w; intro a w S)
            refine st_nil ?_
            (refine (then_normal (hK4 _ _ ?_)); clear hK4)
            refine wp_ret ?_
            refine (in_ret (then_ret (then_ret (in_ret (then_ret ?_)))))
            refine st_ret S (results1 S Try.results27 (Rv.tmp rfl)) ?_
            rotate_left
            refine wp_skip ?_
            (refine (in_normal (then_normal (hK3 _ _ ?_))); clear hK3)
            refine wp_region_lit ?_
            (refine st_y S (Yr.ys (ys_addI (Ev.t rfl) Ev.c (fun _ => by unfold I64; omega))) rfl ?_; clear S a w; intro a w S)
            (refine st_y S (Yr.ys (ys_move (Ev.t rfl))) rfl ?_; clear S a w; intro a w S)
            refine st_nil ?_
            refine (then_normal ?_)
            rotate_left
            · have hf : okC C.marks none C.cloud = false := by
                rw [← hno, Bool.eq_false_iff]
                intro hh
                simp [hb, prevD, gapC] at hh
                omega
              exact ⟨by rw [canL_C hf], S.wd.below⟩
            · exact ⟨0 + 1, ⟨by omega, all_step hmm hmy' hb, by rw [prevD, hmm, ← hno, hb, prevD, gapC, decide_eq_true (by omega)]; rfl⟩, by omega, S.weak (by repeat (first | exact Fits.nil | refine Fits.skip rfl ?_ | refine Fits.cons rfl ?_)) (by repeat (first | exact List.Sublist.refl _ | exact List.nil_sublist _ | refine .cons_cons _ ?_ | refine .cons _ ?_))⟩
          · obtain ⟨g', o', m', e', hmm', hd', hc'⟩ := row_at hA' (show k < C.cloud.length by omega)
            cases e'
            have hlm' := may_lim (hmy' m' (by rw [List.take_add_one, hmm']; simp))
            have e : orderD m' m = orderD ⟨m'.node, m'.life, m'.count⟩ ⟨m.node, m.life, m.count⟩ := rfl
            refine wp_seq_k fun _ hK3 => ?_
            refine wp_region_lit ?_
            (refine st_y S (Yr.ys (ys_T (by omega) (ys_lss (Ev.t rfl) (Ev.t rfl)))) rfl ?_; clear S a w; intro a w S)
            refine st_nil ?_
            (refine (then_normal (hK3 _ _ ?_)); clear hK3)
            refine wp_seq_k fun _ hK3 => ?_
            refine st_then S (Ev.t rfl) ?_
            refine wp_skip ?_
            (refine (then_normal (hK3 _ _ ?_)); clear hK3)
            refine wp_seq_k fun _ hK3 => ?_
            refine wp_block ?_
            refine wp_seq_k fun _ hK4 => ?_
            refine wp_region_lit ?_
            (refine st_y S (Yr.ys (ys_move (Ev.t rfl))) rfl ?_; clear S a w; intro a w S)
            (refine st_y S (Yr.ys (ys_ixS Try.underlying36 Try.sizeOf62 (Ev.t rfl) (Ev.t rfl) (fun _ => by omega))) rfl ?_; clear S a w; intro a w S)
            (refine st_y S (Yr.ys (ys_ldOA ⟨Try.isAgg62, Try.sizeOf62⟩ (Ev.t rfl) (vs := [_, _, _]) rfl (fun _ => hc))) rfl ?_; clear S a w; intro a w S)
            (refine st_m (op_alloc S Try.zeroValue62 (cs := _) rfl rfl ?_); clear S a w; intro g2 a w S)
            (refine st_y S (Yr.ys (ys_assign (Ev.t rfl))) rfl ?_; clear S a w; intro a w S)
            (refine st_m (op_stW S Try.sizeOf62 (Ev.t rfl) (Ev.t rfl) (k := 0) rfl rfl rfl (by simp [Value.oneCell']) ?_); clear S a w; intro a w S)
            refine st_nil ?_
            (refine (then_normal (hK4 _ _ ?_)); clear hK4)
            refine wp_seq_k fun _ hK4 => ?_
            (refine st_quiet S (by kernel_rfl) (by kernel_rfl) ?_; clear S w; intro a S)
            (refine q_y S (Yr.ys (ys_ldA ⟨Try.isAgg62, Try.sizeOf62⟩ (Ev.t rfl) (k := 0) rfl rfl)) rfl ?_; clear S a; intro a S)
            (refine q_y S (ys_call Try.call67 (EvL.cons (Ev.t rfl) EvL.nil) (fun hp w W => c67 _ _ _ _ _ (by assumption))) rfl ?_; clear S a; intro a S)
            (refine q_y S (Yr.ys (ys_not (Ev.t rfl))) rfl ?_; clear S a; intro a S)
            (refine q_y S (Yr.ys (ys_move (Ev.t rfl))) rfl ?_; clear S a; intro a S)
            (refine q_yt S rfl rfl (Yr.ys (ys_move (Ev.t rfl))) rfl ?_; clear S a; intro a S)
            (refine q_yt S rfl rfl (Yr.ys (ys_T (by omega) (ys_gtr (Ev.t rfl) Ev.c))) rfl ?_; clear S a; intro a S)
            (refine q_yt S rfl rfl (Yr.ys (ys_move (Ev.t rfl))) rfl ?_; clear S a; intro a S)
            (refine q_yt S rfl rfl (Yr.ys (ys_fieldN (FieldT.mk Try.underlying38 rfl Try.sizeOf36 rfl) (Ev.t rfl) (i' := 1) rfl)) rfl ?_; clear S a; intro a S)
            (refine q_yt S rfl rfl (Yr.ys (ys_ld ⟨Try.isAgg36, Try.sizeOf36⟩ (Ev.t rfl) (k := 1) rfl rfl)) rfl ?_; clear S a; intro a S)
            (refine q_yt S rfl rfl (Yr.ys (ys_move (Ev.t rfl))) rfl ?_; clear S a; intro a S)
            (refine q_yt S rfl rfl (Yr.ys (ys_pred (Ev.t rfl) Ev.c (by omega))) rfl ?_; clear S a; intro a S)
            (refine q_yt S rfl rfl (Yr.ys (ys_ixS Try.underlying36 Try.sizeOf62 (Ev.t rfl) (Ev.t rfl) (fun _ => by omega))) rfl ?_; clear S a; intro a S)
            (refine q_yt S rfl rfl (Yr.ys (ys_ldOA ⟨Try.isAgg62, Try.sizeOf62⟩ (Ev.t rfl) (vs := [_, _, _]) rfl (fun _ => hc'))) rfl ?_; clear S a; intro a S)
            (refine q_yt S rfl rfl (Yr.ys (ys_ldA ⟨Try.isAgg62, Try.sizeOf62⟩ (Ev.t rfl) (k := 0) rfl rfl)) rfl ?_; clear S a; intro a S)
            (refine q_yt S rfl rfl (ys_call Try.call68 (EvL.cons (Ev.t rfl) (EvL.cons (Ev.t rfl) EvL.nil)) (fun hp w W => c68 _ _ _ _ _ _ _ (by omega) (by omega))) rfl ?_; clear S a; intro a S)
            (refine q_yt S rfl rfl (Yr.ys (ys_geq (Ev.t rfl) Ev.c)) rfl ?_; clear S a; intro a S)
            (refine q_yt S rfl rfl (Yr.ys (ys_pickT (Ev.t rfl) (Ev.t rfl))) rfl ?_; clear S a; intro a S)
            (refine q_y S (Yr.ys (ys_pickF (Ev.t rfl) (Ev.t rfl))) rfl ?_; clear S a; intro a S)
            (refine q_y S (Yr.ys (ys_move (Ev.t rfl))) rfl ?_; clear S a; intro a S)
            (refine q_yf S rfl rfl (Yr.ys (ys_fieldN (FieldT.mk Try.underlying62 rfl Try.sizeOf3 rfl) (Ev.t rfl) (i' := 2) rfl)) rfl ?_; clear S a; intro a S)
            (refine q_yf S rfl rfl (Yr.ys (ys_ld ⟨Try.isAgg3, Try.sizeOf3⟩ (Ev.g rfl) (k := 0) rfl rfl)) rfl ?_; clear S a; intro a S)
            (refine q_yf S rfl rfl (Yr.ys (ys_ldA ⟨Try.isAgg38, Try.sizeOf38⟩ (Ev.t rfl) (k := 1) rfl rfl)) rfl ?_; clear S a; intro a S)
            (refine q_yf S rfl rfl (Yr.ys (ys_ldA ⟨Try.isAgg62, Try.sizeOf62⟩ (Ev.t rfl) (k := 0) rfl rfl)) rfl ?_; clear S a; intro a S)
            (refine q_yf S rfl rfl (ys_call Try.call65 (EvL.cons (Ev.g rfl) EvL.nil) (fun hp w W => c65 _ _ _ _)) rfl ?_; clear S a; intro a S)
            (refine q_yf S rfl rfl (ys_call Try.call69 (EvL.cons (Ev.g rfl) (EvL.cons (Ev.g rfl) EvL.nil)) (fun hp w W => c69 _ _ _ _ _ _ (by exact .old W (by assumption)))) rfl ?_; clear S a; intro a S)
            (refine q_yf S rfl rfl (Yr.ys (ys_addI (Ev.g rfl) Ev.c (fun _ => by unfold I64; omega))) rfl ?_; clear S a; intro a S)
            (refine q_yf S rfl rfl (Yr.ys (ys_leq (Ev.g rfl) (Ev.g rfl))) rfl ?_; clear S a; intro a S)
            (refine q_y S (Yr.ys (ys_or (Ev.t rfl) Ev.c (Ev.g rfl))) rfl ?_; clear S a; intro a S)
            (refine q_nil ?_; intro w W; replace S := St.mk S W; clear W)
            (refine (then_normal (hK4 _ _ ?_)); clear hK4)
            refine st_cond S (Ev.t rfl) (fun h1 => ?_) (fun h1 => ?_)
            refine wp_seq_k fun _ hK4 => ?_
            refine wp_region_lit ?_
            (refine st_y S (Yr.ys (ys_assign Ev.c)) rfl ?_; clear S a w; intro a w S)
            refine st_nil ?_
            (refine (then_normal (hK4 _ _ ?_)); clear hK4)
            refine wp_ret ?_
            refine (in_ret (then_ret (then_ret (in_ret (then_ret ?_)))))
            refine st_ret S (results1 S Try.results27 (Rv.tmp rfl)) ?_
            rotate_left
            refine wp_skip ?_
            (refine (in_normal (then_normal (hK3 _ _ ?_))); clear hK3)
            refine wp_region_lit ?_
            (refine st_y S (Yr.ys (ys_addI (Ev.t rfl) Ev.c (fun _ => by unfold I64; omega))) rfl ?_; clear S a w; intro a w S)
            (refine st_y S (Yr.ys (ys_move (Ev.t rfl))) rfl ?_; clear S a w; intro a w S)
            refine st_nil ?_
            refine (then_normal ?_)
            rotate_left
            · have hf : okC C.marks none C.cloud = false := by
                rw [← hno, Bool.eq_false_iff]
                intro hh
                simp [hb, prevD, hmm', gapC] at hh h1
                omega
              exact ⟨by rw [canL_C hf], S.wd.below⟩
            · simp at h1
              exact ⟨k + 1 + 1, ⟨by omega, all_step hmm hmy' hb, by rw [prevD, hmm, ← hno, hb, prevD, hmm', gapC, decide_eq_true (by omega), decide_eq_true (by omega)]; rfl⟩, by omega, S.weak (by repeat (first | exact Fits.nil | refine Fits.skip rfl ?_ | refine Fits.cons rfl ?_)) (by repeat (first | exact List.Sublist.refl _ | exact List.nil_sublist _ | refine .cons_cons _ ?_ | refine .cons _ ?_))⟩
      · have hend : k = C.cloud.length := by omega
        subst hend
        rw [List.drop_length, okC] at hno
        refine wp_seq_k fun _ hK3 => ?_
        refine wp_region_lit ?_
        (refine st_y S (Yr.ys (ys_F (by omega) (ys_lss (Ev.t rfl) (Ev.t rfl)))) rfl ?_; clear S a w; intro a w S)
        refine st_nil ?_
        (refine (then_normal (hK3 _ _ ?_)); clear hK3)
        refine wp_seq_k fun _ hK3 => ?_
        refine st_else S (Ev.t rfl) ?_
        refine wp_exit ?_
        (refine (then_exit (then_exit (in_here (then_normal (hK1 _ _ ?_))))); clear hK1)
        refine wp_seq_k fun _ hK1 => ?_
        refine wp_region_lit ?_
        (refine st_y S (Yr.ys (ys_assign Ev.c)) rfl ?_; clear S a w; intro a w S)
        refine st_nil ?_
        (refine (then_normal (hK1 _ _ ?_)); clear hK1)
        refine wp_ret ?_
        refine st_ret S (results1 S Try.results27 (Rv.tmp rfl)) ?_
        exact ⟨by rw [canL_yes hbig hM hno.symm], S.wd.below⟩
end Go.Proofs.Ytfblmkocmnbdcaa
namespace Go.Fw
theorem Dot.enc_len (x : Dot) : (Dot.enc x).length = 3 := rfl
theorem Dot.enc_one (x : Dot) : ∀ u ∈ Dot.enc x, u.oneCell' = true := fun u hu => by simp [Dot.enc] at hu; rcases hu with rfl | rfl | rfl <;> rfl
end Go.Fw
set_option linter.unusedVariables false
set_option linter.unusedSimpArgs false
set_option maxRecDepth 100000
namespace Go.Proofs.Ytfblmkocmnbdcaa
open Go.Fw Go.Proofs Go.RowKit
theorem c82 (w0 : World) (v1 : Value) (l : List Dot) (h : Sl Dot.enc 3 w0 w0.heap.size v1 l) (hn : l.length ≤ 4194304) :
    Rets Try.prog 82 #[v1] w0 fun v L => ∃ A c, v = .slice A l.length c ∧ L = [rowOf 62 3 Dot.enc A c l] := by
  have h0 := h
  obtain ⟨A, cap, rfl, hl, hcap, hA⟩ := h
  unfold Go.Fw.Rets
  refine enter1 Try.func82 rfl Try.ntmps82 rfl fun a S => ?_
  refine wp_seq_k fun _ hK1 => ?_
  refine wp_region_lit ?_
  (refine st_y S (Yr.ys (ys_assign Ev.c)) rfl ?_; clear S a; intro a w S)
  refine st_nil ?_
  (refine (then_normal (hK1 _ _ ?_)); clear hK1)
  refine wp_seq_k fun _ hK1 => ?_
  refine wp_seq_k fun _ hK2 => ?_
  refine wp_region_lit ?_
  (refine st_y S (Yr.ys (ys_move (Ev.t rfl))) rfl ?_; clear S a w; intro a w S)
  (refine st_y S (Yr.ys (ys_sNil Try.underlying36 (Ev.t rfl) Ev.c)) rfl ?_; clear S a w; intro a w S)
  refine st_nil ?_
  (refine (then_normal (hK2 _ _ ?_)); clear hK2)
  refine st_cond S (Ev.t rfl) (fun h1 => ?_) (fun h1 => ?_)
  refine wp_seq_k fun _ hK2 => ?_
  refine wp_region_lit ?_
  (refine st_y S (Yr.ys (ys_assign Ev.c)) rfl ?_; clear S a w; intro a w S)
  refine st_nil ?_
  (refine (then_normal (hK2 _ _ ?_)); clear hK2)
  refine wp_ret ?_
  refine (then_ret ?_)
  refine st_ret S (results1 S Try.results82 (Rv.tmp rfl)) ?_
  rotate_left
  refine wp_skip ?_
  (refine (then_normal (hK1 _ _ ?_)); clear hK1)
  refine wp_seq_k fun _ hK1 => ?_
  refine wp_region_lit ?_
  (refine st_m (op_bslice0 S Try.underlying36 Try.sizeOf62 rfl ?_); clear S a w; intro g1 a w S)
  (refine st_y S (Yr.ys (ys_move (Ev.t rfl))) rfl ?_; clear S a w; intro a w S)
  (refine st_m (op_extend _ (S.nil_ 62 _ Go.Fw.Dot.enc _) Try.underlying36 Try.underlying36 (.inr ⟨_, rfl⟩) inf62 rfl (k := 0) rfl (Ev.t rfl) (Ev.t rfl) (Src.sl (Sl.old S.wd h0) (by decide) Go.Fw.Dot.enc_len Go.Fw.Dot.enc_one) (by first | omega | (simp only [List.length_append, List.length_cons, List.length_nil]; omega) | (simp; omega)) rfl rfl rfl ?_); clear S a w; intro A1 cap1 a w S)
  simp only [List.nil_append] at S
  (refine st_y S (Yr.ys (ys_assign (Ev.t rfl))) rfl ?_; clear S a w; intro a w S)
  refine st_nil ?_
  (refine (then_normal (hK1 _ _ ?_)); clear hK1)
  refine wp_ret ?_
  refine st_ret S (results1 S Try.results82 (Rv.tmp rfl)) ?_
  rotate_left
  · have hnil : l = [] := by
      refine List.eq_nil_of_length_eq_zero (Decidable.byContradiction fun hne => ?_)
      obtain ⟨g, o, rfl, _⟩ := hA (by omega)
      cases h1
    subst hnil
    exact ⟨_, _, rfl, (S.nil_ 62 3 Dot.enc none).wd.sub (by repeat (first | exact List.Sublist.refl _ | exact List.nil_sublist _ | refine .cons_cons _ ?_ | refine .cons _ ?_)), none, 0, rfl, rfl⟩
  · try simp only [List.nil_append] at S ⊢
    exact ⟨_, _, rfl, S.wd.sub (by repeat (first | exact List.Sublist.refl _ | exact List.nil_sublist _ | refine .cons_cons _ ?_ | refine .cons _ ?_)), _, _, rfl, rfl⟩
end Go.Proofs.Ytfblmkocmnbdcaa
set_option linter.unusedVariables false
set_option linter.unusedSimpArgs false
set_option maxRecDepth 100000
namespace Go.Proofs.Ytfblmkocmnbdcaa
open Go.Fw Go.Proofs Go.RowKit
set_option maxHeartbeats 1000000 in
theorem k129 {α : Type} {enc : α → List Value} (he : ∀ x, (enc x).length = 3) (h1 : ∀ x, ∀ u ∈ enc x, u.oneCell' = true) {w0 w : World} {L : List Chunk} {A : Option Addr} {cap gv : Nat} {l : List α} {x : α} {vs : List Value} {E' : TypeId}
    (W : Wd w0 (rowOf 110 3 enc A cap l :: .blk gv (.cells vs.toArray E') :: L) w) (hvs : vs = enc x) (i : Nat) (hi : i ≤ l.length) (hn : l.length ≤ 4194304) :
    RetsO Try.prog 129 #[.slice A l.length cap, .int .i64 (i : Int), .slice (some ⟨gv, 0, none⟩) 1 1] w0 w fun v L' => ∃ A' c', v = .slice A' (l.length + 1) c' ∧ L' = rowOf 110 3 enc A' c' (l.take i ++ x :: l.drop i) :: L := by
  obtain ⟨hlc, hcm⟩ := W.room (k := 0) rfl
  have hf1 : ∀ u ∈ l.flatMap enc, u.oneCell' = true := fun u hu => by
    obtain ⟨y, _, hy⟩ := List.mem_flatMap.1 hu
    exact h1 y u hy
  have hd1 : ∀ u ∈ (l.drop i).flatMap enc, u.oneCell' = true := fun u hu => by
    obtain ⟨y, _, hy⟩ := List.mem_flatMap.1 hu
    exact h1 y u hy
  have hx := he x
  have hfl := flat_len he l
  have hdl := flat_len he (l.drop i)
  have hdi : (l.drop i).length = l.length - i := List.length_drop
  have rw_1 : ((1 : Nat) : Int) = 1 := rfl
  unfold RetsO
  refine enterW3 W Try.func129 rfl Try.ntmps129 rfl fun a S => ?_
  by_cases hil : i = l.length
  · refine wp_seq_k fun _ hK1 => ?_
    refine wp_region_lit ?_
    (refine st_y S (Yr.ys (ys_assign Ev.c)) rfl ?_; clear S a; intro a w S)
    refine st_nil ?_
    (refine (then_normal (hK1 _ _ ?_)); clear hK1)
    refine wp_seq_k fun _ hK1 => ?_
    refine wp_region_lit ?_
    (refine st_y S (Yr.ys (ys_move (Ev.t rfl))) rfl ?_; clear S a w; intro a w S)
    (refine st_y S (Yr.ys (ys_move (Ev.t rfl))) rfl ?_; clear S a w; intro a w S)
    (refine st_y S (Yr.ys (ys_slLo Try.underlying35 Try.sizeOf110 (Ev.t rfl) (Ev.t rfl) (fun _ => by first | omega | (simp; done) | (simp; omega)))) rfl ?_; clear S a w; intro a w S)
    refine st_nil ?_
    (refine (then_normal (hK1 _ _ ?_)); clear hK1)
    refine wp_seq_k fun _ hK1 => ?_
    refine wp_region_lit ?_
    (refine st_y S (Yr.ys (ys_move (Ev.t rfl))) rfl ?_; clear S a w; intro a w S)
    (refine st_y S (Yr.ys (ys_lenS Try.underlying35 (Ev.t rfl))) rfl ?_; clear S a w; intro a w S)
    rw [rw_1] at S
    (refine st_y S (Yr.ys (ys_assign (Ev.t rfl))) rfl ?_; clear S a w; intro a w S)
    refine st_nil ?_
    (refine (then_normal (hK1 _ _ ?_)); clear hK1)
    refine wp_seq_k fun _ hK1 => ?_
    refine wp_seq_k fun _ hK2 => ?_
    refine wp_region_lit ?_
    (refine st_y S (Yr.ys (ys_move (Ev.t rfl))) rfl ?_; clear S a w; intro a w S)
    (refine st_y S (Yr.ys (ys_F (by omega) (ys_eql (Ev.t rfl) Ev.c))) rfl ?_; clear S a w; intro a w S)
    refine st_nil ?_
    (refine (then_normal (hK2 _ _ ?_)); clear hK2)
    refine st_else S (Ev.t rfl) ?_
    refine wp_skip ?_
    (refine (then_normal (hK1 _ _ ?_)); clear hK1)
    refine wp_seq_k fun _ hK1 => ?_
    refine wp_region_lit ?_
    (refine st_y S (Yr.ys (ys_move (Ev.t rfl))) rfl ?_; clear S a w; intro a w S)
    (refine st_y S (Yr.ys (ys_lenS Try.underlying35 (Ev.t rfl))) rfl ?_; clear S a w; intro a w S)
    (refine st_y S (Yr.ys (ys_assign (Ev.t rfl))) rfl ?_; clear S a w; intro a w S)
    refine st_nil ?_
    (refine (then_normal (hK1 _ _ ?_)); clear hK1)
    refine wp_seq_k fun _ hK1 => ?_
    refine wp_seq_k fun _ hK2 => ?_
    refine wp_region_lit ?_
    (refine st_y S (Yr.ys (ys_move (Ev.t rfl))) rfl ?_; clear S a w; intro a w S)
    (refine st_y S (Yr.ys (ys_move (Ev.t rfl))) rfl ?_; clear S a w; intro a w S)
    (refine st_y S (Yr.ys (ys_T (by omega) (ys_eql (Ev.t rfl) (Ev.t rfl)))) rfl ?_; clear S a w; intro a w S)
    refine st_nil ?_
    (refine (then_normal (hK2 _ _ ?_)); clear hK2)
    refine st_then S (Ev.t rfl) ?_
    refine wp_seq_k fun _ hK2 => ?_
    refine wp_region_lit ?_
    (refine st_y S (Yr.ys (ys_move (Ev.t rfl))) rfl ?_; clear S a w; intro a w S)
    (refine st_y S (Yr.ys (ys_move (Ev.t rfl))) rfl ?_; clear S a w; intro a w S)
    refine st_m (op_extend [x] S Try.underlying35 Try.underlying35 (.inr ⟨_, rfl⟩) inf110 rfl (k := 0) rfl (Ev.t rfl) (Ev.t rfl) (by
      have h := Src.blk (P := Try.prog) (size := 3) (m := 1) (c := 1) S.wd (k := 1) rfl (by rw [hvs, he]) (by rw [hvs]; exact h1 x)
      simpa [hvs] using h) (by simp; omega) rfl rfl rfl ?_)
    clear S
    intro A1 cap1 a w S
    (refine st_y S (Yr.ys (ys_assign (Ev.t rfl))) rfl ?_; clear S a w; intro a w S)
    refine st_nil ?_
    (refine (then_normal (hK2 _ _ ?_)); clear hK2)
    refine wp_ret ?_
    refine (then_ret ?_)
    refine st_ret S (results1 S Try.results129 (Rv.tmp rfl)) ?_
    refine ⟨_, rowOf 110 3 enc A1 cap1 (l ++ [x]) :: L, rfl, S.wd.sub (by repeat (first | exact List.Sublist.refl _ | exact List.nil_sublist _ | refine .cons_cons _ ?_ | refine .cons _ ?_)), A1, cap1, by simp, ?_⟩
    rw [hil, List.take_length, List.drop_length]
  by_cases hroom : l.length + 1 ≤ cap
  · have rw_2 : (l.length : Int) + 1 = ((l.length + 1 : Nat) : Int) := by omega
    have rw_3 : (i : Int) + 1 = ((i + 1 : Nat) : Int) := by omega
    obtain ⟨g, cs, rfl, hcs, _, hcm', htk, W2⟩ := S.wd.open_row (k := 0) rfl (by omega)
    replace S := St.mk S.kn W2
    clear W W2
    have hlen : cs.length = cap * 3 := hcs
    refine wp_seq_k fun _ hK1 => ?_
    refine wp_region_lit ?_
    (refine st_y S (Yr.ys (ys_assign Ev.c)) rfl ?_; clear S a w; intro a w S)
    refine st_nil ?_
    (refine (then_normal (hK1 _ _ ?_)); clear hK1)
    refine wp_seq_k fun _ hK1 => ?_
    refine wp_region_lit ?_
    (refine st_y S (Yr.ys (ys_move (Ev.t rfl))) rfl ?_; clear S a w; intro a w S)
    (refine st_y S (Yr.ys (ys_move (Ev.t rfl))) rfl ?_; clear S a w; intro a w S)
    (refine st_y S (Yr.ys (ys_slLoB Try.underlying35 Try.sizeOf110 (Ev.t rfl) (Ev.t rfl) (fun _ => by omega))) rfl ?_; clear S a w; intro a w S)
    refine st_nil ?_
    (refine (then_normal (hK1 _ _ ?_)); clear hK1)
    refine wp_seq_k fun _ hK1 => ?_
    refine wp_region_lit ?_
    (refine st_y S (Yr.ys (ys_move (Ev.t rfl))) rfl ?_; clear S a w; intro a w S)
    (refine st_y S (Yr.ys (ys_lenS Try.underlying35 (Ev.t rfl))) rfl ?_; clear S a w; intro a w S)
    rw [rw_1] at S
    (refine st_y S (Yr.ys (ys_assign (Ev.t rfl))) rfl ?_; clear S a w; intro a w S)
    refine st_nil ?_
    (refine (then_normal (hK1 _ _ ?_)); clear hK1)
    refine wp_seq_k fun _ hK1 => ?_
    refine wp_seq_k fun _ hK2 => ?_
    refine wp_region_lit ?_
    (refine st_y S (Yr.ys (ys_move (Ev.t rfl))) rfl ?_; clear S a w; intro a w S)
    (refine st_y S (Yr.ys (ys_F (by omega) (ys_eql (Ev.t rfl) Ev.c))) rfl ?_; clear S a w; intro a w S)
    refine st_nil ?_
    (refine (then_normal (hK2 _ _ ?_)); clear hK2)
    refine st_else S (Ev.t rfl) ?_
    refine wp_skip ?_
    (refine (then_normal (hK1 _ _ ?_)); clear hK1)
    refine wp_seq_k fun _ hK1 => ?_
    refine wp_region_lit ?_
    (refine st_y S (Yr.ys (ys_move (Ev.t rfl))) rfl ?_; clear S a w; intro a w S)
    (refine st_y S (Yr.ys (ys_lenS Try.underlying35 (Ev.t rfl))) rfl ?_; clear S a w; intro a w S)
    (refine st_y S (Yr.ys (ys_assign (Ev.t rfl))) rfl ?_; clear S a w; intro a w S)
    refine st_nil ?_
    (refine (then_normal (hK1 _ _ ?_)); clear hK1)
    refine wp_seq_k fun _ hK1 => ?_
    refine wp_seq_k fun _ hK2 => ?_
    refine wp_region_lit ?_
    (refine st_y S (Yr.ys (ys_move (Ev.t rfl))) rfl ?_; clear S a w; intro a w S)
    (refine st_y S (Yr.ys (ys_move (Ev.t rfl))) rfl ?_; clear S a w; intro a w S)
    (refine st_y S (Yr.ys (ys_F (by omega) (ys_eql (Ev.t rfl) (Ev.t rfl)))) rfl ?_; clear S a w; intro a w S)
    refine st_nil ?_
    (refine (then_normal (hK2 _ _ ?_)); clear hK2)
    refine st_else S (Ev.t rfl) ?_
    refine wp_skip ?_
    (refine (then_normal (hK1 _ _ ?_)); clear hK1)
    refine wp_seq_k fun _ hK1 => ?_
    refine wp_seq_k fun _ hK2 => ?_
    refine wp_region_lit ?_
    (refine st_y S (Yr.ys (ys_move (Ev.t rfl))) rfl ?_; clear S a w; intro a w S)
    (refine st_y S (Yr.ys (ys_move (Ev.t rfl))) rfl ?_; clear S a w; intro a w S)
    (refine st_y S (Yr.ys (ys_addI (Ev.t rfl) (Ev.t rfl) (fun _ => by unfold I64; omega))) rfl ?_; clear S a w; intro a w S)
    rw [rw_2] at S
    (refine st_y S (Yr.ys (ys_move (Ev.t rfl))) rfl ?_; clear S a w; intro a w S)
    (refine st_y S (Yr.ys (ys_cap Try.underlying35 (Ev.t rfl))) rfl ?_; clear S a w; intro a w S)
    (refine st_y S (Yr.ys (ys_F (by omega) (ys_gtr (Ev.t rfl) (Ev.t rfl)))) rfl ?_; clear S a w; intro a w S)
    refine st_nil ?_
    (refine (then_normal (hK2 _ _ ?_)); clear hK2)
    refine st_else S (Ev.t rfl) ?_
    refine wp_skip ?_
    (refine (then_normal (hK1 _ _ ?_)); clear hK1)
    refine wp_seq_k fun _ hK1 => ?_
    refine wp_region_lit ?_
    (refine st_y S (Yr.ys (ys_move (Ev.t rfl))) rfl ?_; clear S a w; intro a w S)
    (refine st_y S (Yr.ys (ys_move (Ev.t rfl))) rfl ?_; clear S a w; intro a w S)
    (refine st_y S (Yr.ys (ys_move (Ev.t rfl))) rfl ?_; clear S a w; intro a w S)
    (refine st_y S (Yr.ys (ys_addI (Ev.t rfl) (Ev.t rfl) (fun _ => by unfold I64; omega))) rfl ?_; clear S a w; intro a w S)
    rw [rw_2] at S
    (refine st_y S (Yr.ys (ys_slHi Try.underlying35 Try.sizeOf110 (Ev.t rfl) (Ev.t rfl) (fun _ => by first | omega | (simp; done) | (simp; omega)))) rfl ?_; clear S a w; intro a w S)
    (refine st_y S (Yr.ys (ys_assign (Ev.t rfl))) rfl ?_; clear S a w; intro a w S)
    refine st_nil ?_
    (refine (then_normal (hK1 _ _ ?_)); clear hK1)
    refine wp_seq_k fun _ hK1 => ?_
    refine wp_seq_k fun _ hK2 => ?_
    refine wp_region_lit ?_
    (refine st_y S (Yr.ys (ys_move (Ev.t rfl))) rfl ?_; clear S a w; intro a w S)
    (refine st_y S (Yr.ys (ys_move (Ev.t rfl))) rfl ?_; clear S a w; intro a w S)
    (refine st_y S (Yr.ys (ys_move (Ev.t rfl))) rfl ?_; clear S a w; intro a w S)
    (refine st_y S (Yr.ys (ys_move (Ev.t rfl))) rfl ?_; clear S a w; intro a w S)
    (refine st_y S (Yr.ys (ys_addI (Ev.t rfl) (Ev.t rfl) (fun _ => by unfold I64; omega))) rfl ?_; clear S a w; intro a w S)
    rw [rw_3] at S
    (refine st_y S (Yr.ys (ys_slLoB Try.underlying35 Try.sizeOf110 (Ev.t rfl) (Ev.t rfl) (fun _ => by omega))) rfl ?_; clear S a w; intro a w S)
    refine st_y S (Yr.ys (ys_overlaps (tS := 35) (tR := 4) (ka := 1) (kb := 0) Try.func152 (by kernel_rfl) (by kernel_rfl) (by kernel_rfl) (by kernel_rfl) Try.underlying35 Try.sizeOf110 (Ev.t rfl) (Ev.t rfl) rfl rfl (by decide) (fun h => by rw [h] at hlen; simp at hlen; omega))) rfl ?_
    clear S
    intro a w S
    (refine st_y S (Yr.ys (ys_not (Ev.t rfl))) rfl ?_; clear S a w; intro a w S)
    refine st_nil ?_
    (refine (then_normal (hK2 _ _ ?_)); clear hK2)
    refine st_then S (Ev.t rfl) ?_
    refine wp_seq_k fun _ hK2 => ?_
    (refine h_begin S (by kernel_rfl) [] ?_; clear S a w; intro a w S)
    (refine h_y (i := 0) S (by repeat (first | exact List.Sublist.refl _ | exact List.nil_sublist _ | refine .cons_cons _ ?_ | refine .cons _ ?_)) rfl (by kernel_rfl) (by kernel_rfl) (by kernel_rfl) (fun _ _ _ _ h => h) (ys_move (Ev.t rfl)) rfl ?_; clear S a w; intro a w S)
    (refine h_y (i := 1) S (by repeat (first | exact List.Sublist.refl _ | exact List.nil_sublist _ | refine .cons_cons _ ?_ | refine .cons _ ?_)) rfl (by kernel_rfl) (by kernel_rfl) (by kernel_rfl) (fun _ _ _ _ h => h) (ys_move (Ev.t rfl)) rfl ?_; clear S a w; intro a w S)
    (refine h_y (i := 2) S (by repeat (first | exact List.Sublist.refl _ | exact List.nil_sublist _ | refine .cons_cons _ ?_ | refine .cons _ ?_)) rfl (by kernel_rfl) (by kernel_rfl) (by kernel_rfl) (fun _ _ _ _ h => h) (ys_move (Ev.t rfl)) rfl ?_; clear S a w; intro a w S)
    (refine h_y (i := 3) S (by repeat (first | exact List.Sublist.refl _ | exact List.nil_sublist _ | refine .cons_cons _ ?_ | refine .cons _ ?_)) rfl (by kernel_rfl) (by kernel_rfl) (by kernel_rfl) (fun _ _ _ _ h => h) (ys_addI (Ev.t rfl) (Ev.t rfl) (fun _ => by unfold I64; omega)) rfl ?_; clear S a w; intro a w S)
    rw [rw_3] at S
    (refine h_y (i := 4) S (by repeat (first | exact List.Sublist.refl _ | exact List.nil_sublist _ | refine .cons_cons _ ?_ | refine .cons _ ?_)) rfl (by kernel_rfl) (by kernel_rfl) (by kernel_rfl) (fun _ _ _ _ h => h) (ys_slLoB Try.underlying35 Try.sizeOf110 (Ev.t rfl) (Ev.t rfl) (fun _ => by omega)) rfl ?_; clear S a w; intro a w S)
    (refine h_y (i := 5) S (by repeat (first | exact List.Sublist.refl _ | exact List.nil_sublist _ | refine .cons_cons _ ?_ | refine .cons _ ?_)) rfl (by kernel_rfl) (by kernel_rfl) (by kernel_rfl) (fun _ _ _ _ h => h) (ys_move (Ev.t rfl)) rfl ?_; clear S a w; intro a w S)
    (refine h_y (i := 6) S (by repeat (first | exact List.Sublist.refl _ | exact List.nil_sublist _ | refine .cons_cons _ ?_ | refine .cons _ ?_)) rfl (by kernel_rfl) (by kernel_rfl) (by kernel_rfl) (fun _ _ _ _ h => h) (ys_move (Ev.t rfl)) rfl ?_; clear S a w; intro a w S)
    (refine h_y (i := 7) S (by repeat (first | exact List.Sublist.refl _ | exact List.nil_sublist _ | refine .cons_cons _ ?_ | refine .cons _ ?_)) rfl (by kernel_rfl) (by kernel_rfl) (by kernel_rfl) (fun _ _ _ _ h => h) (ys_slLoB Try.underlying35 Try.sizeOf110 (Ev.t rfl) (Ev.t rfl) (fun _ => by omega)) rfl ?_; clear S a w; intro a w S)
    have hnew : (cs.drop (0 + i * 3)).take ((l.length - i) * 3) = (l.drop i).flatMap enc := by
      rw [← flat_drop he, ← htk, Nat.zero_add, List.drop_take, ← Nat.sub_mul]
    refine h_m (i := 8) rfl (by kernel_rfl) (op_copyG (m := l.length - i) (q := l.length + 1 - i) S Try.underlying35 Try.sizeOf110 (Ev.t rfl) (Ev.t rfl) (k := 0) rfl (fun W => rfl) (by omega) (first_blk S.wd (k := 0) rfl (by omega)) (by rw [hnew]; omega) (by rw [hnew]; exact hd1) rfl ?_)
    clear S
    intro a w S
    refine h_on S _ (List.Sublist.refl _) (by repeat (first | exact List.Sublist.refl _ | exact List.nil_sublist _ | refine .cons_cons _ ?_ | refine .cons _ ?_)) ?_
    rw [hnew] at S
    refine h_done (by kernel_rfl) ?_
    (refine (then_normal (hK2 _ _ ?_)); clear hK2)
    refine wp_seq_k fun _ hK2 => ?_
    refine wp_region_lit ?_
    (refine st_y S (Yr.ys (ys_move (Ev.t rfl))) rfl ?_; clear S a w; intro a w S)
    (refine st_y S (Yr.ys (ys_move (Ev.t rfl))) rfl ?_; clear S a w; intro a w S)
    (refine st_y S (Yr.ys (ys_slLoB Try.underlying35 Try.sizeOf110 (Ev.t rfl) (Ev.t rfl) (fun _ => by omega))) rfl ?_; clear S a w; intro a w S)
    (refine st_y S (Yr.ys (ys_move (Ev.t rfl))) rfl ?_; clear S a w; intro a w S)
    refine st_m (op_copyG (m := 1) (q := 1) S Try.underlying35 Try.sizeOf110 (Ev.t rfl) (Ev.t rfl) (k := 0) rfl (fun W => rfl) (by omega) (first_blk S.wd (k := 1) rfl (by rw [hvs]; omega)) (by rw [lay_len, hvs]; simp; omega) (by rw [hvs]; exact fun u hu => h1 x u (by simpa using List.mem_of_mem_take hu)) rfl ?_)
    clear S
    intro a w S
    have hv3 : (vs.drop 0).take (1 * 3) = enc x := by rw [List.drop_zero, hvs, List.take_of_length_le (by omega)]
    rw [hv3] at S
    refine st_nil ?_
    rw [rw_1] at S
    (refine (then_normal (hK2 _ _ ?_)); clear hK2)
    refine wp_seq_k fun _ hK2 => ?_
    refine wp_region_lit ?_
    (refine st_y S (Yr.ys (ys_move (Ev.t rfl))) rfl ?_; clear S a w; intro a w S)
    (refine st_y S (Yr.ys (ys_assign (Ev.t rfl))) rfl ?_; clear S a w; intro a w S)
    refine st_nil ?_
    (refine (then_normal (hK2 _ _ ?_)); clear hK2)
    refine wp_ret ?_
    refine (then_ret ?_)
    refine st_ret S (results1 S Try.results129 (Rv.tmp rfl)) ?_
    have hfin := (ins_cells (cs := cs) (a := (l.take i).flatMap enc) (x := enc x) (d := (l.drop i).flatMap enc) (o := 0 + i * 3) (by rw [Nat.zero_add, ← flat_take he, ← htk, List.take_take, Nat.min_eq_left (Nat.mul_le_mul_right _ hi)]) (by omega) (by omega)).2
    have W3 := S.wd.close_row (k := 0) rfl (size := 3) (l.length + 1) cap ((l.take i ++ x :: l.drop i).flatMap enc) (by omega) (by rw [lay_len, lay_len]; exact hlen) (by omega) hcm' (by
      rw [List.flatMap_append, List.flatMap_cons, ← List.append_assoc, ← hfin, hx]
      rw [show (i + 1) * 3 = i * 3 + 3 by omega, Nat.zero_add, Nat.zero_add, Nat.add_assoc (i * 3) 3]
      congr 1
      omega)
    refine ⟨_, .row 110 3 (some ⟨g, 0, none⟩) (l.length + 1) cap ((l.take i ++ x :: l.drop i).flatMap enc) :: L, rfl, W3.sub (by repeat (first | exact List.Sublist.refl _ | exact List.nil_sublist _ | refine .cons_cons _ ?_ | refine .cons _ ?_)), some ⟨g, 0, none⟩, cap, rfl, ?_⟩
    simp only [rowOf]
    congr 2
    simp; omega
  · have rw_4 : (l.length : Int) + 1 - i = ((l.length + 1 - i : Nat) : Int) := by omega
    have rw_3 : (i : Int) + 1 = ((i + 1 : Nat) : Int) := by omega
    obtain ⟨ga, rfl⟩ := S.wd.row_at (k := 0) rfl (by omega)
    clear W
    refine wp_seq_k fun _ hK1 => ?_
    refine wp_region_lit ?_
    (refine st_y S (Yr.ys (ys_assign Ev.c)) rfl ?_; clear S a w; intro a w S)
    refine st_nil ?_
    (refine (then_normal (hK1 _ _ ?_)); clear hK1)
    refine wp_seq_k fun _ hK1 => ?_
    refine wp_region_lit ?_
    (refine st_y S (Yr.ys (ys_move (Ev.t rfl))) rfl ?_; clear S a w; intro a w S)
    (refine st_y S (Yr.ys (ys_move (Ev.t rfl))) rfl ?_; clear S a w; intro a w S)
    (refine st_y S (Yr.ys (ys_slLoB Try.underlying35 Try.sizeOf110 (Ev.t rfl) (Ev.t rfl) (fun _ => by omega))) rfl ?_; clear S a w; intro a w S)
    refine st_nil ?_
    (refine (then_normal (hK1 _ _ ?_)); clear hK1)
    refine wp_seq_k fun _ hK1 => ?_
    refine wp_region_lit ?_
    (refine st_y S (Yr.ys (ys_move (Ev.t rfl))) rfl ?_; clear S a w; intro a w S)
    (refine st_y S (Yr.ys (ys_lenS Try.underlying35 (Ev.t rfl))) rfl ?_; clear S a w; intro a w S)
    rw [rw_1] at S
    (refine st_y S (Yr.ys (ys_assign (Ev.t rfl))) rfl ?_; clear S a w; intro a w S)
    refine st_nil ?_
    (refine (then_normal (hK1 _ _ ?_)); clear hK1)
    refine wp_seq_k fun _ hK1 => ?_
    refine wp_seq_k fun _ hK2 => ?_
    refine wp_region_lit ?_
    (refine st_y S (Yr.ys (ys_move (Ev.t rfl))) rfl ?_; clear S a w; intro a w S)
    (refine st_y S (Yr.ys (ys_F (by omega) (ys_eql (Ev.t rfl) Ev.c))) rfl ?_; clear S a w; intro a w S)
    refine st_nil ?_
    (refine (then_normal (hK2 _ _ ?_)); clear hK2)
    refine st_else S (Ev.t rfl) ?_
    refine wp_skip ?_
    (refine (then_normal (hK1 _ _ ?_)); clear hK1)
    refine wp_seq_k fun _ hK1 => ?_
    refine wp_region_lit ?_
    (refine st_y S (Yr.ys (ys_move (Ev.t rfl))) rfl ?_; clear S a w; intro a w S)
    (refine st_y S (Yr.ys (ys_lenS Try.underlying35 (Ev.t rfl))) rfl ?_; clear S a w; intro a w S)
    (refine st_y S (Yr.ys (ys_assign (Ev.t rfl))) rfl ?_; clear S a w; intro a w S)
    refine st_nil ?_
    (refine (then_normal (hK1 _ _ ?_)); clear hK1)
    refine wp_seq_k fun _ hK1 => ?_
    refine wp_seq_k fun _ hK2 => ?_
    refine wp_region_lit ?_
    (refine st_y S (Yr.ys (ys_move (Ev.t rfl))) rfl ?_; clear S a w; intro a w S)
    (refine st_y S (Yr.ys (ys_move (Ev.t rfl))) rfl ?_; clear S a w; intro a w S)
    (refine st_y S (Yr.ys (ys_F (by omega) (ys_eql (Ev.t rfl) (Ev.t rfl)))) rfl ?_; clear S a w; intro a w S)
    refine st_nil ?_
    (refine (then_normal (hK2 _ _ ?_)); clear hK2)
    refine st_else S (Ev.t rfl) ?_
    refine wp_skip ?_
    (refine (then_normal (hK1 _ _ ?_)); clear hK1)
    refine wp_seq_k fun _ hK1 => ?_
    refine wp_seq_k fun _ hK2 => ?_
    refine wp_region_lit ?_
    (refine st_y S (Yr.ys (ys_move (Ev.t rfl))) rfl ?_; clear S a w; intro a w S)
    (refine st_y S (Yr.ys (ys_move (Ev.t rfl))) rfl ?_; clear S a w; intro a w S)
    (refine st_y S (Yr.ys (ys_addI (Ev.t rfl) (Ev.t rfl) (fun _ => by unfold I64; omega))) rfl ?_; clear S a w; intro a w S)
    (refine st_y S (Yr.ys (ys_move (Ev.t rfl))) rfl ?_; clear S a w; intro a w S)
    (refine st_y S (Yr.ys (ys_cap Try.underlying35 (Ev.t rfl))) rfl ?_; clear S a w; intro a w S)
    (refine st_y S (Yr.ys (ys_T (by omega) (ys_gtr (Ev.t rfl) (Ev.t rfl)))) rfl ?_; clear S a w; intro a w S)
    refine st_nil ?_
    (refine (then_normal (hK2 _ _ ?_)); clear hK2)
    refine st_then S (Ev.t rfl) ?_
    refine wp_seq_k fun _ hK2 => ?_
    refine wp_region_lit ?_
    (refine st_y S (Yr.ys (ys_move (Ev.t rfl))) rfl ?_; clear S a w; intro a w S)
    (refine st_y S (Yr.ys (ys_move (Ev.t rfl))) rfl ?_; clear S a w; intro a w S)
    (refine st_y S (Yr.ys (ys_slHi Try.underlying35 Try.sizeOf110 (Ev.t rfl) (Ev.t rfl) (fun _ => by first | omega | (simp; done) | (simp; omega)))) rfl ?_; clear S a w; intro a w S)
    (refine st_y S (Yr.ys (ys_move (Ev.t rfl))) rfl ?_; clear S a w; intro a w S)
    (refine st_y S (Yr.ys (ys_move (Ev.t rfl))) rfl ?_; clear S a w; intro a w S)
    (refine st_y S (Yr.ys (ys_addI (Ev.t rfl) (Ev.t rfl) (fun _ => by unfold I64; omega))) rfl ?_; clear S a w; intro a w S)
    (refine st_y S (Yr.ys (ys_move (Ev.t rfl))) rfl ?_; clear S a w; intro a w S)
    (refine st_y S (Yr.ys (ys_subI (Ev.t rfl) (Ev.t rfl) (fun _ => by unfold I64; omega))) rfl ?_; clear S a w; intro a w S)
    rw [rw_4] at S
    refine st_m (op_appZ (i := i) (z := l.length + 1 - i) S Try.underlying35 Try.underlying3 inf110 rfl (by simp [Value.cells, Value.oneCell']) (k := 0) rfl (Ev.t rfl) (Ev.t rfl) hi (by omega) (by omega) rfl rfl hf1 rfl ?_)
    clear S
    intro g cs cap' a w hcs hcap' hcm' htk hcs1 S
    have hlen : cs.length = cap' * 3 := hcs
    clear hcs
    (refine st_y S (Yr.ys (ys_assign (Ev.t rfl))) rfl ?_; clear S a w; intro a w S)
    refine st_nil ?_
    (refine (then_normal (hK2 _ _ ?_)); clear hK2)
    refine wp_seq_k fun _ hK2 => ?_
    refine wp_region_lit ?_
    (refine st_y S (Yr.ys (ys_move (Ev.t rfl))) rfl ?_; clear S a w; intro a w S)
    (refine st_y S (Yr.ys (ys_move (Ev.t rfl))) rfl ?_; clear S a w; intro a w S)
    (refine st_y S (Yr.ys (ys_slLoB Try.underlying35 Try.sizeOf110 (Ev.t rfl) (Ev.t rfl) (fun _ => by omega))) rfl ?_; clear S a w; intro a w S)
    (refine st_y S (Yr.ys (ys_move (Ev.t rfl))) rfl ?_; clear S a w; intro a w S)
    refine st_m (op_copyG (m := 1) (q := 1) S Try.underlying35 Try.sizeOf110 (Ev.t rfl) (Ev.t rfl) (k := 0) rfl (fun W => rfl) (by omega) (first_blk S.wd (k := 2) rfl (by rw [hvs]; omega)) (by rw [hvs]; simp; omega) (by rw [hvs]; exact fun u hu => h1 x u (by simpa using List.mem_of_mem_take hu)) rfl ?_)
    clear S
    intro a w S
    have hv3 : (vs.drop 0).take (1 * 3) = enc x := by rw [List.drop_zero, hvs, List.take_of_length_le (by omega)]
    rw [hv3] at S
    refine st_nil ?_
    rw [rw_1] at S
    (refine (then_normal (hK2 _ _ ?_)); clear hK2)
    refine wp_seq_k fun _ hK2 => ?_
    (refine h_begin S (by kernel_rfl) [] ?_; clear S a w; intro a w S)
    (refine h_y (i := 0) S (by repeat (first | exact List.Sublist.refl _ | exact List.nil_sublist _ | refine .cons_cons _ ?_ | refine .cons _ ?_)) rfl (by kernel_rfl) (by kernel_rfl) (by kernel_rfl) (fun _ _ _ _ h => h) (ys_move (Ev.t rfl)) rfl ?_; clear S a w; intro a w S)
    (refine h_y (i := 1) S (by repeat (first | exact List.Sublist.refl _ | exact List.nil_sublist _ | refine .cons_cons _ ?_ | refine .cons _ ?_)) rfl (by kernel_rfl) (by kernel_rfl) (by kernel_rfl) (fun _ _ _ _ h => h) (ys_move (Ev.t rfl)) rfl ?_; clear S a w; intro a w S)
    (refine h_y (i := 2) S (by repeat (first | exact List.Sublist.refl _ | exact List.nil_sublist _ | refine .cons_cons _ ?_ | refine .cons _ ?_)) rfl (by kernel_rfl) (by kernel_rfl) (by kernel_rfl) (fun _ _ _ _ h => h) (ys_move (Ev.t rfl)) rfl ?_; clear S a w; intro a w S)
    (refine h_y (i := 3) S (by repeat (first | exact List.Sublist.refl _ | exact List.nil_sublist _ | refine .cons_cons _ ?_ | refine .cons _ ?_)) rfl (by kernel_rfl) (by kernel_rfl) (by kernel_rfl) (fun _ _ _ _ h => h) (ys_addI (Ev.t rfl) (Ev.t rfl) (fun _ => by unfold I64; omega)) rfl ?_; clear S a w; intro a w S)
    rw [rw_3] at S
    (refine h_y (i := 4) S (by repeat (first | exact List.Sublist.refl _ | exact List.nil_sublist _ | refine .cons_cons _ ?_ | refine .cons _ ?_)) rfl (by kernel_rfl) (by kernel_rfl) (by kernel_rfl) (fun _ _ _ _ h => h) (ys_slLoB Try.underlying35 Try.sizeOf110 (Ev.t rfl) (Ev.t rfl) (fun _ => by omega)) rfl ?_; clear S a w; intro a w S)
    (refine h_y (i := 5) S (by repeat (first | exact List.Sublist.refl _ | exact List.nil_sublist _ | refine .cons_cons _ ?_ | refine .cons _ ?_)) rfl (by kernel_rfl) (by kernel_rfl) (by kernel_rfl) (fun _ _ _ _ h => h) (ys_move (Ev.t rfl)) rfl ?_; clear S a w; intro a w S)
    (refine h_y (i := 6) S (by repeat (first | exact List.Sublist.refl _ | exact List.nil_sublist _ | refine .cons_cons _ ?_ | refine .cons _ ?_)) rfl (by kernel_rfl) (by kernel_rfl) (by kernel_rfl) (fun _ _ _ _ h => h) (ys_move (Ev.t rfl)) rfl ?_; clear S a w; intro a w S)
    (refine h_y (i := 7) S (by repeat (first | exact List.Sublist.refl _ | exact List.nil_sublist _ | refine .cons_cons _ ?_ | refine .cons _ ?_)) rfl (by kernel_rfl) (by kernel_rfl) (by kernel_rfl) (fun _ _ _ _ h => h) (ys_slLoB Try.underlying35 Try.sizeOf110 (Ev.t rfl) (Ev.t rfl) (fun _ => by omega)) rfl ?_; clear S a w; intro a w S)
    have hnew : (l.drop i).take (l.length - i) = l.drop i := List.take_of_length_le (by simp)
    refine h_m (i := 8) rfl (by kernel_rfl) (op_copyG (m := l.length - i) (q := l.length - i) S Try.underlying35 Try.sizeOf110 (Ev.t rfl) (Ev.t rfl) (k := 0) rfl (fun W => rfl) (by omega) (first_row he S.wd (k := 1) rfl (by omega)) (by rw [hnew, lay_len]; omega) (by rw [hnew]; exact hd1) rfl ?_)
    clear S
    intro a w S
    refine h_on S _ (List.Sublist.refl _) (by repeat (first | exact List.Sublist.refl _ | exact List.nil_sublist _ | refine .cons_cons _ ?_ | refine .cons _ ?_)) ?_
    rw [hnew] at S
    refine h_done (by kernel_rfl) ?_
    (refine (then_normal (hK2 _ _ ?_)); clear hK2)
    refine wp_seq_k fun _ hK2 => ?_
    refine wp_region_lit ?_
    (refine st_y S (Yr.ys (ys_move (Ev.t rfl))) rfl ?_; clear S a w; intro a w S)
    (refine st_y S (Yr.ys (ys_assign (Ev.t rfl))) rfl ?_; clear S a w; intro a w S)
    refine st_nil ?_
    (refine (then_normal (hK2 _ _ ?_)); clear hK2)
    refine wp_ret ?_
    refine (then_ret ?_)
    refine st_ret S (results1 S Try.results129 (Rv.tmp rfl)) ?_
    have hfin := (ins_cells (cs := cs) (a := (l.take i).flatMap enc) (x := enc x) (d := (l.drop i).flatMap enc) (o := 0 + i * 3) (by rw [Nat.zero_add, htk, flat_take he]) (by omega) (by omega)).1
    have W3 := S.wd.close_row (k := 0) rfl (size := 3) (l.length + 1) cap' ((l.take i ++ x :: l.drop i).flatMap enc) (by omega) (by rw [lay_len, lay_len]; exact hlen) (by omega) hcm' (by
      rw [List.flatMap_append, List.flatMap_cons, ← List.append_assoc, ← hfin, hx]
      rw [show (i + 1) * 3 = i * 3 + 3 by omega, Nat.zero_add, Nat.zero_add, Nat.add_assoc (i * 3) 3]
      congr 1
      omega)
    refine ⟨_, .row 110 3 (some ⟨g, 0, none⟩) (l.length + 1) cap' ((l.take i ++ x :: l.drop i).flatMap enc) :: L, rfl, W3.sub (by repeat (first | exact List.Sublist.refl _ | exact List.nil_sublist _ | refine .cons_cons _ ?_ | refine .cons _ ?_)), some ⟨g, 0, none⟩, cap', ?_, ?_⟩
    · congr 1
      omega
    · simp only [rowOf]
      congr 2
      simp; omega
end Go.Proofs.Ytfblmkocmnbdcaa
