/- Layer 3: the program's Normal. -/
import Derived.Test.YtjfeeiljinbmjaaCau11
set_option linter.unusedVariables false
set_option linter.unusedSimpArgs false
set_option maxRecDepth 100000
namespace Go.Proofs.Ytjfeeiljinbmjaa
open Go.Fw Go.Proofs Go.RowKit

theorem growC_len (C : Ctx) (d : Dot) : (growC C d).marks.length ≤ C.marks.length + 1 ∧ (growC C d).cloud.length ≤ C.cloud.length + 1 := by
  unfold growC
  split
  · omega
  · split
    · simp
    · have := setL_len d C.marks false
      simp only [Bool.false_eq_true, if_false] at this
      dsimp only
      omega
theorem growF_len : ∀ (b : List Dot) (C : Ctx), (b.foldl growC C).marks.length ≤ C.marks.length + b.length ∧ (b.foldl growC C).cloud.length ≤ C.cloud.length + b.length
  | [], C => by simp
  | d :: r, C => by
    have h1 := growC_len C d
    have h2 := growF_len r (growC C d)
    simp only [List.foldl_cons, List.length_cons]
    omega

set_option maxHeartbeats 4000000 in
theorem c91 (w0 : World) (v1 v2 : Value) (l d : List Dot) (h : Sl Dot.enc 3 w0 w0.heap.size v1 l) (h' : Sl Dot.enc 3 w0 w0.heap.size v2 d) (hn : l.length ≤ 2097152) (hn' : d.length ≤ 2097152) :
    Rets Try.prog 91 #[v1, v2] w0 fun v L => ∃ A1 c1 A2 c2, v = .tuple #[.agg #[.slice A1 (normalL l d).1.marks.length c1, .slice A2 (normalL l d).1.cloud.length c2], .int .i64 (normalL l d).2] ∧
      L = [rowOf 43 3 Dot.enc A1 c1 (normalL l d).1.marks, rowOf 32 3 Dot.enc A2 c2 (normalL l d).1.cloud] := by
  have hd0 := h'
  obtain ⟨A, cap, rfl, hl, hcap, hA⟩ := h
  obtain ⟨A', cap', rfl, hl', hcap', hA'⟩ := h'
  unfold Go.Fw.Rets
  refine enter2 Try.func91 rfl Try.ntmps91 rfl fun a S => ?_
  refine wp_seq_k fun _ hK1 => ?_
  refine wp_region_lit ?_
  (refine st_m (op_alloc S Try.zeroValue36 (cs := _) rfl rfl ?_); clear S a; intro g1 a w S)
  (refine st_y S (Yr.ys (ys_assign Ev.c)) rfl ?_; clear S a w; intro a w S)
  refine st_nil ?_
  (refine (then_normal (hK1 _ _ ?_)); clear hK1)
  refine wp_seq_k fun _ hK1 => ?_
  refine wp_region_lit ?_
  (refine st_y S (Yr.ys (ys_assign Ev.c)) rfl ?_; clear S a w; intro a w S)
  refine st_nil ?_
  (refine (then_normal (hK1 _ _ ?_)); clear hK1)
  refine wp_seq_k fun _ hK1 => ?_
  refine wp_seq_k fun _ hK2 => ?_
  refine wp_region_lit ?_
  (refine st_y S (Yr.ys (ys_move (Ev.t rfl))) rfl ?_; clear S a w; intro a w S)
  (refine st_y S (Yr.ys (ys_lenS Try.underlying29 (Ev.t rfl))) rfl ?_; clear S a w; intro a w S)
  (refine st_y S (Yr.ys (ys_move Ev.c)) rfl ?_; clear S a w; intro a w S)
  refine st_nil ?_
  (refine (then_normal (hK2 _ _ ?_)); clear hK2)
  refine wp_block ?_
  refine st_loopK (S.nil_ 32 3 Dot.enc none) (X := Nat × Option Addr × Nat) (fun q => [(20, true, .int .i64 (q.1 : Int)), (6, true, .slice q.2.1 (l.take q.1).length q.2.2)])
    (fun q _ => [rowOf 32 3 Dot.enc q.2.1 q.2.2 (l.take q.1), .blk g1 (.cells #[.slice none 0 0, .slice none 0 0] 36)])
    (fun q => q.1 ≤ l.length ∧ ∀ x ∈ l.take q.1, mayD x = true) (fun q => l.length - q.1) (0, none, 0) ⟨Nat.zero_le _, by simp⟩ (by repeat (first | exact Fits.nil | refine Fits.skip rfl ?_ | refine Fits.cons rfl ?_)) (by repeat (first | exact List.Sublist.refl _ | exact List.nil_sublist _ | refine .cons_cons _ ?_ | refine .cons _ ?_)) ?_
  clear S
  intro ⟨k, B, cB⟩ a w ⟨hk, hall⟩ S
  dsimp only at hk hall S
  by_cases hlt : k < l.length
  · obtain ⟨g, o, m, rfl, hmm, hd, hc⟩ := row_at hA hlt
    have hout : (l.take k).length = k := by simp; omega
    have heta : (⟨m.node, m.life, m.count⟩ : Dot) = m := rfl
    clear hA hA'
    by_cases h1 : mayD m = true
    · have rw_eta : (⟨m.node, m.life, m.count⟩ : Dot) = m := rfl
      have rw_t : l.take k ++ [m] = l.take (k + 1) := by rw [List.take_add_one, hmm]; rfl
      refine wp_seq_k fun _ hK2 => ?_
      refine wp_region_lit ?_
      (refine st_y S (Yr.ys (ys_T (by omega) (ys_lss (Ev.t rfl) (Ev.t rfl)))) rfl ?_; clear S a w; intro a w S)
      refine st_nil ?_
      (refine (then_normal (hK2 _ _ ?_)); clear hK2)
      refine wp_seq_k fun _ hK2 => ?_
      refine st_then S (Ev.t rfl) ?_
      refine wp_skip ?_
      (refine (then_normal (hK2 _ _ ?_)); clear hK2)
      refine wp_seq_k fun _ hK2 => ?_
      refine wp_block ?_
      refine wp_seq_k fun _ hK3 => ?_
      refine wp_region_lit ?_
      (refine st_y S (Yr.ys (ys_ixS Try.underlying29 Try.sizeOf43 (Ev.t rfl) (Ev.t rfl) (fun _ => by omega))) rfl ?_; clear S a w; intro a w S)
      (refine st_y S (Yr.ys (ys_ldOA ⟨Try.isAgg43, Try.sizeOf43⟩ (Ev.t rfl) (vs := [_, _, _]) rfl (fun _ => hc))) rfl ?_; clear S a w; intro a w S)
      (refine st_m (op_alloc S Try.zeroValue43 (cs := _) rfl rfl ?_); clear S a w; intro g2 a w S)
      (refine st_m (op_stW S Try.sizeOf43 (Ev.t rfl) (Ev.t rfl) (k := 0) rfl rfl rfl (by simp [Value.oneCell']) ?_); clear S a w; intro a w S)
      refine st_nil ?_
      (refine (then_normal (hK3 _ _ ?_)); clear hK3)
      refine wp_seq_k fun _ hK3 => ?_
      refine wp_seq_k fun _ hK4 => ?_
      refine wp_region_lit ?_
      (refine st_y S (Yr.ys (ys_ldA ⟨Try.isAgg43, Try.sizeOf43⟩ (Ev.t rfl) (k := 0) rfl rfl)) rfl ?_; clear S a w; intro a w S)
      (refine st_y S (ys_call Try.call66 (EvL.cons (Ev.t rfl) EvL.nil) (fun hp w W => c66 _ _ _ _)) rfl ?_; clear S a w; intro a w S)
      (refine st_y S (ys_call Try.call72 (EvL.cons (Ev.t rfl) EvL.nil) (fun hp w W => c72 _ _ _ _ _ (by first | assumption | omega | exact .old W (by assumption)  | exact Sl.of_own W (k := 1) rfl (fun _ => rfl) | (simp at hp; omega)))) rfl ?_; clear S a w; intro a w S)
      (refine st_y S (Yr.ys (ys_not (Ev.t rfl))) rfl ?_; clear S a w; intro a w S)
      refine st_nil ?_
      (refine (then_normal (hK4 _ _ ?_)); clear hK4)
      refine st_else S (Ev.t rfl) ?_
      refine wp_skip ?_
      (refine (then_normal (hK3 _ _ ?_)); clear hK3)
      refine wp_region_lit ?_
      (refine st_y S (Yr.ys (ys_move (Ev.t rfl))) rfl ?_; clear S a w; intro a w S)
      (refine st_y S (Yr.ys (ys_ldA ⟨Try.isAgg43, Try.sizeOf43⟩ (Ev.t rfl) (k := 0) rfl rfl)) rfl ?_; clear S a w; intro a w S)
      (refine st_y S (ys_call Try.call66 (EvL.cons (Ev.t rfl) EvL.nil) (fun hp w W => c66 _ _ _ _)) rfl ?_; clear S a w; intro a w S)
      (refine st_m (op_bslice1 S Try.underlying30 inf32 rfl rfl rfl (Ev.t rfl) rfl rfl rfl ?_); clear S a w; intro g3 a w S)
      (refine st_m (op_push S Try.underlying30 inf32 rfl (k := 2) (j := 0) rfl (Ev.t rfl) (Ev.t rfl) rfl rfl rfl rfl (by first | omega | (simp only [List.length_append, List.length_cons, List.length_nil]; omega)) rfl rfl rfl ?_); clear S a w; intro A1 cap1 a w S)
      rw [rw_t] at S
      (refine st_y S (Yr.ys (ys_assign (Ev.t rfl))) rfl ?_; clear S a w; intro a w S)
      refine st_nil ?_
      (refine (in_normal (then_normal (hK2 _ _ ?_))); clear hK2)
      refine wp_region_lit ?_
      (refine st_y S (Yr.ys (ys_addI (Ev.t rfl) Ev.c (fun _ => by unfold I64; omega))) rfl ?_; clear S a w; intro a w S)
      (refine st_y S (Yr.ys (ys_move (Ev.t rfl))) rfl ?_; clear S a w; intro a w S)
      refine st_nil ?_
      refine (then_normal ?_)
      exact ⟨(k + 1, A1, cap1), ⟨by dsimp only; omega, all_step hmm hall h1⟩, by dsimp only; omega, S.weak (by repeat (first | exact Fits.nil | refine Fits.skip rfl ?_ | refine Fits.cons rfl ?_)) (by repeat (first | exact List.Sublist.refl _ | exact List.nil_sublist _ | refine .cons_cons _ ?_ | refine .cons _ ?_))⟩
    · have h1 : mayD m = false := by simpa using h1
      refine wp_seq_k fun _ hK2 => ?_
      refine wp_region_lit ?_
      (refine st_y S (Yr.ys (ys_T (by omega) (ys_lss (Ev.t rfl) (Ev.t rfl)))) rfl ?_; clear S a w; intro a w S)
      refine st_nil ?_
      (refine (then_normal (hK2 _ _ ?_)); clear hK2)
      refine wp_seq_k fun _ hK2 => ?_
      refine st_then S (Ev.t rfl) ?_
      refine wp_skip ?_
      (refine (then_normal (hK2 _ _ ?_)); clear hK2)
      refine wp_seq_k fun _ hK2 => ?_
      refine wp_block ?_
      refine wp_seq_k fun _ hK3 => ?_
      refine wp_region_lit ?_
      (refine st_y S (Yr.ys (ys_ixS Try.underlying29 Try.sizeOf43 (Ev.t rfl) (Ev.t rfl) (fun _ => by omega))) rfl ?_; clear S a w; intro a w S)
      (refine st_y S (Yr.ys (ys_ldOA ⟨Try.isAgg43, Try.sizeOf43⟩ (Ev.t rfl) (vs := [_, _, _]) rfl (fun _ => hc))) rfl ?_; clear S a w; intro a w S)
      (refine st_m (op_alloc S Try.zeroValue43 (cs := _) rfl rfl ?_); clear S a w; intro g2 a w S)
      (refine st_m (op_stW S Try.sizeOf43 (Ev.t rfl) (Ev.t rfl) (k := 0) rfl rfl rfl (by simp [Value.oneCell']) ?_); clear S a w; intro a w S)
      refine st_nil ?_
      (refine (then_normal (hK3 _ _ ?_)); clear hK3)
      refine wp_seq_k fun _ hK3 => ?_
      refine wp_seq_k fun _ hK4 => ?_
      refine wp_region_lit ?_
      (refine st_y S (Yr.ys (ys_ldA ⟨Try.isAgg43, Try.sizeOf43⟩ (Ev.t rfl) (k := 0) rfl rfl)) rfl ?_; clear S a w; intro a w S)
      (refine st_y S (ys_call Try.call66 (EvL.cons (Ev.t rfl) EvL.nil) (fun hp w W => c66 _ _ _ _)) rfl ?_; clear S a w; intro a w S)
      (refine st_y S (ys_call Try.call72 (EvL.cons (Ev.t rfl) EvL.nil) (fun hp w W => c72 _ _ _ _ _ (by first | assumption | omega | exact .old W (by assumption)  | exact Sl.of_own W (k := 1) rfl (fun _ => rfl) | (simp at hp; omega)))) rfl ?_; clear S a w; intro a w S)
      (refine st_y S (Yr.ys (ys_not (Ev.t rfl))) rfl ?_; clear S a w; intro a w S)
      refine st_nil ?_
      (refine (then_normal (hK4 _ _ ?_)); clear hK4)
      refine st_then S (Ev.t rfl) ?_
      refine wp_seq_k fun _ hK4 => ?_
      refine wp_region_lit ?_
      (refine st_y S (Yr.ys (ys_bld (ps := []) (us := [_, _]) bld36 EvL.nil rfl)) rfl ?_; clear S a w; intro a w S)
      (refine st_m (op_stW S Try.sizeOf36 (Ev.t rfl) (Ev.t rfl) (k := 2) rfl rfl rfl (by simp [Value.oneCell']) ?_); clear S a w; intro a w S)
      (refine st_y S (Yr.ys (ys_assign Ev.c)) rfl ?_; clear S a w; intro a w S)
      refine st_nil ?_
      (refine (then_normal (hK4 _ _ ?_)); clear hK4)
      refine wp_ret ?_
      refine (then_ret (in_ret (then_ret (then_ret (in_ret (then_ret ?_))))))
      refine st_ret S (results2 S Try.results91 (Rv.cell (k := 2) ⟨Try.isAgg36, Try.sizeOf36⟩ rfl rfl rfl) (Rv.tmp rfl)) ?_
      rw [normalL_bad1 hmm h1]
      exact ⟨_, _, rfl, ((S.nil_ 32 3 Dot.enc none).nil_ 43 3 Dot.enc none).wd.sub (by repeat (first | exact List.Sublist.refl _ | exact List.nil_sublist _ | refine .cons_cons _ ?_ | refine .cons _ ?_)), none, 0, none, 0, rfl, rfl⟩
  · obtain rfl : k = l.length := by omega
    rw [List.take_length] at hall S
    clear hk hlt hA
    refine wp_seq_k fun _ hK2 => ?_
    refine wp_region_lit ?_
    (refine st_y S (Yr.ys (ys_F (by omega) (ys_lss (Ev.t rfl) (Ev.t rfl)))) rfl ?_; clear S a w; intro a w S)
    refine st_nil ?_
    (refine (then_normal (hK2 _ _ ?_)); clear hK2)
    refine wp_seq_k fun _ hK2 => ?_
    refine st_else S (Ev.t rfl) ?_
    refine wp_exit ?_
    (refine (then_exit (then_exit (in_here (then_normal (hK1 _ _ ?_))))); clear hK1)
    refine wp_seq_k fun _ hK1 => ?_
    refine wp_seq_k fun _ hK3 => ?_
    refine wp_region_lit ?_
    (refine st_y S (Yr.ys (ys_move (Ev.t rfl))) rfl ?_; clear S a w; intro a w S)
    (refine st_y S (Yr.ys (ys_lenS Try.underlying30 (Ev.t rfl))) rfl ?_; clear S a w; intro a w S)
    (refine st_y S (Yr.ys (ys_move Ev.c)) rfl ?_; clear S a w; intro a w S)
    refine st_nil ?_
    (refine (then_normal (hK3 _ _ ?_)); clear hK3)
    refine wp_block ?_
    refine st_loopK S (X := Nat) (fun k => [(37, true, .int .i64 (k : Int))]) (fun _ L => L) (fun k => k ≤ d.length ∧ ∀ x ∈ d.take k, mayD x = true) (fun k => d.length - k) 0 ⟨Nat.zero_le _, by simp⟩ (by repeat (first | exact Fits.nil | refine Fits.skip rfl ?_ | refine Fits.cons rfl ?_)) (by repeat (first | exact List.Sublist.refl _ | exact List.nil_sublist _ | refine .cons_cons _ ?_ | refine .cons _ ?_)) ?_
    clear S
    intro k a w ⟨hk, halld⟩ S
    by_cases hlt : k < d.length
    · obtain ⟨g, o, m, rfl, hmm, hd, hc⟩ := row_at hA' hlt
      have heta : (⟨m.node, m.life, m.count⟩ : Dot) = m := rfl
      clear hA'
      by_cases h1 : mayD m = true
      · refine wp_seq_k fun _ hK3 => ?_
        refine wp_region_lit ?_
        (refine st_y S (Yr.ys (ys_T (by omega) (ys_lss (Ev.t rfl) (Ev.t rfl)))) rfl ?_; clear S a w; intro a w S)
        refine st_nil ?_
        (refine (then_normal (hK3 _ _ ?_)); clear hK3)
        refine wp_seq_k fun _ hK3 => ?_
        refine st_then S (Ev.t rfl) ?_
        refine wp_skip ?_
        (refine (then_normal (hK3 _ _ ?_)); clear hK3)
        refine wp_seq_k fun _ hK3 => ?_
        refine wp_block ?_
        refine wp_seq_k fun _ hK4 => ?_
        refine wp_region_lit ?_
        (refine st_y S (Yr.ys (ys_ixS Try.underlying30 Try.sizeOf32 (Ev.t rfl) (Ev.t rfl) (fun _ => by omega))) rfl ?_; clear S a w; intro a w S)
        (refine st_y S (Yr.ys (ys_ldOA ⟨Try.isAgg32, Try.sizeOf32⟩ (Ev.t rfl) (vs := [_, _, _]) rfl (fun _ => hc))) rfl ?_; clear S a w; intro a w S)
        (refine st_m (op_alloc S Try.zeroValue32 (cs := _) rfl rfl ?_); clear S a w; intro g2 a w S)
        (refine st_m (op_stW S Try.sizeOf32 (Ev.t rfl) (Ev.t rfl) (k := 0) rfl rfl rfl (by simp [Value.oneCell']) ?_); clear S a w; intro a w S)
        refine st_nil ?_
        (refine (then_normal (hK4 _ _ ?_)); clear hK4)
        refine wp_seq_k fun _ hK4 => ?_
        refine wp_region_lit ?_
        (refine st_y S (Yr.ys (ys_ldA ⟨Try.isAgg32, Try.sizeOf32⟩ (Ev.t rfl) (k := 0) rfl rfl)) rfl ?_; clear S a w; intro a w S)
        (refine st_y S (ys_call Try.call72 (EvL.cons (Ev.t rfl) EvL.nil) (fun hp w W => c72 _ _ _ _ _ (by first | assumption | omega | exact .old W (by assumption)  | exact Sl.of_own W (k := 1) rfl (fun _ => rfl) | (simp at hp; omega)))) rfl ?_; clear S a w; intro a w S)
        (refine st_y S (Yr.ys (ys_not (Ev.t rfl))) rfl ?_; clear S a w; intro a w S)
        refine st_nil ?_
        (refine (then_normal (hK4 _ _ ?_)); clear hK4)
        refine st_else S (Ev.t rfl) ?_
        refine wp_skip ?_
        (refine (in_normal (then_normal (hK3 _ _ ?_))); clear hK3)
        refine wp_region_lit ?_
        (refine st_y S (Yr.ys (ys_addI (Ev.t rfl) Ev.c (fun _ => by unfold I64; omega))) rfl ?_; clear S a w; intro a w S)
        (refine st_y S (Yr.ys (ys_move (Ev.t rfl))) rfl ?_; clear S a w; intro a w S)
        refine st_nil ?_
        refine (then_normal ?_)
        exact ⟨k + 1, ⟨by omega, all_step hmm halld h1⟩, by omega, S.weak (by repeat (first | exact Fits.nil | refine Fits.skip rfl ?_ | refine Fits.cons rfl ?_)) (by repeat (first | exact List.Sublist.refl _ | exact List.nil_sublist _ | refine .cons_cons _ ?_ | refine .cons _ ?_))⟩
      · have h1 : mayD m = false := by simpa using h1
        refine wp_seq_k fun _ hK3 => ?_
        refine wp_region_lit ?_
        (refine st_y S (Yr.ys (ys_T (by omega) (ys_lss (Ev.t rfl) (Ev.t rfl)))) rfl ?_; clear S a w; intro a w S)
        refine st_nil ?_
        (refine (then_normal (hK3 _ _ ?_)); clear hK3)
        refine wp_seq_k fun _ hK3 => ?_
        refine st_then S (Ev.t rfl) ?_
        refine wp_skip ?_
        (refine (then_normal (hK3 _ _ ?_)); clear hK3)
        refine wp_seq_k fun _ hK3 => ?_
        refine wp_block ?_
        refine wp_seq_k fun _ hK4 => ?_
        refine wp_region_lit ?_
        (refine st_y S (Yr.ys (ys_ixS Try.underlying30 Try.sizeOf32 (Ev.t rfl) (Ev.t rfl) (fun _ => by omega))) rfl ?_; clear S a w; intro a w S)
        (refine st_y S (Yr.ys (ys_ldOA ⟨Try.isAgg32, Try.sizeOf32⟩ (Ev.t rfl) (vs := [_, _, _]) rfl (fun _ => hc))) rfl ?_; clear S a w; intro a w S)
        (refine st_m (op_alloc S Try.zeroValue32 (cs := _) rfl rfl ?_); clear S a w; intro g2 a w S)
        (refine st_m (op_stW S Try.sizeOf32 (Ev.t rfl) (Ev.t rfl) (k := 0) rfl rfl rfl (by simp [Value.oneCell']) ?_); clear S a w; intro a w S)
        refine st_nil ?_
        (refine (then_normal (hK4 _ _ ?_)); clear hK4)
        refine wp_seq_k fun _ hK4 => ?_
        refine wp_region_lit ?_
        (refine st_y S (Yr.ys (ys_ldA ⟨Try.isAgg32, Try.sizeOf32⟩ (Ev.t rfl) (k := 0) rfl rfl)) rfl ?_; clear S a w; intro a w S)
        (refine st_y S (ys_call Try.call72 (EvL.cons (Ev.t rfl) EvL.nil) (fun hp w W => c72 _ _ _ _ _ (by first | assumption | omega | exact .old W (by assumption)  | exact Sl.of_own W (k := 1) rfl (fun _ => rfl) | (simp at hp; omega)))) rfl ?_; clear S a w; intro a w S)
        (refine st_y S (Yr.ys (ys_not (Ev.t rfl))) rfl ?_; clear S a w; intro a w S)
        refine st_nil ?_
        (refine (then_normal (hK4 _ _ ?_)); clear hK4)
        refine st_then S (Ev.t rfl) ?_
        refine wp_seq_k fun _ hK4 => ?_
        refine wp_region_lit ?_
        (refine st_y S (Yr.ys (ys_bld (ps := []) (us := [_, _]) bld36 EvL.nil rfl)) rfl ?_; clear S a w; intro a w S)
        (refine st_m (op_stW S Try.sizeOf36 (Ev.t rfl) (Ev.t rfl) (k := 2) rfl rfl rfl (by simp [Value.oneCell']) ?_); clear S a w; intro a w S)
        (refine st_y S (Yr.ys (ys_assign Ev.c)) rfl ?_; clear S a w; intro a w S)
        refine st_nil ?_
        (refine (then_normal (hK4 _ _ ?_)); clear hK4)
        refine wp_ret ?_
        refine (in_ret (then_ret (then_ret (in_ret (then_ret ?_)))))
        refine st_ret S (results2 S Try.results91 (Rv.cell (k := 2) ⟨Try.isAgg36, Try.sizeOf36⟩ rfl rfl rfl) (Rv.tmp rfl)) ?_
        rw [normalL_bad2 hmm h1]
        exact ⟨_, _, rfl, ((S.nil_ 32 3 Dot.enc none).nil_ 43 3 Dot.enc none).wd.sub (by repeat (first | exact List.Sublist.refl _ | exact List.nil_sublist _ | refine .cons_cons _ ?_ | refine .cons _ ?_)), none, 0, none, 0, rfl, rfl⟩
    obtain rfl : k = d.length := by omega
    rw [List.take_length] at halld
    clear hk hlt hA'
    have hok := normalL_ok hall halld
    refine wp_seq_k fun _ hK3 => ?_
    refine wp_region_lit ?_
    (refine st_y S (Yr.ys (ys_F (by omega) (ys_lss (Ev.t rfl) (Ev.t rfl)))) rfl ?_; clear S a w; intro a w S)
    refine st_nil ?_
    (refine (then_normal (hK3 _ _ ?_)); clear hK3)
    refine wp_seq_k fun _ hK3 => ?_
    refine st_else S (Ev.t rfl) ?_
    refine wp_exit ?_
    (refine (then_exit (then_exit (in_here (then_normal (hK1 _ _ ?_))))); clear hK1)
    refine wp_seq_k fun _ hK1 => ?_
    refine wp_region_lit ?_
    (refine st_y S (Yr.ys (ys_move (Ev.t rfl))) rfl ?_; clear S a w; intro a w S)
    refine st_m (op_callO S Try.call110 (EvL.cons (Ev.t rfl) (EvL.cons Ev.f EvL.nil)) (k110 S.wd hall (by omega)) rfl ?_)
    clear S
    rintro _ _ ⟨l', rfl, hpl, hsl, rfl⟩ a w S
    have hll := hpl.length_eq
    rw [← hll] at S
    refine st_nil ?_
    (refine (then_normal (hK1 _ _ ?_)); clear hK1)
    refine wp_seq_k fun _ hK1 => ?_
    refine wp_region_lit ?_
    (refine st_m (op_alloc S Try.zeroValue36 (cs := _) rfl rfl ?_); clear S a w; intro g2 a w S)
    refine st_nil ?_
    (refine (then_normal (hK1 _ _ ?_)); clear hK1)
    refine wp_seq_k fun _ hK1 => ?_
    refine wp_seq_k fun _ hK4 => ?_
    refine wp_region_lit ?_
    (refine st_y S (Yr.ys (ys_move (Ev.t rfl))) rfl ?_; clear S a w; intro a w S)
    (refine st_y S (Yr.ys (ys_lenS Try.underlying30 (Ev.t rfl))) rfl ?_; clear S a w; intro a w S)
    (refine st_y S (Yr.ys (ys_move Ev.c)) rfl ?_; clear S a w; intro a w S)
    refine st_nil ?_
    (refine (then_normal (hK4 _ _ ?_)); clear hK4)
    refine wp_block ?_
    refine st_loopK (S.nil_ 43 3 Dot.enc none) (X := Nat × Option Addr × Nat) (fun q => [(50, true, .int .i64 (q.1 : Int))])
      (fun q _ => [rowOf 43 3 Dot.enc q.2.1 q.2.2 (setF (l'.take q.1)), .blk g2 (.cells #[.slice q.2.1 (setF (l'.take q.1)).length q.2.2, .slice none 0 0] 36), rowOf 32 3 Dot.enc B cB l', .blk g1 (.cells #[.slice none 0 0, .slice none 0 0] 36)])
      (fun q => q.1 ≤ l'.length) (fun q => l'.length - q.1) (0, none, 0) (Nat.zero_le _) (by repeat (first | exact Fits.nil | refine Fits.skip rfl ?_ | refine Fits.cons rfl ?_)) (by repeat (first | exact List.Sublist.refl _ | exact List.nil_sublist _ | refine .cons_cons _ ?_ | refine .cons _ ?_)) ?_
    clear S
    intro ⟨k, D, cD⟩ a w hk S
    dsimp only at hk S
    by_cases hlt : k < l'.length
    · obtain ⟨m, hmm⟩ : ∃ m, l'[k]? = some m := ⟨l'[k], by simp⟩
      have hp := setF_push hsl hmm
      have hsl2 := setF_len (l'.take k)
      have hs3 : (l'.take k).length ≤ l'.length := by rw [List.length_take]; omega
      generalize hacc : setF (l'.take k) = acc at S hp hsl2
      obtain ⟨gB, rfl⟩ := S.wd.row_at (k := 2) rfl (by have := (S.wd.room (k := 2) rfl).1; omega)
      have rw_eta : (⟨m.node, m.life, m.count⟩ : Dot) = m := rfl
      by_cases hz : acc.length = 0
      · have hz0 : acc = [] := List.eq_nil_of_length_eq_zero hz
        have rw_p : acc ++ [m] = setF (l'.take (k + 1)) := by rw [hp, hz0]; rfl
        refine wp_seq_k fun _ hK4 => ?_
        refine wp_region_lit ?_
        (refine st_y S (Yr.ys (ys_T (by omega) (ys_lss (Ev.t rfl) (Ev.t rfl)))) rfl ?_; clear S a w; intro a w S)
        refine st_nil ?_
        (refine (then_normal (hK4 _ _ ?_)); clear hK4)
        refine wp_seq_k fun _ hK4 => ?_
        refine st_then S (Ev.t rfl) ?_
        refine wp_skip ?_
        (refine (then_normal (hK4 _ _ ?_)); clear hK4)
        refine wp_seq_k fun _ hK4 => ?_
        refine wp_block ?_
        refine wp_seq_k fun _ hK5 => ?_
        refine wp_region_lit ?_
        (refine st_y S (Yr.ys (ys_ixS Try.underlying30 Try.sizeOf32 (Ev.t rfl) (Ev.t rfl) (fun _ => by omega))) rfl ?_; clear S a w; intro a w S)
        (refine st_y S (Yr.ys (ys_ldWA ⟨Try.isAgg32, Try.sizeOf32⟩ (Ev.t rfl) (k := 2) rfl hmm (fun _ => rfl))) rfl ?_; clear S a w; intro a w S)
        (refine st_m (op_alloc S Try.zeroValue32 (cs := _) rfl rfl ?_); clear S a w; intro g3 a w S)
        (refine st_m (op_stW S Try.sizeOf32 (Ev.t rfl) (Ev.t rfl) (k := 0) rfl rfl rfl (by simp [Value.oneCell']) ?_); clear S a w; intro a w S)
        refine st_nil ?_
        (refine (then_normal (hK5 _ _ ?_)); clear hK5)
        refine wp_seq_k fun _ hK5 => ?_
        refine wp_region_lit ?_
        (refine st_y S (Yr.ys (ys_fieldN (FieldT.mk Try.underlying36 rfl Try.sizeOf29 rfl) (Ev.t rfl) (i' := 0) rfl)) rfl ?_; clear S a w; intro a w S)
        (refine st_y S (Yr.ys (ys_ld ⟨Try.isAgg29, Try.sizeOf29⟩ (Ev.t rfl) (k := 2) rfl rfl)) rfl ?_; clear S a w; intro a w S)
        (refine st_y S (Yr.ys (ys_lenS Try.underlying29 (Ev.t rfl))) rfl ?_; clear S a w; intro a w S)
        (refine st_y S (Yr.ys (ys_assign (Ev.t rfl))) rfl ?_; clear S a w; intro a w S)
        refine st_nil ?_
        (refine (then_normal (hK5 _ _ ?_)); clear hK5)
        refine wp_seq_k fun _ hK5 => ?_
        refine wp_seq_k fun _ hK6 => ?_
        (refine st_quiet S (by kernel_rfl) (by kernel_rfl) ?_; clear S w; intro a S)
        (refine q_y S (Yr.ys (ys_move (Ev.t rfl))) rfl ?_; clear S a; intro a S)
        (refine q_y S (Yr.ys (ys_F (by omega) (ys_gtr (Ev.t rfl) Ev.c))) rfl ?_; clear S a; intro a S)
        (refine q_y S (Yr.ys (ys_move (Ev.t rfl))) rfl ?_; clear S a; intro a S)
        (refine q_skip S rfl rfl rfl rfl ?_; clear S a; intro a S)
        (refine q_skip S rfl rfl rfl rfl ?_; clear S a; intro a S)
        (refine q_skip S rfl rfl rfl rfl ?_; clear S a; intro a S)
        (refine q_skip S rfl rfl rfl rfl ?_; clear S a; intro a S)
        (refine q_skip S rfl rfl rfl rfl ?_; clear S a; intro a S)
        (refine q_skip S rfl rfl rfl rfl ?_; clear S a; intro a S)
        (refine q_skip S rfl rfl rfl rfl ?_; clear S a; intro a S)
        (refine q_skip S rfl rfl rfl rfl ?_; clear S a; intro a S)
        (refine q_skip S rfl rfl rfl rfl ?_; clear S a; intro a S)
        (refine q_skip S rfl rfl rfl rfl ?_; clear S a; intro a S)
        (refine q_skip S rfl rfl rfl rfl ?_; clear S a; intro a S)
        (refine q_y S (Yr.ys (ys_pickF (Ev.t rfl) Ev.c)) rfl ?_; clear S a; intro a S)
        (refine q_nil ?_; intro w W; replace S := St.mk S W; clear W)
        (refine (then_normal (hK6 _ _ ?_)); clear hK6)
        refine st_else S (Ev.t rfl) ?_
        refine wp_skip ?_
        (refine (then_normal (hK5 _ _ ?_)); clear hK5)
        refine wp_region_lit ?_
        (refine st_y S (Yr.ys (ys_fieldN (FieldT.mk Try.underlying36 rfl Try.sizeOf29 rfl) (Ev.t rfl) (i' := 0) rfl)) rfl ?_; clear S a w; intro a w S)
        (refine st_y S (Yr.ys (ys_ld ⟨Try.isAgg29, Try.sizeOf29⟩ (Ev.t rfl) (k := 2) rfl rfl)) rfl ?_; clear S a w; intro a w S)
        (refine st_y S (Yr.ys (ys_ldA ⟨Try.isAgg32, Try.sizeOf32⟩ (Ev.t rfl) (k := 0) rfl rfl)) rfl ?_; clear S a w; intro a w S)
        (refine st_m (op_bslice1 S Try.underlying29 inf43 rfl rfl rfl (Ev.t rfl) rfl rfl rfl ?_); clear S a w; intro g4 a w S)
        (refine st_m (op_push S Try.underlying29 inf43 rfl (k := 2) (j := 0) rfl (Ev.t rfl) (Ev.t rfl) rfl rfl rfl rfl (by first | omega | (simp only [List.length_append, List.length_cons, List.length_nil]; omega)) rfl rfl rfl ?_); clear S a w; intro A1 cap1 a w S)
        rw [rw_p] at S
        (refine st_y S (Yr.ys (ys_fieldN (FieldT.mk Try.underlying36 rfl Try.sizeOf29 rfl) (Ev.t rfl) (i' := 0) rfl)) rfl ?_; clear S a w; intro a w S)
        (refine st_m (op_st S Try.sizeOf29 (Ev.t rfl) (Ev.t rfl) (k := 3) rfl rfl (by simp) ?_); clear S a w; intro a w S)
        refine st_nil ?_
        (refine (in_normal (then_normal (hK4 _ _ ?_))); clear hK4)
        refine wp_region_lit ?_
        (refine st_y S (Yr.ys (ys_addI (Ev.t rfl) Ev.c (fun _ => by unfold I64; omega))) rfl ?_; clear S a w; intro a w S)
        (refine st_y S (Yr.ys (ys_move (Ev.t rfl))) rfl ?_; clear S a w; intro a w S)
        refine st_nil ?_
        refine (then_normal ?_)
        exact ⟨(k + 1, A1, cap1), by dsimp only; omega, by dsimp only; omega, S.weak (by repeat (first | exact Fits.nil | refine Fits.skip rfl ?_ | refine Fits.cons rfl ?_)) (by repeat (first | exact List.Sublist.refl _ | exact List.nil_sublist _ | refine .cons_cons _ ?_ | refine .cons _ ?_))⟩
      · obtain ⟨y, hy⟩ : ∃ y, acc[acc.length - 1]? = some y := ⟨acc[acc.length - 1], by simp⟩
        have hlast : acc.getLast? = some y := by rw [List.getLast?_eq_getElem?]; exact hy
        obtain ⟨gD, rfl⟩ := S.wd.row_at (k := 0) rfl (by have := (S.wd.room (k := 0) rfl).1; omega)
        have rw_n : (acc.length : Int) - 1 = ((acc.length - 1 : Nat) : Int) := by omega
        by_cases hsa : sameA y m
        · have hp2 : setF (l'.take (k + 1)) = acc.set (acc.length - 1) m := by rw [hp]; unfold pushM; rw [hlast]; simp only; rw [if_pos hsa]
          refine wp_seq_k fun _ hK4 => ?_
          refine wp_region_lit ?_
          (refine st_y S (Yr.ys (ys_T (by omega) (ys_lss (Ev.t rfl) (Ev.t rfl)))) rfl ?_; clear S a w; intro a w S)
          refine st_nil ?_
          (refine (then_normal (hK4 _ _ ?_)); clear hK4)
          refine wp_seq_k fun _ hK4 => ?_
          refine st_then S (Ev.t rfl) ?_
          refine wp_skip ?_
          (refine (then_normal (hK4 _ _ ?_)); clear hK4)
          refine wp_seq_k fun _ hK4 => ?_
          refine wp_block ?_
          refine wp_seq_k fun _ hK5 => ?_
          refine wp_region_lit ?_
          (refine st_y S (Yr.ys (ys_ixS Try.underlying30 Try.sizeOf32 (Ev.t rfl) (Ev.t rfl) (fun _ => by omega))) rfl ?_; clear S a w; intro a w S)
          (refine st_y S (Yr.ys (ys_ldWA ⟨Try.isAgg32, Try.sizeOf32⟩ (Ev.t rfl) (k := 2) rfl hmm (fun _ => rfl))) rfl ?_; clear S a w; intro a w S)
          (refine st_m (op_alloc S Try.zeroValue32 (cs := _) rfl rfl ?_); clear S a w; intro g3 a w S)
          (refine st_m (op_stW S Try.sizeOf32 (Ev.t rfl) (Ev.t rfl) (k := 0) rfl rfl rfl (by simp [Value.oneCell']) ?_); clear S a w; intro a w S)
          refine st_nil ?_
          (refine (then_normal (hK5 _ _ ?_)); clear hK5)
          refine wp_seq_k fun _ hK5 => ?_
          refine wp_region_lit ?_
          (refine st_y S (Yr.ys (ys_fieldN (FieldT.mk Try.underlying36 rfl Try.sizeOf29 rfl) (Ev.t rfl) (i' := 0) rfl)) rfl ?_; clear S a w; intro a w S)
          (refine st_y S (Yr.ys (ys_ld ⟨Try.isAgg29, Try.sizeOf29⟩ (Ev.t rfl) (k := 2) rfl rfl)) rfl ?_; clear S a w; intro a w S)
          (refine st_y S (Yr.ys (ys_lenS Try.underlying29 (Ev.t rfl))) rfl ?_; clear S a w; intro a w S)
          (refine st_y S (Yr.ys (ys_assign (Ev.t rfl))) rfl ?_; clear S a w; intro a w S)
          refine st_nil ?_
          (refine (then_normal (hK5 _ _ ?_)); clear hK5)
          refine wp_seq_k fun _ hK5 => ?_
          refine wp_seq_k fun _ hK6 => ?_
          (refine st_quiet S (by kernel_rfl) (by kernel_rfl) ?_; clear S w; intro a S)
          (refine q_y S (Yr.ys (ys_move (Ev.t rfl))) rfl ?_; clear S a; intro a S)
          (refine q_y S (Yr.ys (ys_T (by omega) (ys_gtr (Ev.t rfl) Ev.c))) rfl ?_; clear S a; intro a S)
          (refine q_y S (Yr.ys (ys_move (Ev.t rfl))) rfl ?_; clear S a; intro a S)
          (refine q_yt S rfl rfl (Yr.ys (ys_fieldN (FieldT.mk Try.underlying36 rfl Try.sizeOf29 rfl) (Ev.t rfl) (i' := 0) rfl)) rfl ?_; clear S a; intro a S)
          (refine q_yt S rfl rfl (Yr.ys (ys_ld ⟨Try.isAgg29, Try.sizeOf29⟩ (Ev.t rfl) (k := 2) rfl rfl)) rfl ?_; clear S a; intro a S)
          (refine q_yt S rfl rfl (Yr.ys (ys_move (Ev.t rfl))) rfl ?_; clear S a; intro a S)
          (refine q_yt S rfl rfl (Yr.ys (ys_subI (Ev.t rfl) Ev.c (fun _ => by unfold I64; omega))) rfl ?_; clear S a; intro a S)
          rw [rw_n] at S
          (refine q_yt S rfl rfl (Yr.ys (ys_ixS Try.underlying29 Try.sizeOf43 (Ev.t rfl) (Ev.t rfl) (fun _ => by omega))) rfl ?_; clear S a; intro a S)
          (refine q_yt S rfl rfl (Yr.ys (ys_ldWA ⟨Try.isAgg43, Try.sizeOf43⟩ (Ev.t rfl) (k := 1) rfl hy (fun _ => rfl))) rfl ?_; clear S a; intro a S)
          (refine q_yt S rfl rfl (ys_call Try.call66 (EvL.cons (Ev.t rfl) EvL.nil) (fun hp w W => c66 _ _ _ _)) rfl ?_; clear S a; intro a S)
          (refine q_yt S rfl rfl (ys_call Try.call61 (EvL.cons (Ev.t rfl) EvL.nil) (fun hp w W => c61 _ _ _ _)) rfl ?_; clear S a; intro a S)
          (refine q_yt S rfl rfl (Yr.ys (ys_ldA ⟨Try.isAgg32, Try.sizeOf32⟩ (Ev.t rfl) (k := 0) rfl rfl)) rfl ?_; clear S a; intro a S)
          (refine q_yt S rfl rfl (ys_call Try.call61 (EvL.cons (Ev.t rfl) EvL.nil) (fun hp w W => c61 _ _ _ _)) rfl ?_; clear S a; intro a S)
          (refine q_yt S rfl rfl (Yr.ys (ys_eqA (Ev.t rfl) (Ev.t rfl) eq34)) rfl ?_; clear S a; intro a S)
          (refine q_y S (Yr.ys (ys_pickT (Ev.t rfl) (Ev.t rfl))) rfl ?_; clear S a; intro a S)
          (refine q_nil ?_; intro w W; replace S := St.mk S W; clear W)
          (refine (then_normal (hK6 _ _ ?_)); clear hK6)
          refine st_if S (Ev.t rfl) (fun _ => ?_) (fun h1 => absurd (by first | assumption | omega) h1)
          refine wp_seq_k fun _ hK6 => ?_
          refine wp_region_lit ?_
          (refine st_y S (Yr.ys (ys_fieldN (FieldT.mk Try.underlying36 rfl Try.sizeOf29 rfl) (Ev.t rfl) (i' := 0) rfl)) rfl ?_; clear S a w; intro a w S)
          (refine st_y S (Yr.ys (ys_ld ⟨Try.isAgg29, Try.sizeOf29⟩ (Ev.t rfl) (k := 2) rfl rfl)) rfl ?_; clear S a w; intro a w S)
          (refine st_y S (Yr.ys (ys_move (Ev.t rfl))) rfl ?_; clear S a w; intro a w S)
          (refine st_y S (Yr.ys (ys_subI (Ev.t rfl) Ev.c (fun _ => by unfold I64; omega))) rfl ?_; clear S a w; intro a w S)
          rw [rw_n] at S
          (refine st_y S (Yr.ys (ys_fieldN (FieldT.mk Try.underlying32 rfl Try.sizeOf3 rfl) (Ev.t rfl) (i' := 2) rfl)) rfl ?_; clear S a w; intro a w S)
          (refine st_y S (Yr.ys (ys_ld ⟨Try.isAgg3, Try.sizeOf3⟩ (Ev.t rfl) (k := 0) rfl rfl)) rfl ?_; clear S a w; intro a w S)
          (refine st_y S (Yr.ys (ys_ixS Try.underlying29 Try.sizeOf43 (Ev.t rfl) (Ev.t rfl) (fun _ => by omega))) rfl ?_; clear S a w; intro a w S)
          (refine st_y S (Yr.ys (ys_field (FieldT.mk Try.underlying43 rfl Try.sizeOf3 rfl) (Ev.t rfl))) rfl ?_; clear S a w; intro a w S)
          refine st_m (op_stFld (enc := Dot.enc) (size := 3) (i := acc.length - 1) (j := 2) m S (fun _ => rfl) Try.sizeOf3 (Ev.t rfl) (Ev.t rfl) rfl (k := 1) rfl hy (by omega) rfl (by
            obtain ⟨e1, e2⟩ := hsa
            simp [Dot.enc, e1, e2]) ?_)
          clear S
          intro a w S
          have hlen2 : (acc.set (acc.length - 1) m).length = acc.length := by simp
          rw [← hp2] at hlen2 S
          rw [← hlen2] at S
          refine st_nil ?_
          (refine (then_normal (hK6 _ _ ?_)); clear hK6)
          refine wp_exit ?_
          (refine (then_exit (in_here (then_normal (hK4 _ _ ?_)))); clear hK4)
          refine wp_region_lit ?_
          (refine st_y S (Yr.ys (ys_addI (Ev.t rfl) Ev.c (fun _ => by unfold I64; omega))) rfl ?_; clear S a w; intro a w S)
          (refine st_y S (Yr.ys (ys_move (Ev.t rfl))) rfl ?_; clear S a w; intro a w S)
          refine st_nil ?_
          refine (then_normal ?_)
          exact ⟨(k + 1, some ⟨gD, 0, none⟩, cD), by dsimp only; omega, by dsimp only; omega, S.weak (by repeat (first | exact Fits.nil | refine Fits.skip rfl ?_ | refine Fits.cons rfl ?_)) (by repeat (first | exact List.Sublist.refl _ | exact List.nil_sublist _ | refine .cons_cons _ ?_ | refine .cons _ ?_))⟩
        · have rw_p : acc ++ [m] = setF (l'.take (k + 1)) := by rw [hp]; unfold pushM; rw [hlast]; simp only; rw [if_neg hsa]
          refine wp_seq_k fun _ hK4 => ?_
          refine wp_region_lit ?_
          (refine st_y S (Yr.ys (ys_T (by omega) (ys_lss (Ev.t rfl) (Ev.t rfl)))) rfl ?_; clear S a w; intro a w S)
          refine st_nil ?_
          (refine (then_normal (hK4 _ _ ?_)); clear hK4)
          refine wp_seq_k fun _ hK4 => ?_
          refine st_then S (Ev.t rfl) ?_
          refine wp_skip ?_
          (refine (then_normal (hK4 _ _ ?_)); clear hK4)
          refine wp_seq_k fun _ hK4 => ?_
          refine wp_block ?_
          refine wp_seq_k fun _ hK5 => ?_
          refine wp_region_lit ?_
          (refine st_y S (Yr.ys (ys_ixS Try.underlying30 Try.sizeOf32 (Ev.t rfl) (Ev.t rfl) (fun _ => by omega))) rfl ?_; clear S a w; intro a w S)
          (refine st_y S (Yr.ys (ys_ldWA ⟨Try.isAgg32, Try.sizeOf32⟩ (Ev.t rfl) (k := 2) rfl hmm (fun _ => rfl))) rfl ?_; clear S a w; intro a w S)
          (refine st_m (op_alloc S Try.zeroValue32 (cs := _) rfl rfl ?_); clear S a w; intro g3 a w S)
          (refine st_m (op_stW S Try.sizeOf32 (Ev.t rfl) (Ev.t rfl) (k := 0) rfl rfl rfl (by simp [Value.oneCell']) ?_); clear S a w; intro a w S)
          refine st_nil ?_
          (refine (then_normal (hK5 _ _ ?_)); clear hK5)
          refine wp_seq_k fun _ hK5 => ?_
          refine wp_region_lit ?_
          (refine st_y S (Yr.ys (ys_fieldN (FieldT.mk Try.underlying36 rfl Try.sizeOf29 rfl) (Ev.t rfl) (i' := 0) rfl)) rfl ?_; clear S a w; intro a w S)
          (refine st_y S (Yr.ys (ys_ld ⟨Try.isAgg29, Try.sizeOf29⟩ (Ev.t rfl) (k := 2) rfl rfl)) rfl ?_; clear S a w; intro a w S)
          (refine st_y S (Yr.ys (ys_lenS Try.underlying29 (Ev.t rfl))) rfl ?_; clear S a w; intro a w S)
          (refine st_y S (Yr.ys (ys_assign (Ev.t rfl))) rfl ?_; clear S a w; intro a w S)
          refine st_nil ?_
          (refine (then_normal (hK5 _ _ ?_)); clear hK5)
          refine wp_seq_k fun _ hK5 => ?_
          refine wp_seq_k fun _ hK6 => ?_
          (refine st_quiet S (by kernel_rfl) (by kernel_rfl) ?_; clear S w; intro a S)
          (refine q_y S (Yr.ys (ys_move (Ev.t rfl))) rfl ?_; clear S a; intro a S)
          (refine q_y S (Yr.ys (ys_T (by omega) (ys_gtr (Ev.t rfl) Ev.c))) rfl ?_; clear S a; intro a S)
          (refine q_y S (Yr.ys (ys_move (Ev.t rfl))) rfl ?_; clear S a; intro a S)
          (refine q_yt S rfl rfl (Yr.ys (ys_fieldN (FieldT.mk Try.underlying36 rfl Try.sizeOf29 rfl) (Ev.t rfl) (i' := 0) rfl)) rfl ?_; clear S a; intro a S)
          (refine q_yt S rfl rfl (Yr.ys (ys_ld ⟨Try.isAgg29, Try.sizeOf29⟩ (Ev.t rfl) (k := 2) rfl rfl)) rfl ?_; clear S a; intro a S)
          (refine q_yt S rfl rfl (Yr.ys (ys_move (Ev.t rfl))) rfl ?_; clear S a; intro a S)
          (refine q_yt S rfl rfl (Yr.ys (ys_subI (Ev.t rfl) Ev.c (fun _ => by unfold I64; omega))) rfl ?_; clear S a; intro a S)
          rw [rw_n] at S
          (refine q_yt S rfl rfl (Yr.ys (ys_ixS Try.underlying29 Try.sizeOf43 (Ev.t rfl) (Ev.t rfl) (fun _ => by omega))) rfl ?_; clear S a; intro a S)
          (refine q_yt S rfl rfl (Yr.ys (ys_ldWA ⟨Try.isAgg43, Try.sizeOf43⟩ (Ev.t rfl) (k := 1) rfl hy (fun _ => rfl))) rfl ?_; clear S a; intro a S)
          (refine q_yt S rfl rfl (ys_call Try.call66 (EvL.cons (Ev.t rfl) EvL.nil) (fun hp w W => c66 _ _ _ _)) rfl ?_; clear S a; intro a S)
          (refine q_yt S rfl rfl (ys_call Try.call61 (EvL.cons (Ev.t rfl) EvL.nil) (fun hp w W => c61 _ _ _ _)) rfl ?_; clear S a; intro a S)
          (refine q_yt S rfl rfl (Yr.ys (ys_ldA ⟨Try.isAgg32, Try.sizeOf32⟩ (Ev.t rfl) (k := 0) rfl rfl)) rfl ?_; clear S a; intro a S)
          (refine q_yt S rfl rfl (ys_call Try.call61 (EvL.cons (Ev.t rfl) EvL.nil) (fun hp w W => c61 _ _ _ _)) rfl ?_; clear S a; intro a S)
          (refine q_yt S rfl rfl (Yr.ys (ys_eqA (Ev.t rfl) (Ev.t rfl) eq34)) rfl ?_; clear S a; intro a S)
          (refine q_y S (Yr.ys (ys_pickT (Ev.t rfl) (Ev.t rfl))) rfl ?_; clear S a; intro a S)
          (refine q_nil ?_; intro w W; replace S := St.mk S W; clear W)
          (refine (then_normal (hK6 _ _ ?_)); clear hK6)
          refine st_if S (Ev.t rfl) (fun h1 => absurd h1 (by first | assumption | omega)) (fun _ => ?_)
          refine wp_skip ?_
          (refine (then_normal (hK5 _ _ ?_)); clear hK5)
          refine wp_region_lit ?_
          (refine st_y S (Yr.ys (ys_fieldN (FieldT.mk Try.underlying36 rfl Try.sizeOf29 rfl) (Ev.t rfl) (i' := 0) rfl)) rfl ?_; clear S a w; intro a w S)
          (refine st_y S (Yr.ys (ys_ld ⟨Try.isAgg29, Try.sizeOf29⟩ (Ev.t rfl) (k := 2) rfl rfl)) rfl ?_; clear S a w; intro a w S)
          (refine st_y S (Yr.ys (ys_ldA ⟨Try.isAgg32, Try.sizeOf32⟩ (Ev.t rfl) (k := 0) rfl rfl)) rfl ?_; clear S a w; intro a w S)
          (refine st_m (op_bslice1 S Try.underlying29 inf43 rfl rfl rfl (Ev.t rfl) rfl rfl rfl ?_); clear S a w; intro g4 a w S)
          (refine st_m (op_push S Try.underlying29 inf43 rfl (k := 2) (j := 0) rfl (Ev.t rfl) (Ev.t rfl) rfl rfl rfl rfl (by first | omega | (simp only [List.length_append, List.length_cons, List.length_nil]; omega)) rfl rfl rfl ?_); clear S a w; intro A1 cap1 a w S)
          rw [rw_p] at S
          (refine st_y S (Yr.ys (ys_fieldN (FieldT.mk Try.underlying36 rfl Try.sizeOf29 rfl) (Ev.t rfl) (i' := 0) rfl)) rfl ?_; clear S a w; intro a w S)
          (refine st_m (op_st S Try.sizeOf29 (Ev.t rfl) (Ev.t rfl) (k := 3) rfl rfl (by simp) ?_); clear S a w; intro a w S)
          refine st_nil ?_
          (refine (in_normal (then_normal (hK4 _ _ ?_))); clear hK4)
          refine wp_region_lit ?_
          (refine st_y S (Yr.ys (ys_addI (Ev.t rfl) Ev.c (fun _ => by unfold I64; omega))) rfl ?_; clear S a w; intro a w S)
          (refine st_y S (Yr.ys (ys_move (Ev.t rfl))) rfl ?_; clear S a w; intro a w S)
          refine st_nil ?_
          refine (then_normal ?_)
          exact ⟨(k + 1, A1, cap1), by dsimp only; omega, by dsimp only; omega, S.weak (by repeat (first | exact Fits.nil | refine Fits.skip rfl ?_ | refine Fits.cons rfl ?_)) (by repeat (first | exact List.Sublist.refl _ | exact List.nil_sublist _ | refine .cons_cons _ ?_ | refine .cons _ ?_))⟩
    · obtain rfl : k = l'.length := by omega
      rw [List.take_length] at S
      clear hk hlt
      refine wp_seq_k fun _ hK4 => ?_
      refine wp_region_lit ?_
      (refine st_y S (Yr.ys (ys_F (by omega) (ys_lss (Ev.t rfl) (Ev.t rfl)))) rfl ?_; clear S a w; intro a w S)
      refine st_nil ?_
      (refine (then_normal (hK4 _ _ ?_)); clear hK4)
      refine wp_seq_k fun _ hK4 => ?_
      refine st_else S (Ev.t rfl) ?_
      refine wp_exit ?_
      (refine (then_exit (then_exit (in_here (then_normal (hK1 _ _ ?_))))); clear hK1)
      refine wp_seq_k fun _ hK1 => ?_
      refine wp_region_lit ?_
      (refine st_y S (Yr.ys (ys_move (Ev.t rfl))) rfl ?_; clear S a w; intro a w S)
      (refine st_m (op_calls S Try.call79 (EvL.cons (Ev.t rfl) EvL.nil) (c79 _ _ _ (by first | assumption | omega | exact .old S.wd (by assumption) | exact Sl.of_own S.wd (k := 0) rfl (fun _ => rfl) | exact Sl.of_own S.wd (k := 2) rfl (fun _ => rfl)) (by first | assumption | omega | exact .old S.wd (by assumption) | exact Sl.of_own S.wd (k := 0) rfl (fun _ => rfl) | exact Sl.of_own S.wd (k := 2) rfl (fun _ => rfl))) rfl ?_); clear S a w; rintro _ _ ⟨A1, c1, rfl, rfl⟩ a w S)
      (refine st_y S (Yr.ys (ys_assign (Ev.t rfl))) rfl ?_; clear S a w; intro a w S)
      refine st_nil ?_
      (refine (then_normal (hK1 _ _ ?_)); clear hK1)
      refine wp_seq_k fun _ hK1 => ?_
      refine wp_region_lit ?_
      (refine st_y S (Yr.ys (ys_move (Ev.t rfl))) rfl ?_; clear S a w; intro a w S)
      refine st_m (op_callO S Try.call110 (EvL.cons (Ev.t rfl) (EvL.cons Ev.f EvL.nil)) (k110 S.wd halld (by omega)) rfl ?_)
      clear S
      rintro _ _ ⟨d', rfl, hpd, hsd, rfl⟩ a w S
      have hdl := hpd.length_eq
      rw [← hdl] at S
      refine st_nil ?_
      (refine (then_normal (hK1 _ _ ?_)); clear hK1)
      refine wp_seq_k fun _ hK1 => ?_
      refine wp_region_lit ?_
      (refine st_y S (Yr.ys (ys_move (Ev.t rfl))) rfl ?_; clear S a w; intro a w S)
      refine st_m (op_callO S Try.call111 (EvL.cons (Ev.t rfl) EvL.nil) (c111 S.wd (by omega)) rfl ?_)
      clear S
      rintro _ _ ⟨rfl, rfl⟩ a w S
      have hgr := normal_grown hall halld hpl hpd hsd
      have hcl := compact_len d'
      have hcm : ∀ x ∈ compactL d', mayD x = true := fun x hx => halld x (hpd.mem_iff.1 ((compact_mem d').1 hx))
      have hcs := compact_lt d' hsd
      generalize compactL d' = b at S hgr hcl hcm hcs
      have h0 : Nf ⟨setF l', []⟩ := ⟨setF_sorted l', List.Pairwise.nil, setF_may (fun x hx => hall x (hpl.mem_iff.1 hx)), (fun x hx => by cases hx), (fun x hx => by cases hx)⟩
      have hsl3 := setF_len l'
      (refine st_y S (Yr.ys (ys_assign (Ev.t rfl))) rfl ?_; clear S a w; intro a w S)
      refine st_nil ?_
      (refine (then_normal (hK1 _ _ ?_)); clear hK1)
      refine wp_seq_k fun _ hK1 => ?_
      refine wp_seq_k fun _ hK5 => ?_
      refine wp_region_lit ?_
      (refine st_y S (Yr.ys (ys_move (Ev.t rfl))) rfl ?_; clear S a w; intro a w S)
      (refine st_y S (Yr.ys (ys_lenS Try.underlying30 (Ev.t rfl))) rfl ?_; clear S a w; intro a w S)
      (refine st_y S (Yr.ys (ys_move Ev.c)) rfl ?_; clear S a w; intro a w S)
      refine st_nil ?_
      (refine (then_normal (hK5 _ _ ?_)); clear hK5)
      refine wp_block ?_
      replace S := S.nil_ 32 3 Dot.enc none
      (replace S := S.pull 2 rfl; try simp only [List.set_cons_zero, List.set_cons_succ, List.eraseIdx_cons_succ, List.eraseIdx_cons_zero] at S)
      refine st_loopK S (X := Nat × (Option Addr × Nat) × (Option Addr × Nat)) (fun q => [(95, true, .int .i64 (q.1 : Int))])
        (fun q _ => [rowOf 43 3 Dot.enc q.2.1.1 q.2.1.2 ((b.take q.1).foldl growC ⟨setF l', []⟩).marks, rowOf 32 3 Dot.enc q.2.2.1 q.2.2.2 ((b.take q.1).foldl growC ⟨setF l', []⟩).cloud, rowOf 32 3 Dot.enc A1 c1 b, .blk g2 (.cells #[.slice q.2.1.1 ((b.take q.1).foldl growC ⟨setF l', []⟩).marks.length q.2.1.2, .slice q.2.2.1 ((b.take q.1).foldl growC ⟨setF l', []⟩).cloud.length q.2.2.2] 36), .blk g1 (.cells #[.slice none 0 0, .slice none 0 0] 36)])
        (fun q => q.1 ≤ b.length) (fun q => b.length - q.1) (0, (D, cD), (none, 0)) (Nat.zero_le _) (by repeat (first | exact Fits.nil | refine Fits.skip rfl ?_ | refine Fits.cons rfl ?_)) (by repeat (first | exact List.Sublist.refl _ | exact List.nil_sublist _ | refine .cons_cons _ ?_ | refine .cons _ ?_)) ?_
      clear S
      intro ⟨k, ⟨A2, c2⟩, A3, c3⟩ a w hk S
      dsimp only at hk S
      have hlk := growF_len (b.take k) ⟨setF l', []⟩
      have hbk : (b.take k).length = k := by simp; omega
      dsimp only at hlk
      rw [hbk, List.length_nil] at hlk
      by_cases hlt : k < b.length
      · obtain ⟨m, hmm⟩ : ∃ m, b[k]? = some m := ⟨b[k], by simp⟩
        obtain ⟨gB, rfl⟩ := S.wd.row_at (k := 2) rfl (by have := (S.wd.room (k := 2) rfl).1; omega)
        have hC := (growF_ok (b.take k) ⟨setF l', []⟩ h0 (fun x hx => hcm x (List.mem_of_mem_take hx)) (hcs.sublist (List.take_sublist _ _)) (fun e he => by cases he)).1
        have rw_eta : (⟨m.node, m.life, m.count⟩ : Dot) = m := rfl
        have rw_f : growC ((b.take k).foldl growC ⟨setF l', []⟩) m = (b.take (k + 1)).foldl growC ⟨setF l', []⟩ := by rw [List.take_add_one, hmm]; simp
        have hmay := hcm m (List.mem_of_getElem? hmm)
        generalize (b.take k).foldl growC ⟨setF l', []⟩ = C at S hlk hC rw_f
        refine wp_seq_k fun _ hK5 => ?_
        refine wp_region_lit ?_
        (refine st_y S (Yr.ys (ys_T (by omega) (ys_lss (Ev.t rfl) (Ev.t rfl)))) rfl ?_; clear S a w; intro a w S)
        refine st_nil ?_
        (refine (then_normal (hK5 _ _ ?_)); clear hK5)
        refine wp_seq_k fun _ hK5 => ?_
        refine st_then S (Ev.t rfl) ?_
        refine wp_skip ?_
        (refine (then_normal (hK5 _ _ ?_)); clear hK5)
        refine wp_seq_k fun _ hK5 => ?_
        refine wp_block ?_
        refine wp_seq_k fun _ hK6 => ?_
        refine wp_region_lit ?_
        (refine st_y S (Yr.ys (ys_ixS Try.underlying30 Try.sizeOf32 (Ev.t rfl) (Ev.t rfl) (fun _ => by omega))) rfl ?_; clear S a w; intro a w S)
        (refine st_y S (Yr.ys (ys_ldWA ⟨Try.isAgg32, Try.sizeOf32⟩ (Ev.t rfl) (k := 2) rfl hmm (fun _ => rfl))) rfl ?_; clear S a w; intro a w S)
        (refine st_m (op_alloc S Try.zeroValue32 (cs := _) rfl rfl ?_); clear S a w; intro g3 a w S)
        (refine st_m (op_stW S Try.sizeOf32 (Ev.t rfl) (Ev.t rfl) (k := 0) rfl rfl rfl (by simp [Value.oneCell']) ?_); clear S a w; intro a w S)
        refine st_nil ?_
        (refine (then_normal (hK6 _ _ ?_)); clear hK6)
        refine wp_region_lit ?_
        (refine st_y S (Yr.ys (ys_ldA ⟨Try.isAgg36, Try.sizeOf36⟩ (Ev.t rfl) (k := 4) rfl rfl)) rfl ?_; clear S a w; intro a w S)
        (refine st_y S (Yr.ys (ys_ldA ⟨Try.isAgg32, Try.sizeOf32⟩ (Ev.t rfl) (k := 0) rfl rfl)) rfl ?_; clear S a w; intro a w S)
        (replace S := S.pull 2 rfl; try simp only [List.set_cons_zero, List.set_cons_succ, List.eraseIdx_cons_succ, List.eraseIdx_cons_zero] at S)
        (replace S := S.pull 2 rfl; try simp only [List.set_cons_zero, List.set_cons_succ, List.eraseIdx_cons_succ, List.eraseIdx_cons_zero] at S)
        refine st_m (op_callO S Try.call112 (EvL.cons (Ev.t rfl) (EvL.cons (Ev.t rfl) EvL.nil)) (c112 (C := C) S.wd hC.marks hC.mayM hmay (by omega) (by omega)) rfl ?_)
        clear S
        rintro _ _ ⟨A4, c4, A5, c5, rfl, rfl⟩ a w S
        rw [rw_f] at S
        (refine st_m (op_stW S Try.sizeOf36 (Ev.t rfl) (Ev.t rfl) (k := 4) rfl rfl rfl (by simp [Value.oneCell']) ?_); clear S a w; intro a w S)
        refine st_nil ?_
        (refine (in_normal (then_normal (hK5 _ _ ?_))); clear hK5)
        refine wp_region_lit ?_
        (refine st_y S (Yr.ys (ys_addI (Ev.t rfl) Ev.c (fun _ => by unfold I64; omega))) rfl ?_; clear S a w; intro a w S)
        (refine st_y S (Yr.ys (ys_move (Ev.t rfl))) rfl ?_; clear S a w; intro a w S)
        refine st_nil ?_
        refine (then_normal ?_)
        exact ⟨(k + 1, (A4, c4), (A5, c5)), by dsimp only; omega, by dsimp only; omega, S.weak (by repeat (first | exact Fits.nil | refine Fits.skip rfl ?_ | refine Fits.cons rfl ?_)) (by repeat (first | exact List.Sublist.refl _ | exact List.nil_sublist _ | refine .cons_cons _ ?_ | refine .cons _ ?_))⟩
      · obtain rfl : k = b.length := by omega
        rw [List.take_length, hgr] at S
        clear hk hlt
        generalize settledL ((insF d).length + 1) (setF l) (insF d) = R at S hok
        by_cases h1 : 64 < R.marks.length ∨ 64 < R.cloud.length
        · rw [if_pos h1] at hok
          by_cases h2 : 64 < R.marks.length
          · refine wp_seq_k fun _ hK5 => ?_
            refine wp_region_lit ?_
            (refine st_y S (Yr.ys (ys_F (by omega) (ys_lss (Ev.t rfl) (Ev.t rfl)))) rfl ?_; clear S a w; intro a w S)
            refine st_nil ?_
            (refine (then_normal (hK5 _ _ ?_)); clear hK5)
            refine wp_seq_k fun _ hK5 => ?_
            refine st_else S (Ev.t rfl) ?_
            refine wp_exit ?_
            (refine (then_exit (then_exit (in_here (then_normal (hK1 _ _ ?_))))); clear hK1)
            refine wp_seq_k fun _ hK1 => ?_
            refine wp_seq_k fun _ hK6 => ?_
            refine wp_region_lit ?_
            (refine st_y S (Yr.ys (ys_fieldN (FieldT.mk Try.underlying36 rfl Try.sizeOf29 rfl) (Ev.t rfl) (i' := 0) rfl)) rfl ?_; clear S a w; intro a w S)
            (refine st_y S (Yr.ys (ys_ld ⟨Try.isAgg29, Try.sizeOf29⟩ (Ev.t rfl) (k := 3) rfl rfl)) rfl ?_; clear S a w; intro a w S)
            (refine st_y S (Yr.ys (ys_lenS Try.underlying29 (Ev.t rfl))) rfl ?_; clear S a w; intro a w S)
            (refine st_y S (Yr.ys (ys_T (by omega) (ys_gtr (Ev.t rfl) Ev.c))) rfl ?_; clear S a w; intro a w S)
            (refine st_y S (Yr.ys (ys_move (Ev.t rfl))) rfl ?_; clear S a w; intro a w S)
            (refine st_skip S rfl rfl rfl rfl ?_; clear S a w; intro a w S)
            (refine st_skip S rfl rfl rfl rfl ?_; clear S a w; intro a w S)
            (refine st_skip S rfl rfl rfl rfl ?_; clear S a w; intro a w S)
            (refine st_skip S rfl rfl rfl rfl ?_; clear S a w; intro a w S)
            (refine st_y S (Yr.ys (ys_pickT (Ev.t rfl) Ev.c)) rfl ?_; clear S a w; intro a w S)
            refine st_nil ?_
            (refine (then_normal (hK6 _ _ ?_)); clear hK6)
            refine st_then S (Ev.t rfl) ?_
            refine wp_seq_k fun _ hK6 => ?_
            refine wp_region_lit ?_
            (refine st_y S (Yr.ys (ys_bld (ps := []) (us := [_, _]) bld36 EvL.nil rfl)) rfl ?_; clear S a w; intro a w S)
            (refine st_m (op_stW S Try.sizeOf36 (Ev.t rfl) (Ev.t rfl) (k := 4) rfl rfl rfl (by simp [Value.oneCell']) ?_); clear S a w; intro a w S)
            (refine st_y S (Yr.ys (ys_assign Ev.c)) rfl ?_; clear S a w; intro a w S)
            refine st_nil ?_
            (refine (then_normal (hK6 _ _ ?_)); clear hK6)
            refine wp_ret ?_
            refine (then_ret ?_)
            refine st_ret S (results2 S Try.results91 (Rv.cell (k := 4) ⟨Try.isAgg36, Try.sizeOf36⟩ rfl rfl rfl) (Rv.tmp rfl)) ?_
            rw [hok]
            exact ⟨_, _, rfl, ((S.nil_ 32 3 Dot.enc none).nil_ 43 3 Dot.enc none).wd.sub (by repeat (first | exact List.Sublist.refl _ | exact List.nil_sublist _ | refine .cons_cons _ ?_ | refine .cons _ ?_)), none, 0, none, 0, rfl, rfl⟩
          · refine wp_seq_k fun _ hK5 => ?_
            refine wp_region_lit ?_
            (refine st_y S (Yr.ys (ys_F (by omega) (ys_lss (Ev.t rfl) (Ev.t rfl)))) rfl ?_; clear S a w; intro a w S)
            refine st_nil ?_
            (refine (then_normal (hK5 _ _ ?_)); clear hK5)
            refine wp_seq_k fun _ hK5 => ?_
            refine st_else S (Ev.t rfl) ?_
            refine wp_exit ?_
            (refine (then_exit (then_exit (in_here (then_normal (hK1 _ _ ?_))))); clear hK1)
            refine wp_seq_k fun _ hK1 => ?_
            refine wp_seq_k fun _ hK6 => ?_
            refine wp_region_lit ?_
            (refine st_y S (Yr.ys (ys_fieldN (FieldT.mk Try.underlying36 rfl Try.sizeOf29 rfl) (Ev.t rfl) (i' := 0) rfl)) rfl ?_; clear S a w; intro a w S)
            (refine st_y S (Yr.ys (ys_ld ⟨Try.isAgg29, Try.sizeOf29⟩ (Ev.t rfl) (k := 3) rfl rfl)) rfl ?_; clear S a w; intro a w S)
            (refine st_y S (Yr.ys (ys_lenS Try.underlying29 (Ev.t rfl))) rfl ?_; clear S a w; intro a w S)
            (refine st_y S (Yr.ys (ys_F (by omega) (ys_gtr (Ev.t rfl) Ev.c))) rfl ?_; clear S a w; intro a w S)
            (refine st_y S (Yr.ys (ys_move (Ev.t rfl))) rfl ?_; clear S a w; intro a w S)
            (refine st_yt S rfl rfl (Yr.ys (ys_fieldN (FieldT.mk Try.underlying36 rfl Try.sizeOf30 rfl) (Ev.t rfl) (i' := 1) rfl)) rfl ?_; clear S a w; intro a w S)
            (refine st_yt S rfl rfl (Yr.ys (ys_ld ⟨Try.isAgg30, Try.sizeOf30⟩ (Ev.t rfl) (k := 3) rfl rfl)) rfl ?_; clear S a w; intro a w S)
            (refine st_yt S rfl rfl (Yr.ys (ys_lenS Try.underlying30 (Ev.t rfl))) rfl ?_; clear S a w; intro a w S)
            (refine st_yt S rfl rfl (Yr.ys (ys_T (by omega) (ys_gtr (Ev.t rfl) Ev.c))) rfl ?_; clear S a w; intro a w S)
            (refine st_y S (Yr.ys (ys_pickF (Ev.t rfl) (Ev.t rfl))) rfl ?_; clear S a w; intro a w S)
            refine st_nil ?_
            (refine (then_normal (hK6 _ _ ?_)); clear hK6)
            refine st_then S (Ev.t rfl) ?_
            refine wp_seq_k fun _ hK6 => ?_
            refine wp_region_lit ?_
            (refine st_y S (Yr.ys (ys_bld (ps := []) (us := [_, _]) bld36 EvL.nil rfl)) rfl ?_; clear S a w; intro a w S)
            (refine st_m (op_stW S Try.sizeOf36 (Ev.t rfl) (Ev.t rfl) (k := 4) rfl rfl rfl (by simp [Value.oneCell']) ?_); clear S a w; intro a w S)
            (refine st_y S (Yr.ys (ys_assign Ev.c)) rfl ?_; clear S a w; intro a w S)
            refine st_nil ?_
            (refine (then_normal (hK6 _ _ ?_)); clear hK6)
            refine wp_ret ?_
            refine (then_ret ?_)
            refine st_ret S (results2 S Try.results91 (Rv.cell (k := 4) ⟨Try.isAgg36, Try.sizeOf36⟩ rfl rfl rfl) (Rv.tmp rfl)) ?_
            rw [hok]
            exact ⟨_, _, rfl, ((S.nil_ 32 3 Dot.enc none).nil_ 43 3 Dot.enc none).wd.sub (by repeat (first | exact List.Sublist.refl _ | exact List.nil_sublist _ | refine .cons_cons _ ?_ | refine .cons _ ?_)), none, 0, none, 0, rfl, rfl⟩
        · rw [if_neg h1] at hok
          refine wp_seq_k fun _ hK5 => ?_
          refine wp_region_lit ?_
          (refine st_y S (Yr.ys (ys_F (by omega) (ys_lss (Ev.t rfl) (Ev.t rfl)))) rfl ?_; clear S a w; intro a w S)
          refine st_nil ?_
          (refine (then_normal (hK5 _ _ ?_)); clear hK5)
          refine wp_seq_k fun _ hK5 => ?_
          refine st_else S (Ev.t rfl) ?_
          refine wp_exit ?_
          (refine (then_exit (then_exit (in_here (then_normal (hK1 _ _ ?_))))); clear hK1)
          refine wp_seq_k fun _ hK1 => ?_
          refine wp_seq_k fun _ hK6 => ?_
          refine wp_region_lit ?_
          (refine st_y S (Yr.ys (ys_fieldN (FieldT.mk Try.underlying36 rfl Try.sizeOf29 rfl) (Ev.t rfl) (i' := 0) rfl)) rfl ?_; clear S a w; intro a w S)
          (refine st_y S (Yr.ys (ys_ld ⟨Try.isAgg29, Try.sizeOf29⟩ (Ev.t rfl) (k := 3) rfl rfl)) rfl ?_; clear S a w; intro a w S)
          (refine st_y S (Yr.ys (ys_lenS Try.underlying29 (Ev.t rfl))) rfl ?_; clear S a w; intro a w S)
          (refine st_y S (Yr.ys (ys_F (by omega) (ys_gtr (Ev.t rfl) Ev.c))) rfl ?_; clear S a w; intro a w S)
          (refine st_y S (Yr.ys (ys_move (Ev.t rfl))) rfl ?_; clear S a w; intro a w S)
          (refine st_yt S rfl rfl (Yr.ys (ys_fieldN (FieldT.mk Try.underlying36 rfl Try.sizeOf30 rfl) (Ev.t rfl) (i' := 1) rfl)) rfl ?_; clear S a w; intro a w S)
          (refine st_yt S rfl rfl (Yr.ys (ys_ld ⟨Try.isAgg30, Try.sizeOf30⟩ (Ev.t rfl) (k := 3) rfl rfl)) rfl ?_; clear S a w; intro a w S)
          (refine st_yt S rfl rfl (Yr.ys (ys_lenS Try.underlying30 (Ev.t rfl))) rfl ?_; clear S a w; intro a w S)
          (refine st_yt S rfl rfl (Yr.ys (ys_F (by omega) (ys_gtr (Ev.t rfl) Ev.c))) rfl ?_; clear S a w; intro a w S)
          (refine st_y S (Yr.ys (ys_pickF (Ev.t rfl) (Ev.t rfl))) rfl ?_; clear S a w; intro a w S)
          refine st_nil ?_
          (refine (then_normal (hK6 _ _ ?_)); clear hK6)
          refine st_else S (Ev.t rfl) ?_
          refine wp_skip ?_
          (refine (then_normal (hK1 _ _ ?_)); clear hK1)
          refine wp_seq_k fun _ hK1 => ?_
          refine wp_region_lit ?_
          (refine st_y S (Yr.ys (ys_ldA ⟨Try.isAgg36, Try.sizeOf36⟩ (Ev.t rfl) (k := 3) rfl rfl)) rfl ?_; clear S a w; intro a w S)
          (refine st_m (op_stW S Try.sizeOf36 (Ev.t rfl) (Ev.t rfl) (k := 4) rfl rfl rfl (by simp [Value.oneCell']) ?_); clear S a w; intro a w S)
          (refine st_y S (Yr.ys (ys_assign Ev.c)) rfl ?_; clear S a w; intro a w S)
          refine st_nil ?_
          (refine (then_normal (hK1 _ _ ?_)); clear hK1)
          refine wp_ret ?_
          refine st_ret S (results2 S Try.results91 (Rv.cell (k := 4) ⟨Try.isAgg36, Try.sizeOf36⟩ rfl rfl rfl) (Rv.tmp rfl)) ?_
          rw [hok]
          exact ⟨_, _, rfl, S.wd.sub (by repeat (first | exact List.Sublist.refl _ | exact List.nil_sublist _ | refine .cons_cons _ ?_ | refine .cons _ ?_)), A2, c2, A3, c3, rfl, rfl⟩
end Go.Proofs.Ytjfeeiljinbmjaa
