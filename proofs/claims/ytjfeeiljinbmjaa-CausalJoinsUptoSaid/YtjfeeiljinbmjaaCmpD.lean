/- slices.Compact at trolley/api.Dot. -/
import Derived.Test.YtjfeeiljinbmjaaComp
import Derived.Test.YtjfeeiljinbmjaaNrm
import Derived.Test.YtjfeeiljinbmjaaTy
set_option linter.unusedVariables false
set_option linter.unusedSimpArgs false
set_option maxRecDepth 100000
namespace Go.Proofs.Ytjfeeiljinbmjaa
open Go.Fw Go.Proofs Go.RowKit

theorem c111 {w0 w : World} {L : List Chunk} {A : Option Addr} {cap : Nat} {l : List Dot} (W : Wd w0 (rowOf 32 3 Dot.enc A cap l :: L) w) (hn : l.length ≤ 4194304) :
    RetsO Try.prog 111 #[.slice A l.length cap] w0 w fun v L' => v = .slice A (compactL l).length cap ∧ L' = rowOf 32 3 Dot.enc A cap (compactL l) :: L := by
  obtain ⟨hlc, hcm⟩ := W.room (k := 0) rfl
  unfold RetsO
  refine enterW1 W Try.func111 rfl Try.ntmps111 rfl fun a S => ?_
  by_cases h2 : l.length < 2
  · refine wp_seq_k fun _ hK1 => ?_
    refine wp_region_lit ?_
    (refine st_y S (Yr.ys (ys_assign Ev.c)) rfl ?_; clear S a; intro a w S)
    refine st_nil ?_
    (refine (then_normal (hK1 _ _ ?_)); clear hK1)
    refine wp_seq_k fun _ hK1 => ?_
    refine wp_seq_k fun _ hK2 => ?_
    refine wp_region_lit ?_
    (refine st_y S (Yr.ys (ys_move (Ev.t rfl))) rfl ?_; clear S a w; intro a w S)
    (refine st_y S (Yr.ys (ys_lenS Try.underlying30 (Ev.t rfl))) rfl ?_; clear S a w; intro a w S)
    (refine st_y S (Yr.ys (ys_T (by omega) (ys_lss (Ev.t rfl) Ev.c))) rfl ?_; clear S a w; intro a w S)
    refine st_nil ?_
    (refine (then_normal (hK2 _ _ ?_)); clear hK2)
    refine st_then S (Ev.t rfl) ?_
    refine wp_seq_k fun _ hK2 => ?_
    refine wp_region_lit ?_
    (refine st_y S (Yr.ys (ys_move (Ev.t rfl))) rfl ?_; clear S a w; intro a w S)
    (refine st_y S (Yr.ys (ys_assign (Ev.t rfl))) rfl ?_; clear S a w; intro a w S)
    refine st_nil ?_
    (refine (then_normal (hK2 _ _ ?_)); clear hK2)
    refine wp_ret ?_
    refine (then_ret ?_)
    refine st_ret S (results1 S Try.results111 (Rv.tmp rfl)) ?_
    refine ⟨_, rowOf 32 3 Dot.enc A cap l :: L, rfl, S.wd, ?_⟩
    rw [compact_short h2]
    exact ⟨rfl, rfl⟩
  obtain ⟨g, rfl⟩ := S.wd.row_at (k := 0) rfl (by omega)
  refine wp_seq_k fun _ hK1 => ?_
  refine wp_region_lit ?_
  (refine st_y S (Yr.ys (ys_assign Ev.c)) rfl ?_; clear S a; intro a w S)
  refine st_nil ?_
  (refine (then_normal (hK1 _ _ ?_)); clear hK1)
  refine wp_seq_k fun _ hK1 => ?_
  refine wp_seq_k fun _ hK2 => ?_
  refine wp_region_lit ?_
  (refine st_y S (Yr.ys (ys_move (Ev.t rfl))) rfl ?_; clear S a w; intro a w S)
  (refine st_y S (Yr.ys (ys_lenS Try.underlying30 (Ev.t rfl))) rfl ?_; clear S a w; intro a w S)
  (refine st_y S (Yr.ys (ys_F (by omega) (ys_lss (Ev.t rfl) Ev.c))) rfl ?_; clear S a w; intro a w S)
  refine st_nil ?_
  (refine (then_normal (hK2 _ _ ?_)); clear hK2)
  refine st_else S (Ev.t rfl) ?_
  refine wp_skip ?_
  (refine (then_normal (hK1 _ _ ?_)); clear hK1)
  refine wp_seq_k fun _ hK1 => ?_
  refine wp_seq_k fun _ hK2 => ?_
  refine wp_region_lit ?_
  (refine st_y S (Yr.ys (ys_assign Ev.c)) rfl ?_; clear S a w; intro a w S)
  refine st_nil ?_
  (refine (then_normal (hK2 _ _ ?_)); clear hK2)
  refine wp_block ?_
  refine st_loopK S (X := Nat) (fun k => [(3, true, .int .i64 (k : Int))]) (fun _ L => L) (fun k => 1 ≤ k ∧ k ≤ l.length ∧ compactL (l.take k) = l.take k) (fun k => l.length - k) 1 ⟨Nat.le_refl _, by omega, compact_one l⟩ (by repeat (first | exact Fits.nil | refine Fits.skip rfl ?_ | refine Fits.cons rfl ?_)) (by repeat (first | exact List.Sublist.refl _ | exact List.nil_sublist _ | refine .cons_cons _ ?_ | refine .cons _ ?_)) ?_
  clear S
  intro k a w ⟨hk1, hk, hno⟩ S
  by_cases hlt : k < l.length
  · obtain ⟨x, hx⟩ : ∃ x, l[k]? = some x := ⟨l[k], by simp⟩
    obtain ⟨y, hy⟩ : ∃ y, l[k - 1]? = some y := ⟨l[k - 1], by simp⟩
    have rw_p : (k : Int) - 1 = ((k - 1 : Nat) : Int) := by omega
    refine wp_seq_k fun _ hK2 => ?_
    refine wp_seq_k fun _ hK3 => ?_
    refine wp_region_lit ?_
    (refine st_y S (Yr.ys (ys_move (Ev.t rfl))) rfl ?_; clear S a w; intro a w S)
    (refine st_y S (Yr.ys (ys_move (Ev.t rfl))) rfl ?_; clear S a w; intro a w S)
    (refine st_y S (Yr.ys (ys_lenS Try.underlying30 (Ev.t rfl))) rfl ?_; clear S a w; intro a w S)
    (refine st_y S (Yr.ys (ys_T (by omega) (ys_lss (Ev.t rfl) (Ev.t rfl)))) rfl ?_; clear S a w; intro a w S)
    refine st_nil ?_
    (refine (then_normal (hK3 _ _ ?_)); clear hK3)
    refine st_then S (Ev.t rfl) ?_
    refine wp_skip ?_
    (refine (then_normal (hK2 _ _ ?_)); clear hK2)
    refine wp_seq_k fun _ hK2 => ?_
    refine wp_block ?_
    refine wp_seq_k fun _ hK3 => ?_
    (refine st_quiet S (by kernel_rfl) (by kernel_rfl) ?_; clear S w; intro a S)
    (refine q_y S (Yr.ys (ys_move (Ev.t rfl))) rfl ?_; clear S a; intro a S)
    (refine q_y S (Yr.ys (ys_move (Ev.t rfl))) rfl ?_; clear S a; intro a S)
    (refine q_y S (Yr.ys (ys_ixS Try.underlying30 Try.sizeOf32 (Ev.t rfl) (Ev.t rfl) (fun _ => by omega))) rfl ?_; clear S a; intro a S)
    (refine q_y S (Yr.ys (ys_ldWA ⟨Try.isAgg32, Try.sizeOf32⟩ (Ev.t rfl) (k := 0) rfl hx (fun _ => rfl))) rfl ?_; clear S a; intro a S)
    (refine q_y S (Yr.ys (ys_move (Ev.t rfl))) rfl ?_; clear S a; intro a S)
    (refine q_y S (Yr.ys (ys_move (Ev.t rfl))) rfl ?_; clear S a; intro a S)
    (refine q_y S (Yr.ys (ys_subI (Ev.t rfl) Ev.c (fun _ => by unfold I64; omega))) rfl ?_; clear S a; intro a S)
    rw [rw_p] at S
    (refine q_y S (Yr.ys (ys_ixS Try.underlying30 Try.sizeOf32 (Ev.t rfl) (Ev.t rfl) (fun _ => by omega))) rfl ?_; clear S a; intro a S)
    (refine q_y S (Yr.ys (ys_ldWA ⟨Try.isAgg32, Try.sizeOf32⟩ (Ev.t rfl) (k := 0) rfl hy (fun _ => rfl))) rfl ?_; clear S a; intro a S)
    (refine q_y S (Yr.ys (ys_eqA (Ev.t rfl) (Ev.t rfl) eq32)) rfl ?_; clear S a; intro a S)
    (refine q_nil ?_; intro w W; replace S := St.mk S W; clear W)
    (refine (then_normal (hK3 _ _ ?_)); clear hK3)
    refine st_if S (Ev.t rfl) (fun h1 => ?_) (fun h1 => ?_)
    refine wp_seq_k fun _ hK3 => ?_
    refine wp_region_lit ?_
    (refine st_y S (Yr.ys (ys_move (Ev.t rfl))) rfl ?_; clear S a w; intro a w S)
    (refine st_y S (Yr.ys (ys_move (Ev.t rfl))) rfl ?_; clear S a w; intro a w S)
    (refine st_y S (Yr.ys (ys_slLoB Try.underlying30 Try.sizeOf32 (Ev.t rfl) (Ev.t rfl) (fun _ => by omega))) rfl ?_; clear S a w; intro a w S)
    (refine st_y S (Yr.ys (ys_assign (Ev.t rfl))) rfl ?_; clear S a w; intro a w S)
    refine st_nil ?_
    (refine (then_normal (hK3 _ _ ?_)); clear hK3)
    refine wp_seq_k fun _ hK3 => ?_
    refine wp_seq_k fun _ hK4 => ?_
    refine wp_region_lit ?_
    (refine st_y S (Yr.ys (ys_assign Ev.c)) rfl ?_; clear S a w; intro a w S)
    refine st_nil ?_
    (refine (then_normal (hK4 _ _ ?_)); clear hK4)
    refine wp_block ?_
    rotate_left
    refine wp_skip ?_
    (refine (in_normal (then_normal (hK2 _ _ ?_))); clear hK2)
    refine wp_region_lit ?_
    (refine st_y S (Yr.ys (ys_move (Ev.t rfl))) rfl ?_; clear S a w; intro a w S)
    (refine st_y S (Yr.ys (ys_addI (Ev.t rfl) Ev.c (fun _ => by unfold I64; omega))) rfl ?_; clear S a w; intro a w S)
    (refine st_y S (Yr.ys (ys_assign (Ev.t rfl))) rfl ?_; clear S a w; intro a w S)
    refine st_nil ?_
    refine (then_normal ?_)
    rotate_left
    · have exy : x = y := (by obtain ⟨a1, a2, a3⟩ := h1; exact (Dot.eq_iff _ _).2 ⟨a1, a2, a3⟩)
      refine st_loopK S (X := Nat × Nat × List Dot) (fun q => [(5, true, .int .i64 (q.1 : Int)), (3, true, .int .i64 (q.2.1 : Int))]) (fun q _ => rowOf 32 3 Dot.enc (some ⟨g, 0, none⟩) cap q.2.2 :: L) (fun q => 1 ≤ q.1 ∧ k + q.1 ≤ l.length ∧ q.2.1 < k + q.1 ∧ k ≤ q.2.1 ∧ q.2.2.length = l.length ∧ q.2.2.drop (k + q.1 - 1) = l.drop (k + q.1 - 1) ∧ q.2.2.take q.2.1 = compactL (l.take (k + q.1))) (fun q => l.length - q.1) (1, k, l) ⟨Nat.le_refl _, by dsimp only; omega, by dsimp only; omega, Nat.le_refl _, rfl, rfl, by dsimp only; rw [compact_same hx (exy ▸ hy) hk1, hno]⟩ (by repeat (first | exact Fits.nil | refine Fits.skip rfl ?_ | refine Fits.cons rfl ?_)) (by repeat (first | exact List.Sublist.refl _ | exact List.nil_sublist _ | refine .cons_cons _ ?_ | refine .cons _ ?_)) ?_
      clear S
      intro ⟨k2, kk, cur⟩ a w ⟨hk2, hk2l, hkk, hkk0, hcl, hcd, hct⟩ S
      dsimp only at hk2 hk2l hkk hkk0 hcl hcd hct S
      by_cases hlt2 : k + k2 < l.length
      · obtain ⟨u, hu⟩ : ∃ u, cur[k + k2]? = some u := ⟨cur[k + k2], by simp⟩
        obtain ⟨v, hv⟩ : ∃ v, cur[k + k2 - 1]? = some v := ⟨cur[k + k2 - 1], by simp⟩
        have rw_q : (k2 : Int) - 1 = ((k2 - 1 : Nat) : Int) := by omega
        have rw_o1 : 0 + k * 3 + k2 * 3 = 0 + (k + k2) * 3 := by omega
        have rw_o2 : 0 + k * 3 + (k2 - 1) * 3 = 0 + (k + k2 - 1) * 3 := by omega
        have hu' : l[k + k2]? = some u := by
          have := congrArg (·[1]?) hcd
          simp only [List.getElem?_drop] at this
          rw [show k + k2 - 1 + 1 = k + k2 by omega] at this
          rw [← this, hu]
        have hv' : l[k + k2 - 1]? = some v := by
          have := congrArg (·[0]?) hcd
          simp only [List.getElem?_drop, Nat.add_zero] at this
          rw [← this, hv]
        have hcd' : cur.drop (k + k2) = l.drop (k + k2) := by
          have := congrArg (·.drop 1) hcd
          simp only [List.drop_drop] at this
          rwa [show k + k2 - 1 + 1 = k + k2 by omega] at this
        obtain ⟨z, hz⟩ : ∃ z, cur[kk]? = some z := ⟨cur[kk], by simp⟩
        refine wp_seq_k fun _ hK4 => ?_
        refine wp_seq_k fun _ hK5 => ?_
        refine wp_region_lit ?_
        (refine st_y S (Yr.ys (ys_move (Ev.t rfl))) rfl ?_; clear S a w; intro a w S)
        (refine st_y S (Yr.ys (ys_move (Ev.t rfl))) rfl ?_; clear S a w; intro a w S)
        (refine st_y S (Yr.ys (ys_lenS Try.underlying30 (Ev.t rfl))) rfl ?_; clear S a w; intro a w S)
        (refine st_y S (Yr.ys (ys_T (by omega) (ys_lss (Ev.t rfl) (Ev.t rfl)))) rfl ?_; clear S a w; intro a w S)
        refine st_nil ?_
        (refine (then_normal (hK5 _ _ ?_)); clear hK5)
        refine st_then S (Ev.t rfl) ?_
        refine wp_skip ?_
        (refine (then_normal (hK4 _ _ ?_)); clear hK4)
        refine wp_seq_k fun _ hK4 => ?_
        refine wp_block ?_
        refine wp_seq_k fun _ hK5 => ?_
        (refine st_quiet S (by kernel_rfl) (by kernel_rfl) ?_; clear S w; intro a S)
        (refine q_y S (Yr.ys (ys_move (Ev.t rfl))) rfl ?_; clear S a; intro a S)
        (refine q_y S (Yr.ys (ys_move (Ev.t rfl))) rfl ?_; clear S a; intro a S)
        (refine q_y S (Yr.ys (ys_ixS Try.underlying30 Try.sizeOf32 (Ev.t rfl) (Ev.t rfl) (fun _ => by omega))) rfl ?_; clear S a; intro a S)
        rw [rw_o1] at S
        (refine q_y S (Yr.ys (ys_ldWA ⟨Try.isAgg32, Try.sizeOf32⟩ (Ev.t rfl) (k := 0) rfl hu (fun _ => rfl))) rfl ?_; clear S a; intro a S)
        (refine q_y S (Yr.ys (ys_move (Ev.t rfl))) rfl ?_; clear S a; intro a S)
        (refine q_y S (Yr.ys (ys_move (Ev.t rfl))) rfl ?_; clear S a; intro a S)
        (refine q_y S (Yr.ys (ys_subI (Ev.t rfl) Ev.c (fun _ => by unfold I64; omega))) rfl ?_; clear S a; intro a S)
        rw [rw_q] at S
        (refine q_y S (Yr.ys (ys_ixS Try.underlying30 Try.sizeOf32 (Ev.t rfl) (Ev.t rfl) (fun _ => by omega))) rfl ?_; clear S a; intro a S)
        rw [rw_o2] at S
        (refine q_y S (Yr.ys (ys_ldWA ⟨Try.isAgg32, Try.sizeOf32⟩ (Ev.t rfl) (k := 0) rfl hv (fun _ => rfl))) rfl ?_; clear S a; intro a S)
        (refine q_y S (Yr.ys (ys_neA (Ev.t rfl) (Ev.t rfl) eq32)) rfl ?_; clear S a; intro a S)
        (refine q_nil ?_; intro w W; replace S := St.mk S W; clear W)
        (refine (then_normal (hK5 _ _ ?_)); clear hK5)
        refine st_cond S (Ev.t rfl) (fun h3 => ?_) (fun h3 => ?_)
        refine wp_seq_k fun _ hK5 => ?_
        refine wp_region_lit ?_
        (refine st_y S (Yr.ys (ys_move (Ev.t rfl))) rfl ?_; clear S a w; intro a w S)
        (refine st_y S (Yr.ys (ys_move (Ev.t rfl))) rfl ?_; clear S a w; intro a w S)
        (refine st_y S (Yr.ys (ys_move (Ev.t rfl))) rfl ?_; clear S a w; intro a w S)
        (refine st_y S (Yr.ys (ys_move (Ev.t rfl))) rfl ?_; clear S a w; intro a w S)
        (refine st_y S (Yr.ys (ys_ixS Try.underlying30 Try.sizeOf32 (Ev.t rfl) (Ev.t rfl) (fun _ => by omega))) rfl ?_; clear S a w; intro a w S)
        rw [rw_o1] at S
        (refine st_y S (Yr.ys (ys_ldWA ⟨Try.isAgg32, Try.sizeOf32⟩ (Ev.t rfl) (k := 0) rfl hu (fun _ => rfl))) rfl ?_; clear S a w; intro a w S)
        (refine st_y S (Yr.ys (ys_ixS Try.underlying30 Try.sizeOf32 (Ev.t rfl) (Ev.t rfl) (fun _ => by omega))) rfl ?_; clear S a w; intro a w S)
        rotate_left
        refine wp_skip ?_
        (refine (in_normal (then_normal (hK4 _ _ ?_))); clear hK4)
        refine wp_region_lit ?_
        (refine st_y S (Yr.ys (ys_move (Ev.t rfl))) rfl ?_; clear S a w; intro a w S)
        (refine st_y S (Yr.ys (ys_addI (Ev.t rfl) Ev.c (fun _ => by unfold I64; omega))) rfl ?_; clear S a w; intro a w S)
        (refine st_y S (Yr.ys (ys_assign (Ev.t rfl))) rfl ?_; clear S a w; intro a w S)
        refine st_nil ?_
        refine (then_normal ?_)
        rotate_left
        · have huv : ¬ v = u := (fun e => by have h4 := h3; simp only [Bool.not_eq_true', decide_eq_false_iff_not] at h4; exact h4 ((Dot.eq_iff _ _).1 e.symm))
          refine st_m (op_stRow (enc := Dot.enc) (size := 3) (i := kk) (l := cur) (yn := u) S (fun _ => rfl) rfl Try.sizeOf32 (Ev.t rfl) (Ev.t rfl) rfl (by simp [Dot.enc, Value.oneCell']) (k := 0) rfl hz (Nat.zero_add _) ?_)
          clear S
          intro a w S
          refine st_nil ?_
          (refine (then_normal (hK5 _ _ ?_)); clear hK5)
          refine wp_region_lit ?_
          (refine st_y S (Yr.ys (ys_move (Ev.t rfl))) rfl ?_; clear S a w; intro a w S)
          (refine st_y S (Yr.ys (ys_addI (Ev.t rfl) Ev.c (fun _ => by unfold I64; omega))) rfl ?_; clear S a w; intro a w S)
          (refine st_y S (Yr.ys (ys_assign (Ev.t rfl))) rfl ?_; clear S a w; intro a w S)
          refine st_nil ?_
          (refine (in_normal (then_normal (hK4 _ _ ?_))); clear hK4)
          refine wp_region_lit ?_
          (refine st_y S (Yr.ys (ys_move (Ev.t rfl))) rfl ?_; clear S a w; intro a w S)
          (refine st_y S (Yr.ys (ys_addI (Ev.t rfl) Ev.c (fun _ => by unfold I64; omega))) rfl ?_; clear S a w; intro a w S)
          (refine st_y S (Yr.ys (ys_assign (Ev.t rfl))) rfl ?_; clear S a w; intro a w S)
          refine st_nil ?_
          refine (then_normal ?_)
          refine ⟨(k2 + 1, kk + 1, cur.set kk u), ⟨by dsimp only; omega, by dsimp only; omega, by dsimp only; omega, by dsimp only; omega, by simpa using hcl, ?_, ?_⟩, by dsimp only; omega, S.weak (by repeat (first | exact Fits.nil | refine Fits.skip rfl ?_ | refine Fits.cons rfl ?_)) (by repeat (first | exact List.Sublist.refl _ | exact List.nil_sublist _ | refine .cons_cons _ ?_ | refine .cons _ ?_))⟩
          · dsimp only
            rw [show k + (k2 + 1) - 1 = k + k2 by omega, List.drop_set, if_pos (by omega), hcd']
          · dsimp only
            rw [show k + (k2 + 1) = k + k2 + 1 by omega, compact_take hu' hv' (by omega), if_neg huv, ← hct, List.take_add_one, List.take_set, List.set_eq_of_length_le (by simp; omega)]
            simp [show kk < cur.length by omega]
        · have huv : u = v := ((Dot.eq_iff _ _).2 (by have h4 := h3; simp only [Bool.not_eq_false', decide_eq_true_eq] at h4; exact h4))
          refine ⟨(k2 + 1, kk, cur), ⟨by dsimp only; omega, by dsimp only; omega, by dsimp only; omega, by dsimp only; omega, hcl, ?_, ?_⟩, by dsimp only; omega, S.weak (by repeat (first | exact Fits.nil | refine Fits.skip rfl ?_ | refine Fits.cons rfl ?_)) (by repeat (first | exact List.Sublist.refl _ | exact List.nil_sublist _ | refine .cons_cons _ ?_ | refine .cons _ ?_))⟩
          · dsimp only
            rw [show k + (k2 + 1) - 1 = k + k2 by omega, hcd']
          · dsimp only
            rw [show k + (k2 + 1) = k + k2 + 1 by omega, compact_same hu' (huv ▸ hv') (by omega), hct]
      · refine wp_seq_k fun _ hK4 => ?_
        refine wp_seq_k fun _ hK5 => ?_
        refine wp_region_lit ?_
        (refine st_y S (Yr.ys (ys_move (Ev.t rfl))) rfl ?_; clear S a w; intro a w S)
        (refine st_y S (Yr.ys (ys_move (Ev.t rfl))) rfl ?_; clear S a w; intro a w S)
        (refine st_y S (Yr.ys (ys_lenS Try.underlying30 (Ev.t rfl))) rfl ?_; clear S a w; intro a w S)
        (refine st_y S (Yr.ys (ys_F (by omega) (ys_lss (Ev.t rfl) (Ev.t rfl)))) rfl ?_; clear S a w; intro a w S)
        refine st_nil ?_
        (refine (then_normal (hK5 _ _ ?_)); clear hK5)
        refine st_else S (Ev.t rfl) ?_
        refine wp_exit ?_
        (refine (then_exit (then_exit (in_here (then_normal (hK3 _ _ ?_))))); clear hK3)
        refine wp_seq_k fun _ hK3 => ?_
        refine wp_region_lit ?_
        (refine st_y S (Yr.ys (ys_move (Ev.t rfl))) rfl ?_; clear S a w; intro a w S)
        (refine st_y S (Yr.ys (ys_move (Ev.t rfl))) rfl ?_; clear S a w; intro a w S)
        (refine st_y S (Yr.ys (ys_slLoB Try.underlying30 Try.sizeOf32 (Ev.t rfl) (Ev.t rfl) (fun _ => by omega))) rfl ?_; clear S a w; intro a w S)
        refine st_m (op_clear (enc := Dot.enc) (size := 3) (m := kk) (l := cur) S (fun _ => rfl) rfl Try.underlying30 inf32 rfl (by simp [Value.cells, Value.oneCell']) (Ev.t rfl) (k := 0) rfl (by omega) (by omega) ?_)
        clear S
        intro a w S
        refine st_nil ?_
        (refine (then_normal (hK3 _ _ ?_)); clear hK3)
        refine wp_seq_k fun _ hK3 => ?_
        refine wp_region_lit ?_
        (refine st_y S (Yr.ys (ys_move (Ev.t rfl))) rfl ?_; clear S a w; intro a w S)
        (refine st_y S (Yr.ys (ys_move (Ev.t rfl))) rfl ?_; clear S a w; intro a w S)
        (refine st_y S (Yr.ys (ys_slHi Try.underlying30 Try.sizeOf32 (Ev.t rfl) (Ev.t rfl) (fun _ => by first | omega | (simp; done) | (simp; omega)))) rfl ?_; clear S a w; intro a w S)
        (refine st_y S (Yr.ys (ys_assign (Ev.t rfl))) rfl ?_; clear S a w; intro a w S)
        refine st_nil ?_
        (refine (then_normal (hK3 _ _ ?_)); clear hK3)
        refine wp_ret ?_
        refine (in_ret (then_ret (then_ret (in_ret (then_ret ?_)))))
        refine st_ret S (results1 S Try.results111 (Rv.tmp rfl)) ?_
        have hend : k + k2 = l.length := by omega
        rw [hend, List.take_length] at hct
        refine ⟨_, rowOf 32 3 Dot.enc (some ⟨g, 0, none⟩) cap (cur.take kk) :: L, rfl, S.wd, ?_, by rw [hct]⟩
        rw [← hct]
        simp
        omega
    · refine ⟨k + 1, ⟨by omega, by omega, ?_⟩, by omega, S.weak (by repeat (first | exact Fits.nil | refine Fits.skip rfl ?_ | refine Fits.cons rfl ?_)) (by repeat (first | exact List.Sublist.refl _ | exact List.nil_sublist _ | refine .cons_cons _ ?_ | refine .cons _ ?_))⟩
      have exy : ¬ y = x := (fun e => h1 ((Dot.eq_iff _ _).1 e.symm))
      rw [compact_take hx hy hk1, if_neg exy, hno, List.take_add_one, hx]; rfl
  · refine wp_seq_k fun _ hK2 => ?_
    refine wp_seq_k fun _ hK3 => ?_
    refine wp_region_lit ?_
    (refine st_y S (Yr.ys (ys_move (Ev.t rfl))) rfl ?_; clear S a w; intro a w S)
    (refine st_y S (Yr.ys (ys_move (Ev.t rfl))) rfl ?_; clear S a w; intro a w S)
    (refine st_y S (Yr.ys (ys_lenS Try.underlying30 (Ev.t rfl))) rfl ?_; clear S a w; intro a w S)
    (refine st_y S (Yr.ys (ys_F (by omega) (ys_lss (Ev.t rfl) (Ev.t rfl)))) rfl ?_; clear S a w; intro a w S)
    refine st_nil ?_
    (refine (then_normal (hK3 _ _ ?_)); clear hK3)
    refine st_else S (Ev.t rfl) ?_
    refine wp_exit ?_
    (refine (then_exit (then_exit (in_here (then_normal (hK1 _ _ ?_))))); clear hK1)
    refine wp_seq_k fun _ hK1 => ?_
    refine wp_region_lit ?_
    (refine st_y S (Yr.ys (ys_move (Ev.t rfl))) rfl ?_; clear S a w; intro a w S)
    (refine st_y S (Yr.ys (ys_assign (Ev.t rfl))) rfl ?_; clear S a w; intro a w S)
    refine st_nil ?_
    (refine (then_normal (hK1 _ _ ?_)); clear hK1)
    refine wp_ret ?_
    refine st_ret S (results1 S Try.results111 (Rv.tmp rfl)) ?_
    have hend : k = l.length := by omega
    subst hend
    rw [List.take_length] at hno
    refine ⟨_, rowOf 32 3 Dot.enc (some ⟨g, 0, none⟩) cap l :: L, rfl, S.wd, ?_⟩
    rw [hno]
    exact ⟨rfl, rfl⟩
end Go.Proofs.Ytjfeeiljinbmjaa
