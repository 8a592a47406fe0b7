/- Contracts and laws that the statement Tkt leans on, part 4. -/
import Derived.Test.YtfblmkocmnbdcaaTktK3
set_option linter.unusedVariables false
set_option linter.unusedSimpArgs false
set_option maxRecDepth 100000
set_option maxHeartbeats 4000000
namespace Go.Fw
def textL (l s : List UInt8) : List UInt8 := putL l (s.length : Int) ++ s
def textR (b : List UInt8) (k : Nat) (most : Int) : List UInt8 × Nat × Int :=
  if (numAt b k).2.2 = 0 then (if max most 0 < (numAt b k).1 then ([], k, 4) else if ((b.length - (numAt b k).2.1 : Nat) : Int) < (numAt b k).1 then ([], k, 2) else ((b.drop (numAt b k).2.1).take (numAt b k).1.toNat, (numAt b k).2.1 + (numAt b k).1.toNat, 0)) else ([], k, (numAt b k).2.2)
theorem textR_le {b : List UInt8} {k : Nat} {most : Int} (h : k ≤ b.length) : k ≤ (textR b k most).2.1 ∧ (textR b k most).2.1 ≤ b.length := by
  have h1 := numAt_le h
  have h2 := numAt_val b k
  unfold textR
  split
  · split
    · exact ⟨Nat.le_refl _, h⟩
    · split
      · exact ⟨Nat.le_refl _, h⟩
      · dsimp only; omega
  · exact ⟨Nat.le_refl _, h⟩
theorem textR_bad {b : List UInt8} {k : Nat} {most : Int} (h : (textR b k most).2.2 ≠ 0) : (textR b k most).1 = [] ∧ (textR b k most).2.1 = k := by
  unfold textR at h ⊢
  split
  · rename_i h1
    rw [if_pos h1] at h
    split
    · exact ⟨rfl, rfl⟩
    · rename_i h2
      rw [if_neg h2] at h
      split
      · exact ⟨rfl, rfl⟩
      · rename_i h3
        rw [if_neg h3] at h
        exact absurd rfl h
  · exact ⟨rfl, rfl⟩
end Go.Fw
namespace Go.Proofs.Ytfblmkocmnbdcaa
open Go.Fw Go.Proofs Go.RowKit Go.Proofs.Try
theorem c78 (w0 : World) (v1 : Value) (l s : List UInt8) (h : Sl encB 1 w0 w0.heap.size v1 l) (hl : l.length ≤ 4194304) (hs : s.length ≤ 4194304) :
    Rets Try.prog 78 #[v1, .string (bs s)] w0 fun v L => ∃ A r, v = .slice A (textL l s).length r ∧ L = [rowOf 5 1 encB A r (textL l s)] := by
  have hh := h
  obtain ⟨A, cap, rfl, _⟩ := h
  have hpl := putL_len l (n := (s.length : Int)) (by omega)
  have rw_t : putL l (s.length : Int) ++ s = textL l s := rfl
  unfold Go.Fw.Rets
  refine enter2 func78 rfl ntmps78 rfl fun a S => sg S (.ac rfl <| .z) fun a w S => wp_seq_k fun _ hK1 => wp_region_lit (run S (.mv rfl <| .mv rfl <| .yy (ys_lenStr underlying9 (.t rfl)) rfl <| .z) fun a w S => ?_)
  (refine st_m (op_calls S call77 (.cons (.t rfl) (.cons (.t rfl) .nil)) (c77 _ _ _ _ (by exact .old S.wd (by assumption)) (by omega) (by omega)) rfl ?_); clear S a w; rintro _ _ ⟨A1, c1, rfl, rfl⟩ a w S)
  refine run S (.mv rfl <| .z) fun a w S => st_m (op_extend _ S underlying57 underlying9 (.inl rfl) inf5 rfl (k := 0) rfl (.t rfl) (.t rfl) Src.str (by first | omega | (simp only [List.length_append, List.length_cons, List.length_nil]; omega) | (simp; omega)) rfl rfl rfl fun A2 cap1 a w S => ?_)
  rw [rw_t] at S
  refine run S (.as rfl <| .z) fun a w S => st_nil (then_normal (hK1 _ _ (wp_ret (st_ret S (results1 S results78 (Rv.tmp rfl)) ?_))))
  exact ⟨_, _, rfl, S.wd.pk, _, _, rfl, rfl⟩
theorem c84 (w0 : World) (v1 : Value) (l s : List UInt8) (h : Sl encB 1 w0 w0.heap.size v1 l) (hl : l.length ≤ 4194304) (hs : s.length ≤ 4194304) :
    Rets Try.prog 84 #[v1, .string (bs s)] w0 fun v L => ∃ A r, v = .slice A (textL l s).length r ∧ L = [rowOf 5 1 encB A r (textL l s)] := by
  have hh := h
  obtain ⟨A, cap, rfl, _⟩ := h
  have hpl := putL_len l (n := (s.length : Int)) (by omega)
  have rw_t : putL l (s.length : Int) ++ s = textL l s := rfl
  unfold Go.Fw.Rets
  refine enter2 func84 rfl ntmps84 rfl fun a S => sg S (.ac rfl <| .z) fun a w S => wp_seq_k fun _ hK1 => wp_region_lit (run S (.mv rfl <| .mv rfl <| .yy (ys_lenStr underlying9 (.t rfl)) rfl <| .z) fun a w S => ?_)
  (refine st_m (op_calls S call83 (.cons (.t rfl) (.cons (.t rfl) .nil)) (c83 _ _ _ _ (by exact .old S.wd (by assumption)) (by omega) (by omega)) rfl ?_); clear S a w; rintro _ _ ⟨A1, c1, rfl, rfl⟩ a w S)
  refine run S (.mv rfl <| .z) fun a w S => st_m (op_extend _ S underlying57 underlying9 (.inl rfl) inf5 rfl (k := 0) rfl (.t rfl) (.t rfl) Src.str (by first | omega | (simp only [List.length_append, List.length_cons, List.length_nil]; omega) | (simp; omega)) rfl rfl rfl fun A2 cap1 a w S => ?_)
  rw [rw_t] at S
  refine run S (.as rfl <| .z) fun a w S => st_nil (then_normal (hK1 _ _ (wp_ret (st_ret S (results1 S results84 (Rv.tmp rfl)) ?_))))
  exact ⟨_, _, rfl, S.wd.pk, _, _, rfl, rfl⟩
theorem c98 (w0 : World) (g : Nat) (A : Option Addr) (cap k n : Nat) (h0 : w0.cell? ⟨g, 0, none⟩ = some (.slice A n cap)) (h1 : w0.cell? ⟨g, 1, none⟩ = some (.int .i64 (k : Int))) (h2 : w0.cell? ⟨g, 2, none⟩ = some (.bool true)) (hk : k ≤ n) (hn : n ≤ 16777216) :
    Calls Try.prog 98 #[.pointer (some ⟨g, 0, none⟩)] w0 fun e w' => e = .returned (.int .i64 (if k < n then 3 else 0)) ∧ Bel w0.heap.size w0 w' := by
  by_cases h : k < n
  · refine enter1 func98 rfl ntmps98 rfl fun a S => sg S (.ac rfl <| .z) fun a w S => wp_seq_k fun _ hK1 => sg S (.mv rfl <| .xx (ys_call call117 (.cons (.t rfl) .nil) (fun hp w W => c117 _ _ (by exact Wd.cellOld W (by assumption)))) rfl <| .nt rfl <| .z) fun a w S => st_else S (.t rfl) (wp_skip (then_normal (hK1 _ _ (wp_seq_k fun _ hK1 => sg S (.mv rfl <| .xx (ys_call call93 (.cons (.t rfl) .nil) (fun hp w W => c93 _ _ _ _ _ _ (by exact Wd.cellOld W (by assumption)) (by exact Wd.cellOld W (by assumption)) (by exact Wd.cellOld W (by assumption)) (by assumption) (by assumption))) rfl <| .yy (ys_T (by omega) (ys_gtr (.t rfl) Ev.c)) rfl <| .z) fun a w S => st_then S (.t rfl) (sg S (.ac rfl <| .z) fun a w S => wp_ret (then_ret (st_ret S (results1 S results98 (Rv.tmp rfl)) ?_)))))))
    exact ⟨by rw [if_pos h], S.wd.below⟩
  · refine enter1 func98 rfl ntmps98 rfl fun a S => sg S (.ac rfl <| .z) fun a w S => wp_seq_k fun _ hK1 => sg S (.mv rfl <| .xx (ys_call call117 (.cons (.t rfl) .nil) (fun hp w W => c117 _ _ (by exact Wd.cellOld W (by assumption)))) rfl <| .nt rfl <| .z) fun a w S => st_else S (.t rfl) (wp_skip (then_normal (hK1 _ _ (wp_seq_k fun _ hK1 => sg S (.mv rfl <| .xx (ys_call call93 (.cons (.t rfl) .nil) (fun hp w W => c93 _ _ _ _ _ _ (by exact Wd.cellOld W (by assumption)) (by exact Wd.cellOld W (by assumption)) (by exact Wd.cellOld W (by assumption)) (by assumption) (by assumption))) rfl <| .yy (ys_F (by omega) (ys_gtr (.t rfl) Ev.c)) rfl <| .z) fun a w S => st_else S (.t rfl) (wp_skip (then_normal (hK1 _ _ (sg S (.ac rfl <| .z) fun a w S => wp_ret (st_ret S (results1 S results98 (Rv.tmp rfl)) ?_)))))))))
    exact ⟨by rw [if_neg h], S.wd.below⟩
theorem q135 {w0 w : World} {L : List Chunk} {g g1 g2 g3 cap k : Nat} {A : Option Addr} {b z : List UInt8} {most : Int} (W : Wd w0 (rdr g A cap b k (.blk g1 (.cells #[.pointer (some ⟨g, 0, none⟩)] 133) :: .blk g2 (.cells #[.int .i64 most] 3) :: .blk g3 (.cells #[.string (bs z)] 9) :: L)) w) (hk : k ≤ b.length) (hb : b.length ≤ 16777216) :
    RetsP Try.prog 135 #[.pointer (some ⟨g1, 0, none⟩), .pointer (some ⟨g2, 0, none⟩), .pointer (some ⟨g3, 0, none⟩)] 43 w0 w (fun v L' => (textR b k most).2.2 = 0 ∧ v = .tuple #[] ∧ L' = rdr g A cap b (textR b k most).2.1 (.blk g1 (.cells #[.pointer (some ⟨g, 0, none⟩)] 133) :: .blk g2 (.cells #[.int .i64 most] 3) :: .blk g3 (.cells #[.string (bs (textR b k most).1)] 9) :: L))
      (fun x L' => x = (textR b k most).2.2 ∧ x ≠ 0 ∧ ∃ k', L' = rdr g A cap b k' (.blk g1 (.cells #[.pointer (some ⟨g, 0, none⟩)] 133) :: .blk g2 (.cells #[.int .i64 most] 3) :: .blk g3 (.cells #[.string (bs z)] 9) :: L)) := by
  have hnl := numAt_le hk
  have hnv := numAt_val b k
  have hun : textR b k most = if (numAt b k).2.2 = 0 then (if max most 0 < (numAt b k).1 then ([], k, 4) else if ((b.length - (numAt b k).2.1 : Nat) : Int) < (numAt b k).1 then ([], k, 2) else ((b.drop (numAt b k).2.1).take (numAt b k).1.toNat, (numAt b k).2.1 + (numAt b k).1.toNat, 0)) else ([], k, (numAt b k).2.2) := rfl
  have rw_k : ((k + (numR 0 0 (b.drop k)).2.1 : Nat) : Int) = (((numAt b k).2.1 : Nat) : Int) := rfl
  by_cases he : (numAt b k).2.2 = 0
  rotate_left
  · rw [if_neg he] at hun
    have he' : (numR 0 0 (b.drop k)).2.2 ≠ 0 := he
    unfold Go.Fw.RetsP
    refine enterW3 W func135 rfl ntmps135 rfl fun a S => wp_seq_k fun _ hK1 => wp_region_lit (run S (.ld gt133 2 rfl rfl rfl <| .z) fun a w S => ?_)
    (refine st_m (op_callRP S call91 (.cons (.t rfl) .nil) (c91 S.wd (by first | assumption | omega | (dsimp only; omega) | exact Sl.nil_ | exact .old S.wd (by assumption) | exact Sl.of_own S.wd (k := 0) rfl (fun _ => rfl) | exact Sl.of_own S.wd (k := 1) rfl (fun _ => rfl) | exact Sl.of_own S.wd (k := 2) rfl (fun _ => rfl) | exact Sl.of_own S.wd (k := 3) rfl (fun _ => rfl) | exact Sl.of_own S.wd (k := 4) rfl (fun _ => rfl) | (simp at *; omega)) (by first | assumption | omega | (dsimp only; omega) | exact Sl.nil_ | exact .old S.wd (by assumption) | exact Sl.of_own S.wd (k := 0) rfl (fun _ => rfl) | exact Sl.of_own S.wd (k := 1) rfl (fun _ => rfl) | exact Sl.of_own S.wd (k := 2) rfl (fun _ => rfl) | exact Sl.of_own S.wd (k := 3) rfl (fun _ => rfl) | exact Sl.of_own S.wd (k := 4) rfl (fun _ => rfl) | (simp at *; omega))) rfl ?_ ?_) <;> clear S a w)
    rintro _ _ ⟨hr1, rfl, rfl⟩ a w S
    refine run S (.as rfl <| .z) fun a w S => st_nil (then_normal (hK1 _ _ (wp_seq_k fun _ hK1 => sg S (.mv rfl <| .ld gt3 3 rfl rfl rfl <| .yy (ys_max (.t rfl) Ev.c) rfl <| .yy (ys_T (by omega) (ys_gtr (.t rfl) (.t rfl))) rfl <| .z) fun a w S => st_then S (.t rfl) (wp_region_lit ?_))))
    (refine st_m (op_callRP S call92 (.cons Ev.c .nil) (c92 S.wd _) rfl ?_ ?_) <;> clear S a w)
    (intro _ _ h; exact h.elim)
    rintro _ _ ⟨rfl, rfl⟩ a w S
    refine then_panic ?_
    refine post_panic S ?_
    rotate_left
    rintro _ _ ⟨rfl, hr1, rfl⟩ a w S
    refine then_panic ?_
    refine post_panic S ?_
    rotate_left
    · exact absurd hr1 he'
    · rw [hun]
      exact .inr ⟨_, _, rfl, S.wd, rfl, hr1, k, rfl⟩
  rw [if_pos he] at hun
  have he' : (numR 0 0 (b.drop k)).2.2 = 0 := he
  by_cases h1 : max most 0 < (numAt b k).1
  · have rw_1 : decide (max most 0 < (numR 0 0 (b.drop k)).1) = true := decide_eq_true h1
    rw [if_pos h1] at hun
    unfold Go.Fw.RetsP
    refine enterW3 W func135 rfl ntmps135 rfl fun a S => wp_seq_k fun _ hK1 => wp_region_lit (run S (.ld gt133 2 rfl rfl rfl <| .z) fun a w S => ?_)
    (refine st_m (op_callRP S call91 (.cons (.t rfl) .nil) (c91 S.wd (by first | assumption | omega | (dsimp only; omega) | exact Sl.nil_ | exact .old S.wd (by assumption) | exact Sl.of_own S.wd (k := 0) rfl (fun _ => rfl) | exact Sl.of_own S.wd (k := 1) rfl (fun _ => rfl) | exact Sl.of_own S.wd (k := 2) rfl (fun _ => rfl) | exact Sl.of_own S.wd (k := 3) rfl (fun _ => rfl) | exact Sl.of_own S.wd (k := 4) rfl (fun _ => rfl) | (simp at *; omega)) (by first | assumption | omega | (dsimp only; omega) | exact Sl.nil_ | exact .old S.wd (by assumption) | exact Sl.of_own S.wd (k := 0) rfl (fun _ => rfl) | exact Sl.of_own S.wd (k := 1) rfl (fun _ => rfl) | exact Sl.of_own S.wd (k := 2) rfl (fun _ => rfl) | exact Sl.of_own S.wd (k := 3) rfl (fun _ => rfl) | exact Sl.of_own S.wd (k := 4) rfl (fun _ => rfl) | (simp at *; omega))) rfl ?_ ?_) <;> clear S a w)
    rintro _ _ ⟨hr1, rfl, rfl⟩ a w S
    refine run S (.as rfl <| .z) fun a w S => st_nil (then_normal (hK1 _ _ (wp_seq_k fun _ hK1 => wp_seq_k fun _ hK2 => wp_region_lit (run S (.mv rfl <| .ld gt3 3 rfl rfl rfl <| .yy (ys_max (.t rfl) Ev.c) rfl <| .yy (ys_gtr (.t rfl) (.t rfl)) rfl <| .z) fun a w S => ?_))))
    rw [rw_1] at S
    refine st_nil (then_normal (hK2 _ _ (st_then S (.t rfl) (wp_region_lit ?_))))
    (refine st_m (op_callRP S call92 (.cons Ev.c .nil) (c92 S.wd _) rfl ?_ ?_) <;> clear S a w)
    (intro _ _ h; exact h.elim)
    rintro _ _ ⟨rfl, rfl⟩ a w S
    refine then_panic ?_
    refine post_panic S ?_
    rotate_left
    rintro _ _ ⟨rfl, hr1, rfl⟩ a w S
    refine then_panic ?_
    refine post_panic S ?_
    rotate_left
    · rw [hun]
      exact .inr ⟨_, _, rfl, S.wd, rfl, by decide, (numAt b k).2.1, rfl⟩
    · exact absurd he' hr1
  have rw_1 : decide (max most 0 < (numR 0 0 (b.drop k)).1) = false := decide_eq_false h1
  rw [if_neg h1] at hun
  have rw_l : (b.length : Int) - (((numAt b k).2.1 : Nat) : Int) = ((b.length - (numAt b k).2.1 : Nat) : Int) := by omega
  by_cases h2 : ((b.length - (numAt b k).2.1 : Nat) : Int) < (numAt b k).1
  · have rw_2 : decide (((b.length - (numAt b k).2.1 : Nat) : Int) < (numR 0 0 (b.drop k)).1) = true := decide_eq_true h2
    rw [if_pos h2] at hun
    unfold Go.Fw.RetsP
    refine enterW3 W func135 rfl ntmps135 rfl fun a S => wp_seq_k fun _ hK1 => wp_region_lit (run S (.ld gt133 2 rfl rfl rfl <| .z) fun a w S => ?_)
    (refine st_m (op_callRP S call91 (.cons (.t rfl) .nil) (c91 S.wd (by first | assumption | omega | (dsimp only; omega) | exact Sl.nil_ | exact .old S.wd (by assumption) | exact Sl.of_own S.wd (k := 0) rfl (fun _ => rfl) | exact Sl.of_own S.wd (k := 1) rfl (fun _ => rfl) | exact Sl.of_own S.wd (k := 2) rfl (fun _ => rfl) | exact Sl.of_own S.wd (k := 3) rfl (fun _ => rfl) | exact Sl.of_own S.wd (k := 4) rfl (fun _ => rfl) | (simp at *; omega)) (by first | assumption | omega | (dsimp only; omega) | exact Sl.nil_ | exact .old S.wd (by assumption) | exact Sl.of_own S.wd (k := 0) rfl (fun _ => rfl) | exact Sl.of_own S.wd (k := 1) rfl (fun _ => rfl) | exact Sl.of_own S.wd (k := 2) rfl (fun _ => rfl) | exact Sl.of_own S.wd (k := 3) rfl (fun _ => rfl) | exact Sl.of_own S.wd (k := 4) rfl (fun _ => rfl) | (simp at *; omega))) rfl ?_ ?_) <;> clear S a w)
    rintro _ _ ⟨hr1, rfl, rfl⟩ a w S
    refine run S (.as rfl <| .z) fun a w S => st_nil (then_normal (hK1 _ _ (wp_seq_k fun _ hK1 => wp_seq_k fun _ hK2 => wp_region_lit (run S (.mv rfl <| .ld gt3 3 rfl rfl rfl <| .yy (ys_max (.t rfl) Ev.c) rfl <| .yy (ys_gtr (.t rfl) (.t rfl)) rfl <| .z) fun a w S => ?_))))
    rw [rw_1] at S
    refine st_nil (then_normal (hK2 _ _ (st_else S (.t rfl) (wp_skip (then_normal (hK1 _ _ (wp_seq_k fun _ hK1 => sg S (.mv rfl <| .ld gt133 2 rfl rfl rfl <| .xx (ys_call call93 (.cons (.t rfl) .nil) (fun hp w W => c93 _ _ _ _ _ _ (by exact Wd.cell W (k := 0) rfl rfl) (by exact Wd.cell W (k := 0) rfl rfl) (by exact Wd.cell W (k := 0) rfl rfl) (by omega) (by assumption))) rfl <| .yy (ys_gtr (.t rfl) (.t rfl)) rfl <| .z) fun a w S => st_if S (.t rfl) (fun _ => wp_region_lit ?_) (fun h3 => absurd (by first | assumption | omega) h3))))))))
    (refine st_m (op_callRP S call92 (.cons Ev.c .nil) (c92 S.wd _) rfl ?_ ?_) <;> clear S a w)
    (intro _ _ h; exact h.elim)
    rintro _ _ ⟨rfl, rfl⟩ a w S
    refine then_panic ?_
    refine post_panic S ?_
    rotate_left
    rintro _ _ ⟨rfl, hr1, rfl⟩ a w S
    refine then_panic ?_
    refine post_panic S ?_
    rotate_left
    · rw [hun]
      exact .inr ⟨_, _, rfl, S.wd, rfl, by decide, (numAt b k).2.1, rfl⟩
    · exact absurd he' hr1
  have rw_2 : decide (((b.length - (numAt b k).2.1 : Nat) : Int) < (numR 0 0 (b.drop k)).1) = false := decide_eq_false h2
  rw [if_neg h2] at hun
  obtain ⟨m, hm⟩ := Int.eq_ofNat_of_zero_le hnv.1
  have rw_m : (numR 0 0 (b.drop k)).1 = (m : Int) := hm
  have hle : (numAt b k).2.1 + m ≤ b.length := by omega
  rw [hm, Int.toNat_natCast] at hun
  unfold Go.Fw.RetsP
  refine enterW3 W func135 rfl ntmps135 rfl fun a S => wp_seq_k fun _ hK1 => wp_region_lit (run S (.ld gt133 2 rfl rfl rfl <| .z) fun a w S => ?_)
  (refine st_m (op_callRP S call91 (.cons (.t rfl) .nil) (c91 S.wd (by first | assumption | omega | (dsimp only; omega) | exact Sl.nil_ | exact .old S.wd (by assumption) | exact Sl.of_own S.wd (k := 0) rfl (fun _ => rfl) | exact Sl.of_own S.wd (k := 1) rfl (fun _ => rfl) | exact Sl.of_own S.wd (k := 2) rfl (fun _ => rfl) | exact Sl.of_own S.wd (k := 3) rfl (fun _ => rfl) | exact Sl.of_own S.wd (k := 4) rfl (fun _ => rfl) | (simp at *; omega)) (by first | assumption | omega | (dsimp only; omega) | exact Sl.nil_ | exact .old S.wd (by assumption) | exact Sl.of_own S.wd (k := 0) rfl (fun _ => rfl) | exact Sl.of_own S.wd (k := 1) rfl (fun _ => rfl) | exact Sl.of_own S.wd (k := 2) rfl (fun _ => rfl) | exact Sl.of_own S.wd (k := 3) rfl (fun _ => rfl) | exact Sl.of_own S.wd (k := 4) rfl (fun _ => rfl) | (simp at *; omega))) rfl ?_ ?_) <;> clear S a w)
  rintro _ _ ⟨hr1, rfl, rfl⟩ a w S
  rw [rw_m] at S
  refine run S (.as rfl <| .z) fun a w S => st_nil (then_normal (hK1 _ _ (wp_seq_k fun _ hK1 => sg S (.mv rfl <| .ld gt3 3 rfl rfl rfl <| .yy (ys_max (.t rfl) Ev.c) rfl <| .yy (ys_F (by omega) (ys_gtr (.t rfl) (.t rfl))) rfl <| .z) fun a w S => st_else S (.t rfl) (wp_skip (then_normal (hK1 _ _ (wp_seq_k fun _ hK1 => sg S (.mv rfl <| .ld gt133 2 rfl rfl rfl <| .xx (ys_call call93 (.cons (.t rfl) .nil) (fun hp w W => c93 _ _ _ _ _ _ (by exact Wd.cell W (k := 0) rfl rfl) (by exact Wd.cell W (k := 0) rfl rfl) (by exact Wd.cell W (k := 0) rfl rfl) (by omega) (by assumption))) rfl <| .yy (ys_F (by omega) (ys_gtr (.t rfl) (.t rfl))) rfl <| .z) fun a w S => st_else S (.t rfl) (wp_skip (then_normal (hK1 _ _ (wp_region_lit (run S (.ld gt133 2 rfl rfl rfl <| .mv rfl <| .z) fun a w S => ?_))))))))))))
  (refine st_m (op_callO S call94 (.cons (.t rfl) (.cons (.t rfl) .nil)) (c94 S.wd _ (by first | assumption | omega | (dsimp only; omega) | exact Sl.nil_ | exact .old S.wd (by assumption) | exact Sl.of_own S.wd (k := 0) rfl (fun _ => rfl) | exact Sl.of_own S.wd (k := 1) rfl (fun _ => rfl) | exact Sl.of_own S.wd (k := 2) rfl (fun _ => rfl) | exact Sl.of_own S.wd (k := 3) rfl (fun _ => rfl) | exact Sl.of_own S.wd (k := 4) rfl (fun _ => rfl) | (simp at *; omega)) (by first | assumption | omega | (dsimp only; omega) | exact Sl.nil_ | exact .old S.wd (by assumption) | exact Sl.of_own S.wd (k := 0) rfl (fun _ => rfl) | exact Sl.of_own S.wd (k := 1) rfl (fun _ => rfl) | exact Sl.of_own S.wd (k := 2) rfl (fun _ => rfl) | exact Sl.of_own S.wd (k := 3) rfl (fun _ => rfl) | exact Sl.of_own S.wd (k := 4) rfl (fun _ => rfl) | (simp at *; omega))) rfl ?_) <;> clear S a w)
  rintro _ _ ⟨A11, c11, rfl, rfl⟩ a w S
  refine run S (.yy (ys_str underlying57 underlying5 underlying9 (.t rfl) (fun _ w W => by first | exact Sl.old W (by assumption) | exact Sl.of_own W (k := 1) rfl (fun _ => rfl) | exact Sl.of_own W (k := 2) rfl (fun _ => rfl))) rfl <| .z) fun a w S => st_m (op_st S sizeOf9 (.t rfl) (.t rfl) (k := 5) rfl rfl (by simp) fun a w S => st_nil (st_end S (results0 results135) ?_))
  rotate_left
  rintro _ _ ⟨rfl, hr1, rfl⟩ a w S
  refine then_panic ?_
  refine post_panic S ?_
  rotate_left
  · rw [hun]
    exact .inl ⟨_, _, rfl, S.wd.picks (L' := rdr g A cap b ((numAt b k).2.1 + m) (.blk g1 (.cells #[.pointer (some ⟨g, 0, none⟩)] 133) :: .blk g2 (.cells #[.int .i64 most] 3) :: .blk g3 (.cells #[.string (bs ((b.drop (numAt b k).2.1).take m))] 9) :: L)) (by repeat (first | exact Picks.nil | (refine Picks.rest ?_; (repeat (first | exact List.Sublist.refl _ | refine List.Sublist.cons_cons _ ?_ | refine List.Sublist.cons _ ?_)); done) | refine Picks.take 0 rfl ?_ | refine Picks.take 1 rfl ?_ | refine Picks.take 2 rfl ?_ | refine Picks.take 3 rfl ?_ | refine Picks.take 4 rfl ?_ | refine Picks.take 5 rfl ?_ | refine Picks.take 6 rfl ?_ | refine Picks.take 7 rfl ?_ | refine Picks.take 8 rfl ?_ | refine Picks.take 9 rfl ?_ | refine Picks.take 10 rfl ?_ | refine Picks.take 11 rfl ?_)), rfl, rfl, rfl⟩
  · exact absurd he' hr1
theorem c120 {w0 w : World} {L : List Chunk} {g cap k : Nat} {A : Option Addr} {b : List UInt8} {most : Int} (W : Wd w0 (rdr g A cap b k L) w) (hk : k ≤ b.length) (hb : b.length ≤ 16777216) :
    RetsO Try.prog 120 #[.pointer (some ⟨g, 0, none⟩), .int .i64 most] w0 w (fun v L' => v = .tuple #[.string (bs (textR b k most).1), .int .i64 (textR b k most).2.2] ∧ L' = rdr g A cap b (textR b k most).2.1 L) := by
  unfold Go.Fw.RetsO
  refine enterW2 W func120 rfl ntmps120 rfl fun a S => wp_seq_k fun _ hK1 => wp_region_lit (st_m (op_box1 S (.t rfl) rfl rfl fun g1 a w S => st_m (op_box1 S (.t rfl) rfl rfl fun g2 a w S => run S (.ac rfl <| .ac rfl <| .z) fun a w S => st_nil (then_normal (hK1 _ _ (wp_seq_k fun _ hK1 => wp_region_lit (st_m (op_alloc S zeroValue9 (cs := _) rfl rfl fun g3 a w S => st_m (op_st S sizeOf9 (.t rfl) Ev.c (k := 0) rfl rfl (by simp) fun a w S => st_nil (then_normal (hK1 _ _ (wp_seq_k fun _ hK1 => wp_region_lit (run S (.ld gt133 2 rfl rfl rfl <| .yy (ys_mkFunc (.cons (.t rfl) (.cons (.t rfl) (.cons (.t rfl) .nil)))) rfl <| .z) fun a w S => ?_)))))))))))))
  have W2 := S.wd.picks (L' := rdr g A cap b k (.blk g1 (.cells #[.pointer (some ⟨g, 0, none⟩)] 133) :: .blk g2 (.cells #[.int .i64 most] 3) :: .blk g3 (.cells #[.string (bs [])] 9) :: L)) (by repeat (first | exact Picks.nil | (refine Picks.rest ?_; (repeat (first | exact List.Sublist.refl _ | refine List.Sublist.cons_cons _ ?_ | refine List.Sublist.cons _ ?_)); done) | refine Picks.take 0 rfl ?_ | refine Picks.take 1 rfl ?_ | refine Picks.take 2 rfl ?_ | refine Picks.take 3 rfl ?_ | refine Picks.take 4 rfl ?_ | refine Picks.take 5 rfl ?_ | refine Picks.take 6 rfl ?_ | refine Picks.take 7 rfl ?_ | refine Picks.take 8 rfl ?_ | refine Picks.take 9 rfl ?_ | refine Picks.take 10 rfl ?_ | refine Picks.take 11 rfl ?_))
  replace S := St.mk S.kn W2
  refine st_m (op_callO S call118 (.cons (.t rfl) (.cons (.t rfl) .nil)) (triedW (f := 135) (cs := [.pointer (some ⟨g1, 0, none⟩), .pointer (some ⟨g2, 0, none⟩), .pointer (some ⟨g3, 0, none⟩)])
    (R := fun L' => (textR b k most).2.2 = 0 ∧ L' = rdr g A cap b (textR b k most).2.1 (.blk g1 (.cells #[.pointer (some ⟨g, 0, none⟩)] 133) :: .blk g2 (.cells #[.int .i64 most] 3) :: .blk g3 (.cells #[.string (bs (textR b k most).1)] 9) :: L))
    (E := fun x L' => x = (textR b k most).2.2 ∧ L' = rdr g A cap b k (.blk g1 (.cells #[.pointer (some ⟨g, 0, none⟩)] 133) :: .blk g2 (.cells #[.int .i64 most] 3) :: .blk g3 (.cells #[.string (bs [])] 9) :: L))
    S.wd call135 fun C w1 W1 => Calls.mono (q135 (L := C :: L) (z := []) (most := most) (W1.pk) hk hb) ?_) rfl ?_)
  · intro e w' h
    rcases h with ⟨v, L', rfl, hw, h1, rfl, rfl⟩ | ⟨x, L', rfl, hw, rfl, h1, k', rfl⟩
    · exact .inl ⟨_, _, rfl, hw.picks (L' := C :: rdr g A cap b (textR b k most).2.1 (.blk g1 (.cells #[.pointer (some ⟨g, 0, none⟩)] 133) :: .blk g2 (.cells #[.int .i64 most] 3) :: .blk g3 (.cells #[.string (bs (textR b k most).1)] 9) :: L)) (by repeat (first | exact Picks.nil | (refine Picks.rest ?_; (repeat (first | exact List.Sublist.refl _ | refine List.Sublist.cons_cons _ ?_ | refine List.Sublist.cons _ ?_)); done) | refine Picks.take 0 rfl ?_ | refine Picks.take 1 rfl ?_ | refine Picks.take 2 rfl ?_ | refine Picks.take 3 rfl ?_ | refine Picks.take 4 rfl ?_ | refine Picks.take 5 rfl ?_ | refine Picks.take 6 rfl ?_ | refine Picks.take 7 rfl ?_ | refine Picks.take 8 rfl ?_ | refine Picks.take 9 rfl ?_ | refine Picks.take 10 rfl ?_ | refine Picks.take 11 rfl ?_)), rfl, _, _, rfl, h1, rfl⟩
    · exact .inr ⟨_, _, rfl, hw.picks (L' := C :: rdr g A cap b k' (.blk g1 (.cells #[.pointer (some ⟨g, 0, none⟩)] 133) :: .blk g2 (.cells #[.int .i64 most] 3) :: .blk g3 (.cells #[.string (bs [])] 9) :: L)) (by repeat (first | exact Picks.nil | (refine Picks.rest ?_; (repeat (first | exact List.Sublist.refl _ | refine List.Sublist.cons_cons _ ?_ | refine List.Sublist.cons _ ?_)); done) | refine Picks.take 0 rfl ?_ | refine Picks.take 1 rfl ?_ | refine Picks.take 2 rfl ?_ | refine Picks.take 3 rfl ?_ | refine Picks.take 4 rfl ?_ | refine Picks.take 5 rfl ?_ | refine Picks.take 6 rfl ?_ | refine Picks.take 7 rfl ?_ | refine Picks.take 8 rfl ?_ | refine Picks.take 9 rfl ?_ | refine Picks.take 10 rfl ?_ | refine Picks.take 11 rfl ?_)), h1, _, _, rfl, rfl, rfl⟩
  clear S W2
  rintro _ _ ⟨x, rfl, h⟩ a w S
  rcases h with ⟨rfl, h1, rfl⟩ | ⟨hx, rfl, rfl⟩
  · refine run S (.as rfl <| .z) fun a w S => st_nil (then_normal (hK1 _ _ (sg S (.ld gt9 4 rfl rfl rfl <| .mv rfl <| .as rfl <| .as rfl <| .z) fun a w S => wp_ret (st_ret S (results2 S results120 (Rv.tmp rfl) (Rv.tmp rfl)) ?_))))
    rw [h1]
    exact ⟨_, _, rfl, S.wd.picks (L' := rdr g A cap b (textR b k most).2.1 L) (by repeat (first | exact Picks.nil | (refine Picks.rest ?_; (repeat (first | exact List.Sublist.refl _ | refine List.Sublist.cons_cons _ ?_ | refine List.Sublist.cons _ ?_)); done) | refine Picks.take 0 rfl ?_ | refine Picks.take 1 rfl ?_ | refine Picks.take 2 rfl ?_ | refine Picks.take 3 rfl ?_ | refine Picks.take 4 rfl ?_ | refine Picks.take 5 rfl ?_ | refine Picks.take 6 rfl ?_ | refine Picks.take 7 rfl ?_ | refine Picks.take 8 rfl ?_ | refine Picks.take 9 rfl ?_ | refine Picks.take 10 rfl ?_ | refine Picks.take 11 rfl ?_)), rfl, rfl⟩
  · refine run S (.as rfl <| .z) fun a w S => st_nil (then_normal (hK1 _ _ (sg S (.ld gt9 4 rfl rfl rfl <| .mv rfl <| .as rfl <| .as rfl <| .z) fun a w S => wp_ret (st_ret S (results2 S results120 (Rv.tmp rfl) (Rv.tmp rfl)) ?_))))
    have hz := textR_bad hx
    rw [hz.1, hz.2]
    exact ⟨_, _, rfl, S.wd.picks (L' := rdr g A cap b k L) (by repeat (first | exact Picks.nil | (refine Picks.rest ?_; (repeat (first | exact List.Sublist.refl _ | refine List.Sublist.cons_cons _ ?_ | refine List.Sublist.cons _ ?_)); done) | refine Picks.take 0 rfl ?_ | refine Picks.take 1 rfl ?_ | refine Picks.take 2 rfl ?_ | refine Picks.take 3 rfl ?_ | refine Picks.take 4 rfl ?_ | refine Picks.take 5 rfl ?_ | refine Picks.take 6 rfl ?_ | refine Picks.take 7 rfl ?_ | refine Picks.take 8 rfl ?_ | refine Picks.take 9 rfl ?_ | refine Picks.take 10 rfl ?_ | refine Picks.take 11 rfl ?_)), rfl, rfl⟩
end Go.Proofs.Ytfblmkocmnbdcaa
set_option linter.unusedVariables false
set_option linter.unusedSimpArgs false
set_option maxRecDepth 100000
set_option maxHeartbeats 4000000
namespace Go.Proofs.Ytfblmkocmnbdcaa
open Go.Fw Go.Proofs Go.RowKit Go.Proofs.Try
theorem c115 {w0 w : World} {L : List Chunk} {A A' : Option Addr} {cap cap' g : Nat} {b : List UInt8} {l : List Dot}
    (W : Wd w0 (.blk g (.cells #[.slice A b.length cap] 57) :: rowOf 62 3 Dot.enc A' cap' l :: L) w) (hs : Sl encB 1 w0 w0.heap.size (.slice A b.length cap) b) (hm : ∀ m ∈ l, mayD m = true) (hl : l.length ≤ 64) (hb : b.length ≤ 8388608) :
    RetsO Try.prog 115 #[.slice A' l.length cap', .pointer (some ⟨g, 0, none⟩)] w0 w fun v L' => ∃ A1 c1, v = .tuple #[] ∧
      L' = .blk g (.cells #[.slice A1 (dotsB b l).length c1] 57) :: rowOf 5 1 encB A1 c1 (dotsB b l) :: rowOf 62 3 Dot.enc A' cap' l :: L := by
  unfold RetsO
  refine enterW2 W func115 rfl ntmps115 rfl fun a S => wp_seq_k fun _ hK1 => wp_region_lit (run S (.ld gt57 0 rfl rfl rfl <| .mv rfl <| .ln underlying36 rfl <| .z) fun a w S => ?_)
  (refine st_m (op_calls S call77 (.cons (.t rfl) (.cons (.t rfl) .nil)) (c77 _ _ _ _ (by exact .old S.wd (by assumption)) (by omega) (by omega)) rfl ?_); clear S a w; rintro _ _ ⟨A1, c1, rfl, rfl⟩ a w S)
  refine st_m (op_st S sizeOf57 (.t rfl) (.t rfl) (k := 1) rfl rfl (by simp) fun a w S => st_nil (then_normal (hK1 _ _ (sg S (.mv rfl <| .ln underlying36 rfl <| .mc rfl <| .z) fun a w S => wp_block ?_))))
  (replace S := S.pull 1 rfl; try simp only [List.set_cons_zero, List.set_cons_succ, List.eraseIdx_cons_succ, List.eraseIdx_cons_zero] at S)
  have hb1 := putL_len b (n := (l.length : Int)) (by omega)
  replace S := S.wk (K' := [(11, true, .int .i64 ((0 : Nat) : Int)), (10, true, .int .i64 (l.length : Int)), (9, true, .slice A' l.length cap'), (1, true, .pointer (some ⟨g, 0, none⟩))]) (L' := .blk g (.cells #[.slice A1 (putL b (l.length : Int)).length c1] 57) :: rowOf 5 1 encB A1 c1 (putL b (l.length : Int)) :: rowOf 62 3 Dot.enc A' cap' l :: L)
  refine st_lpK S (X := Nat × Option Addr × Nat × List UInt8) (fun q => [(11, true, .int .i64 (q.1 : Int))]) (fun q _ => .blk g (.cells #[.slice q.2.1 q.2.2.2.length q.2.2.1] 57) :: rowOf 5 1 encB q.2.1 q.2.2.1 q.2.2.2 :: rowOf 62 3 Dot.enc A' cap' l :: L)
    (fun q => q.1 ≤ l.length ∧ q.2.2.2 = (l.take q.1).foldl dotB (putL b (l.length : Int))) (fun q => l.length - q.1) (0, A1, c1, putL b (l.length : Int)) ⟨Nat.zero_le _, by simp⟩ ?_
  clear S
  intro ⟨k, B, cB, out⟩ a w ⟨hk, hno⟩ S
  dsimp only at hk hno S
  have hout : out.length ≤ b.length + 1737 := by
    have h1 := dotF_len (l := l.take k) (b := putL b (l.length : Int)) fun x hx => hm x (List.mem_of_mem_take hx)
    have h2 : (l.take k).length ≤ 64 := by rw [List.length_take]; omega
    rw [← hno] at h1
    omega
  by_cases hlt : k < l.length
  · obtain ⟨ga, rfl⟩ := S.wd.row_at (k := 2) rfl (by have := (S.wd.room (k := 2) rfl).1; omega)
    obtain ⟨m, hmm⟩ : ∃ m, l[k]? = some m := ⟨l[k], by simp⟩
    have hlm := may_lim (hm m (List.mem_of_getElem? hmm))
    have hq1 := putL_len out (n := m.node) (by omega)
    have hq2 := putL_len (putL out m.node) (n := m.life) (by omega)
    refine sg S (.lt (by omega) rfl rfl <| .z) fun a w S => wp_seq_k fun _ hK1 => st_then S (.t rfl) (wp_skip (then_normal (hK1 _ _ (wp_seq_k fun _ hK1 => wp_block (wp_seq_k fun _ hK2 => wp_region_lit (run S (.ix underlying36 sizeOf62 (by omega) rfl rfl <| .yy (ys_ldWA ⟨isAgg62, sizeOf62⟩ (.t rfl) (k := 2) rfl hmm (fun _ => rfl)) rfl <| .z) fun a w S => st_m (op_alloc S zeroValue62 (cs := _) rfl rfl fun g1 a w S => st_m (op_stW S sizeOf62 (.t rfl) (.t rfl) (k := 0) rfl rfl rfl (by simp [Value.oneCell']) fun a w S => st_nil (then_normal (hK2 _ _ (h_beginE S (by kernel_rfl) 1 fun a w S => hy 1 S rfl (ys_fieldN (FieldT.mk underlying62 rfl sizeOf3 rfl) (.t rfl) (i' := 0) rfl) rfl fun a w S => hy 2 S rfl (ys_ld ⟨isAgg3, sizeOf3⟩ (.t rfl) (k := 0) rfl rfl) rfl fun a w S => ?_)))))))))))
    refine hy 4 S rfl (ys_fieldN (FieldT.mk underlying62 rfl sizeOf3 rfl) (.t rfl) (i' := 1) rfl) rfl fun a w S => hy 5 S rfl (ys_ld ⟨isAgg3, sizeOf3⟩ (.t rfl) (k := 0) rfl rfl) rfl fun a w S => hy 7 S rfl (ys_fieldN (FieldT.mk underlying62 rfl sizeOf3 rfl) (.t rfl) (i' := 2) rfl) rfl fun a w S => hy 8 S rfl (ys_ld ⟨isAgg3, sizeOf3⟩ (.t rfl) (k := 0) rfl rfl) rfl fun a w S => h_q (i := 0) S (by repeat (first | exact List.Sublist.refl _ | exact List.nil_sublist _ | refine .cons_cons _ ?_ | refine .cons _ ?_)) rfl (by kernel_rfl) (Yr.ys (ys_ld ⟨isAgg57, sizeOf57⟩ (.t rfl) (k := 1) rfl rfl)) rfl fun a w S => ?_
    (refine h_m (i := 3) rfl (by kernel_rfl) (op_calls S call77 (.cons (.t rfl) (.cons (.t rfl) .nil)) (c77 _ _ _ _ (by exact Sl.of_own S.wd (k := 2) rfl (fun _ => rfl)) (by omega) (by omega)) rfl ?_); clear S a w; rintro _ _ ⟨A2, c2, rfl, rfl⟩ a w S; refine h_n1 S ?_)
    (refine h_m (i := 6) rfl (by kernel_rfl) (op_calls S call77 (.cons (.t rfl) (.cons (.t rfl) .nil)) (c77 _ _ _ _ (by exact Sl.of_own S.wd (k := 0) rfl (fun _ => rfl)) (by omega) (by omega)) rfl ?_); clear S a w; rintro _ _ ⟨A3, c3, rfl, rfl⟩ a w S; refine h_n1 S ?_)
    (refine h_m (i := 9) rfl (by kernel_rfl) (op_calls S call77 (.cons (.t rfl) (.cons (.t rfl) .nil)) (c77 _ _ _ _ (by exact Sl.of_own S.wd (k := 0) rfl (fun _ => rfl)) (by omega) (by omega)) rfl ?_); clear S a w; rintro _ _ ⟨A4, c4, rfl, rfl⟩ a w S; refine h_n1 S ?_)
    (refine h_m0 (i := 10) rfl (by kernel_rfl) (op_st S sizeOf57 (.t rfl) (.t rfl) (k := 4) rfl rfl (by simp) ?_); clear S a w; intro a w S; refine h_n1 S ?_)
    refine h_done (by kernel_rfl) (in_normal (then_normal (hK1 _ _ (wp_region_lit (run S (.ad (by unfold I64; omega) rfl <| .mv rfl <| .z) fun a w S => st_nil (then_normal ?_))))))
    (replace S := S.pull 4 rfl; try simp only [List.set_cons_zero, List.set_cons_succ, List.eraseIdx_cons_succ, List.eraseIdx_cons_zero] at S)
    exact ⟨(k + 1, A4, c4, dotB out m), ⟨by dsimp only; omega, by dsimp only; rw [dotF_take hmm, ← hno]⟩, by dsimp only; omega, S.wk⟩
  · have hend : k = l.length := by omega
    subst hend
    rw [List.take_length] at hno
    refine sg S (.ge (by omega) rfl rfl <| .z) fun a w S => wp_seq_k fun _ hK1 => st_else S (.t rfl) (wp_exit (then_exit (then_exit (in_here (st_end S (results0 results115) ?_)))))
    obtain rfl : out = dotsB b l := hno
    exact ⟨_, _, rfl, S.wd.sub (by repeat (first | exact List.Sublist.refl _ | exact List.nil_sublist _ | refine .cons_cons _ ?_ | refine .cons _ ?_)), B, cB, rfl, rfl⟩
theorem o115 {w0 w : World} {L : List Chunk} {A A' : Option Addr} {cap cap' g : Nat} {b : List UInt8} {l : List Dot}
    (W : Wd w0 (.blk g (.cells #[.slice A b.length cap] 57) :: rowOf 5 1 encB A cap b :: L) w) (hm : ∀ m ∈ l, mayD m = true) (h : Sl Dot.enc 3 w0 w0.heap.size (.slice A' l.length cap') l) (hl : l.length ≤ 64) (hb : b.length ≤ 8388608) :
    RetsO Try.prog 115 #[.slice A' l.length cap', .pointer (some ⟨g, 0, none⟩)] w0 w fun v L' => ∃ A1 c1, v = .tuple #[] ∧
      L' = .blk g (.cells #[.slice A1 (dotsB b l).length c1] 57) :: rowOf 5 1 encB A1 c1 (dotsB b l) :: L := by
  obtain ⟨_, _, e0, _, _, hA⟩ := id h
  simp only [Value.slice.injEq, true_and] at e0
  obtain ⟨rfl, rfl⟩ := e0
  unfold RetsO
  refine enterW2 W func115 rfl ntmps115 rfl fun a S => wp_seq_k fun _ hK1 => wp_region_lit (run S (.ld gt57 0 rfl rfl rfl <| .mv rfl <| .ln underlying36 rfl <| .z) fun a w S => ?_)
  (refine st_m (op_calls S call77 (.cons (.t rfl) (.cons (.t rfl) .nil)) (c77 _ _ _ _ (by exact Sl.of_own S.wd (k := 1) rfl (fun _ => rfl)) (by omega) (by omega)) rfl ?_); clear S a w; rintro _ _ ⟨A1, c1, rfl, rfl⟩ a w S)
  refine st_m (op_st S sizeOf57 (.t rfl) (.t rfl) (k := 1) rfl rfl (by simp) fun a w S => st_nil (then_normal (hK1 _ _ (sg S (.mv rfl <| .ln underlying36 rfl <| .mc rfl <| .z) fun a w S => wp_block ?_))))
  (replace S := S.pull 1 rfl; try simp only [List.set_cons_zero, List.set_cons_succ, List.eraseIdx_cons_succ, List.eraseIdx_cons_zero] at S)
  have hb1 := putL_len b (n := (l.length : Int)) (by omega)
  replace S := S.wk (K' := [(11, true, .int .i64 ((0 : Nat) : Int)), (10, true, .int .i64 (l.length : Int)), (9, true, .slice A' l.length cap'), (1, true, .pointer (some ⟨g, 0, none⟩))]) (L' := .blk g (.cells #[.slice A1 (putL b (l.length : Int)).length c1] 57) :: rowOf 5 1 encB A1 c1 (putL b (l.length : Int)) :: L)
  refine st_lpK S (X := Nat × Option Addr × Nat × List UInt8) (fun q => [(11, true, .int .i64 (q.1 : Int))]) (fun q _ => .blk g (.cells #[.slice q.2.1 q.2.2.2.length q.2.2.1] 57) :: rowOf 5 1 encB q.2.1 q.2.2.1 q.2.2.2 :: L)
    (fun q => q.1 ≤ l.length ∧ q.2.2.2 = (l.take q.1).foldl dotB (putL b (l.length : Int))) (fun q => l.length - q.1) (0, A1, c1, putL b (l.length : Int)) ⟨Nat.zero_le _, by simp⟩ ?_
  clear S
  intro ⟨k, B, cB, out⟩ a w ⟨hk, hno⟩ S
  dsimp only at hk hno S
  have hout : out.length ≤ b.length + 1737 := by
    have h1 := dotF_len (l := l.take k) (b := putL b (l.length : Int)) fun x hx => hm x (List.mem_of_mem_take hx)
    have h2 : (l.take k).length ≤ 64 := by rw [List.length_take]; omega
    rw [← hno] at h1
    omega
  by_cases hlt : k < l.length
  · obtain ⟨gq, oq, m, rfl, hmm, hdq, hc⟩ := row_at hA hlt
    have hlm := may_lim (hm m (List.mem_of_getElem? hmm))
    have hq1 := putL_len out (n := m.node) (by omega)
    have hq2 := putL_len (putL out m.node) (n := m.life) (by omega)
    refine sg S (.lt (by omega) rfl rfl <| .z) fun a w S => wp_seq_k fun _ hK1 => st_then S (.t rfl) (wp_skip (then_normal (hK1 _ _ (wp_seq_k fun _ hK1 => wp_block (wp_seq_k fun _ hK2 => wp_region_lit (run S (.ix underlying36 sizeOf62 (by omega) rfl rfl <| .yy (ys_ldOA ⟨isAgg62, sizeOf62⟩ (.t rfl) (vs := [_, _, _]) rfl (fun _ => hc)) rfl <| .z) fun a w S => st_m (op_alloc S zeroValue62 (cs := _) rfl rfl fun g1 a w S => st_m (op_stW S sizeOf62 (.t rfl) (.t rfl) (k := 0) rfl rfl rfl (by simp [Value.oneCell']) fun a w S => st_nil (then_normal (hK2 _ _ (h_beginE S (by kernel_rfl) 1 fun a w S => hy 1 S rfl (ys_fieldN (FieldT.mk underlying62 rfl sizeOf3 rfl) (.t rfl) (i' := 0) rfl) rfl fun a w S => hy 2 S rfl (ys_ld ⟨isAgg3, sizeOf3⟩ (.t rfl) (k := 0) rfl rfl) rfl fun a w S => ?_)))))))))))
    refine hy 4 S rfl (ys_fieldN (FieldT.mk underlying62 rfl sizeOf3 rfl) (.t rfl) (i' := 1) rfl) rfl fun a w S => hy 5 S rfl (ys_ld ⟨isAgg3, sizeOf3⟩ (.t rfl) (k := 0) rfl rfl) rfl fun a w S => hy 7 S rfl (ys_fieldN (FieldT.mk underlying62 rfl sizeOf3 rfl) (.t rfl) (i' := 2) rfl) rfl fun a w S => hy 8 S rfl (ys_ld ⟨isAgg3, sizeOf3⟩ (.t rfl) (k := 0) rfl rfl) rfl fun a w S => h_q (i := 0) S (by repeat (first | exact List.Sublist.refl _ | exact List.nil_sublist _ | refine .cons_cons _ ?_ | refine .cons _ ?_)) rfl (by kernel_rfl) (Yr.ys (ys_ld ⟨isAgg57, sizeOf57⟩ (.t rfl) (k := 1) rfl rfl)) rfl fun a w S => ?_
    (refine h_m (i := 3) rfl (by kernel_rfl) (op_calls S call77 (.cons (.t rfl) (.cons (.t rfl) .nil)) (c77 _ _ _ _ (by exact Sl.of_own S.wd (k := 2) rfl (fun _ => rfl)) (by omega) (by omega)) rfl ?_); clear S a w; rintro _ _ ⟨A2, c2, rfl, rfl⟩ a w S; refine h_n1 S ?_)
    (refine h_m (i := 6) rfl (by kernel_rfl) (op_calls S call77 (.cons (.t rfl) (.cons (.t rfl) .nil)) (c77 _ _ _ _ (by exact Sl.of_own S.wd (k := 0) rfl (fun _ => rfl)) (by omega) (by omega)) rfl ?_); clear S a w; rintro _ _ ⟨A3, c3, rfl, rfl⟩ a w S; refine h_n1 S ?_)
    (refine h_m (i := 9) rfl (by kernel_rfl) (op_calls S call77 (.cons (.t rfl) (.cons (.t rfl) .nil)) (c77 _ _ _ _ (by exact Sl.of_own S.wd (k := 0) rfl (fun _ => rfl)) (by omega) (by omega)) rfl ?_); clear S a w; rintro _ _ ⟨A4, c4, rfl, rfl⟩ a w S; refine h_n1 S ?_)
    (refine h_m0 (i := 10) rfl (by kernel_rfl) (op_st S sizeOf57 (.t rfl) (.t rfl) (k := 4) rfl rfl (by simp) ?_); clear S a w; intro a w S; refine h_n1 S ?_)
    refine h_done (by kernel_rfl) (in_normal (then_normal (hK1 _ _ (wp_region_lit (run S (.ad (by unfold I64; omega) rfl <| .mv rfl <| .z) fun a w S => st_nil (then_normal ?_))))))
    (replace S := S.pull 4 rfl; try simp only [List.set_cons_zero, List.set_cons_succ, List.eraseIdx_cons_succ, List.eraseIdx_cons_zero] at S)
    exact ⟨(k + 1, A4, c4, dotB out m), ⟨by dsimp only; omega, by dsimp only; rw [dotF_take hmm, ← hno]⟩, by dsimp only; omega, S.wk⟩
  · have hend : k = l.length := by omega
    subst hend
    rw [List.take_length] at hno
    refine sg S (.ge (by omega) rfl rfl <| .z) fun a w S => wp_seq_k fun _ hK1 => st_else S (.t rfl) (wp_exit (then_exit (then_exit (in_here (st_end S (results0 results115) ?_)))))
    obtain rfl : out = dotsB b l := hno
    exact ⟨_, _, rfl, S.wd.sub (by repeat (first | exact List.Sublist.refl _ | exact List.nil_sublist _ | refine .cons_cons _ ?_ | refine .cons _ ?_)), B, cB, rfl, rfl⟩
end Go.Proofs.Ytfblmkocmnbdcaa
set_option linter.unusedVariables false
set_option linter.unusedSimpArgs false
set_option maxRecDepth 100000
set_option maxHeartbeats 4000000
namespace Go.Proofs.Ytfblmkocmnbdcaa
open Go.Fw Go.Proofs Go.RowKit Go.Proofs.Try
theorem c79 (w0 : World) (v0 v1 v2 : Value) (b : List UInt8) (C : Ctx) (hs : Sl encB 1 w0 w0.heap.size v0 b) (h : RdCtx w0 w0.heap.size v1 v2 C) (hb : b.length ≤ 4194304) :
    Rets Try.prog 79 #[v0, .agg #[v1, v2]] w0 fun v L => ∃ A c, v = .tuple #[.slice A (if canL C then encC b C else []).length c, .int .i64 (if canL C then 0 else 30)] ∧ L = [rowOf 5 1 encB A c (if canL C then encC b C else [])] := by
  obtain ⟨A0, q0, rfl, _⟩ := id hs
  obtain ⟨h1, h2⟩ := id h
  obtain ⟨B1, q1, rfl, _, _, hA⟩ := id h1
  obtain ⟨B2, q2, rfl, _⟩ := id h2
  cases rw_c : canL C with
  | false =>
    unfold Go.Fw.Rets
    refine enter2 func79 rfl ntmps79 rfl fun a S => wp_seq_k fun _ hK1 => wp_region_lit (st_m (op_box1 S (.t rfl) rfl rfl fun g1 a w S => st_m (op_box S (.t rfl) rfl fun g2 a w S => run S (.ac rfl <| .ac rfl <| .z) fun a w S => st_nil (then_normal (hK1 _ _ (wp_seq_k fun _ hK1 => wp_seq_k fun _ hK2 => wp_region_lit (run S (.la gt38 0 rfl rfl rfl <| .xx (ys_call call27 (.cons (.t rfl) .nil) (fun hp w W => c27 _ _ _ _ (by exact .old W (by assumption)))) rfl <| .z) fun a w S => ?_)))))))
    rw [rw_c] at S
    refine run S (.nt rfl <| .z) fun a w S => st_nil (then_normal (hK2 _ _ (st_then S (.t rfl) (sg S (.ac rfl <| .ac rfl <| .z) fun a w S => wp_ret (then_ret (st_ret S (results2 S results79 (Rv.tmp rfl) (Rv.tmp rfl)) ?_))))))
    exact ⟨_, _, rfl, (S.nil_ 5 1 encB none).wd.sub (by repeat (first | exact List.Sublist.refl _ | exact List.nil_sublist _ | refine .cons_cons _ ?_ | refine .cons _ ?_)), none, 0, rfl, rfl⟩
  | true =>
    have hmM := (can_nf rw_c).mayM
    have hmC := (can_nf rw_c).mayC
    have hlen := can_len rw_c
    unfold Go.Fw.Rets
    refine enter2 func79 rfl ntmps79 rfl fun a S => wp_seq_k fun _ hK1 => wp_region_lit (st_m (op_box1 S (.t rfl) rfl rfl fun g1 a w S => st_m (op_box S (.t rfl) rfl fun g2 a w S => run S (.ac rfl <| .ac rfl <| .z) fun a w S => st_nil (then_normal (hK1 _ _ (wp_seq_k fun _ hK1 => wp_seq_k fun _ hK2 => wp_region_lit (run S (.la gt38 0 rfl rfl rfl <| .xx (ys_call call27 (.cons (.t rfl) .nil) (fun hp w W => c27 _ _ _ _ (by exact .old W (by assumption)))) rfl <| .z) fun a w S => ?_)))))))
    rw [rw_c] at S
    refine run S (.nt rfl <| .z) fun a w S => st_nil (then_normal (hK2 _ _ (st_else S (.t rfl) (wp_skip (then_normal (hK1 _ _ (sg S (.yy (ys_mkFunc (.cons (.t rfl) .nil)) rfl <| .as rfl <| .z) fun a w S => sg S (.ac rfl <| .z) fun a w S => wp_seq_k fun _ hK1 => sg S (.fa underlying38 sizeOf35 0 rfl rfl rfl <| .ld gt35 0 rfl rfl rfl <| .ln underlying35 rfl <| .mc rfl <| .z) fun a w S => wp_block ?_)))))))
    (replace S := S.pull 1 rfl; try simp only [List.set_cons_zero, List.set_cons_succ, List.eraseIdx_cons_succ, List.eraseIdx_cons_zero] at S)
    refine st_lpK (S.nil_ 62 3 Dot.enc none) (X := Nat × Option Addr × Nat) (fun q => [(17, true, .int .i64 (q.1 : Int)), (7, true, .slice q.2.1 (C.marks.take q.1).length q.2.2)]) (fun q _ => [rowOf 62 3 Dot.enc q.2.1 q.2.2 (C.marks.take q.1), .blk g1 (.cells #[.slice A0 b.length q0] 57), .blk g2 (.cells #[.slice B1 C.marks.length q1, .slice B2 C.cloud.length q2] 38)])
      (fun q => q.1 ≤ C.marks.length) (fun q => C.marks.length - q.1) (0, none, 0) (Nat.zero_le _) ?_
    clear S
    intro ⟨k, D, cD⟩ a w hk S
    dsimp only at hk S
    by_cases hlt : k < C.marks.length
    · obtain ⟨gq, oq, m, rfl, hmm, hdq, hc⟩ := row_at hA hlt
      have hlk : (C.marks.take k).length ≤ 64 := by rw [List.length_take]; omega
      refine sg S (.lt (by omega) rfl rfl <| .z) fun a w S => wp_seq_k fun _ hK2 => st_then S (.t rfl) (wp_skip (then_normal (hK2 _ _ (wp_seq_k fun _ hK2 => wp_block (wp_seq_k fun _ hK3 => wp_region_lit (run S (.ix underlying35 sizeOf110 (by omega) rfl rfl <| .yy (ys_ldOA ⟨isAgg110, sizeOf110⟩ (.t rfl) (vs := [_, _, _]) rfl (fun _ => hc)) rfl <| .z) fun a w S => st_m (op_alloc S zeroValue110 (cs := _) rfl rfl fun g3 a w S => st_m (op_stW S sizeOf110 (.t rfl) (.t rfl) (k := 0) rfl rfl rfl (by simp [Value.oneCell']) fun a w S => st_nil (then_normal (hK3 _ _ (wp_region_lit (run S (.mv rfl <| .la gt110 0 rfl rfl rfl <| .xx (ys_call call66 (.cons (.t rfl) .nil) (fun hp w W => c66 _ _ _ _)) rfl <| .z) fun a w S => st_m (op_bslice1 S underlying36 inf62 rfl rfl rfl (.t rfl) rfl rfl rfl fun g4 a w S => st_m (op_push S underlying36 inf62 rfl (k := 2) (j := 0) rfl (.t rfl) (.t rfl) rfl rfl rfl rfl (by first | omega | (simp only [List.length_append, List.length_cons, List.length_nil]; omega)) rfl rfl rfl fun A1 cap1 a w S => run S (.as rfl <| .z) fun a w S => st_nil (in_normal (then_normal (hK2 _ _ (wp_region_lit (run S (.ad (by unfold I64; omega) rfl <| .mv rfl <| .z) fun a w S => st_nil (then_normal ?_))))))))))))))))))))
      have et : C.marks.take (k + 1) = C.marks.take k ++ [m] := by rw [List.take_add_one, hmm]; rfl
      rw [← et] at S
      exact ⟨(k + 1, A1, cap1), by dsimp only; omega, by dsimp only; omega, S.wk⟩
    · have hend : k = C.marks.length := by omega
      subst hend
      rw [List.take_length] at S
      have hb1 := dotsB_len (b := b) hmM hlen.1
      refine sg S (.ge (by omega) rfl rfl <| .z) fun a w S => wp_seq_k fun _ hK2 => st_else S (.t rfl) (wp_exit (then_exit (then_exit (in_here (then_normal (hK1 _ _ (wp_seq_k fun _ hK1 => wp_region_lit (run S (.mv rfl <| .mv rfl <| .z) fun a w S => ?_))))))))
      (replace S := S.pull 0 rfl; try simp only [List.set_cons_zero, List.set_cons_succ, List.eraseIdx_cons_succ, List.eraseIdx_cons_zero] at S; replace S := S.pull 1 rfl; try simp only [List.set_cons_zero, List.set_cons_succ, List.eraseIdx_cons_succ, List.eraseIdx_cons_zero] at S; refine st_m (op_callVO (cs := [_]) S (.t rfl) call115 (.cons (.t rfl) .nil) (c115 S.wd (by first | assumption | omega | (dsimp only; omega) | exact Sl.nil_ | exact .old S.wd (by assumption) | exact Sl.of_own S.wd (k := 0) rfl (fun _ => rfl) | exact Sl.of_own S.wd (k := 1) rfl (fun _ => rfl) | exact Sl.of_own S.wd (k := 2) rfl (fun _ => rfl) | (simp at *; omega)) (by first | assumption | omega | (dsimp only; omega) | exact Sl.nil_ | exact .old S.wd (by assumption) | exact Sl.of_own S.wd (k := 0) rfl (fun _ => rfl) | exact Sl.of_own S.wd (k := 1) rfl (fun _ => rfl) | exact Sl.of_own S.wd (k := 2) rfl (fun _ => rfl) | (intro _ W'; first | exact .old W' (by assumption) | exact Sl.of_own W' (k := 0) rfl (fun _ => rfl) | exact Sl.of_own W' (k := 1) rfl (fun _ => rfl) | exact Sl.of_own W' (k := 2) rfl (fun _ => rfl)) | (simp at *; omega)) (by first | assumption | omega | (dsimp only; omega) | exact Sl.nil_ | exact .old S.wd (by assumption) | exact Sl.of_own S.wd (k := 0) rfl (fun _ => rfl) | exact Sl.of_own S.wd (k := 1) rfl (fun _ => rfl) | exact Sl.of_own S.wd (k := 2) rfl (fun _ => rfl) | (simp at *; omega)) (by first | assumption | omega | (dsimp only; omega) | exact Sl.nil_ | exact .old S.wd (by assumption) | exact Sl.of_own S.wd (k := 0) rfl (fun _ => rfl) | exact Sl.of_own S.wd (k := 1) rfl (fun _ => rfl) | exact Sl.of_own S.wd (k := 2) rfl (fun _ => rfl) | (simp at *; omega))) rfl ?_) <;> clear S a w)
      rintro _ _ ⟨A11, c11, rfl, rfl⟩ a w S
      refine st_nil (then_normal (hK1 _ _ (wp_seq_k fun _ hK1 => wp_region_lit (run S (.mv rfl <| .fa underlying38 sizeOf36 1 rfl rfl rfl <| .ld gt36 3 rfl rfl rfl <| .z) fun a w S => ?_))))
      (refine st_m (op_callVO (cs := [_]) S (.t rfl) call115 (.cons (.t rfl) .nil) (o115 S.wd (by first | assumption | omega | (dsimp only; omega) | exact Sl.nil_ | exact .old S.wd (by assumption) | exact Sl.of_own S.wd (k := 0) rfl (fun _ => rfl) | exact Sl.of_own S.wd (k := 1) rfl (fun _ => rfl) | exact Sl.of_own S.wd (k := 2) rfl (fun _ => rfl) | exact Sl.of_own S.wd (k := 3) rfl (fun _ => rfl) | (intro _ W'; first | exact .old W' (by assumption) | exact Sl.of_own W' (k := 0) rfl (fun _ => rfl) | exact Sl.of_own W' (k := 1) rfl (fun _ => rfl) | exact Sl.of_own W' (k := 2) rfl (fun _ => rfl) | exact Sl.of_own W' (k := 3) rfl (fun _ => rfl)) | (simp at *; omega)) (by first | assumption | omega | (dsimp only; omega) | exact Sl.nil_ | exact .old S.wd (by assumption) | exact Sl.of_own S.wd (k := 0) rfl (fun _ => rfl) | exact Sl.of_own S.wd (k := 1) rfl (fun _ => rfl) | exact Sl.of_own S.wd (k := 2) rfl (fun _ => rfl) | exact Sl.of_own S.wd (k := 3) rfl (fun _ => rfl) | (simp at *; omega)) (by first | assumption | omega | (dsimp only; omega) | exact Sl.nil_ | exact .old S.wd (by assumption) | exact Sl.of_own S.wd (k := 0) rfl (fun _ => rfl) | exact Sl.of_own S.wd (k := 1) rfl (fun _ => rfl) | exact Sl.of_own S.wd (k := 2) rfl (fun _ => rfl) | exact Sl.of_own S.wd (k := 3) rfl (fun _ => rfl) | (simp at *; omega)) (by first | assumption | omega | (dsimp only; omega) | exact Sl.nil_ | exact .old S.wd (by assumption) | exact Sl.of_own S.wd (k := 0) rfl (fun _ => rfl) | exact Sl.of_own S.wd (k := 1) rfl (fun _ => rfl) | exact Sl.of_own S.wd (k := 2) rfl (fun _ => rfl) | exact Sl.of_own S.wd (k := 3) rfl (fun _ => rfl) | (simp at *; omega))) rfl ?_) <;> clear S a w)
      rintro _ _ ⟨A12, c12, rfl, rfl⟩ a w S
      refine st_nil (then_normal (hK1 _ _ (sg S (.ld gt57 0 rfl rfl rfl <| .as rfl <| .ac rfl <| .z) fun a w S => wp_ret (st_ret S (results2 S results79 (Rv.tmp rfl) (Rv.tmp rfl)) ?_))))
      exact ⟨_, _, rfl, S.wd.pk, _, _, rfl, rfl⟩
end Go.Proofs.Ytfblmkocmnbdcaa
set_option linter.unusedVariables false
set_option linter.unusedSimpArgs false
set_option maxRecDepth 100000
set_option maxHeartbeats 4000000
namespace Go.Fw
def leN (p : Nat) : Nat → List UInt8
  | 0 => []
  | n + 1 => leN p n ++ [UInt8.ofNat (p / 256 ^ n % 256)]
theorem leN_len (p : Nat) : ∀ n, (leN p n).length = n
  | 0 => rfl
  | n + 1 => by rw [leN, List.length_append, leN_len p n]; rfl
theorem le_byte (p i : Nat) : b8 (Int.fdiv (p : Int) (2 ^ (8 * i))) = UInt8.ofNat (p / 256 ^ i % 256) := by
  have e : Int.fdiv (p : Int) (2 ^ (8 * i)) = ((p / 256 ^ i : Nat) : Int) := by
    rw [Int.fdiv_eq_ediv_of_nonneg _ (by exact_mod_cast Nat.zero_le _)]
    have h : (2 : Int) ^ (8 * i) = ((256 ^ i : Nat) : Int) := by
      rw [Int.pow_mul]; simp
    rw [h]
    simp
  rw [e]
  unfold b8
  congr 1
def entB (b : List UInt8) (x : Ent) : List UInt8 := putL (putL (putL (putL (textL b x.item) x.dot.node) x.dot.life) x.dot.count) x.qty ++ leN x.price.toNat 8
def entsB (b : List UInt8) (l : List Ent) : List UInt8 := l.foldl entB (putL b (l.length : Int))
def encK (c : Cart) : List UInt8 := encC (entsB [] c.ents) c.ctx
theorem textL_len (l s : List UInt8) (h : (s.length : Int) < 9223372036854775808 := by omega) : (textL l s).length ≤ l.length + 9 + s.length := by
  have := putL_len l (n := (s.length : Int)) h
  unfold textL
  rw [List.length_append]; omega
theorem name_len {s : List UInt8} (h : nameB s = true) : s.length ≤ 32 := by
  unfold nameB at h
  simp at h
  omega
theorem ent_lim {C : Ctx} {x : Ent} (hC : canL C = true) (h : EntOk C x) : x.item.length ≤ 32 ∧ 1 ≤ x.qty ∧ x.qty ≤ 1000000 ∧ 0 ≤ x.dot.node ∧ x.dot.node < 8 ∧ 1 ≤ x.dot.life ∧ x.dot.life ≤ 1099511627776 ∧ 1 ≤ x.dot.count ∧ x.dot.count ≤ 1099511627776 := by
  obtain ⟨h1, ⟨h2, h3⟩, h4, h5⟩ := h
  have := may_lim (cov_may hC h5)
  exact ⟨name_len h1, h2, h3, this⟩
theorem entB_len {C : Ctx} {x : Ent} (hC : canL C = true) (h : EntOk C x) (b : List UInt8) : (entB b x).length ≤ b.length + 100 := by
  obtain ⟨h1, h2, h3, h4, h5, h6, h7, h8, h9⟩ := ent_lim hC h
  unfold entB
  have p1 := textL_len b x.item
  have p2 := putL_len (textL b x.item) (n := x.dot.node) (by omega)
  have p3 := putL_len (putL (textL b x.item) x.dot.node) (n := x.dot.life) (by omega)
  have p4 := putL_len (putL (putL (textL b x.item) x.dot.node) x.dot.life) (n := x.dot.count) (by omega)
  have p5 := putL_len (putL (putL (putL (textL b x.item) x.dot.node) x.dot.life) x.dot.count) (n := x.qty) (by omega)
  rw [List.length_append, leN_len]
  omega
theorem ents_len {X : Cart} (ok : CartOk X) : ∀ k, ((X.ents.take k).foldl entB (putL [] (X.ents.length : Int))).length ≤ 9 + 100 * k
  | 0 => by
    have := putL_len [] (n := (X.ents.length : Int)) (by have := ok.len; omega)
    simpa using this
  | k + 1 => by
    have ih := ents_len ok k
    rw [List.take_add_one]
    cases hx : X.ents[k]? with
    | none => simp; omega
    | some x =>
      rw [Option.toList_some, List.foldl_append]
      have := entB_len ok.ctx (ok.each x (List.mem_of_getElem? hx)) ((X.ents.take k).foldl entB (putL [] (X.ents.length : Int)))
      simp only [List.foldl_cons, List.foldl_nil]
      omega
end Go.Fw
namespace Go.Proofs.Ytfblmkocmnbdcaa
open Go.Fw Go.Proofs Go.RowKit Go.Proofs.Try
theorem c37 (w0 : World) (v1 v2 v3 : Value) (X : Cart) (h : Sl Ent.enc 6 w0 w0.heap.size v1 X.ents) (hr : RdCtx w0 w0.heap.size v2 v3 X.ctx) :
    Rets Try.prog 37 #[.agg #[v1, v2, v3]] w0 fun v L => ∃ A r, v = .tuple #[.slice A (if canE X = 0 then encK X else []).length r, .int .i64 (canE X)] ∧ L = [rowOf 5 1 encB A r (if canE X = 0 then encK X else [])] := by
  have hs := h
  have hrr := hr
  obtain ⟨A, cap, rfl, hl, hcap, hA⟩ := h
  obtain ⟨⟨A2, cap2, rfl, _⟩, ⟨A3, cap3, rfl, _⟩⟩ := hr
  by_cases he : canE X = 0
  rotate_left
  · have rw_e : decide (canE X ≠ 0) = true := decide_eq_true he
    unfold Go.Fw.Rets
    refine enter1 func37 rfl ntmps37 rfl fun a S => wp_seq_k fun _ hK1 => wp_region_lit (st_m (op_box S (.t rfl) rfl fun g1 a w S => run S (.ac rfl <| .ac rfl <| .z) fun a w S => st_nil (then_normal (hK1 _ _ (sg S (.la gt40 0 rfl rfl rfl <| .xx (ys_call call9 (.cons (.t rfl) .nil) (fun hp w W => c9 _ _ _ _ _ (by exact .old W (by assumption)) (by exact .old W (by assumption)))) rfl <| .as rfl <| .z) fun a w S => wp_seq_k fun _ hK1 => sg S (.mv rfl <| .yy (ys_T (by omega) (ys_neq (.t rfl) Ev.c)) rfl <| .z) fun a w S => st_then S (.t rfl) (sg S (.mv rfl <| .ac rfl <| .as rfl <| .z) fun a w S => wp_ret (then_ret (st_ret S (results2 S results37 (Rv.tmp rfl) (Rv.tmp rfl)) ?_))))))))
    rw [if_neg he]
    exact ⟨_, _, rfl, (S.nil_ 5 1 encB none).wd.pk, none, 0, rfl, rfl⟩
  have rw_e := he
  unfold Go.Fw.Rets
  refine enter1 func37 rfl ntmps37 rfl fun a S => wp_seq_k fun _ hK1 => wp_region_lit (st_m (op_box S (.t rfl) rfl fun g1 a w S => run S (.ac rfl <| .ac rfl <| .z) fun a w S => st_nil (then_normal (hK1 _ _ (wp_seq_k fun _ hK1 => wp_region_lit (run S (.la gt40 0 rfl rfl rfl <| .xx (ys_call call9 (.cons (.t rfl) .nil) (fun hp w W => c9 _ _ _ _ _ (by exact .old W (by assumption)) (by exact .old W (by assumption)))) rfl <| .z) fun a w S => ?_))))))
  rw [rw_e] at S
  refine run S (.as rfl <| .z) fun a w S => st_nil (then_normal (hK1 _ _ (wp_seq_k fun _ hK1 => sg S (.mv rfl <| .yy (ys_F (by omega) (ys_neq (.t rfl) Ev.c)) rfl <| .z) fun a w S => st_else S (.t rfl) (wp_skip (then_normal (hK1 _ _ (wp_seq_k fun _ hK1 => wp_region_lit (run S (.fa underlying40 sizeOf34 0 rfl rfl rfl <| .ld gt34 0 rfl rfl rfl <| .ln underlying34 rfl <| .z) fun a w S => ?_))))))))
  (refine st_m (op_calls S call77 (.cons Ev.c (.cons (.t rfl) .nil)) (c77 _ _ _ _ (by exact Sl.nil_) (by (simp; done)) (by omega)) rfl ?_); clear S a w; rintro _ _ ⟨A1, c1, rfl, rfl⟩ a w S)
  refine run S (.as rfl <| .z) fun a w S => st_nil (then_normal (hK1 _ _ (wp_seq_k fun _ hK1 => sg S (.fa underlying40 sizeOf34 0 rfl rfl rfl <| .ld gt34 1 rfl rfl rfl <| .ln underlying34 rfl <| .mc rfl <| .z) fun a w S => wp_block ?_)))
  have ok := (canE_ok X).1 he
  have lX := ok.len
  have hp0 := putL_len [] (n := (X.ents.length : Int)) (by omega)
  have e0 : putL [] (X.ents.length : Int) = (X.ents.take 0).foldl entB (putL [] (X.ents.length : Int)) := rfl
  rw [e0] at S
  refine st_lpM S [5, 23] (X := Nat × Option Addr × Nat) (fun q => [(5, true, .slice q.2.1 ((X.ents.take q.1).foldl entB (putL [] (X.ents.length : Int))).length q.2.2), (23, true, .int .i64 (q.1 : Int))])
    (fun q => [rowOf 5 1 encB q.2.1 q.2.2 ((X.ents.take q.1).foldl entB (putL [] (X.ents.length : Int))), .blk g1 (.cells #[.slice A X.ents.length cap, .slice A2 X.ctx.marks.length cap2, .slice A3 X.ctx.cloud.length cap3] 40)])
    (fun q => q.1 ≤ X.ents.length) (fun q => X.ents.length - q.1) (0, A1, c1) (Nat.zero_le _) ?_
  clear S
  rintro ⟨k, D, cD⟩ a w hk S
  dsimp only at hk S
  have hbl := ents_len ok k
  by_cases hlt : k < X.ents.length
  · obtain ⟨g, o, x, rfl, hx, hd, hc⟩ := row_at hA hlt
    have hxo := ok.each x (List.mem_of_getElem? hx)
    obtain ⟨hxi, hxq1, hxq2, hx1, hx2, hx3, hx4, hx5, hx6⟩ := ent_lim ok.ctx hxo
    have hst : (X.ents.take (k + 1)).foldl entB (putL [] (X.ents.length : Int)) = entB ((X.ents.take k).foldl entB (putL [] (X.ents.length : Int))) x := by
      rw [List.take_add_one, hx, Option.toList_some, List.foldl_append]; rfl
    generalize hO : (X.ents.take k).foldl entB (putL [] (X.ents.length : Int)) = O at *
    have hl1 := textL_len O x.item
    generalize rw_o1 : textL O x.item = O1 at *
    have hl2 := putL_len O1 (n := x.dot.node) (by omega)
    generalize rw_o2 : putL O1 x.dot.node = O2 at *
    have hl3 := putL_len O2 (n := x.dot.life) (by omega)
    generalize rw_o3 : putL O2 x.dot.life = O3 at *
    have hl4 := putL_len O3 (n := x.dot.count) (by omega)
    generalize rw_o4 : putL O3 x.dot.count = O4 at *
    have hl5 := putL_len O4 (n := x.qty) (by omega)
    generalize rw_o5 : putL O4 x.qty = O5 at *
    refine sg S (.lt (by omega) rfl rfl <| .z) fun a w S => wp_seq_k fun _ hK2 => st_then S (.t rfl) (wp_skip (then_normal (hK2 _ _ (wp_seq_k fun _ hK2 => wp_block (wp_seq_k fun _ hK3 => wp_region_lit (run S (.ix underlying34 sizeOf74 (by omega) rfl rfl <| .yy (ys_ldOA ⟨isAgg74, sizeOf74⟩ (.t rfl) (vs := [_, _, _, _, _, _]) rfl (fun _ => hc)) rfl <| .z) fun a w S => st_m (op_alloc S zeroValue74 (cs := _) rfl rfl fun g2 a w S => st_m (op_stW S sizeOf74 (.t rfl) (.t rfl) (k := 0) rfl rfl rfl (by simp [Value.oneCell']) fun a w S => st_nil (then_normal (hK3 _ _ (wp_seq_k fun _ hK3 => wp_region_lit (run S (.mv rfl <| .fa underlying74 sizeOf9 0 rfl rfl rfl <| .ld gt9 0 rfl rfl rfl <| .z) fun a w S => ?_))))))))))))
    (refine st_m (op_calls S call78 (.cons (.t rfl) (.cons (.t rfl) .nil)) (c78 _ _ _ _ (by exact Sl.of_own S.wd (k := 1) rfl (fun _ => rfl)) (by omega) (by omega)) rfl ?_); clear S a w; rintro _ _ ⟨A4, r1, rfl, rfl⟩ a w S)
    rw [rw_o1] at S
    refine run S (.as rfl <| .z) fun a w S => st_nil (then_normal (hK3 _ _ (wp_seq_k fun _ hK3 => wp_seq_k fun _ hK4 => wp_region_lit (run S (.fa underlying74 sizeOf62 1 rfl rfl rfl <| .fa underlying62 sizeOf3 1 rfl rfl rfl <| .ld gt3 1 rfl rfl rfl <| .fa underlying74 sizeOf62 1 rfl rfl rfl <| .fa underlying62 sizeOf3 2 rfl rfl rfl <| .ld gt3 1 rfl rfl rfl <| .fa underlying74 sizeOf62 1 rfl rfl rfl <| .fa underlying62 sizeOf3 3 rfl rfl rfl <| .ld gt3 1 rfl rfl rfl <| .fa underlying74 sizeOf3 4 rfl rfl rfl <| .ld gt3 1 rfl rfl rfl <| .z) fun a w S => st_m (op_bsliceZ (ps := [(0, Go.Operand.tmp 33), (1, Go.Operand.tmp 36), (2, Go.Operand.tmp 39), (3, Go.Operand.tmp 41)]) (us := [_, _, _, _]) S underlying23 sizeOf3 zeroValue3 rfl rfl (.cons (.t rfl) (.cons (.t rfl) (.cons (.t rfl) (.cons (.t rfl) .nil)))) rfl rfl fun g3 a w S => run S (.ln underlying23 rfl <| .mc rfl <| .z) fun a w S => st_nil (then_normal (hK4 _ _ (wp_block (st_rounds 5 (st_round (sg S (.lt (by omega) rfl rfl <| .z) fun a w S => wp_seq_k fun _ hK4 => st_then S (.t rfl) (wp_skip (then_normal (hK4 _ _ (wp_seq_k fun _ hK4 => wp_block (wp_seq_k fun _ hK5 => wp_region_lit (run S (.yy (ys_ixS (j := 0) underlying23 sizeOf3 (.t rfl) (.t rfl) (fun _ => by omega)) rfl <| .ld gt3 0 rfl rfl rfl <| .as rfl <| .z) fun a w S => st_nil ?_)))))))))))))))))
    refine then_normal (hK5 _ _ (wp_region_lit (run S (.mv rfl <| .mv rfl <| .z) fun a w S => ?_)))
    (refine st_m (op_calls S call77 (.cons (.t rfl) (.cons (.t rfl) .nil)) (c77 _ _ _ _ (by exact Sl.of_own S.wd (k := 1) rfl (fun _ => rfl)) (by omega) (by omega)) rfl ?_); clear S a w; rintro _ _ ⟨A5, c2, rfl, rfl⟩ a w S)
    rw [rw_o2] at S
    refine run S (.as rfl <| .z) fun a w S => st_nil (in_normal (then_normal (hK4 _ _ (wp_region_lit (run S (.ad (by unfold I64; omega) rfl <| .mv rfl <| .z) fun a w S => st_nil (then_normal (st_round (sg S (.lt (by omega) rfl rfl <| .z) fun a w S => wp_seq_k fun _ hK4 => st_then S (.t rfl) (wp_skip (then_normal (hK4 _ _ (wp_seq_k fun _ hK4 => wp_block (sg S (.yy (ys_ixS (j := 1) underlying23 sizeOf3 (.t rfl) (.t rfl) (fun _ => by omega)) rfl <| .ld gt3 1 rfl rfl rfl <| .as rfl <| .z) fun a w S => wp_region_lit (run S (.mv rfl <| .mv rfl <| .z) fun a w S => ?_))))))))))))))
    (refine st_m (op_calls S call77 (.cons (.t rfl) (.cons (.t rfl) .nil)) (c77 _ _ _ _ (by exact Sl.of_own S.wd (k := 0) rfl (fun _ => rfl)) (by omega) (by omega)) rfl ?_); clear S a w; rintro _ _ ⟨A6, c3, rfl, rfl⟩ a w S)
    rw [rw_o3] at S
    refine run S (.as rfl <| .z) fun a w S => st_nil (in_normal (then_normal (hK4 _ _ (wp_region_lit (run S (.ad (by unfold I64; omega) rfl <| .mv rfl <| .z) fun a w S => st_nil (then_normal (st_round (sg S (.lt (by omega) rfl rfl <| .z) fun a w S => wp_seq_k fun _ hK4 => st_then S (.t rfl) (wp_skip (then_normal (hK4 _ _ (wp_seq_k fun _ hK4 => wp_block (sg S (.yy (ys_ixS (j := 2) underlying23 sizeOf3 (.t rfl) (.t rfl) (fun _ => by omega)) rfl <| .ld gt3 2 rfl rfl rfl <| .as rfl <| .z) fun a w S => wp_region_lit (run S (.mv rfl <| .mv rfl <| .z) fun a w S => ?_))))))))))))))
    (refine st_m (op_calls S call77 (.cons (.t rfl) (.cons (.t rfl) .nil)) (c77 _ _ _ _ (by exact Sl.of_own S.wd (k := 0) rfl (fun _ => rfl)) (by omega) (by omega)) rfl ?_); clear S a w; rintro _ _ ⟨A7, c4, rfl, rfl⟩ a w S)
    rw [rw_o4] at S
    refine run S (.as rfl <| .z) fun a w S => st_nil (in_normal (then_normal (hK4 _ _ (wp_region_lit (run S (.ad (by unfold I64; omega) rfl <| .mv rfl <| .z) fun a w S => st_nil (then_normal (st_round (sg S (.lt (by omega) rfl rfl <| .z) fun a w S => wp_seq_k fun _ hK4 => st_then S (.t rfl) (wp_skip (then_normal (hK4 _ _ (wp_seq_k fun _ hK4 => wp_block (sg S (.yy (ys_ixS (j := 3) underlying23 sizeOf3 (.t rfl) (.t rfl) (fun _ => by omega)) rfl <| .ld gt3 3 rfl rfl rfl <| .as rfl <| .z) fun a w S => wp_region_lit (run S (.mv rfl <| .mv rfl <| .z) fun a w S => ?_))))))))))))))
    (refine st_m (op_calls S call77 (.cons (.t rfl) (.cons (.t rfl) .nil)) (c77 _ _ _ _ (by exact Sl.of_own S.wd (k := 0) rfl (fun _ => rfl)) (by omega) (by omega)) rfl ?_); clear S a w; rintro _ _ ⟨A8, c5, rfl, rfl⟩ a w S)
    rw [rw_o5] at S
    refine run S (.as rfl <| .z) fun a w S => st_nil (in_normal (then_normal (hK4 _ _ (wp_region_lit (run S (.ad (by unfold I64; omega) rfl <| .mv rfl <| .z) fun a w S => st_nil (then_normal (st_round (sg S (.ge (by omega) rfl rfl <| .z) fun a w S => wp_seq_k fun _ hK4 => st_else S (.t rfl) (wp_exit (then_exit (then_exit (in_here (then_normal (hK3 _ _ (sg S (.mc rfl <| .z) fun a w S => wp_block ?_)))))))))))))))
    have rw_f : O5 ++ leN x.price.toNat 0 = O5 := List.append_nil _
    rw [← rw_f] at S
    clear rw_f
    refine st_lpM S [5, 52] (X := Nat × Option Addr × Nat) (fun q => [(5, true, .slice q.2.1 (O5 ++ leN x.price.toNat q.1).length q.2.2), (52, true, .int .i64 (q.1 : Int))])
      (fun q => [rowOf 5 1 encB q.2.1 q.2.2 (O5 ++ leN x.price.toNat q.1), .blk g2 (.cells (Ent.enc x).toArray 74), .blk g1 (.cells #[.slice (some ⟨g, o, none⟩) X.ents.length cap, .slice A2 X.ctx.marks.length cap2, .slice A3 X.ctx.cloud.length cap3] 40)])
      (fun q => q.1 ≤ 8) (fun q => 8 - q.1) (0, _, _) (Nat.zero_le _) ?_
    clear S
    rintro ⟨i, F, cF⟩ a w hi S
    dsimp only at hi S
    have hll : (O5 ++ leN x.price.toNat i).length = O5.length + i := by rw [List.length_append, leN_len]
    have rw_8 : 8 * (i : Int) = ((8 * i : Nat) : Int) := by omega
    by_cases hi8 : i < 8
    · refine sg S (.yy (ys_T (by omega) (ys_lss (.t rfl) Ev.c)) rfl <| .z) fun a w S => wp_seq_k fun _ hK3 => st_then S (.t rfl) (wp_skip (then_normal (hK3 _ _ (wp_seq_k fun _ hK3 => wp_block (sg S (.mv rfl <| .as rfl <| .z) fun a w S => wp_region_lit (run S (.mv rfl <| .fa underlying74 sizeOf27 5 rfl rfl rfl <| .ld gt27 1 rfl rfl rfl <| .mv rfl <| .yy (ys_mulI Ev.c (.t rfl) (fun _ => by unfold I64; omega)) rfl <| .z) fun a w S => ?_))))))
      rw [rw_8] at S
      refine run S (.yy (ys_shr (.t rfl) (.t rfl) (Nat.ble_eq_true_of_le (by show _ ≤ 64; omega))) rfl <| .yy (ys_cvB underlying27 underlying5 (.t rfl)) rfl <| .z) fun a w S => st_m (op_bslice1 S underlying57 inf5 rfl rfl rfl (.t rfl) rfl rfl rfl fun g4 a w S => st_m (op_push S underlying57 inf5 rfl (k := 1) (j := 0) rfl (.t rfl) (.t rfl) rfl rfl rfl rfl (by first | omega | (simp only [List.length_append, List.length_cons, List.length_nil]; omega)) rfl rfl rfl fun A9 cap1 a w S => run S (.as rfl <| .z) fun a w S => st_nil (in_normal (then_normal (hK3 _ _ (wp_region_lit (run S (.ad (by unfold I64; omega) rfl <| .mv rfl <| .z) fun a w S => st_nil (then_normal ?_))))))))
      rw [le_byte, List.append_assoc, show leN x.price.toNat i ++ [UInt8.ofNat (x.price.toNat / 256 ^ i % 256)] = leN x.price.toNat (i + 1) from rfl] at S
      exact ⟨(i + 1, A9, cap1), by dsimp only; omega, by dsimp only; omega, S.pk⟩
    obtain rfl : i = 8 := by omega
    have he5 : entB O x = O5 ++ leN x.price.toNat 8 := by unfold entB; rw [rw_o1, rw_o2, rw_o3, rw_o4, rw_o5]
    refine sg S (.yy (ys_F (by omega) (ys_lss (.t rfl) Ev.c)) rfl <| .z) fun a w S => wp_seq_k fun _ hK3 => st_else S (.t rfl) (wp_exit (then_exit (then_exit (in_here (in_normal (then_normal (hK2 _ _ (wp_region_lit (run S (.ad (by unfold I64; omega) rfl <| .mv rfl <| .z) fun a w S => st_nil (then_normal ?_))))))))))
    exact ⟨(k + 1, F, cF), by dsimp only; omega, by dsimp only; omega, by dsimp only; rw [hst, he5]; exact S.pk⟩
  obtain rfl : k = X.ents.length := by omega
  rw [List.take_length] at S hbl
  have ee : X.ents.foldl entB (putL [] (X.ents.length : Int)) = entsB [] X.ents := rfl
  rw [ee] at S hbl
  have rw_1 : ∀ a b : List UInt8, (if canL X.ctx = true then a else b) = a := fun _ _ => if_pos ok.ctx
  have rw_2 : ∀ a b : Int, (if canL X.ctx = true then a else b) = a := fun _ _ => if_pos ok.ctx
  have rw_3 : encC (entsB [] X.ents) X.ctx = encK X := rfl
  refine sg S (.ge (by omega) rfl rfl <| .z) fun a w S => wp_seq_k fun _ hK2 => st_else S (.t rfl) (wp_exit (then_exit (then_exit (in_here (then_normal (hK1 _ _ (wp_seq_k fun _ hK1 => wp_region_lit (run S (.mv rfl <| .fa underlying40 sizeOf38 1 rfl rfl rfl <| .la gt38 1 rfl rfl rfl <| .z) fun a w S => ?_))))))))
  (refine st_m (op_calls S call79 (.cons (.t rfl) (.cons (.t rfl) .nil)) (c79 _ _ _ _ _ _ (by exact Sl.of_own S.wd (k := 0) rfl (fun _ => rfl)) (by exact .old S.wd (by assumption)) (by omega)) rfl ?_); clear S a w; rintro _ _ ⟨A4, c2, rfl, rfl⟩ a w S)
  rw [rw_1] at S
  rw [rw_2] at S
  rw [rw_3] at S
  refine run S (.ex rfl rfl <| .ex rfl rfl <| .as rfl <| .as rfl <| .z) fun a w S => st_nil (then_normal (hK1 _ _ (wp_ret (st_ret S (results2 S results37 (Rv.tmp rfl) (Rv.tmp rfl)) ?_))))
  rw [if_pos he, he]
  exact ⟨_, _, rfl, S.wd.pk, _, _, rfl, rfl⟩
end Go.Proofs.Ytfblmkocmnbdcaa
set_option linter.unusedVariables false
set_option linter.unusedSimpArgs false
namespace Go.Fw
open Go.RowKit
def leV (b : List UInt8) (k : Nat) : Nat → Nat
  | 0 => 0
  | n + 1 => leV b k n + (b.getD (k + n) 0).toNat * 256 ^ n
theorem leV_lt (b : List UInt8) (k : Nat) : ∀ n, leV b k n < 256 ^ n
  | 0 => by simp [leV]
  | n + 1 => by
    have ih := leV_lt b k n
    have hx : (b.getD (k + n) 0).toNat ≤ 255 := by have := (b.getD (k + n) 0).toNat_lt; omega
    have := Nat.mul_le_mul_right (256 ^ n) hx
    rw [leV, Nat.pow_succ]
    omega
theorem leV_fwd {b : List UInt8} {k p : Nat} : ∀ n, (∀ i, i < n → b.getD (k + i) 0 = UInt8.ofNat (p / 256 ^ i % 256)) → leV b k n = p % 256 ^ n
  | 0, _ => by simp [leV, Nat.mod_one]
  | n + 1, h => by
    rw [leV, leV_fwd n (fun i hi => h i (by omega)), h n (by omega), Nat.pow_succ, Nat.mod_mul]
    have : (UInt8.ofNat (p / 256 ^ n % 256)).toNat = p / 256 ^ n % 256 := by
      rw [UInt8.toNat_ofNat']; omega
    rw [this, Nat.mul_comm]
theorem leV_digit (b : List UInt8) (k : Nat) : ∀ n i, i < n → leV b k n / 256 ^ i % 256 = (b.getD (k + i) 0).toNat
  | 0, i, h => absurd h (by omega)
  | n + 1, i, h => by
    have hx : (b.getD (k + i) 0).toNat < 256 := (b.getD (k + i) 0).toNat_lt
    rw [leV]
    have hpos : 0 < 256 ^ i := Nat.pow_pos (by omega)
    by_cases e : i = n
    · subst e
      rw [Nat.add_mul_div_right _ _ hpos, Nat.div_eq_of_lt (leV_lt b k i), Nat.zero_add, Nat.mod_eq_of_lt hx]
    · have ih := leV_digit b k n i (by omega)
      obtain ⟨m, rfl⟩ : ∃ m, n = i + (m + 1) := ⟨n - i - 1, by omega⟩
      have e2 : (b.getD (k + (i + (m + 1))) 0).toNat * 256 ^ (i + (m + 1)) = ((b.getD (k + (i + (m + 1))) 0).toNat * 256 ^ m * 256) * 256 ^ i := by
        rw [Nat.pow_add, Nat.pow_succ]
        simp only [Nat.mul_assoc, Nat.mul_comm, Nat.mul_left_comm]
      rw [e2, Nat.add_mul_div_right _ _ hpos, Nat.add_mul_mod_self_right, ih]
theorem leN_get (p : Nat) : ∀ n i, i < n → (leN p n)[i]? = some (UInt8.ofNat (p / 256 ^ i % 256))
  | 0, i, h => absurd h (by omega)
  | n + 1, i, h => by
    rw [leN]
    by_cases e : i = n
    · subst e
      rw [List.getElem?_append_right (by rw [leN_len]; omega), leN_len, Nat.sub_self]
      rfl
    · rw [List.getElem?_append_left (by rw [leN_len]; omega)]
      exact leN_get p n i (by omega)
theorem leN_leV {b : List UInt8} {k n : Nat} (h : k + n ≤ b.length) : leN (leV b k n) n = (b.drop k).take n := by
  refine List.ext_getElem? fun i => ?_
  by_cases hi : i < n
  · rw [leN_get _ _ _ hi, leV_digit b k n i hi, List.getElem?_take_of_lt hi, List.getElem?_drop, List.getElem?_eq_getElem (by omega), List.getD_eq_getElem?_getD, List.getElem?_eq_getElem (by omega)]
    simp
  · rw [List.getElem?_eq_none (by rw [leN_len]; omega), List.getElem?_eq_none (by rw [List.length_take, List.length_drop]; omega)]
def u64R (b : List UInt8) (k : Nat) : Nat × Nat × Int := if k + 8 ≤ b.length then (leV b k 8, k + 8, 0) else (0, b.length, 2)
abbrev Ent.none : Ent := ⟨[], ⟨0, 0, 0⟩, 0, 0⟩
def entAt (b : List UInt8) (k : Nat) : Ent × Nat × Int := bindR (textR b k 32) Ent.none fun s k1 => bindR (numAt b k1) Ent.none fun x k2 => bindR (numAt b k2) Ent.none fun y k3 => bindR (numAt b k3) Ent.none fun z k4 => bindR (numAt b k4) Ent.none fun q k5 => bindR (u64R b k5) Ent.none fun p k6 => (⟨s, ⟨x, y, z⟩, q, UInt64.ofNat p⟩, k6, 0)
theorem textR_fwd {pre post s : List UInt8} {most : Int} (hs : (s.length : Int) ≤ most) (hm : most ≤ 9223372036854775807) : textR (textL pre s ++ post) pre.length most = (s, (textL pre s).length, 0) := by
  have e : textL pre s ++ post = putL pre (s.length : Int) ++ (s ++ post) := by unfold textL; rw [List.append_assoc]
  have n1 : numAt (textL pre s ++ post) pre.length = ((s.length : Int), (putL pre (s.length : Int)).length, 0) := by rw [e]; exact numAt_fwd (by omega) (by omega)
  unfold textR
  rw [n1]
  dsimp only
  rw [if_pos rfl, if_neg (by omega), if_neg, Int.toNat_natCast]
  · have e2 : (textL pre s ++ post).drop (putL pre (s.length : Int)).length = s ++ post := by rw [e, List.drop_left]
    rw [e2, List.take_left]
    unfold textL
    rw [List.length_append]
  · rw [e, List.length_append, List.length_append]; omega
theorem entAt_fwd {C : Ctx} {pre post : List UInt8} {x : Ent} (hC : canL C = true) (h : EntOk C x) : entAt (entB pre x ++ post) pre.length = (x, (entB pre x).length, 0) := by
  obtain ⟨h1, h2, h3, h4, h5, h6, h7, h8, h9⟩ := ent_lim hC h
  have e0 : entB pre x ++ post = textL pre x.item ++ (numB x.dot.node.toNat ++ (numB x.dot.life.toNat ++ (numB x.dot.count.toNat ++ (numB x.qty.toNat ++ (leN x.price.toNat 8 ++ post))))) := by simp [entB, putL]
  have e1 : entB pre x ++ post = putL (textL pre x.item) x.dot.node ++ (numB x.dot.life.toNat ++ (numB x.dot.count.toNat ++ (numB x.qty.toNat ++ (leN x.price.toNat 8 ++ post)))) := by simp [entB, putL]
  have e2 : entB pre x ++ post = putL (putL (textL pre x.item) x.dot.node) x.dot.life ++ (numB x.dot.count.toNat ++ (numB x.qty.toNat ++ (leN x.price.toNat 8 ++ post))) := by simp [entB, putL]
  have e3 : entB pre x ++ post = putL (putL (putL (textL pre x.item) x.dot.node) x.dot.life) x.dot.count ++ (numB x.qty.toNat ++ (leN x.price.toNat 8 ++ post)) := by simp [entB, putL]
  have e4 : entB pre x ++ post = putL (putL (putL (putL (textL pre x.item) x.dot.node) x.dot.life) x.dot.count) x.qty ++ (leN x.price.toNat 8 ++ post) := by simp [entB, putL]
  have n0 : textR (entB pre x ++ post) pre.length 32 = (x.item, (textL pre x.item).length, 0) := by rw [e0]; exact textR_fwd (by omega) (by omega)
  have n1 : numAt (entB pre x ++ post) (textL pre x.item).length = (x.dot.node, (putL (textL pre x.item) x.dot.node).length, 0) := by rw [e1]; exact numAt_fwd (by omega) (by omega)
  have n2 : numAt (entB pre x ++ post) (putL (textL pre x.item) x.dot.node).length = (x.dot.life, (putL (putL (textL pre x.item) x.dot.node) x.dot.life).length, 0) := by rw [e2]; exact numAt_fwd (by omega) (by omega)
  have n3 : numAt (entB pre x ++ post) (putL (putL (textL pre x.item) x.dot.node) x.dot.life).length = (x.dot.count, (putL (putL (putL (textL pre x.item) x.dot.node) x.dot.life) x.dot.count).length, 0) := by rw [e3]; exact numAt_fwd (by omega) (by omega)
  have n4 : numAt (entB pre x ++ post) (putL (putL (putL (textL pre x.item) x.dot.node) x.dot.life) x.dot.count).length = (x.qty, (putL (putL (putL (putL (textL pre x.item) x.dot.node) x.dot.life) x.dot.count) x.qty).length, 0) := by rw [e4]; exact numAt_fwd (by omega) (by omega)
  have n5 : u64R (entB pre x ++ post) (putL (putL (putL (putL (textL pre x.item) x.dot.node) x.dot.life) x.dot.count) x.qty).length = (x.price.toNat, (entB pre x).length, 0) := by
    have hlen : (entB pre x).length = (putL (putL (putL (putL (textL pre x.item) x.dot.node) x.dot.life) x.dot.count) x.qty).length + 8 := by
      unfold entB; rw [List.length_append, leN_len]
    unfold u64R
    rw [if_pos (by rw [List.length_append]; omega), hlen]
    congr 1
    rw [leV_fwd (p := x.price.toNat) 8 (fun i hi => ?_), Nat.mod_eq_of_lt (by have := x.price.toNat_lt; simpa using this)]
    rw [e4, List.getD_eq_getElem?_getD, List.getElem?_append_right (by omega), Nat.add_sub_cancel_left, List.getElem?_append_left (by rw [leN_len]; omega), leN_get _ _ _ hi]
    rfl
  unfold entAt
  rw [n0, bindR_ok rfl]
  dsimp only
  rw [n1, bindR_ok rfl]
  dsimp only
  rw [n2, bindR_ok rfl]
  dsimp only
  rw [n3, bindR_ok rfl]
  dsimp only
  rw [n4, bindR_ok rfl]
  dsimp only
  rw [n5, bindR_ok rfl]
  dsimp only
  rw [UInt64.ofNat_toNat]
def entsAt (b : List UInt8) : Nat → List Ent → Nat → List Ent × Nat × Int
  | 0, acc, k => (acc, k, 0)
  | n + 1, acc, k => bindR (entAt b k) [] fun d k1 => entsAt b n (acc ++ [d]) k1
theorem entB_app (pre : List UInt8) (d : Ent) : ∃ X, entB pre d = pre ++ X := ⟨numB d.item.length ++ (d.item ++ (numB d.dot.node.toNat ++ (numB d.dot.life.toNat ++ (numB d.dot.count.toNat ++ (numB d.qty.toNat ++ leN d.price.toNat 8))))), by simp [entB, putL, textL]⟩
theorem foldE_app : ∀ (l : List Ent) (pre : List UInt8), ∃ X, l.foldl entB pre = pre ++ X
  | [], pre => ⟨[], by simp⟩
  | d :: r, pre => by
    obtain ⟨X, hX⟩ := entB_app pre d
    obtain ⟨Y, hY⟩ := foldE_app r (entB pre d)
    exact ⟨X ++ Y, by rw [List.foldl_cons, hY, hX, List.append_assoc]⟩
theorem entsAt_fwd {C : Ctx} {post : List UInt8} (hC : canL C = true) : ∀ {l acc : List Ent} {pre : List UInt8}, (∀ x ∈ l, EntOk C x) → entsAt (l.foldl entB pre ++ post) l.length acc pre.length = (acc ++ l, (l.foldl entB pre).length, 0)
  | [], acc, pre, _ => by simp [entsAt]
  | d :: r, acc, pre, h => by
    obtain ⟨X, hX⟩ := foldE_app r (entB pre d)
    have e : (d :: r).foldl entB pre ++ post = entB pre d ++ (X ++ post) := by rw [List.foldl_cons, hX, List.append_assoc]
    rw [List.length_cons, entsAt]
    have hd : entAt ((d :: r).foldl entB pre ++ post) pre.length = (d, (entB pre d).length, 0) := by rw [e]; exact entAt_fwd hC (h d (by simp))
    rw [hd, bindR_ok rfl]
    dsimp only
    rw [List.foldl_cons, entsAt_fwd hC (fun x hx => h x (by simp [hx])), List.append_assoc]
    rfl
def lastK (b : List UInt8) (c : Cart) (k : Nat) : Cart × Nat × Int := if k < b.length then (Cart.zero, k, 3) else if canE c = 0 then (c, k, 0) else (Cart.zero, k, canE c)
def decR (b : List UInt8) : Cart × Nat × Int := bindR (numAt b 0) Cart.zero fun n k1 => if 64 < n then (Cart.zero, k1, 4) else bindR (entsAt b n.toNat [] k1) Cart.zero fun l k2 => bindR (decAt b k2) Cart.zero fun C k3 => lastK b ⟨l, C⟩ k3
def decK (b : List UInt8) : Cart × Int := ((decR b).1, (decR b).2.2)
theorem dec_enc {c : Cart} (h : CartOk c) : decK (encK c) = (c, 0) := by
  have hl := h.len
  obtain ⟨X, hX⟩ := foldE_app c.ents (putL [] (c.ents.length : Int))
  have hEC : ∃ Y, encK c = entsB [] c.ents ++ Y := by
    unfold encK encC dotsB
    obtain ⟨P, hP⟩ := foldB_app c.ctx.marks (putL (entsB [] c.ents) (c.ctx.marks.length : Int))
    rw [hP]
    obtain ⟨Q, hQ⟩ := foldB_app c.ctx.cloud (putL (putL (entsB [] c.ents) (c.ctx.marks.length : Int) ++ P) (c.ctx.cloud.length : Int))
    rw [hQ]
    exact ⟨numB c.ctx.marks.length ++ P ++ numB c.ctx.cloud.length ++ Q, by simp [putL]⟩
  obtain ⟨Y, hY⟩ := hEC
  have n1 : numAt (encK c) 0 = ((c.ents.length : Int), (putL [] (c.ents.length : Int)).length, 0) := by
    have : encK c = putL [] (c.ents.length : Int) ++ (X ++ Y) := by rw [hY]; unfold entsB; rw [hX, List.append_assoc]
    rw [this]
    exact numAt_fwd (pre := []) (by omega) (by omega)
  have n2 : entsAt (encK c) c.ents.length [] (putL [] (c.ents.length : Int)).length = (c.ents, (entsB [] c.ents).length, 0) := by
    rw [hY]; exact entsAt_fwd h.ctx h.each
  have n3 : decAt (encK c) (entsB [] c.ents).length = (c.ctx, (encK c).length, 0) := by
    have := decAt_fwd (pre := entsB [] c.ents) (post := []) h.ctx
    rw [List.append_nil] at this
    exact this
  unfold decK decR
  rw [n1, bindR_ok rfl]
  dsimp only
  rw [if_neg (by omega), Int.toNat_natCast, n2, bindR_ok rfl]
  dsimp only
  rw [n3, bindR_ok rfl]
  unfold lastK
  rw [if_neg (Nat.lt_irrefl _), if_pos ((canE_ok c).2 h)]
end Go.Fw
set_option linter.unusedVariables false
set_option linter.unusedSimpArgs false
namespace Go.Fw
def abc : List UInt8 := [65, 66, 67, 68, 69, 70, 71, 72, 73, 74, 75, 76, 77, 78, 79, 80, 81, 82, 83, 84, 85, 86, 87, 88, 89, 90, 97, 98, 99, 100, 101, 102, 103, 104, 105, 106, 107, 108, 109, 110, 111, 112, 113, 114, 115, 116, 117, 118, 119, 120, 121, 122, 48, 49, 50, 51, 52, 53, 54, 55, 56, 57, 45, 95]
theorem abcN : (abc.length : Int) = 64 := rfl
def lt64 (p : Int) : UInt8 := abc.getD p.toNat 0
def letters : List UInt8 → List UInt8
  | [] => []
  | [a] => [lt64 ((a.toNat : Int) / 4), lt64 ((a.toNat : Int) % 4 * 16)]
  | [a, b] => [lt64 ((a.toNat : Int) / 4), lt64 ((a.toNat : Int) % 4 * 16 + (b.toNat : Int) / 16), lt64 ((b.toNat : Int) % 16 * 4)]
  | a :: b :: c :: r => lt64 ((a.toNat : Int) / 4) :: lt64 ((a.toNat : Int) % 4 * 16 + (b.toNat : Int) / 16) :: lt64 ((b.toNat : Int) % 16 * 4 + (c.toNat : Int) / 64) :: lt64 ((c.toNat : Int) % 64) :: letters r
def num : List UInt8 → Nat → UInt8 → Nat
  | [], _, _ => 0
  | x :: r, i, c => if x = c then i + 1 else num r (i + 1) c
def num64 (c : UInt8) : Nat := num abc 0 c
theorem num_le : ∀ (l : List UInt8) (i : Nat) (c : UInt8), num l i c ≤ i + l.length
  | [], i, c => by simp [num]
  | x :: r, i, c => by
    have := num_le r (i + 1) c
    unfold num
    split <;> simp <;> omega
theorem num64_le (c : UInt8) : num64 c ≤ 64 := num_le abc 0 c
def bytes64 : List UInt8 → Option (List UInt8)
  | [] => some []
  | [_] => none
  | [a, b] => if num64 a = 0 ∨ num64 b = 0 then none else
      let x := ((num64 a : Int) - 1) * 64 + ((num64 b : Int) - 1)
      if x % 16 = 0 then some [b8 (x / 16)] else none
  | [a, b, c] => if num64 a = 0 ∨ num64 b = 0 ∨ num64 c = 0 then none else
      let x := (((num64 a : Int) - 1) * 64 + ((num64 b : Int) - 1)) * 64 + ((num64 c : Int) - 1)
      if x % 4 = 0 then some [b8 (x / 1024), b8 (x / 4)] else none
  | a :: b :: c :: d :: r => if num64 a = 0 ∨ num64 b = 0 ∨ num64 c = 0 ∨ num64 d = 0 then none else
      let x := ((((num64 a : Int) - 1) * 64 + ((num64 b : Int) - 1)) * 64 + ((num64 c : Int) - 1)) * 64 + ((num64 d : Int) - 1)
      (bytes64 r).map fun l => b8 (x / 65536) :: b8 (x / 256) :: b8 x :: l
theorem num64_lt : ∀ k : Fin 64, num64 (lt64 (k.val : Int)) = k.val + 1 := by decide
theorem num_lt {p : Int} (h0 : 0 ≤ p) (h1 : p < 64) : (num64 (lt64 p) : Int) = p + 1 := by
  obtain ⟨k, rfl⟩ := Int.eq_ofNat_of_zero_le h0
  have := num64_lt ⟨k, by omega⟩
  simp only at this
  rw [this]; omega
theorem bytes_letters : ∀ l : List UInt8, bytes64 (letters l) = some l
  | [] => rfl
  | [a] => by
    have := u8lt a
    have h1 := num_lt (p := (a.toNat : Int) / 4) (by omega) (by omega)
    have h2 := num_lt (p := (a.toNat : Int) % 4 * 16) (by omega) (by omega)
    simp only [letters, bytes64]
    rw [if_neg (by omega), if_pos (by omega)]
    congr 2
    exact b8_of (by omega)
  | [a, b] => by
    have := u8lt a
    have := u8lt b
    have h1 := num_lt (p := (a.toNat : Int) / 4) (by omega) (by omega)
    have h2 := num_lt (p := (a.toNat : Int) % 4 * 16 + (b.toNat : Int) / 16) (by omega) (by omega)
    have h3 := num_lt (p := (b.toNat : Int) % 16 * 4) (by omega) (by omega)
    simp only [letters, bytes64]
    rw [if_neg (by omega), if_pos (by omega), b8_of (x := a) (by omega), b8_of (x := b) (by omega)]
  | a :: b :: c :: r => by
    have := u8lt a
    have := u8lt b
    have := u8lt c
    have h1 := num_lt (p := (a.toNat : Int) / 4) (by omega) (by omega)
    have h2 := num_lt (p := (a.toNat : Int) % 4 * 16 + (b.toNat : Int) / 16) (by omega) (by omega)
    have h3 := num_lt (p := (b.toNat : Int) % 16 * 4 + (c.toNat : Int) / 64) (by omega) (by omega)
    have h4 := num_lt (p := (c.toNat : Int) % 64) (by omega) (by omega)
    simp only [letters, bytes64]
    rw [if_neg (by omega), bytes_letters r, b8_of (x := a) (by omega), b8_of (x := b) (by omega), b8_of (x := c) (by omega)]
    rfl
def lettersR : Int → Int → List UInt8 → List UInt8
  | have', n, [] => if n > 0 then [lt64 (have' * 2 ^ (6 - n).toNat)] else []
  | h, n, x :: r =>
    let y := h * 256 + x.toNat
    if n = 0 then lt64 (y / 4) :: lettersR (y % 4) 2 r
    else if n = 2 then lt64 (y / 16) :: lettersR (y % 16) 4 r
    else lt64 (y / 64) :: lt64 (y % 64) :: lettersR 0 0 r
theorem lettersR_eq : ∀ l : List UInt8, lettersR 0 0 l = letters l
  | [] => rfl
  | [a] => by
    have := u8lt a
    simp [lettersR, letters]
  | [a, b] => by
    have := u8lt a
    have := u8lt b
    simp [lettersR, letters]
    refine ⟨?_, ?_⟩ <;> congr 1 <;> omega
  | a :: b :: c :: r => by
    have := u8lt a
    have := u8lt b
    have := u8lt c
    have ih := lettersR_eq r
    simp [lettersR, letters, ih]
    refine ⟨?_, ?_, ?_⟩ <;> congr 1 <;> omega
def bytesR : Int → Int → List UInt8 → Option (List UInt8)
  | h, n, [] => if h ≠ 0 then none else some []
  | h, n, x :: r => if num64 x = 0 then none else
    let y := h * 64 + ((num64 x : Int) - 1)
    if n = 0 then bytesR y 6 r
    else if n = 6 then (bytesR (y % 16) 4 r).map (b8 (y / 16) :: ·)
    else if n = 4 then (bytesR (y % 4) 2 r).map (b8 (y / 4) :: ·)
    else (bytesR 0 0 r).map (b8 y :: ·)
def bytesRef (l : List UInt8) : Option (List UInt8) := if l.length % 4 = 1 then none else bytesR 0 0 l
theorem bytesR_eq : ∀ l : List UInt8, bytesRef l = bytes64 l
  | [] => rfl
  | [a] => rfl
  | [a, b] => by
    have := num64_le a
    have := num64_le b
    simp only [bytesRef, bytesR, bytes64, List.length_cons, List.length_nil]
    by_cases ha : num64 a = 0
    · simp [ha]
    by_cases hb : num64 b = 0
    · simp [hb]
    simp [ha, hb]
  | [a, b, c] => by
    have := num64_le a
    have := num64_le b
    have := num64_le c
    simp only [bytesRef, bytesR, bytes64, List.length_cons, List.length_nil]
    by_cases ha : num64 a = 0
    · simp [ha]
    by_cases hb : num64 b = 0
    · simp [hb]
    by_cases hc : num64 c = 0
    · simp [hc]
    simp [ha, hb, hc]
    by_cases hz : ((((num64 a : Int) - 1) * 64 + ((num64 b : Int) - 1)) * 64 + ((num64 c : Int) - 1)) % 4 = 0
    · rw [if_pos hz, if_pos (by omega)]
      simp
      refine ⟨?_, ?_⟩
      · congr 1; omega
      · apply UInt8.toNat_inj.1
        have h1 := b8_val (((((num64 a : Int) - 1) * 64 + ((num64 b : Int) - 1)) % 16 * 64 + ((num64 c : Int) - 1)) / 4)
        have h2 := b8_val (((((num64 a : Int) - 1) * 64 + ((num64 b : Int) - 1)) * 64 + ((num64 c : Int) - 1)) / 4)
        omega
    · rw [if_neg hz, if_neg (by omega)]
  | a :: b :: c :: d :: r => by
    have := num64_le a
    have := num64_le b
    have := num64_le c
    have := num64_le d
    have ih := bytesR_eq r
    unfold bytesRef at ih ⊢
    have hm : (a :: b :: c :: d :: r).length % 4 = r.length % 4 := by simp; omega
    rw [hm]
    simp only [bytesR, bytes64]
    by_cases ha : num64 a = 0
    · simp [ha]
    by_cases hb : num64 b = 0
    · simp [hb]
    by_cases hc : num64 c = 0
    · simp [hc]
    by_cases hd : num64 d = 0
    · simp [hd]
    simp [ha, hb, hc, hd]
    rw [← ih]
    split
    · rfl
    · cases bytesR 0 0 r with
      | none => rfl
      | some l =>
        simp
        refine ⟨?_, ?_, ?_⟩ <;> apply UInt8.toNat_inj.1
        · have h1 := b8_val ((((num64 a : Int) - 1) * 64 + ((num64 b : Int) - 1)) / 16)
          have h2 := b8_val (((((((num64 a : Int) - 1) * 64 + ((num64 b : Int) - 1)) * 64 + ((num64 c : Int) - 1)) * 64 + ((num64 d : Int) - 1))) / 65536)
          omega
        · have h1 := b8_val (((((num64 a : Int) - 1) * 64 + ((num64 b : Int) - 1)) % 16 * 64 + ((num64 c : Int) - 1)) / 4)
          have h2 := b8_val (((((((num64 a : Int) - 1) * 64 + ((num64 b : Int) - 1)) * 64 + ((num64 c : Int) - 1)) * 64 + ((num64 d : Int) - 1))) / 256)
          omega
        · have h1 := b8_val ((((((num64 a : Int) - 1) * 64 + ((num64 b : Int) - 1)) % 16 * 64 + ((num64 c : Int) - 1)) % 4 * 64 + ((num64 d : Int) - 1)))
          have h2 := b8_val ((((((num64 a : Int) - 1) * 64 + ((num64 b : Int) - 1)) * 64 + ((num64 c : Int) - 1)) * 64 + ((num64 d : Int) - 1)))
          omega
end Go.Fw
set_option linter.unusedVariables false
set_option linter.unusedSimpArgs false
namespace Go.Fw
theorem xor_lc (a b c : Nat) : a ^^^ (b ^^^ c) = b ^^^ (a ^^^ c) := by rw [← Nat.xor_assoc, ← Nat.xor_assoc, Nat.xor_comm a b]
theorem xor_eq {a b : Nat} (h : a ^^^ b = 0) : a = b := by
  have := congrArg (· ^^^ b) h
  simpa [Nat.xor_assoc] using this
theorem xor_rc {a b c : Nat} (h : a ^^^ c = b ^^^ c) : a = b := by
  have := congrArg (· ^^^ c) h
  simpa [Nat.xor_assoc] using this
theorem xor_lcan {a b c : Nat} (h : c ^^^ a = c ^^^ b) : a = b := by
  rw [Nat.xor_comm c, Nat.xor_comm c] at h
  exact xor_rc h
def bitC (c : Nat) : Nat := if c % 2 = 1 then c / 2 ^^^ 3988292384 else c / 2
def bitsC : Nat → Nat → Nat
  | 0, c => c
  | n + 1, c => bitsC n (bitC c)
def byteC (c : Nat) (x : UInt8) : Nat := bitsC 8 (c ^^^ x.toNat)
def crcL (l : List UInt8) : Nat := l.foldl byteC 4294967295 ^^^ 4294967295
theorem xor_lt {a b : Nat} (ha : a < 4294967296) (hb : b < 4294967296) : a ^^^ b < 4294967296 := Nat.xor_lt_two_pow (n := 32) ha hb
theorem bitC_lt {c : Nat} (h : c < 4294967296) : bitC c < 4294967296 := by
  unfold bitC
  split
  · exact xor_lt (by omega) (by omega)
  · omega
theorem bitsC_lt : ∀ (n : Nat) {c : Nat}, c < 4294967296 → bitsC n c < 4294967296
  | 0, _, h => h
  | n + 1, _, h => bitsC_lt n (bitC_lt h)
theorem u8_lt (x : UInt8) : x.toNat < 256 := x.toNat_lt
theorem byteC_lt {c : Nat} (x : UInt8) (h : c < 4294967296) : byteC c x < 4294967296 := bitsC_lt 8 (xor_lt h (by have := u8_lt x; omega))
theorem foldC_lt : ∀ (l : List UInt8) {c : Nat}, c < 4294967296 → l.foldl byteC c < 4294967296
  | [], _, h => h
  | x :: r, _, h => foldC_lt r (byteC_lt x h)
theorem crcL_lt (l : List UInt8) : crcL l < 4294967296 := xor_lt (foldC_lt l (by omega)) (by omega)
theorem xor_half (a b : Nat) : (a ^^^ b) / 2 = a / 2 ^^^ b / 2 := by
  have := Nat.shiftRight_xor_distrib (a := a) (b := b) (i := 1)
  simpa [Nat.shiftRight_eq_div_pow] using this
theorem xor_odd (a b : Nat) : (a ^^^ b) % 2 = 1 ↔ ¬ (a % 2 = 1 ↔ b % 2 = 1) := Nat.xor_mod_two_eq_one
theorem bitC_xor (a b : Nat) : bitC (a ^^^ b) = bitC a ^^^ bitC b := by
  unfold bitC
  rw [xor_half]
  by_cases ha : a % 2 = 1
  · by_cases hb : b % 2 = 1
    · rw [if_neg (by rw [xor_odd]; simp [ha, hb]), if_pos ha, if_pos hb]
      have : a / 2 ^^^ 3988292384 ^^^ (b / 2 ^^^ 3988292384) = a / 2 ^^^ b / 2 ^^^ (3988292384 ^^^ 3988292384) := by
        rw [Nat.xor_assoc, xor_lc 3988292384, ← Nat.xor_assoc]
      rw [this, Nat.xor_self, Nat.xor_zero]
    · rw [if_pos ((xor_odd a b).2 (by simp [ha, hb])), if_pos ha, if_neg hb]
      rw [Nat.xor_assoc, Nat.xor_assoc, Nat.xor_comm (b / 2)]
  · by_cases hb : b % 2 = 1
    · rw [if_pos ((xor_odd a b).2 (by simp [ha, hb])), if_neg ha, if_pos hb, Nat.xor_assoc]
    · rw [if_neg (by rw [xor_odd]; simp [ha, hb]), if_neg ha, if_neg hb]
theorem bitsC_xor : ∀ (n a b : Nat), bitsC n (a ^^^ b) = bitsC n a ^^^ bitsC n b
  | 0, _, _ => rfl
  | n + 1, a, b => by rw [bitsC, bitsC, bitsC, bitC_xor, bitsC_xor n]
theorem bitC_zero {a : Nat} (ha : a < 4294967296) (h : bitC a = 0) : a = 0 := by
  unfold bitC at h
  split at h
  · have h1 : a / 2 = 3988292384 := xor_eq h
    omega
  · omega
theorem bitsC_zero : ∀ (n : Nat) {a : Nat}, a < 4294967296 → bitsC n a = 0 → a = 0
  | 0, _, _, h => h
  | n + 1, _, ha, h => bitC_zero ha (bitsC_zero n (bitC_lt ha) h)
theorem bitsC_inj (n : Nat) {a b : Nat} (ha : a < 4294967296) (hb : b < 4294967296) (h : bitsC n a = bitsC n b) : a = b := by
  refine xor_eq (bitsC_zero n (xor_lt ha hb) ?_)
  rw [bitsC_xor, h, Nat.xor_self]
theorem bitC_even (m : Nat) : bitC (2 * m) = m := by
  unfold bitC
  rw [if_neg (by omega)]
  omega
theorem bitsC_shift (m : Nat) : bitsC 8 (m * 256) = m := by
  have e : m * 256 = 2 * (2 * (2 * (2 * (2 * (2 * (2 * (2 * m))))))) := by omega
  rw [e]
  simp only [bitsC, bitC_even]
theorem bitsC_add : ∀ (n m c : Nat), bitsC m (bitsC n c) = bitsC (n + m) c
  | 0, m, c => by rw [Nat.zero_add]; rfl
  | n + 1, m, c => by rw [bitsC, bitsC_add n m, show n + 1 + m = (n + m) + 1 by omega]; rfl
theorem byteC_inj {c d : Nat} {x : UInt8} (hc : c < 4294967296) (hd : d < 4294967296) (h : byteC c x = byteC d x) : c = d := by
  have hx := u8_lt x
  have := bitsC_inj 8 (xor_lt hc (show x.toNat < 4294967296 by omega)) (xor_lt hd (by omega)) h
  exact xor_rc this
theorem foldC_inj : ∀ (l : List UInt8) {c d : Nat}, c < 4294967296 → d < 4294967296 → l.foldl byteC c = l.foldl byteC d → c = d
  | [], _, _, _, _, h => h
  | x :: r, _, _, hc, hd, h => byteC_inj hc hd (foldC_inj r (byteC_lt x hc) (byteC_lt x hd) h)
theorem byteC_two (c : Nat) (x y : UInt8) : byteC (byteC c x) y = bitsC 16 (c ^^^ (x.toNat ^^^ y.toNat * 256)) := by
  unfold byteC
  have e : ∀ z : Nat, bitsC 8 z ^^^ y.toNat = bitsC 8 (z ^^^ y.toNat * 256) := fun z => by rw [bitsC_xor, bitsC_shift]
  rw [e, bitsC_add, Nat.xor_assoc]
theorem low_xor {x y : Nat} (hx : x < 256) : x ^^^ y * 256 = x + y * 256 := by
  have h := Nat.shiftLeft_add_eq_or_of_lt (i := 8) (b := x) (a := y) (by simpa using hx)
  rw [Nat.shiftLeft_eq] at h
  have h2 : y * 2 ^ 8 ||| x = y * 2 ^ 8 ^^^ x := by
    refine Nat.eq_of_testBit_eq fun i => ?_
    rw [Nat.testBit_or, Nat.testBit_xor]
    by_cases hi : i < 8
    · have : (y * 2 ^ 8).testBit i = false := by
        rw [Nat.testBit_mul_two_pow]; simp; omega
      rw [this]; simp
    · have : x.testBit i = false := Nat.testBit_lt_two_pow (Nat.lt_of_lt_of_le hx (Nat.pow_le_pow_right (n := 2) (by omega) (show 8 ≤ i by omega)))
      rw [this]; simp
  have h3 : x ^^^ y * 2 ^ 8 = y * 2 ^ 8 + x := by rw [Nat.xor_comm, ← h2, ← h]
  rw [Nat.add_comm] at h3
  exact h3
theorem sum_two {pre post : List UInt8} {x y x' y' : UInt8} (h : crcL (pre ++ x :: y :: post) = crcL (pre ++ x' :: y' :: post)) : x = x' ∧ y = y' := by
  have h1 := xor_rc h
  rw [List.foldl_append, List.foldl_append, List.foldl_cons, List.foldl_cons, List.foldl_cons, List.foldl_cons] at h1
  have hp := foldC_lt pre (show 4294967295 < 4294967296 by omega)
  have h2 := foldC_inj post (byteC_lt _ (byteC_lt _ hp)) (byteC_lt _ (byteC_lt _ hp)) h1
  have hx := u8_lt x
  have hy := u8_lt y
  have hx' := u8_lt x'
  have hy' := u8_lt y'
  rw [byteC_two, byteC_two, low_xor hx, low_xor hx'] at h2
  have h3 := bitsC_inj 16 (xor_lt hp (by omega)) (xor_lt hp (by omega)) h2
  have h4 := xor_lcan h3
  exact ⟨UInt8.toNat_inj.1 (by omega), UInt8.toNat_inj.1 (by omega)⟩
theorem sum_last {pre : List UInt8} {x x' : UInt8} (h : crcL (pre ++ [x]) / 256 = crcL (pre ++ [x']) / 256) : x = x' := by
  have hp := foldC_lt pre (show 4294967295 < 4294967296 by omega)
  have hx := u8_lt x
  have hx' := u8_lt x'
  have e : ∀ z : UInt8, crcL (pre ++ [z]) = byteC (pre.foldl byteC 4294967295) z ^^^ 4294967295 := fun z => by
    unfold crcL; rw [List.foldl_append]; rfl
  rw [e, e] at h
  generalize pre.foldl byteC 4294967295 = c at h hp
  have hd : ∀ a b : Nat, (a ^^^ b) / 256 = a / 256 ^^^ b / 256 := fun a b => by
    have := Nat.shiftRight_xor_distrib (a := a) (b := b) (i := 8)
    simpa [Nat.shiftRight_eq_div_pow] using this
  rw [hd, hd] at h
  have h1 := xor_rc h
  have h2 : (byteC c x ^^^ byteC c x') / 256 = 0 := by rw [hd, h1, Nat.xor_self]
  have h3 : byteC c x ^^^ byteC c x' = bitsC 8 (x.toNat ^^^ x'.toNat) := by
    unfold byteC
    rw [← bitsC_xor]
    congr 1
    have : c ^^^ x.toNat ^^^ (c ^^^ x'.toNat) = (c ^^^ c) ^^^ (x.toNat ^^^ x'.toNat) := by
      rw [Nat.xor_assoc, xor_lc x.toNat, ← Nat.xor_assoc]
    rw [this, Nat.xor_self, Nat.zero_xor]
  rw [h3] at h2
  generalize hz : bitsC 8 (x.toNat ^^^ x'.toNat) = z at h2
  have hxx : x.toNat ^^^ x'.toNat < 256 := Nat.xor_lt_two_pow (n := 8) hx hx'
  rw [← bitsC_shift z] at hz
  have h4 := bitsC_inj 8 (by omega) (by omega) hz
  have h5 : z = 0 := by omega
  rw [h5] at h4
  exact UInt8.toNat_inj.1 (xor_eq h4)
end Go.Fw
set_option linter.unusedVariables false
set_option linter.unusedSimpArgs false
namespace Go.Fw
open Go.RowKit
theorem num_get : ∀ (l : List UInt8) (i : Nat) (c : UInt8), num l i c ≠ 0 → i < num l i c ∧ l[num l i c - 1 - i]? = some c
  | [], i, c, h => absurd rfl h
  | x :: r, i, c, h => by
    unfold num at h ⊢
    split
    · rename_i e
      subst e
      refine ⟨by omega, ?_⟩
      rw [show i + 1 - 1 - i = 0 by omega]; rfl
    · rename_i e
      rw [if_neg e] at h
      obtain ⟨h1, h2⟩ := num_get r (i + 1) c h
      refine ⟨by omega, ?_⟩
      rw [show num r (i + 1) c - 1 - i = (num r (i + 1) c - 1 - (i + 1)) + 1 by omega, List.getElem?_cons_succ]
      exact h2
theorem lt_num {c : UInt8} {p : Int} (h : ¬ num64 c = 0) (hp : p = (num64 c : Int) - 1) : lt64 p = c := by
  obtain ⟨h1, h2⟩ := num_get abc 0 c h
  subst hp
  unfold lt64
  change abc[num64 c - 1 - 0]? = some c at h2
  rw [List.getD_eq_getElem?_getD, show ((num64 c : Int) - 1).toNat = num64 c - 1 - 0 by omega, h2]
  rfl
theorem letters_bytes : ∀ (s b : List UInt8), bytes64 s = some b → letters b = s
  | [], b, h => by simp [bytes64] at h; subst h; rfl
  | [_], b, h => by simp [bytes64] at h
  | [a, c], b, h => by
    have n1 := num64_le a
    have n2 := num64_le c
    simp only [bytes64] at h
    split at h
    · cases h
    rename_i h1
    rw [not_or] at h1
    split at h
    · rename_i h2
      simp only [Option.some.injEq] at h
      subst h
      have hv := b8_val ((((num64 a : Int) - 1) * 64 + ((num64 c : Int) - 1)) / 16)
      rw [letters, lt_num h1.1 (by omega), lt_num h1.2 (by omega)]
    · cases h
  | [a, c, d], b, h => by
    have n1 := num64_le a
    have n2 := num64_le c
    have n3 := num64_le d
    simp only [bytes64] at h
    split at h
    · cases h
    rename_i h1
    rw [not_or, not_or] at h1
    split at h
    · rename_i h2
      simp only [Option.some.injEq] at h
      subst h
      have hv := b8_val (((((num64 a : Int) - 1) * 64 + ((num64 c : Int) - 1)) * 64 + ((num64 d : Int) - 1)) / 1024)
      have hw := b8_val (((((num64 a : Int) - 1) * 64 + ((num64 c : Int) - 1)) * 64 + ((num64 d : Int) - 1)) / 4)
      rw [letters, lt_num h1.1 (by omega), lt_num h1.2.1 (by omega), lt_num h1.2.2 (by omega)]
    · cases h
  | a :: c :: d :: e :: r, b, h => by
    have n1 := num64_le a
    have n2 := num64_le c
    have n3 := num64_le d
    have n4 := num64_le e
    simp only [bytes64] at h
    split at h
    · cases h
    rename_i h1
    rw [not_or, not_or, not_or] at h1
    cases hr : bytes64 r with
    | none => rw [hr] at h; cases h
    | some t =>
      rw [hr] at h
      simp only [Option.map_some, Option.some.injEq] at h
      subst h
      have ih := letters_bytes r t hr
      have hv := b8_val ((((((num64 a : Int) - 1) * 64 + ((num64 c : Int) - 1)) * 64 + ((num64 d : Int) - 1)) * 64 + ((num64 e : Int) - 1)) / 65536)
      have hw := b8_val ((((((num64 a : Int) - 1) * 64 + ((num64 c : Int) - 1)) * 64 + ((num64 d : Int) - 1)) * 64 + ((num64 e : Int) - 1)) / 256)
      have hx := b8_val (((((num64 a : Int) - 1) * 64 + ((num64 c : Int) - 1)) * 64 + ((num64 d : Int) - 1)) * 64 + ((num64 e : Int) - 1))
      rw [letters, lt_num h1.1 (by omega), lt_num h1.2.1 (by omega), lt_num h1.2.2.1 (by omega), lt_num h1.2.2.2 (by omega), ih]
def Near (b b' : List UInt8) : Prop := b.length = b'.length ∧ ∃ j, ∀ i, i ≠ j → i ≠ j + 1 → b[i]? = b'[i]?
theorem b8_cong {p q : Int} (h : p % 256 = q % 256) : b8 p = b8 q := by
  have h1 := b8_val p
  have h2 := b8_val q
  exact UInt8.toNat_inj.1 (by omega)
theorem near_three {x y z x' y' z' : UInt8} {t : List UInt8} (h : z = z' ∨ x = x') : Near (x :: y :: z :: t) (x' :: y' :: z' :: t) := by
  refine ⟨rfl, ?_⟩
  rcases h with rfl | rfl
  · refine ⟨0, fun i h1 h2 => ?_⟩
    obtain ⟨i, rfl⟩ : ∃ k, i = k + 2 := ⟨i - 2, by omega⟩
    rfl
  · refine ⟨1, fun i h1 h2 => ?_⟩
    rcases i with _ | _ | _ | i
    · rfl
    · exact absurd rfl h1
    · exact absurd rfl h2
    · rfl
theorem near_more {x y z : UInt8} {t t' : List UInt8} (h : Near t t') : Near (x :: y :: z :: t) (x :: y :: z :: t') := by
  obtain ⟨h1, j, h2⟩ := h
  refine ⟨by simp [h1], j + 3, fun i k1 k2 => ?_⟩
  rcases i with _ | _ | _ | i
  · rfl
  · rfl
  · rfl
  · exact h2 i (by omega) (by omega)
theorem bytes_turned : ∀ (s b b' : List UInt8) (k : Nat) (x : UInt8), bytes64 s = some b → bytes64 (s.set k x) = some b' → Near b b'
  | [], b, b', k, x, h, h' => by
    simp [bytes64] at h h'; subst h h'; exact ⟨rfl, 0, fun _ _ _ => rfl⟩
  | [_], b, b', k, x, h, h' => by simp [bytes64] at h
  | [a, c], b, b', k, x, h, h' => by
    have e : ∃ p q, [a, c].set k x = [p, q] := by
      rcases k with _ | _ | k <;> exact ⟨_, _, rfl⟩
    obtain ⟨p, q, e⟩ := e
    rw [e] at h'
    simp only [bytes64] at h h'
    split at h
    · cases h
    split at h
    · split at h'
      · cases h'
      split at h'
      · simp only [Option.some.injEq] at h h'
        subst h h'
        refine ⟨rfl, 0, fun i h1 h2 => ?_⟩
        obtain ⟨i, rfl⟩ : ∃ k, i = k + 2 := ⟨i - 2, by omega⟩
        rfl
      · cases h'
    · cases h
  | [a, c, d], b, b', k, x, h, h' => by
    have e : ∃ p q r, [a, c, d].set k x = [p, q, r] := by
      rcases k with _ | _ | _ | k <;> exact ⟨_, _, _, rfl⟩
    obtain ⟨p, q, r, e⟩ := e
    rw [e] at h'
    simp only [bytes64] at h h'
    split at h
    · cases h
    split at h
    · split at h'
      · cases h'
      split at h'
      · simp only [Option.some.injEq] at h h'
        subst h h'
        refine ⟨rfl, 0, fun i h1 h2 => ?_⟩
        obtain ⟨i, rfl⟩ : ∃ k, i = k + 2 := ⟨i - 2, by omega⟩
        rfl
      · cases h'
    · cases h
  | a :: c :: d :: e :: r, b, b', k, x, h, h' => by
    by_cases hk : k < 4
    · have he : ∃ a' c' d' e', (a :: c :: d :: e :: r).set k x = a' :: c' :: d' :: e' :: r ∧ ((d = d' ∧ e = e') ∨ (a = a' ∧ c = c') ) := by
        rcases k with _ | _ | _ | _ | k
        · exact ⟨_, _, _, _, rfl, .inl ⟨rfl, rfl⟩⟩
        · exact ⟨_, _, _, _, rfl, .inl ⟨rfl, rfl⟩⟩
        · exact ⟨_, _, _, _, rfl, .inr ⟨rfl, rfl⟩⟩
        · exact ⟨_, _, _, _, rfl, .inr ⟨rfl, rfl⟩⟩
        · omega
      obtain ⟨a', c', d', e', he, hd⟩ := he
      rw [he] at h'
      simp only [bytes64] at h h'
      split at h
      · cases h
      rename_i n0
      split at h'
      · cases h'
      rename_i n0'
      cases hr : bytes64 r with
      | none => rw [hr] at h; cases h
      | some t =>
        rw [hr] at h h'
        simp only [Option.map_some, Option.some.injEq] at h h'
        subst h h'
        refine near_three ?_
        have n1 := num64_le a
        have n2 := num64_le c
        have n3 := num64_le d
        have n4 := num64_le e
        have m1 := num64_le a'
        have m2 := num64_le c'
        have m3 := num64_le d'
        have m4 := num64_le e'
        rcases hd with ⟨rfl, rfl⟩ | ⟨rfl, rfl⟩
        · exact .inl (b8_cong (by omega))
        · exact .inr (b8_cong (by omega))
    · obtain ⟨k, rfl⟩ : ∃ m, k = m + 4 := ⟨k - 4, by omega⟩
      have he : (a :: c :: d :: e :: r).set (k + 4) x = a :: c :: d :: e :: r.set k x := rfl
      rw [he] at h'
      simp only [bytes64] at h h'
      split at h
      · cases h
      rename_i n0
      rw [if_neg n0] at h'
      cases hr : bytes64 r with
      | none => rw [hr] at h; cases h
      | some t =>
        cases hr' : bytes64 (r.set k x) with
        | none => rw [hr'] at h'; cases h'
        | some t' =>
          rw [hr] at h
          rw [hr'] at h'
          simp only [Option.map_some, Option.some.injEq] at h h'
          subst h h'
          exact near_more (bytes_turned r t t' k x hr hr')
theorem bytes_cut : ∀ (s b b' : List UInt8) (k : Nat), bytes64 s = some b → bytes64 (s.take k) = some b' → ∃ j, b' = b.take j
  | s, b, b', 0, h, h' => by
    simp [bytes64] at h'; subst h'; exact ⟨0, rfl⟩
  | [], b, b', k + 1, h, h' => by
    simp [bytes64] at h h'; subst h h'; exact ⟨0, rfl⟩
  | [_], b, b', k + 1, h, h' => by simp [bytes64] at h
  | [a, c], b, b', k + 1, h, h' => by
    rcases k with _ | k
    · simp [bytes64] at h'
    · have : [a, c].take (k + 1 + 1) = [a, c] := by simp
      rw [this, h] at h'
      simp only [Option.some.injEq] at h'
      exact ⟨b.length, by rw [← h', List.take_length]⟩
  | [a, c, d], b, b', k + 1, h, h' => by
    rcases k with _ | _ | k
    · simp [bytes64] at h'
    · have e : [a, c, d].take (0 + 1 + 1) = [a, c] := rfl
      rw [e] at h'
      have n1 := num64_le a
      have n2 := num64_le c
      have n3 := num64_le d
      simp only [bytes64] at h h'
      split at h
      · cases h
      rename_i n0
      split at h
      · split at h'
        · cases h'
        split at h'
        · simp only [Option.some.injEq] at h h'
          subst h h'
          refine ⟨1, ?_⟩
          simp only [List.take_succ_cons, List.take_zero]
          exact congrArg (· :: []) (b8_cong (by omega))
        · cases h'
      · cases h
    · have : [a, c, d].take (k + 1 + 1 + 1) = [a, c, d] := by simp
      rw [this, h] at h'
      simp only [Option.some.injEq] at h'
      exact ⟨b.length, by rw [← h', List.take_length]⟩
  | a :: c :: d :: e :: r, b, b', k + 1, h, h' => by
    have n1 := num64_le a
    have n2 := num64_le c
    have n3 := num64_le d
    have n4 := num64_le e
    simp only [bytes64] at h
    split at h
    · cases h
    rename_i n0
    cases hr : bytes64 r with
    | none => rw [hr] at h; cases h
    | some t =>
      rw [hr] at h
      simp only [Option.map_some, Option.some.injEq] at h
      rcases k with _ | _ | _ | k
      · simp [bytes64] at h'
      · have e2 : (a :: c :: d :: e :: r).take (0 + 1 + 1) = [a, c] := rfl
        rw [e2] at h'
        simp only [bytes64] at h'
        split at h'
        · cases h'
        split at h'
        · simp only [Option.some.injEq] at h'
          subst h h'
          refine ⟨1, ?_⟩
          simp only [List.take_succ_cons, List.take_zero]
          exact congrArg (· :: []) (b8_cong (by omega))
        · cases h'
      · have e3 : (a :: c :: d :: e :: r).take (0 + 1 + 1 + 1) = [a, c, d] := rfl
        rw [e3] at h'
        simp only [bytes64] at h'
        split at h'
        · cases h'
        split at h'
        · simp only [Option.some.injEq] at h'
          subst h h'
          refine ⟨2, ?_⟩
          simp only [List.take_succ_cons, List.take_zero]
          rw [b8_cong (p := (((((num64 a : Int) - 1) * 64 + ((num64 c : Int) - 1)) * 64 + ((num64 d : Int) - 1)) / 1024)) (q := ((((((num64 a : Int) - 1) * 64 + ((num64 c : Int) - 1)) * 64 + ((num64 d : Int) - 1)) * 64 + ((num64 e : Int) - 1)) / 65536)) (by omega),
            b8_cong (p := (((((num64 a : Int) - 1) * 64 + ((num64 c : Int) - 1)) * 64 + ((num64 d : Int) - 1)) / 4)) (q := ((((((num64 a : Int) - 1) * 64 + ((num64 c : Int) - 1)) * 64 + ((num64 d : Int) - 1)) * 64 + ((num64 e : Int) - 1)) / 256)) (by omega)]
        · cases h'
      · have e0 : (a :: c :: d :: e :: r).take (k + 1 + 1 + 1 + 1) = a :: c :: d :: e :: r.take k := rfl
        rw [e0] at h'
        simp only [bytes64] at h'
        rw [if_neg n0] at h'
        cases hr' : bytes64 (r.take k) with
        | none => rw [hr'] at h'; cases h'
        | some t' =>
          rw [hr'] at h'
          simp only [Option.map_some, Option.some.injEq] at h'
          obtain ⟨j, hj⟩ := bytes_cut r t t' k hr hr'
          subst h h'
          exact ⟨j + 3, by rw [hj]; rfl⟩
def frameL (p : List UInt8) : List UInt8 := putL [] (p.length : Int) ++ p ++ leN (crcL p) 4
def unframeL (b : List UInt8) : List UInt8 × List UInt8 × Int :=
  if (numAt b 0).2.2 = 0 then
    (if 65536 < (numAt b 0).1 then ([], [], 4)
    else if ((b.length - (numAt b 0).2.1 : Nat) : Int) < (numAt b 0).1 + 4 then ([], [], 2)
    else if leV b ((numAt b 0).2.1 + (numAt b 0).1.toNat) 4 ≠ crcL ((b.drop (numAt b 0).2.1).take (numAt b 0).1.toNat) then ([], [], 11)
    else ((b.drop (numAt b 0).2.1).take (numAt b 0).1.toNat, b.drop ((numAt b 0).2.1 + (numAt b 0).1.toNat + 4), 0))
  else ([], [], (numAt b 0).2.2)
theorem frame_num (p post : List UInt8) (h : p.length ≤ 65536) : numAt (frameL p ++ post) 0 = ((p.length : Int), (putL [] (p.length : Int)).length, 0) := by
  have e : frameL p ++ post = putL [] (p.length : Int) ++ (p ++ leN (crcL p) 4 ++ post) := by unfold frameL; simp
  rw [e]
  exact numAt_fwd (pre := []) (by omega) (by omega)
theorem frame_len (p : List UInt8) : (frameL p).length = (putL [] (p.length : Int)).length + p.length + 4 := by
  unfold frameL
  rw [List.length_append, List.length_append, leN_len]
theorem unframe_frame (p : List UInt8) (h : p.length ≤ 65536) : unframeL (frameL p) = (p, [], 0) := by
  have hn := frame_num p [] h
  rw [List.append_nil] at hn
  have hl := frame_len p
  unfold unframeL
  rw [hn]
  dsimp only
  have hd : (frameL p).drop (putL [] (p.length : Int)).length = p ++ leN (crcL p) 4 := by
    unfold frameL
    rw [List.append_assoc, List.drop_left]
  have hp : ((frameL p).drop (putL [] (p.length : Int)).length).take (p.length : Int).toNat = p := by
    rw [hd, Int.toNat_natCast, List.take_left]
  have hs : leV (frameL p) ((putL [] (p.length : Int)).length + (p.length : Int).toNat) 4 = crcL p := by
    rw [leV_fwd (p := crcL p) 4 (fun i hi => ?_), Nat.mod_eq_of_lt (crcL_lt p)]
    unfold frameL
    rw [List.getD_eq_getElem?_getD, Int.toNat_natCast, List.getElem?_append_right (by rw [List.length_append]; omega), List.length_append, show (putL [] (p.length : Int)).length + p.length + i - ((putL [] (p.length : Int)).length + p.length) = i by omega, leN_get _ _ _ hi]
    rfl
  rw [if_pos rfl, if_neg (by omega), if_neg (by omega), hp, hs, if_neg (by simp), Int.toNat_natCast, List.drop_of_length_le (by omega)]
theorem unframe_ok {b : List UInt8} (h : (unframeL b).2.2 = 0) : (unframeL b).1.length ≤ 65536 ∧ b = frameL (unframeL b).1 ++ (unframeL b).2.1 := by
  unfold unframeL at h ⊢
  split at h
  · rename_i h1
    rw [if_pos h1]
    split at h
    · simp at h
    rename_i h2
    rw [if_neg h2]
    split at h
    · simp at h
    rename_i h3
    rw [if_neg h3]
    split at h
    · simp at h
    rename_i h4
    rw [if_neg h4]
    rw [Decidable.not_not] at h4
    dsimp only
    have hv := numAt_val b 0
    have hle := numAt_le (b := b) (k := 0) (Nat.zero_le _)
    have hinv := numAt_inv h1
    rw [List.take_zero] at hinv
    have hl : ((b.drop (numAt b 0).2.1).take (numAt b 0).1.toNat).length = (numAt b 0).1.toNat := by
      rw [List.length_take, List.length_drop]; omega
    refine ⟨by omega, ?_⟩
    unfold frameL
    rw [← h4, hl, show (((numAt b 0).1.toNat : Nat) : Int) = (numAt b 0).1 by omega, ← hinv, leN_leV (by omega)]
    have e1 := take_more (b := b) (k := (numAt b 0).2.1) (j := (numAt b 0).1.toNat)
    rw [← e1]
    have e2 := take_more (b := b) (k := (numAt b 0).2.1 + (numAt b 0).1.toNat) (j := 4)
    rw [← e2, List.take_append_drop]
  · rename_i h1
    exact absurd h h1
theorem numB_mono : ∀ (k x y : Nat), x ≤ k → x ≤ y → (numB x).length ≤ (numB y).length
  | 0, x, y, hk, h => by
    rw [numB_small (by omega)]
    by_cases hy : y < 128
    · rw [numB_small hy]; simp
    · rw [numB_big hy]; simp
  | k + 1, x, y, hk, h => by
    by_cases hx : x < 128
    · rw [numB_small hx]
      by_cases hy : y < 128
      · rw [numB_small hy]; simp
      · rw [numB_big hy]; simp
    · rw [numB_big hx, numB_big (x := y) (by omega), List.length_cons, List.length_cons]
      have := numB_mono k (x / 128) (y / 128) (by omega) (by omega)
      omega
theorem put_mono {x y : Nat} (h : x ≤ y) : (putL [] (x : Int)).length ≤ (putL [] (y : Int)).length := by
  unfold putL
  simp only [List.nil_append, Int.toNat_natCast]
  exact numB_mono x x y (Nat.le_refl _) h
theorem frame_same_len {p q : List UInt8} (h : (frameL p).length = (frameL q).length) : p.length = q.length := by
  rw [frame_len, frame_len] at h
  rcases Nat.lt_trichotomy p.length q.length with h1 | h1 | h1
  · have := put_mono (Nat.le_of_lt h1); omega
  · exact h1
  · have := put_mono (Nat.le_of_lt h1); omega
theorem list_two {l : List UInt8} {j : Nat} (h : j + 1 < l.length) : ∃ x y, l = l.take j ++ x :: y :: l.drop (j + 2) := by
  refine ⟨l[j], l[j + 1], ?_⟩
  rw [← List.drop_eq_getElem_cons h, ← List.drop_eq_getElem_cons (by omega), List.take_append_drop]
theorem take_near {l m : List UInt8} {j : Nat} (h : ∀ i, i < j → l[i]? = m[i]?) : l.take j = m.take j := by
  refine List.ext_getElem? fun i => ?_
  rw [List.getElem?_take, List.getElem?_take]
  split
  · rename_i h1; exact h i h1
  · rfl
theorem drop_near {l m : List UInt8} {j : Nat} (h : ∀ i, j ≤ i → l[i]? = m[i]?) : l.drop j = m.drop j := by
  refine List.ext_getElem? fun i => ?_
  rw [List.getElem?_drop, List.getElem?_drop]
  exact h _ (by omega)
theorem sum_one {pre post : List UInt8} {x x' : UInt8} (h : crcL (pre ++ x :: post) = crcL (pre ++ x' :: post)) : x = x' := by
  have h1 := xor_rc h
  rw [List.foldl_append, List.foldl_append, List.foldl_cons, List.foldl_cons] at h1
  have hp := foldC_lt pre (show 4294967295 < 4294967296 by omega)
  have h2 := foldC_inj post (byteC_lt _ hp) (byteC_lt _ hp) h1
  have hx := u8_lt x
  have hx' := u8_lt x'
  have h3 := bitsC_inj 8 (xor_lt hp (by omega)) (xor_lt hp (by omega)) h2
  exact UInt8.toNat_inj.1 (xor_lcan h3)
theorem digit_u8 {a b : Nat} (h : some (UInt8.ofNat (a % 256)) = some (UInt8.ofNat (b % 256))) : a % 256 = b % 256 := by
  have := congrArg UInt8.toNat (Option.some.inj h)
  rw [UInt8.toNat_ofNat', UInt8.toNat_ofNat'] at this
  omega
theorem frame_near {p q : List UInt8} (h : Near (frameL p) (frameL q)) : p = q := by
  obtain ⟨hl, j, hn⟩ := h
  have hpq := frame_same_len hl
  have hH : putL [] (p.length : Int) = putL [] (q.length : Int) := by rw [hpq]
  generalize hHl : (putL [] (q.length : Int)).length = n at *
  have gp : ∀ i, i < p.length → (frameL p)[n + i]? = p[i]? := fun i hi => by
    unfold frameL
    rw [hH, List.append_assoc, List.getElem?_append_right (by omega), hHl, Nat.add_sub_cancel_left, List.getElem?_append_left hi]
  have gq : ∀ i, i < p.length → (frameL q)[n + i]? = q[i]? := fun i hi => by
    unfold frameL
    rw [List.append_assoc, List.getElem?_append_right (by omega), hHl, Nat.add_sub_cancel_left, List.getElem?_append_left (by omega)]
  have sp : ∀ i, i < 4 → (frameL p)[n + p.length + i]? = some (UInt8.ofNat (crcL p / 256 ^ i % 256)) := fun i hi => by
    unfold frameL
    rw [List.getElem?_append_right (by rw [hH, List.length_append]; omega), hH, List.length_append, hHl, Nat.add_sub_cancel_left, leN_get _ _ _ hi]
  have sq : ∀ i, i < 4 → (frameL q)[n + p.length + i]? = some (UInt8.ofNat (crcL q / 256 ^ i % 256)) := fun i hi => by
    unfold frameL
    rw [List.getElem?_append_right (by rw [List.length_append]; omega), List.length_append, hHl, hpq, Nat.add_sub_cancel_left, leN_get _ _ _ hi]
  have eq : ∀ i, i < p.length → n + i ≠ j → n + i ≠ j + 1 → p[i]? = q[i]? := fun i hi h1 h2 => by
    rw [← gp i hi, ← gq i hi]; exact hn _ h1 h2
  have eo : ∀ i, p.length ≤ i → p[i]? = q[i]? := fun i hi => by
    rw [List.getElem?_eq_none hi, List.getElem?_eq_none (by omega)]
  have dig : ∀ i, i < 4 → n + p.length + i ≠ j → n + p.length + i ≠ j + 1 → crcL p / 256 ^ i % 256 = crcL q / 256 ^ i % 256 := fun i hi h1 h2 => by
    have := hn _ h1 h2
    rw [sp i hi, sq i hi] at this
    exact digit_u8 this
  have lp := crcL_lt p
  have lq := crcL_lt q
  by_cases c1 : j + 1 < n
  · refine List.ext_getElem? fun i => ?_
    by_cases hi : i < p.length
    · exact eq i hi (by omega) (by omega)
    · exact eo i (by omega)
  by_cases c2 : n + p.length ≤ j
  · refine List.ext_getElem? fun i => ?_
    by_cases hi : i < p.length
    · exact eq i hi (by omega) (by omega)
    · exact eo i (by omega)
  by_cases c3 : j + 1 = n
  · -- the first byte alone
    have hs : crcL p = crcL q ∨ p = q := by
      by_cases hm : p.length = 0
      · right
        rw [List.length_eq_zero_iff.1 hm, List.length_eq_zero_iff.1 (by omega : q.length = 0)]
      · left
        have d0 := dig 0 (by omega) (by omega) (by omega)
        have d1 := dig 1 (by omega) (by omega) (by omega)
        have d2 := dig 2 (by omega) (by omega) (by omega)
        have d3 := dig 3 (by omega) (by omega) (by omega)
        simp only [Nat.pow_zero, Nat.div_one, Nat.reducePow] at d0 d1 d2 d3
        omega
    rcases hs with hs | hs
    · rcases p with _ | ⟨x, p⟩
      · exact (List.length_eq_zero_iff.1 hpq.symm).symm
      · rcases q with _ | ⟨y, q⟩
        · cases hpq
        · have : p = q := by
            refine List.ext_getElem? fun i => ?_
            by_cases hi : i < p.length
            · have := eq (i + 1) (by simp; omega) (by omega) (by omega)
              simpa using this
            · rw [List.getElem?_eq_none (by omega), List.getElem?_eq_none (by simp at hpq; omega)]
          subst this
          have := sum_one (pre := []) (post := p) hs
          rw [this]
    · exact hs
  obtain ⟨i0, rfl⟩ : ∃ i0, j = n + i0 := ⟨j - n, by omega⟩
  have htk : p.take i0 = q.take i0 := take_near fun i hi => by
    by_cases h1 : i < p.length
    · exact eq i h1 (by omega) (by omega)
    · exact eo i (by omega)
  have hdr : p.drop (i0 + 2) = q.drop (i0 + 2) := drop_near fun i hi => by
    by_cases h1 : i < p.length
    · exact eq i h1 (by omega) (by omega)
    · exact eo i (by omega)
  by_cases c4 : i0 + 1 < p.length
  · obtain ⟨x, y, e⟩ := list_two c4
    obtain ⟨x', y', e'⟩ := list_two (l := q) (j := i0) (by omega)
    have d0 := dig 0 (by omega) (by omega) (by omega)
    have d1 := dig 1 (by omega) (by omega) (by omega)
    have d2 := dig 2 (by omega) (by omega) (by omega)
    have d3 := dig 3 (by omega) (by omega) (by omega)
    simp only [Nat.pow_zero, Nat.div_one, Nat.reducePow] at d0 d1 d2 d3
    have hs : crcL p = crcL q := by omega
    rw [e, e', htk, hdr] at hs
    obtain ⟨h1, h2⟩ := sum_two hs
    rw [e, e', htk, hdr, h1, h2]
  · have hi0 : i0 + 1 = p.length := by omega
    have e : p = p.take i0 ++ [p[i0]'(by omega)] := by
      have h := List.take_add_one (l := p) (i := i0)
      rw [hi0, List.take_length, List.getElem?_eq_getElem (by omega)] at h
      exact h
    have e' : q = q.take i0 ++ [q[i0]'(by omega)] := by
      have h := List.take_add_one (l := q) (i := i0)
      rw [hi0, hpq, List.take_length, List.getElem?_eq_getElem (by omega)] at h
      exact h
    have d1 := dig 1 (by omega) (by omega) (by omega)
    have d2 := dig 2 (by omega) (by omega) (by omega)
    have d3 := dig 3 (by omega) (by omega) (by omega)
    simp only [Nat.reducePow] at d1 d2 d3
    have hs : crcL p / 256 = crcL q / 256 := by omega
    generalize hx : p[i0]'(by omega) = x at e
    generalize hy : q[i0]'(by omega) = y at e'
    rw [e, e', htk] at hs
    rw [e, e', htk, sum_last hs]
def readT (s : List UInt8) : Cart × Int := if s = [] then (Cart.zero, 0) else match bytes64 s with
  | none => (Cart.zero, 150)
  | some b => if (unframeL b).2.2 = 0 ∧ (unframeL b).2.1 = [] then (if (decK (unframeL b).1).2 = 0 then ((decK (unframeL b).1).1, 0) else (Cart.zero, 150)) else (Cart.zero, 150)
end Go.Fw
set_option linter.unusedVariables false
set_option linter.unusedSimpArgs false
set_option maxRecDepth 100000
set_option maxHeartbeats 4000000
namespace Go.Fw
theorem bitsC_succ : ∀ (n c : Nat), bitsC (n + 1) c = bitC (bitsC n c)
  | 0, c => rfl
  | n + 1, c => by rw [bitsC, bitsC_succ n, bitsC]
theorem wrap_u32n {n : Nat} (h : n < 4294967296) : IntKind.u32.wrap (n : Int) = (n : Int) := by
  simp only [IntKind.wrap, IntKind.signed, IntKind.bits]
  simp
  omega
theorem xorK_u32 {p q : Nat} (hp : p < 4294967296) (hq : q < 4294967296) : xorK .u32 (p : Int) (q : Int) = ((p ^^^ q : Nat) : Int) := by
  unfold xorK
  rw [ofInt_nat, ofInt_nat, BitVec.toNat_xor, BitVec.toNat_ofNat, BitVec.toNat_ofNat, show IntKind.u32.bits = 32 from rfl, Nat.mod_eq_of_lt (by omega), Nat.mod_eq_of_lt (by omega)]
  exact wrap_u32n (xor_lt hp hq)
section
variable {P : Program} {n : Nat} {K : KL} {b : Bool} {w0 : World} {L : List Chunk} {dst : Option Tmp} {ty : TypeId} {pos : String} {aft : Array Edge} {gd : Option (Nat × Bool)}
theorem ys_xor {t : TypeId} {x : Operand} {k : IntKind} {p : Int} (hx : Ev n b K x (.int k p)) : Yr P ⟨dst, .unOp .xor t x, ty, pos, aft, gd⟩ n K w0 L b (.int k (xorK k (if k.signed then -1 else k.max) p)) := fun a w hb hkn _ => by
  simp [execOp, hx a hb hkn, Op.unary, Op.intBits, xorK]
end
theorem xorK_i64 {p q : Nat} (hp : p < 4294967296) (hq : q < 4294967296) : xorK .i64 (p : Int) (q : Int) = ((p ^^^ q : Nat) : Int) := by
  have := xor_lt hp hq
  unfold xorK
  rw [ofInt_nat, ofInt_nat, BitVec.toNat_xor, BitVec.toNat_ofNat, BitVec.toNat_ofNat, show IntKind.i64.bits = 64 from rfl, Nat.mod_eq_of_lt (by omega), Nat.mod_eq_of_lt (by omega), IntKind.wrap_i64]
  omega
theorem andK_u32 {p : Nat} (hp : p < 4294967296) : andK .u32 (p : Int) 1 = ((p % 2 : Nat) : Int) := by
  unfold andK
  rw [show (1 : Int) = ((1 : Nat) : Int) from rfl, ofInt_nat, ofInt_nat, BitVec.toNat_and, BitVec.toNat_ofNat, BitVec.toNat_ofNat, show IntKind.u32.bits = 32 from rfl, Nat.mod_eq_of_lt (by omega), Nat.mod_eq_of_lt (by omega), Nat.and_one_is_mod]
  exact wrap_u32n (by omega)
theorem not_u32 {p : Nat} (hp : p < 4294967296) : xorK .u32 (if IntKind.u32.signed = true then -1 else IntKind.u32.max) ((p ^^^ 4294967295 : Nat) : Int) = (p : Int) := by
  have e : (if IntKind.u32.signed = true then -1 else IntKind.u32.max) = ((4294967295 : Nat) : Int) := by decide
  rw [e, xorK_u32 (by omega) (xor_lt hp (by omega)), Nat.xor_comm p, ← Nat.xor_assoc, Nat.xor_self, Nat.zero_xor]
theorem wrap_i64n {n : Nat} (h : n < 9223372036854775808) : IntKind.i64.wrap (n : Int) = (n : Int) := by
  rw [IntKind.wrap_i64]; omega
end Go.Fw
namespace Go.Proofs.Ytfblmkocmnbdcaa
open Go.Fw Go.Proofs Go.RowKit Go.Proofs.Try
theorem c80 (w0 : World) (v1 : Value) (l : List UInt8) (h : Sl encB 1 w0 w0.heap.size v1 l) :
    Calls Try.prog 80 #[v1] w0 fun e w' => e = .returned (.int .i64 (crcL l : Int)) ∧ Bel w0.heap.size w0 w' := by
  obtain ⟨A, cap, rfl, hl, hcap, hA⟩ := h
  refine enter1 func80 rfl ntmps80 rfl fun a S => sg S (.ac rfl <| .z) fun a w S => sg S (.ac rfl <| .z) fun a w S => wp_seq_k fun _ hK1 => sg S (.mv rfl <| .ln underlying57 rfl <| .mc rfl <| .z) fun a w S => wp_block ?_
  refine st_lpM S [3, 9] (X := Nat) (fun k => [(9, true, .int .i64 (k : Int)), (3, true, .int .u32 (((l.take k).foldl byteC 4294967295 : Nat) : Int))]) (fun _ => []) (fun k => k ≤ l.length) (fun k => l.length - k) 0 (Nat.zero_le _) ?_
  clear S
  intro k a w hk S
  have hc := foldC_lt (l.take k) (show 4294967295 < 4294967296 by omega)
  by_cases hlt : k < l.length
  · obtain ⟨g, o, x, rfl, hx, hd, hcx⟩ := row_at hA hlt
    have hx8 : x.toNat < 256 := x.toNat_lt
    have hnx : (l.take (k + 1)).foldl byteC 4294967295 = bitsC 8 ((l.take k).foldl byteC 4294967295 ^^^ x.toNat) := by
      rw [List.take_add_one, hx, Option.toList_some, List.foldl_append]; rfl
    generalize (l.take k).foldl byteC 4294967295 = c at S hc hnx
    have rw_x := xorK_u32 hc (show x.toNat < 4294967296 by omega)
    have rw_k : (k : Int) + 1 = ((k + 1 : Nat) : Int) := rfl
    have hcx0 := xor_lt hc (show x.toNat < 4294967296 by omega)
    have rw_w := wrap_u32n (show x.toNat < 4294967296 by omega)
    refine sg S (.lt (by omega) rfl rfl <| .z) fun a w S => wp_seq_k fun _ hK2 => st_then S (.t rfl) (wp_skip (then_normal (hK2 _ _ (wp_seq_k fun _ hK2 => wp_block (sg S (.ix underlying57 sizeOf5 (by omega) rfl rfl <| .yy (ys_ldO ⟨isAgg5, sizeOf5⟩ (.t rfl) (fun _ => hcx 0 _ rfl)) rfl <| .as rfl <| .z) fun a w S => wp_seq_k fun _ hK3 => wp_region_lit (run S (.mv rfl <| .mv rfl <| .yy (ys_cv underlying5 underlying158 (.t rfl)) rfl <| .z) fun a w S => ?_))))))
    rw [rw_w] at S
    refine run S (.yy (ys_bxor (.t rfl) (.t rfl)) rfl <| .z) fun a w S => ?_
    rw [rw_x] at S
    refine run S (.as rfl <| .z) fun a w S => st_nil (then_normal (hK3 _ _ (sg S (.mc rfl <| .z) fun a w S => wp_block ?_)))
    refine st_lpM S [3, 17] (X := Nat) (fun j => [(17, true, .int .i64 (j : Int)), (3, true, .int .u32 (bitsC j (c ^^^ x.toNat) : Int))]) (fun _ => []) (fun j => j ≤ 8) (fun j => 8 - j) 0 (Nat.zero_le _) ?_
    clear S
    intro j a w hj S
    have hb := bitsC_lt j hcx0
    by_cases hlt8 : j < 8
    · have hbs := bitsC_succ j (c ^^^ x.toNat)
      generalize bitsC j (c ^^^ x.toNat) = d at S hb hbs
      have rw_a := andK_u32 hb
      have rw_j : (j : Int) + 1 = ((j + 1 : Nat) : Int) := rfl
      have rw_h : (d : Int) / 2 = ((d / 2 : Nat) : Int) := rfl
      have rw_y : xorK .u32 ((d / 2 : Nat) : Int) 3988292384 = ((d / 2 ^^^ 3988292384 : Nat) : Int) := xorK_u32 (p := d / 2) (q := 3988292384) (by omega) (by omega)
      by_cases hp : d % 2 = 1
      · have rw_p : decide (((d % 2 : Nat) : Int) = 1) = true := decide_eq_true (by omega)
        rw [bitC, if_pos hp] at hbs
        refine sg S (.yy (ys_T (by omega) (ys_lss (.t rfl) Ev.c)) rfl <| .z) fun a w S => wp_seq_k fun _ hK3 => st_then S (.t rfl) (wp_skip (then_normal (hK3 _ _ (wp_seq_k fun _ hK3 => wp_block (wp_seq_k fun _ hK4 => wp_region_lit (run S (.mv rfl <| .yy (ys_band (.t rfl) Ev.c) rfl <| .z) fun a w S => ?_))))))
        rw [rw_a] at S
        refine run S (.as rfl <| .z) fun a w S => st_nil (then_normal (hK4 _ _ (wp_seq_k fun _ hK4 => wp_region_lit (run S (.mv rfl <| .yy (ys_shrC (m := 1) (c := 2) (.t rfl) Ev.c rfl rfl) rfl <| .z) fun a w S => ?_))))
        rw [rw_h] at S
        refine run S (.as rfl <| .z) fun a w S => st_nil (then_normal (hK4 _ _ (sg S (.mv rfl <| .yy (ys_T (by omega) (ys_eql (.t rfl) Ev.c)) rfl <| .z) fun a w S => st_then S (.t rfl) (wp_region_lit (run S (.mv rfl <| .yy (ys_bxor (.t rfl) Ev.c) rfl <| .z) fun a w S => ?_)))))
        rw [rw_y] at S
        refine run S (.as rfl <| .z) fun a w S => st_nil (in_normal (then_normal (hK3 _ _ (wp_region_lit (run S (.ad (by unfold I64; omega) rfl <| .z) fun a w S => ?_)))))
        rw [rw_j] at S
        refine run S (.mv rfl <| .z) fun a w S => st_nil (then_normal ?_)
        exact ⟨j + 1, by omega, by omega, by rw [hbs]; exact S.pk⟩
      · have rw_p : decide (((d % 2 : Nat) : Int) = 1) = false := decide_eq_false (by omega)
        rw [bitC, if_neg hp] at hbs
        refine sg S (.yy (ys_T (by omega) (ys_lss (.t rfl) Ev.c)) rfl <| .z) fun a w S => wp_seq_k fun _ hK3 => st_then S (.t rfl) (wp_skip (then_normal (hK3 _ _ (wp_seq_k fun _ hK3 => wp_block (wp_seq_k fun _ hK4 => wp_region_lit (run S (.mv rfl <| .yy (ys_band (.t rfl) Ev.c) rfl <| .z) fun a w S => ?_))))))
        rw [rw_a] at S
        refine run S (.as rfl <| .z) fun a w S => st_nil (then_normal (hK4 _ _ (wp_seq_k fun _ hK4 => wp_region_lit (run S (.mv rfl <| .yy (ys_shrC (m := 1) (c := 2) (.t rfl) Ev.c rfl rfl) rfl <| .z) fun a w S => ?_))))
        rw [rw_h] at S
        refine run S (.as rfl <| .z) fun a w S => st_nil (then_normal (hK4 _ _ (sg S (.mv rfl <| .yy (ys_F (by omega) (ys_eql (.t rfl) Ev.c)) rfl <| .z) fun a w S => st_else S (.t rfl) (wp_skip (in_normal (then_normal (hK3 _ _ (wp_region_lit (run S (.ad (by unfold I64; omega) rfl <| .z) fun a w S => ?_)))))))))
        rw [rw_j] at S
        refine run S (.mv rfl <| .z) fun a w S => st_nil (then_normal ?_)
        exact ⟨j + 1, by omega, by omega, by rw [hbs]; exact S.pk⟩
    obtain rfl : j = 8 := by omega
    refine sg S (.yy (ys_F (by omega) (ys_lss (.t rfl) Ev.c)) rfl <| .z) fun a w S => wp_seq_k fun _ hK3 => st_else S (.t rfl) (wp_exit (then_exit (then_exit (in_here (in_normal (then_normal (hK2 _ _ (wp_region_lit (run S (.ad (by unfold I64; omega) rfl <| .z) fun a w S => ?_)))))))))
    rw [rw_k] at S
    refine run S (.mv rfl <| .z) fun a w S => st_nil (then_normal ?_)
    exact ⟨k + 1, by omega, by omega, by rw [hnx]; exact S.pk⟩
  have hrl : ((l.take k).foldl byteC 4294967295 : Nat) = crcL l ^^^ 4294967295 := by
    rw [show k = l.length by omega, List.take_length]
    unfold crcL
    rw [Nat.xor_assoc, Nat.xor_self, Nat.xor_zero]
  rw [hrl] at S
  have rw_n := not_u32 (crcL_lt l)
  have rw_w := wrap_i64n (n := crcL l) (by have := crcL_lt l; omega)
  refine sg S (.ge (by omega) rfl rfl <| .z) fun a w S => wp_seq_k fun _ hK2 => st_else S (.t rfl) (wp_exit (then_exit (then_exit (in_here (then_normal (hK1 _ _ (wp_seq_k fun _ hK1 => wp_region_lit (run S (.mv rfl <| .yy (ys_xor (.t rfl)) rfl <| .z) fun a w S => ?_))))))))
  rw [rw_n] at S
  refine run S (.yy (ys_cv underlying158 underlying3 (.t rfl)) rfl <| .z) fun a w S => ?_
  rw [rw_w] at S
  refine run S (.as rfl <| .z) fun a w S => st_nil (then_normal (hK1 _ _ (wp_ret (st_ret S (results1 S results80 (Rv.tmp rfl)) ?_))))
  exact ⟨rfl, S.wd.below⟩
theorem c86 (w0 : World) (v1 : Value) (l : List UInt8) (h : Sl encB 1 w0 w0.heap.size v1 l) :
    Calls Try.prog 86 #[v1] w0 fun e w' => e = .returned (.int .i64 (crcL l : Int)) ∧ Bel w0.heap.size w0 w' := by
  obtain ⟨A, cap, rfl, hl, hcap, hA⟩ := h
  refine enter1 func86 rfl ntmps86 rfl fun a S => sg S (.ac rfl <| .z) fun a w S => sg S (.ac rfl <| .z) fun a w S => wp_seq_k fun _ hK1 => sg S (.mv rfl <| .ln underlying57 rfl <| .mc rfl <| .z) fun a w S => wp_block ?_
  refine st_lpM S [3, 9] (X := Nat) (fun k => [(9, true, .int .i64 (k : Int)), (3, true, .int .i64 (((l.take k).foldl byteC 4294967295 : Nat) : Int))]) (fun _ => []) (fun k => k ≤ l.length) (fun k => l.length - k) 0 (Nat.zero_le _) ?_
  clear S
  intro k a w hk S
  have hc := foldC_lt (l.take k) (show 4294967295 < 4294967296 by omega)
  by_cases hlt : k < l.length
  · obtain ⟨g, o, x, rfl, hx, hd, hcx⟩ := row_at hA hlt
    have hx8 : x.toNat < 256 := x.toNat_lt
    have hnx : (l.take (k + 1)).foldl byteC 4294967295 = bitsC 8 ((l.take k).foldl byteC 4294967295 ^^^ x.toNat) := by
      rw [List.take_add_one, hx, Option.toList_some, List.foldl_append]; rfl
    generalize (l.take k).foldl byteC 4294967295 = c at S hc hnx
    have rw_x := xorK_i64 hc (show x.toNat < 4294967296 by omega)
    have rw_k : (k : Int) + 1 = ((k + 1 : Nat) : Int) := rfl
    have hcx0 := xor_lt hc (show x.toNat < 4294967296 by omega)
    refine sg S (.lt (by omega) rfl rfl <| .z) fun a w S => wp_seq_k fun _ hK2 => st_then S (.t rfl) (wp_skip (then_normal (hK2 _ _ (wp_seq_k fun _ hK2 => wp_block (sg S (.ix underlying57 sizeOf5 (by omega) rfl rfl <| .yy (ys_ldO ⟨isAgg5, sizeOf5⟩ (.t rfl) (fun _ => hcx 0 _ rfl)) rfl <| .as rfl <| .z) fun a w S => wp_seq_k fun _ hK3 => wp_region_lit (run S (.mv rfl <| .mv rfl <| .yy (ys_cvI underlying5 underlying3 (.t rfl) (fun _ => by unfold I64; omega)) rfl <| .yy (ys_bxor (.t rfl) (.t rfl)) rfl <| .z) fun a w S => ?_))))))
    rw [rw_x] at S
    refine run S (.as rfl <| .z) fun a w S => st_nil (then_normal (hK3 _ _ (sg S (.mc rfl <| .z) fun a w S => wp_block ?_)))
    refine st_lpM S [3, 17] (X := Nat) (fun j => [(17, true, .int .i64 (j : Int)), (3, true, .int .i64 (bitsC j (c ^^^ x.toNat) : Int))]) (fun _ => []) (fun j => j ≤ 8) (fun j => 8 - j) 0 (Nat.zero_le _) ?_
    clear S
    intro j a w hj S
    have hb := bitsC_lt j hcx0
    by_cases hlt8 : j < 8
    · have hbs := bitsC_succ j (c ^^^ x.toNat)
      generalize bitsC j (c ^^^ x.toNat) = d at S hb hbs
      have rw_j : (j : Int) + 1 = ((j + 1 : Nat) : Int) := rfl
      have rw_h : (d : Int) / 2 = ((d / 2 : Nat) : Int) := rfl
      have rw_y : xorK .i64 ((d / 2 : Nat) : Int) 3988292384 = ((d / 2 ^^^ 3988292384 : Nat) : Int) := xorK_i64 (p := d / 2) (q := 3988292384) (by omega) (by omega)
      by_cases hp : d % 2 = 1
      · have rw_p : decide (((d % 2 : Nat) : Int) = 1) = true := decide_eq_true (by omega)
        rw [bitC, if_pos hp] at hbs
        refine sg S (.yy (ys_T (by omega) (ys_lss (.t rfl) Ev.c)) rfl <| .z) fun a w S => wp_seq_k fun _ hK3 => st_then S (.t rfl) (wp_skip (then_normal (hK3 _ _ (wp_seq_k fun _ hK3 => wp_block (sg S (.mv rfl <| .yy (ys_remE (.t rfl) Ev.c (fun _ => by omega)) rfl <| .yy (ys_T (by omega) (ys_eql (.t rfl) Ev.c)) rfl <| .as rfl <| .z) fun a w S => wp_seq_k fun _ hK4 => wp_region_lit (run S (.mv rfl <| .yy (ys_quoE (.t rfl) Ev.c (fun _ => by omega)) rfl <| .z) fun a w S => ?_))))))
        rw [rw_h] at S
        refine run S (.as rfl <| .z) fun a w S => st_nil (then_normal (hK4 _ _ (sg S (.mv rfl <| .z) fun a w S => st_then S (.t rfl) (wp_region_lit (run S (.mv rfl <| .yy (ys_bxor (.t rfl) Ev.c) rfl <| .z) fun a w S => ?_)))))
        rw [rw_y] at S
        refine run S (.as rfl <| .z) fun a w S => st_nil (in_normal (then_normal (hK3 _ _ (wp_region_lit (run S (.ad (by unfold I64; omega) rfl <| .z) fun a w S => ?_)))))
        rw [rw_j] at S
        refine run S (.mv rfl <| .z) fun a w S => st_nil (then_normal ?_)
        exact ⟨j + 1, by omega, by omega, by rw [hbs]; exact S.pk⟩
      · have rw_p : decide (((d % 2 : Nat) : Int) = 1) = false := decide_eq_false (by omega)
        rw [bitC, if_neg hp] at hbs
        refine sg S (.yy (ys_T (by omega) (ys_lss (.t rfl) Ev.c)) rfl <| .z) fun a w S => wp_seq_k fun _ hK3 => st_then S (.t rfl) (wp_skip (then_normal (hK3 _ _ (wp_seq_k fun _ hK3 => wp_block (sg S (.mv rfl <| .yy (ys_remE (.t rfl) Ev.c (fun _ => by omega)) rfl <| .yy (ys_F (by omega) (ys_eql (.t rfl) Ev.c)) rfl <| .as rfl <| .z) fun a w S => wp_seq_k fun _ hK4 => wp_region_lit (run S (.mv rfl <| .yy (ys_quoE (.t rfl) Ev.c (fun _ => by omega)) rfl <| .z) fun a w S => ?_))))))
        rw [rw_h] at S
        refine run S (.as rfl <| .z) fun a w S => st_nil (then_normal (hK4 _ _ (sg S (.mv rfl <| .z) fun a w S => st_else S (.t rfl) (wp_skip (in_normal (then_normal (hK3 _ _ (wp_region_lit (run S (.ad (by unfold I64; omega) rfl <| .z) fun a w S => ?_)))))))))
        rw [rw_j] at S
        refine run S (.mv rfl <| .z) fun a w S => st_nil (then_normal ?_)
        exact ⟨j + 1, by omega, by omega, by rw [hbs]; exact S.pk⟩
    obtain rfl : j = 8 := by omega
    refine sg S (.yy (ys_F (by omega) (ys_lss (.t rfl) Ev.c)) rfl <| .z) fun a w S => wp_seq_k fun _ hK3 => st_else S (.t rfl) (wp_exit (then_exit (then_exit (in_here (in_normal (then_normal (hK2 _ _ (wp_region_lit (run S (.ad (by unfold I64; omega) rfl <| .z) fun a w S => ?_)))))))))
    rw [rw_k] at S
    refine run S (.mv rfl <| .z) fun a w S => st_nil (then_normal ?_)
    exact ⟨k + 1, by omega, by omega, by rw [hnx]; exact S.pk⟩
  have hrl : ((l.take k).foldl byteC 4294967295 : Nat) = crcL l ^^^ 4294967295 := by
    rw [show k = l.length by omega, List.take_length]
    unfold crcL
    rw [Nat.xor_assoc, Nat.xor_self, Nat.xor_zero]
  rw [hrl] at S
  have hcl := crcL_lt l
  have rw_n : xorK .i64 ((crcL l ^^^ 4294967295 : Nat) : Int) 4294967295 = (crcL l : Int) := by
    rw [show (4294967295 : Int) = ((4294967295 : Nat) : Int) from rfl, xorK_i64 (xor_lt hcl (by omega)) (by omega), Nat.xor_assoc, Nat.xor_self, Nat.xor_zero]
  refine sg S (.ge (by omega) rfl rfl <| .z) fun a w S => wp_seq_k fun _ hK2 => st_else S (.t rfl) (wp_exit (then_exit (then_exit (in_here (then_normal (hK1 _ _ (wp_seq_k fun _ hK1 => wp_region_lit (run S (.mv rfl <| .yy (ys_bxor (.t rfl) Ev.c) rfl <| .z) fun a w S => ?_))))))))
  rw [rw_n] at S
  refine run S (.as rfl <| .z) fun a w S => st_nil (then_normal (hK1 _ _ (wp_ret (st_ret S (results1 S results86 (Rv.tmp rfl)) ?_))))
  exact ⟨rfl, S.wd.below⟩
end Go.Proofs.Ytfblmkocmnbdcaa
set_option linter.unusedVariables false
set_option linter.unusedSimpArgs false
set_option maxRecDepth 100000
namespace Go.Proofs.Ytfblmkocmnbdcaa
open Go.Fw Go.Proofs Go.RowKit Go.Proofs.Try
theorem letters_len : ∀ l : List UInt8, (letters l).length ≤ 2 * l.length
  | [] => by simp [letters]
  | [a] => by simp [letters]
  | [a, b] => by simp [letters]
  | a :: b :: c :: r => by have := letters_len r; simp [letters]; omega
theorem tab2 {p1 p2 q1 q2 : Int} {r : List Value} (h1 : q1 = p1) (h2 : q2 = p2) : [lt64 q1, lt64 q2].flatMap encB = ((Value.int .u8 ((abc.getD p1.toNat 0).toNat : Int)) :: (Value.int .u8 ((abc.getD p2.toNat 0).toNat : Int)) :: r).take (2 * 1) := by subst h1 h2; rfl
theorem tab3 {p1 p2 p3 q1 q2 q3 : Int} {r : List Value} (h1 : q1 = p1) (h2 : q2 = p2) (h3 : q3 = p3) : [lt64 q1, lt64 q2, lt64 q3].flatMap encB = ((Value.int .u8 ((abc.getD p1.toNat 0).toNat : Int)) :: (Value.int .u8 ((abc.getD p2.toNat 0).toNat : Int)) :: (Value.int .u8 ((abc.getD p3.toNat 0).toNat : Int)) :: r).take (3 * 1) := by subst h1 h2 h3; rfl
theorem tab4 {p1 p2 p3 p4 q1 q2 q3 q4 : Int} {r : List Value} (h1 : q1 = p1) (h2 : q2 = p2) (h3 : q3 = p3) (h4 : q4 = p4) : [lt64 q1, lt64 q2, lt64 q3, lt64 q4].flatMap encB = ((Value.int .u8 ((abc.getD p1.toNat 0).toNat : Int)) :: (Value.int .u8 ((abc.getD p2.toNat 0).toNat : Int)) :: (Value.int .u8 ((abc.getD p3.toNat 0).toNat : Int)) :: (Value.int .u8 ((abc.getD p4.toNat 0).toNat : Int)) :: r).take (4 * 1) := by subst h1 h2 h3 h4; rfl
theorem c39 (w0 : World) (v1 : Value) (l : List UInt8) (h : Sl encB 1 w0 w0.heap.size v1 l) (hn : l.length ≤ 4194304) :
    Calls Try.prog 39 #[v1] w0 fun e w' => e = .returned (.string (bs (letters l))) ∧ Bel w0.heap.size w0 w' := by
  obtain ⟨A, cap, rfl, hl, hcap, hA⟩ := id h
  refine enter1 func39 rfl ntmps39 rfl fun a S => sg S (.ac rfl <| .z) fun a w S => sg S (.ac rfl <| .z) fun a w S => wp_seq_k fun _ hK1 => wp_block ?_
  refine st_lpK (S.nil_ 5 1 encB none) (X := (Option Addr × Nat × Nat) × List UInt8 × List UInt8 × Option Addr × Nat) (fun q => [(0, true, .slice q.1.1 q.1.2.1 q.1.2.2), (3, true, .slice q.2.2.2.1 q.2.2.1.length q.2.2.2.2)])
    (fun q _ => [rowOf 5 1 encB q.2.2.2.1 q.2.2.2.2 q.2.2.1])
    (fun q => (Sl encB 1 w0 w0.heap.size (.slice q.1.1 q.1.2.1 q.1.2.2) q.2.1) ∧ q.2.2.1 ++ letters q.2.1 = letters l) (fun q => q.2.1.length) ((A, l.length, cap), l, [], none, 0) ⟨h, rfl⟩ ?_
  clear S h hA hl hcap
  intro ⟨⟨A, nm, cap⟩, m, out, B, cB⟩ a w ⟨h, hno⟩ S
  dsimp only at h hno S
  obtain ⟨A', cap', hv, hl, hcap, hA⟩ := id h
  simp only [Value.slice.injEq, true_and] at hv
  obtain ⟨rfl, rfl, rfl⟩ := hv
  have hout : out.length ≤ 8388608 := by have := letters_len l; rw [← hno] at this; simp at this; omega
  have key : m = [] ∨ (∃ a1, m = [a1]) ∨ (∃ a1 b1, m = [a1, b1]) ∨ ∃ a1 b1 c1 r, m = a1 :: b1 :: c1 :: r := by
    rcases m with _ | ⟨a1, _ | ⟨b1, _ | ⟨c1, r⟩⟩⟩ <;> simp
  rcases key with hm | ⟨a1, hm⟩ | ⟨a1, b1, hm⟩ | ⟨a1, b1, c1, r, hm⟩
  · have hl0 : m.length = 0 := by rw [hm]; rfl
    refine wp_seq_k fun _ hK2 => sg S (.mv rfl <| .ln underlying57 rfl <| .yy (ys_F (by omega) (ys_gtr (.t rfl) Ev.c)) rfl <| .z) fun a w S => st_else S (.t rfl) (wp_exit (then_exit (then_exit (in_here (then_normal (hK1 _ _ (sg S (.mv rfl <| .yy (ys_str underlying57 underlying5 underlying9 (.t rfl) (fun _ w W => by first | exact Sl.old W (by assumption) | exact Sl.of_own W (k := 0) rfl (fun _ => rfl))) rfl <| .as rfl <| .z) fun a w S => wp_ret (st_ret S (results1 S results39 (Rv.tmp rfl)) ?_))))))))
    rw [hm] at hno
    simp [letters] at hno
    subst hno
    exact ⟨rfl, S.wd.below⟩
  · have hl0 : m.length = 1 := by rw [hm]; rfl
    have ha1 := u8lt a1
    refine wp_seq_k fun _ hK2 => sg S (.mv rfl <| .ln underlying57 rfl <| .yy (ys_T (by omega) (ys_gtr (.t rfl) Ev.c)) rfl <| .z) fun a w S => st_then S (.t rfl) (wp_skip (then_normal (hK2 _ _ (wp_block (wp_seq_k fun _ hK2 => wp_region_lit (st_m (op_alloc S zeroValue127 (cs := _) rfl rfl fun g1 a w S => st_nil (then_normal (hK2 _ _ (wp_seq_k fun _ hK2 => wp_region_lit (run S (.yy (ys_arr (t1 := 0) underlying127 sizeOf5 (.t rfl)) rfl <| .mv rfl <| .z) fun a w S => st_m (op_copyBS (m := 1) [.int .u8 (a1.toNat : Int)] [.int .u8 (a1.toNat : Int), .int .u8 0, .int .u8 0] S underlying57 sizeOf5 (.t rfl) (.t rfl) (k := 0) rfl h (Nat.le_refl _) rfl encB_len (by omega) (by rw [hm]; rfl) rfl (by simp) (by simp [Value.oneCell']) rfl ?_))))))))))))
    clear S
    intro a w S
    refine run S (.as rfl <| .z) fun a w S => st_nil (then_normal (hK2 _ _ (sg S (.yy (ys_ixA (j := 0) underlying127 sizeOf5 (.t rfl) Ev.c (fun _ => by decide)) rfl <| .ld gt5 0 rfl rfl rfl <| .yy (ys_cvI underlying5 underlying3 (.t rfl) (fun _ => by unfold I64; omega)) rfl <| .yy (ys_shlC (m := 16) (c := 65536) (.t rfl) Ev.c rfl rfl (fun _ => by unfold I64; omega)) rfl <| .yy (ys_ixA (j := 1) underlying127 sizeOf5 (.t rfl) Ev.c (fun _ => by decide)) rfl <| .ld gt5 0 rfl rfl rfl <| .yy (ys_cvI underlying5 underlying3 (.t rfl) (fun _ => by unfold I64; omega)) rfl <| .yy (ys_shlC (m := 8) (c := 256) (.t rfl) Ev.c rfl rfl (fun _ => by unfold I64; omega)) rfl <| .yy (ys_orA 8 (c := 256) (.t rfl) (.t rfl) rfl rfl (fun _ => by omega)) rfl <| .yy (ys_ixA (j := 2) underlying127 sizeOf5 (.t rfl) Ev.c (fun _ => by decide)) rfl <| .ld gt5 0 rfl rfl rfl <| .yy (ys_cvI underlying5 underlying3 (.t rfl) (fun _ => by unfold I64; omega)) rfl <| .yy (ys_orA 8 (c := 256) (.t rfl) (.t rfl) rfl rfl (fun _ => by omega)) rfl <| .as rfl <| .z) fun a w S => wp_seq_k fun _ hK2 => h_begin0 S (by kernel_rfl) fun a w S => hy 0 S rfl (ys_move (.t rfl)) rfl fun a w S => ?_)))
    refine hy 1 S rfl (ys_shrC (m := 18) (c := 262144) (.t rfl) Ev.c rfl rfl) rfl fun a w S => hy 2 S rfl (ys_ixTab (l := abc) underlying9 Ev.c (.t rfl) (fun _ => by have := abcN; omega)) rfl fun a w S => hy 3 S rfl (ys_move (.t rfl)) rfl fun a w S => hy 4 S rfl (ys_shrC (m := 12) (c := 4096) (.t rfl) Ev.c rfl rfl) rfl fun a w S => hy 5 S rfl (ys_andM 6 (c := 64) (.t rfl) Ev.c rfl rfl rfl (fun _ => by omega)) rfl fun a w S => ?_
    refine hy 6 S rfl (ys_ixTab (l := abc) underlying9 Ev.c (.t rfl) (fun _ => by have := abcN; omega)) rfl fun a w S => hy 7 S rfl (ys_move (.t rfl)) rfl fun a w S => hy 8 S rfl (ys_shrC (m := 6) (c := 64) (.t rfl) Ev.c rfl rfl) rfl fun a w S => hy 9 S rfl (ys_andM 6 (c := 64) (.t rfl) Ev.c rfl rfl rfl (fun _ => by omega)) rfl fun a w S => hy 10 S rfl (ys_ixTab (l := abc) underlying9 Ev.c (.t rfl) (fun _ => by have := abcN; omega)) rfl fun a w S => ?_
    refine hy 11 S rfl (ys_move (.t rfl)) rfl fun a w S => hy 12 S rfl (ys_andM 6 (c := 64) (.t rfl) Ev.c rfl rfl rfl (fun _ => by omega)) rfl fun a w S => hy 13 S rfl (ys_ixTab (l := abc) underlying9 Ev.c (.t rfl) (fun _ => by have := abcN; omega)) rfl fun a w S => hy 14 S rfl (ys_bldA (ps := [(0, Go.Operand.tmp 29), (1, Go.Operand.tmp 33), (2, Go.Operand.tmp 37), (3, Go.Operand.tmp 40)]) (us := [_, _, _, _]) ⟨⟨_, zeroValue128, rfl⟩, _, _, underlying128, sizeOf5⟩ (.cons (.t rfl) (.cons (.t rfl) (.cons (.t rfl) (.cons (.t rfl) .nil)))) rfl) rfl fun a w S => ?_
    (refine h_m (i := 15) rfl (by kernel_rfl) (op_alloc S zeroValue128 (cs := _) rfl rfl ?_); clear S a w; intro g2 a w S; refine h_n1 S ?_)
    (refine h_m0 (i := 16) rfl (by kernel_rfl) (op_stW S sizeOf128 (.t rfl) (.t rfl) (k := 0) rfl rfl rfl (by simp [Value.oneCell']) ?_); clear S a w; intro a w S; refine h_n1 S ?_)
    refine h_done (by kernel_rfl) (then_normal (hK2 _ _ (wp_seq_k fun _ hK2 => wp_region_lit (run S (.mv rfl <| .mv rfl <| .ad (by unfold I64; omega) rfl <| .yy (ys_arrHi underlying128 sizeOf5 (.t rfl) (.t rfl) (fun _ => by first | omega | (simp; done) | (simp; omega))) rfl <| .z) fun a w S => ?_))))
    refine st_m (op_extend [lt64 ((a1.toNat : Int) / 4), lt64 ((a1.toNat : Int) % 4 * 16)] S underlying57 underlying57 (.inr ⟨_, rfl⟩) inf5 rfl (k := 2) rfl (.t rfl) (.t rfl)
      (Src.blkN S.wd (k := 0) rfl (tab2 (by omega) (by omega)) (by simp) (by simp [Value.oneCell'])) (by simp; omega) rfl rfl rfl ?_)
    clear S
    intro B' cB' a w S
    refine run S (.as rfl <| .z) fun a w S => st_nil (then_normal (hK2 _ _ (wp_region_lit (run S (.mv rfl <| .mv rfl <| .yy (ys_slLo underlying57 sizeOf5 (.t rfl) (.t rfl) (fun _ => by first | omega | (simp; done) | (simp; omega))) rfl <| .as rfl <| .z) fun a w S => st_nil (in_normal (then_normal ?_))))))
    refine ⟨((_, m.length - 1, _), [], out ++ [lt64 ((a1.toNat : Int) / 4), lt64 ((a1.toNat : Int) % 4 * 16)], B', cB'), ⟨by have := Sl.drop_ h 1 (by omega); rw [List.length_drop, hm] at this; rw [hm]; exact this, ?_⟩, by simp [hm], S.wk⟩
    rw [← hno, hm]; simp [letters]
  · have hl0 : m.length = 2 := by rw [hm]; rfl
    have ha1 := u8lt a1
    have hb1 := u8lt b1
    refine wp_seq_k fun _ hK2 => sg S (.mv rfl <| .ln underlying57 rfl <| .yy (ys_T (by omega) (ys_gtr (.t rfl) Ev.c)) rfl <| .z) fun a w S => st_then S (.t rfl) (wp_skip (then_normal (hK2 _ _ (wp_block (wp_seq_k fun _ hK2 => wp_region_lit (st_m (op_alloc S zeroValue127 (cs := _) rfl rfl fun g1 a w S => st_nil (then_normal (hK2 _ _ (wp_seq_k fun _ hK2 => wp_region_lit (run S (.yy (ys_arr (t1 := 0) underlying127 sizeOf5 (.t rfl)) rfl <| .mv rfl <| .z) fun a w S => st_m (op_copyBS (m := 2) [.int .u8 (a1.toNat : Int), .int .u8 (b1.toNat : Int)] [.int .u8 (a1.toNat : Int), .int .u8 (b1.toNat : Int), .int .u8 0] S underlying57 sizeOf5 (.t rfl) (.t rfl) (k := 0) rfl h (Nat.le_refl _) rfl encB_len (by omega) (by rw [hm]; rfl) rfl (by simp) (by simp [Value.oneCell']) rfl ?_))))))))))))
    clear S
    intro a w S
    refine run S (.as rfl <| .z) fun a w S => st_nil (then_normal (hK2 _ _ (sg S (.yy (ys_ixA (j := 0) underlying127 sizeOf5 (.t rfl) Ev.c (fun _ => by decide)) rfl <| .ld gt5 0 rfl rfl rfl <| .yy (ys_cvI underlying5 underlying3 (.t rfl) (fun _ => by unfold I64; omega)) rfl <| .yy (ys_shlC (m := 16) (c := 65536) (.t rfl) Ev.c rfl rfl (fun _ => by unfold I64; omega)) rfl <| .yy (ys_ixA (j := 1) underlying127 sizeOf5 (.t rfl) Ev.c (fun _ => by decide)) rfl <| .ld gt5 0 rfl rfl rfl <| .yy (ys_cvI underlying5 underlying3 (.t rfl) (fun _ => by unfold I64; omega)) rfl <| .yy (ys_shlC (m := 8) (c := 256) (.t rfl) Ev.c rfl rfl (fun _ => by unfold I64; omega)) rfl <| .yy (ys_orA 16 (c := 65536) (.t rfl) (.t rfl) rfl rfl (fun _ => by omega)) rfl <| .yy (ys_ixA (j := 2) underlying127 sizeOf5 (.t rfl) Ev.c (fun _ => by decide)) rfl <| .ld gt5 0 rfl rfl rfl <| .yy (ys_cvI underlying5 underlying3 (.t rfl) (fun _ => by unfold I64; omega)) rfl <| .yy (ys_orA 8 (c := 256) (.t rfl) (.t rfl) rfl rfl (fun _ => by omega)) rfl <| .as rfl <| .z) fun a w S => wp_seq_k fun _ hK2 => h_begin0 S (by kernel_rfl) fun a w S => hy 0 S rfl (ys_move (.t rfl)) rfl fun a w S => ?_)))
    refine hy 1 S rfl (ys_shrC (m := 18) (c := 262144) (.t rfl) Ev.c rfl rfl) rfl fun a w S => hy 2 S rfl (ys_ixTab (l := abc) underlying9 Ev.c (.t rfl) (fun _ => by have := abcN; omega)) rfl fun a w S => hy 3 S rfl (ys_move (.t rfl)) rfl fun a w S => hy 4 S rfl (ys_shrC (m := 12) (c := 4096) (.t rfl) Ev.c rfl rfl) rfl fun a w S => hy 5 S rfl (ys_andM 6 (c := 64) (.t rfl) Ev.c rfl rfl rfl (fun _ => by omega)) rfl fun a w S => ?_
    refine hy 6 S rfl (ys_ixTab (l := abc) underlying9 Ev.c (.t rfl) (fun _ => by have := abcN; omega)) rfl fun a w S => hy 7 S rfl (ys_move (.t rfl)) rfl fun a w S => hy 8 S rfl (ys_shrC (m := 6) (c := 64) (.t rfl) Ev.c rfl rfl) rfl fun a w S => hy 9 S rfl (ys_andM 6 (c := 64) (.t rfl) Ev.c rfl rfl rfl (fun _ => by omega)) rfl fun a w S => hy 10 S rfl (ys_ixTab (l := abc) underlying9 Ev.c (.t rfl) (fun _ => by have := abcN; omega)) rfl fun a w S => ?_
    refine hy 11 S rfl (ys_move (.t rfl)) rfl fun a w S => hy 12 S rfl (ys_andM 6 (c := 64) (.t rfl) Ev.c rfl rfl rfl (fun _ => by omega)) rfl fun a w S => hy 13 S rfl (ys_ixTab (l := abc) underlying9 Ev.c (.t rfl) (fun _ => by have := abcN; omega)) rfl fun a w S => hy 14 S rfl (ys_bldA (ps := [(0, Go.Operand.tmp 29), (1, Go.Operand.tmp 33), (2, Go.Operand.tmp 37), (3, Go.Operand.tmp 40)]) (us := [_, _, _, _]) ⟨⟨_, zeroValue128, rfl⟩, _, _, underlying128, sizeOf5⟩ (.cons (.t rfl) (.cons (.t rfl) (.cons (.t rfl) (.cons (.t rfl) .nil)))) rfl) rfl fun a w S => ?_
    (refine h_m (i := 15) rfl (by kernel_rfl) (op_alloc S zeroValue128 (cs := _) rfl rfl ?_); clear S a w; intro g2 a w S; refine h_n1 S ?_)
    (refine h_m0 (i := 16) rfl (by kernel_rfl) (op_stW S sizeOf128 (.t rfl) (.t rfl) (k := 0) rfl rfl rfl (by simp [Value.oneCell']) ?_); clear S a w; intro a w S; refine h_n1 S ?_)
    refine h_done (by kernel_rfl) (then_normal (hK2 _ _ (wp_seq_k fun _ hK2 => wp_region_lit (run S (.mv rfl <| .mv rfl <| .ad (by unfold I64; omega) rfl <| .yy (ys_arrHi underlying128 sizeOf5 (.t rfl) (.t rfl) (fun _ => by first | omega | (simp; done) | (simp; omega))) rfl <| .z) fun a w S => ?_))))
    refine st_m (op_extend [lt64 ((a1.toNat : Int) / 4), lt64 ((a1.toNat : Int) % 4 * 16 + (b1.toNat : Int) / 16), lt64 ((b1.toNat : Int) % 16 * 4)] S underlying57 underlying57 (.inr ⟨_, rfl⟩) inf5 rfl (k := 2) rfl (.t rfl) (.t rfl)
      (Src.blkN S.wd (k := 0) rfl (tab3 (by omega) (by omega) (by omega)) (by simp) (by simp [Value.oneCell'])) (by simp; omega) rfl rfl rfl ?_)
    clear S
    intro B' cB' a w S
    refine run S (.as rfl <| .z) fun a w S => st_nil (then_normal (hK2 _ _ (wp_region_lit (run S (.mv rfl <| .mv rfl <| .yy (ys_slLo underlying57 sizeOf5 (.t rfl) (.t rfl) (fun _ => by first | omega | (simp; done) | (simp; omega))) rfl <| .as rfl <| .z) fun a w S => st_nil (in_normal (then_normal ?_))))))
    refine ⟨((_, m.length - 2, _), [], out ++ [lt64 ((a1.toNat : Int) / 4), lt64 ((a1.toNat : Int) % 4 * 16 + (b1.toNat : Int) / 16), lt64 ((b1.toNat : Int) % 16 * 4)], B', cB'), ⟨by have := Sl.drop_ h 2 (by omega); rw [List.length_drop, hm] at this; rw [hm]; exact this, ?_⟩, by simp [hm], S.wk⟩
    rw [← hno, hm]; simp [letters]
  · have hl0 : 3 ≤ m.length := by rw [hm]; simp
    have ha1 := u8lt a1
    have hb1 := u8lt b1
    have hc1 := u8lt c1
    refine wp_seq_k fun _ hK2 => sg S (.mv rfl <| .ln underlying57 rfl <| .yy (ys_T (by omega) (ys_gtr (.t rfl) Ev.c)) rfl <| .z) fun a w S => st_then S (.t rfl) (wp_skip (then_normal (hK2 _ _ (wp_block (wp_seq_k fun _ hK2 => wp_region_lit (st_m (op_alloc S zeroValue127 (cs := _) rfl rfl fun g1 a w S => st_nil (then_normal (hK2 _ _ (wp_seq_k fun _ hK2 => wp_region_lit (run S (.yy (ys_arr (t1 := 0) underlying127 sizeOf5 (.t rfl)) rfl <| .mv rfl <| .z) fun a w S => st_m (op_copyBS (m := 3) [.int .u8 (a1.toNat : Int), .int .u8 (b1.toNat : Int), .int .u8 (c1.toNat : Int)] [.int .u8 (a1.toNat : Int), .int .u8 (b1.toNat : Int), .int .u8 (c1.toNat : Int)] S underlying57 sizeOf5 (.t rfl) (.t rfl) (k := 0) rfl h (Nat.le_refl _) rfl encB_len (by omega) (by rw [hm]; rfl) rfl (by simp) (by simp [Value.oneCell']) rfl ?_))))))))))))
    clear S
    intro a w S
    refine run S (.as rfl <| .z) fun a w S => st_nil (then_normal (hK2 _ _ (sg S (.yy (ys_ixA (j := 0) underlying127 sizeOf5 (.t rfl) Ev.c (fun _ => by decide)) rfl <| .ld gt5 0 rfl rfl rfl <| .yy (ys_cvI underlying5 underlying3 (.t rfl) (fun _ => by unfold I64; omega)) rfl <| .yy (ys_shlC (m := 16) (c := 65536) (.t rfl) Ev.c rfl rfl (fun _ => by unfold I64; omega)) rfl <| .yy (ys_ixA (j := 1) underlying127 sizeOf5 (.t rfl) Ev.c (fun _ => by decide)) rfl <| .ld gt5 0 rfl rfl rfl <| .yy (ys_cvI underlying5 underlying3 (.t rfl) (fun _ => by unfold I64; omega)) rfl <| .yy (ys_shlC (m := 8) (c := 256) (.t rfl) Ev.c rfl rfl (fun _ => by unfold I64; omega)) rfl <| .yy (ys_orA 16 (c := 65536) (.t rfl) (.t rfl) rfl rfl (fun _ => by omega)) rfl <| .yy (ys_ixA (j := 2) underlying127 sizeOf5 (.t rfl) Ev.c (fun _ => by decide)) rfl <| .ld gt5 0 rfl rfl rfl <| .yy (ys_cvI underlying5 underlying3 (.t rfl) (fun _ => by unfold I64; omega)) rfl <| .yy (ys_orA 8 (c := 256) (.t rfl) (.t rfl) rfl rfl (fun _ => by omega)) rfl <| .as rfl <| .z) fun a w S => wp_seq_k fun _ hK2 => h_begin0 S (by kernel_rfl) fun a w S => hy 0 S rfl (ys_move (.t rfl)) rfl fun a w S => ?_)))
    refine hy 1 S rfl (ys_shrC (m := 18) (c := 262144) (.t rfl) Ev.c rfl rfl) rfl fun a w S => hy 2 S rfl (ys_ixTab (l := abc) underlying9 Ev.c (.t rfl) (fun _ => by have := abcN; omega)) rfl fun a w S => hy 3 S rfl (ys_move (.t rfl)) rfl fun a w S => hy 4 S rfl (ys_shrC (m := 12) (c := 4096) (.t rfl) Ev.c rfl rfl) rfl fun a w S => hy 5 S rfl (ys_andM 6 (c := 64) (.t rfl) Ev.c rfl rfl rfl (fun _ => by omega)) rfl fun a w S => ?_
    refine hy 6 S rfl (ys_ixTab (l := abc) underlying9 Ev.c (.t rfl) (fun _ => by have := abcN; omega)) rfl fun a w S => hy 7 S rfl (ys_move (.t rfl)) rfl fun a w S => hy 8 S rfl (ys_shrC (m := 6) (c := 64) (.t rfl) Ev.c rfl rfl) rfl fun a w S => hy 9 S rfl (ys_andM 6 (c := 64) (.t rfl) Ev.c rfl rfl rfl (fun _ => by omega)) rfl fun a w S => hy 10 S rfl (ys_ixTab (l := abc) underlying9 Ev.c (.t rfl) (fun _ => by have := abcN; omega)) rfl fun a w S => ?_
    refine hy 11 S rfl (ys_move (.t rfl)) rfl fun a w S => hy 12 S rfl (ys_andM 6 (c := 64) (.t rfl) Ev.c rfl rfl rfl (fun _ => by omega)) rfl fun a w S => hy 13 S rfl (ys_ixTab (l := abc) underlying9 Ev.c (.t rfl) (fun _ => by have := abcN; omega)) rfl fun a w S => hy 14 S rfl (ys_bldA (ps := [(0, Go.Operand.tmp 29), (1, Go.Operand.tmp 33), (2, Go.Operand.tmp 37), (3, Go.Operand.tmp 40)]) (us := [_, _, _, _]) ⟨⟨_, zeroValue128, rfl⟩, _, _, underlying128, sizeOf5⟩ (.cons (.t rfl) (.cons (.t rfl) (.cons (.t rfl) (.cons (.t rfl) .nil)))) rfl) rfl fun a w S => ?_
    (refine h_m (i := 15) rfl (by kernel_rfl) (op_alloc S zeroValue128 (cs := _) rfl rfl ?_); clear S a w; intro g2 a w S; refine h_n1 S ?_)
    (refine h_m0 (i := 16) rfl (by kernel_rfl) (op_stW S sizeOf128 (.t rfl) (.t rfl) (k := 0) rfl rfl rfl (by simp [Value.oneCell']) ?_); clear S a w; intro a w S; refine h_n1 S ?_)
    refine h_done (by kernel_rfl) (then_normal (hK2 _ _ (wp_seq_k fun _ hK2 => wp_region_lit (run S (.mv rfl <| .mv rfl <| .ad (by unfold I64; omega) rfl <| .yy (ys_arrHi underlying128 sizeOf5 (.t rfl) (.t rfl) (fun _ => by first | omega | (simp; done) | (simp; omega))) rfl <| .z) fun a w S => ?_))))
    refine st_m (op_extend [lt64 ((a1.toNat : Int) / 4), lt64 ((a1.toNat : Int) % 4 * 16 + (b1.toNat : Int) / 16), lt64 ((b1.toNat : Int) % 16 * 4 + (c1.toNat : Int) / 64), lt64 ((c1.toNat : Int) % 64)] S underlying57 underlying57 (.inr ⟨_, rfl⟩) inf5 rfl (k := 2) rfl (.t rfl) (.t rfl)
      (Src.blkN S.wd (k := 0) rfl (tab4 (by omega) (by omega) (by omega) (by omega)) (by simp) (by simp [Value.oneCell'])) (by simp; omega) rfl rfl rfl ?_)
    clear S
    intro B' cB' a w S
    refine run S (.as rfl <| .z) fun a w S => st_nil (then_normal (hK2 _ _ (wp_region_lit (run S (.mv rfl <| .mv rfl <| .yy (ys_slLo underlying57 sizeOf5 (.t rfl) (.t rfl) (fun _ => by first | omega | (simp; done) | (simp; omega))) rfl <| .as rfl <| .z) fun a w S => st_nil (in_normal (then_normal ?_))))))
    refine ⟨((_, m.length - 3, _), r, out ++ [lt64 ((a1.toNat : Int) / 4), lt64 ((a1.toNat : Int) % 4 * 16 + (b1.toNat : Int) / 16), lt64 ((b1.toNat : Int) % 16 * 4 + (c1.toNat : Int) / 64), lt64 ((c1.toNat : Int) % 64)], B', cB'), ⟨by have := Sl.drop_ h 3 (by omega); rw [List.length_drop, hm] at this; rw [hm]; exact this, ?_⟩, by simp [hm]; omega, S.wk⟩
    rw [← hno, hm]; simp [letters]
theorem lettersR_len : ∀ (l : List UInt8) (h n : Int), (lettersR h n l).length ≤ 2 * l.length + 1
  | [], h, n => by unfold lettersR; split <;> simp
  | x :: r, h, n => by
    unfold lettersR
    split
    · have := lettersR_len r ((h * 256 + x.toNat) % 4) 2; simp; omega
    · split
      · have := lettersR_len r ((h * 256 + x.toNat) % 16) 4; simp; omega
      · have := lettersR_len r 0 0; simp; omega
theorem c44 (w0 : World) (v1 : Value) (l : List UInt8) (h : Sl encB 1 w0 w0.heap.size v1 l) (hn : l.length ≤ 4194304) :
    Calls Try.prog 44 #[v1] w0 fun e w' => e = .returned (.string (bs (lettersR 0 0 l))) ∧ Bel w0.heap.size w0 w' := by
  obtain ⟨A, cap, rfl, hl, hcap, hA⟩ := id h
  refine enter1 func44 rfl ntmps44 rfl fun a S => sg S (.ac rfl <| .z) fun a w S => sg S (.ac rfl <| .z) fun a w S => sg S (.ac rfl <| .ac rfl <| .z) fun a w S => wp_seq_k fun _ hK1 => sg S (.mv rfl <| .ln underlying57 rfl <| .mc rfl <| .z) fun a w S => wp_block ?_
  refine st_lpK S (X := Nat × Int × Int × List UInt8) (fun q => [(12, true, .int .i64 (q.1 : Int)), (4, true, .int .i64 q.2.1), (5, true, .int .i64 q.2.2.1), (3, true, .string (bs q.2.2.2))]) (fun _ L => L)
    (fun q => q.1 ≤ l.length ∧ (q.2.2.1 = 0 ∧ q.2.1 = 0 ∨ q.2.2.1 = 2 ∧ 0 ≤ q.2.1 ∧ q.2.1 < 4 ∨ q.2.2.1 = 4 ∧ 0 ≤ q.2.1 ∧ q.2.1 < 16) ∧ q.2.2.2 ++ lettersR q.2.1 q.2.2.1 (l.drop q.1) = lettersR 0 0 l) (fun q => l.length - q.1) (0, 0, 0, []) ⟨Nat.zero_le _, .inl ⟨rfl, rfl⟩, rfl⟩ ?_
  clear S
  intro ⟨k, x, n, s⟩ a w ⟨hk, hn, hno⟩ S
  dsimp only at hk hn hno S
  have hs : s.length ≤ 8388612 := by have := lettersR_len l 0 0; rw [← hno] at this; simp at this; omega
  by_cases hlt : k < l.length
  · obtain ⟨g, o, m, rfl, hmm, hd, hc⟩ := row_at hA hlt
    have hu := u8lt m
    clear hA
    rcases hn with ⟨rfl, rfl⟩ | ⟨rfl, h1, h2⟩ | ⟨rfl, h1, h2⟩
    · refine sg S (.lt (by omega) rfl rfl <| .z) fun a w S => wp_seq_k fun _ hK2 => st_then S (.t rfl) (wp_skip (then_normal (hK2 _ _ (wp_seq_k fun _ hK2 => wp_block (sg S (.ix underlying57 sizeOf5 (by omega) rfl rfl <| .yy (ys_ldO ⟨isAgg5, sizeOf5⟩ (.t rfl) (fun _ => hc 0 _ rfl)) rfl <| .as rfl <| .z) fun a w S => sg S (.mv rfl <| .yy (ys_mulI (.t rfl) Ev.c (fun _ => by unfold I64; omega)) rfl <| .mv rfl <| .yy (ys_cvI underlying5 underlying3 (.t rfl) (fun _ => by unfold I64; omega)) rfl <| .yy (ys_addI (.t rfl) (.t rfl) (fun _ => by unfold I64; omega)) rfl <| .as rfl <| .z) fun a w S => sg S (.mv rfl <| .ad (by unfold I64; omega) rfl <| .as rfl <| .z) fun a w S => wp_block (st_rounds 2 (st_round (wp_seq_k fun _ hK3 => sg S (.mv rfl <| .yy (ys_T (by omega) (ys_geq (.t rfl) Ev.c)) rfl <| .z) fun a w S => st_then S (.t rfl) (wp_skip (then_normal (hK3 _ _ (wp_block (sg S (.mv rfl <| .yy (ys_subI (.t rfl) Ev.c (fun _ => by unfold I64; omega)) rfl <| .as rfl <| .z) fun a w S => wp_seq_k fun _ hK3 => ?_)))))))))))))
      refine rg S (.mv rfl <| .mv rfl <| .yy (ys_shrC (m := 2) (c := 4) (.t rfl) (.t rfl) rfl rfl) rfl <| .as rfl <| .z) hK3 fun a w S => sg S (.mv rfl <| .mv rfl <| .yy (ys_shlC (m := 2) (c := 4) Ev.c (.t rfl) rfl rfl (fun _ => by unfold I64; omega)) rfl <| .yy (ys_pred (.t rfl) Ev.c (by omega)) rfl <| .yy (ys_andM 2 (c := 4) (.t rfl) (.t rfl) rfl rfl rfl (fun _ => by omega)) rfl <| .as rfl <| .z) fun a w S => wp_region_lit (run S (.mv rfl <| .mv rfl <| .mv rfl <| .ad (by unfold I64; omega) rfl <| .yy (ys_slStr1 (l := abc) underlying9 Ev.c (.t rfl) (.t rfl) (fun _ => by have := abcN; omega)) rfl <| .yy (ys_addStr (.t rfl) (.t rfl) (fun _ => by first | omega | (simp; done) | (simp; omega))) rfl <| .as rfl <| .z) fun a w S => st_nil (in_normal (then_normal (st_round (wp_seq_k fun _ hK3 => sg S (.mv rfl <| .yy (ys_F (by omega) (ys_geq (.t rfl) Ev.c)) rfl <| .z) fun a w S => st_else S (.t rfl) (wp_exit (then_exit (then_exit (in_here (in_normal (then_normal (hK2 _ _ (wp_region_lit (run S (.ad (by unfold I64; omega) rfl <| .mv rfl <| .z) fun a w S => st_nil (then_normal ?_)))))))))))))))
      exact ⟨(k + 1, (0 * 256 + (m.toNat : Int)) % 4, 2, s ++ [lt64 ((0 * 256 + (m.toNat : Int)) / 4)]), ⟨by dsimp only; omega, .inr (.inl ⟨rfl, by dsimp only; omega, by dsimp only; omega⟩), by dsimp only; rw [← hno, hd]; simp [lettersR, lt64]⟩, by dsimp only; omega, S.wk⟩
    · refine sg S (.lt (by omega) rfl rfl <| .z) fun a w S => wp_seq_k fun _ hK2 => st_then S (.t rfl) (wp_skip (then_normal (hK2 _ _ (wp_seq_k fun _ hK2 => wp_block (sg S (.ix underlying57 sizeOf5 (by omega) rfl rfl <| .yy (ys_ldO ⟨isAgg5, sizeOf5⟩ (.t rfl) (fun _ => hc 0 _ rfl)) rfl <| .as rfl <| .z) fun a w S => sg S (.mv rfl <| .yy (ys_mulI (.t rfl) Ev.c (fun _ => by unfold I64; omega)) rfl <| .mv rfl <| .yy (ys_cvI underlying5 underlying3 (.t rfl) (fun _ => by unfold I64; omega)) rfl <| .yy (ys_addI (.t rfl) (.t rfl) (fun _ => by unfold I64; omega)) rfl <| .as rfl <| .z) fun a w S => sg S (.mv rfl <| .ad (by unfold I64; omega) rfl <| .as rfl <| .z) fun a w S => wp_block (st_rounds 2 (st_round (wp_seq_k fun _ hK3 => sg S (.mv rfl <| .yy (ys_T (by omega) (ys_geq (.t rfl) Ev.c)) rfl <| .z) fun a w S => st_then S (.t rfl) (wp_skip (then_normal (hK3 _ _ (wp_block (sg S (.mv rfl <| .yy (ys_subI (.t rfl) Ev.c (fun _ => by unfold I64; omega)) rfl <| .as rfl <| .z) fun a w S => wp_seq_k fun _ hK3 => ?_)))))))))))))
      refine rg S (.mv rfl <| .mv rfl <| .yy (ys_shrC (m := 4) (c := 16) (.t rfl) (.t rfl) rfl rfl) rfl <| .as rfl <| .z) hK3 fun a w S => sg S (.mv rfl <| .mv rfl <| .yy (ys_shlC (m := 4) (c := 16) Ev.c (.t rfl) rfl rfl (fun _ => by unfold I64; omega)) rfl <| .yy (ys_pred (.t rfl) Ev.c (by omega)) rfl <| .yy (ys_andM 4 (c := 16) (.t rfl) (.t rfl) rfl rfl rfl (fun _ => by omega)) rfl <| .as rfl <| .z) fun a w S => wp_region_lit (run S (.mv rfl <| .mv rfl <| .mv rfl <| .ad (by unfold I64; omega) rfl <| .yy (ys_slStr1 (l := abc) underlying9 Ev.c (.t rfl) (.t rfl) (fun _ => by have := abcN; omega)) rfl <| .yy (ys_addStr (.t rfl) (.t rfl) (fun _ => by first | omega | (simp; done) | (simp; omega))) rfl <| .as rfl <| .z) fun a w S => st_nil (in_normal (then_normal (st_round (wp_seq_k fun _ hK3 => sg S (.mv rfl <| .yy (ys_F (by omega) (ys_geq (.t rfl) Ev.c)) rfl <| .z) fun a w S => st_else S (.t rfl) (wp_exit (then_exit (then_exit (in_here (in_normal (then_normal (hK2 _ _ (wp_region_lit (run S (.ad (by unfold I64; omega) rfl <| .mv rfl <| .z) fun a w S => st_nil (then_normal ?_)))))))))))))))
      exact ⟨(k + 1, (x * 256 + (m.toNat : Int)) % 16, 4, s ++ [lt64 ((x * 256 + (m.toNat : Int)) / 16)]), ⟨by dsimp only; omega, .inr (.inr ⟨rfl, by dsimp only; omega, by dsimp only; omega⟩), by dsimp only; rw [← hno, hd]; simp [lettersR, lt64]⟩, by dsimp only; omega, S.wk⟩
    · refine sg S (.lt (by omega) rfl rfl <| .z) fun a w S => wp_seq_k fun _ hK2 => st_then S (.t rfl) (wp_skip (then_normal (hK2 _ _ (wp_seq_k fun _ hK2 => wp_block (sg S (.ix underlying57 sizeOf5 (by omega) rfl rfl <| .yy (ys_ldO ⟨isAgg5, sizeOf5⟩ (.t rfl) (fun _ => hc 0 _ rfl)) rfl <| .as rfl <| .z) fun a w S => sg S (.mv rfl <| .yy (ys_mulI (.t rfl) Ev.c (fun _ => by unfold I64; omega)) rfl <| .mv rfl <| .yy (ys_cvI underlying5 underlying3 (.t rfl) (fun _ => by unfold I64; omega)) rfl <| .yy (ys_addI (.t rfl) (.t rfl) (fun _ => by unfold I64; omega)) rfl <| .as rfl <| .z) fun a w S => sg S (.mv rfl <| .ad (by unfold I64; omega) rfl <| .as rfl <| .z) fun a w S => wp_block (st_rounds 3 (st_round (wp_seq_k fun _ hK3 => sg S (.mv rfl <| .yy (ys_T (by omega) (ys_geq (.t rfl) Ev.c)) rfl <| .z) fun a w S => st_then S (.t rfl) (wp_skip (then_normal (hK3 _ _ (wp_block (sg S (.mv rfl <| .yy (ys_subI (.t rfl) Ev.c (fun _ => by unfold I64; omega)) rfl <| .as rfl <| .z) fun a w S => wp_seq_k fun _ hK3 => ?_)))))))))))))
      refine rg S (.mv rfl <| .mv rfl <| .yy (ys_shrC (m := 6) (c := 64) (.t rfl) (.t rfl) rfl rfl) rfl <| .as rfl <| .z) hK3 fun a w S => sg S (.mv rfl <| .mv rfl <| .yy (ys_shlC (m := 6) (c := 64) Ev.c (.t rfl) rfl rfl (fun _ => by unfold I64; omega)) rfl <| .yy (ys_pred (.t rfl) Ev.c (by omega)) rfl <| .yy (ys_andM 6 (c := 64) (.t rfl) (.t rfl) rfl rfl rfl (fun _ => by omega)) rfl <| .as rfl <| .z) fun a w S => wp_region_lit (run S (.mv rfl <| .mv rfl <| .mv rfl <| .ad (by unfold I64; omega) rfl <| .yy (ys_slStr1 (l := abc) underlying9 Ev.c (.t rfl) (.t rfl) (fun _ => by have := abcN; omega)) rfl <| .yy (ys_addStr (.t rfl) (.t rfl) (fun _ => by first | omega | (simp; done) | (simp; omega))) rfl <| .as rfl <| .z) fun a w S => st_nil (in_normal (then_normal (st_round (wp_seq_k fun _ hK3 => sg S (.mv rfl <| .yy (ys_T (by omega) (ys_geq (.t rfl) Ev.c)) rfl <| .z) fun a w S => st_then S (.t rfl) (wp_skip (then_normal (hK3 _ _ (wp_block (sg S (.mv rfl <| .yy (ys_subI (.t rfl) Ev.c (fun _ => by unfold I64; omega)) rfl <| .as rfl <| .z) fun a w S => wp_seq_k fun _ hK3 => wp_region_lit ?_))))))))))
      refine run S (.mv rfl <| .mv rfl <| .yy (ys_shrC (m := 0) (c := 1) (.t rfl) (.t rfl) rfl rfl) rfl <| .as rfl <| .z) fun a w S => st_nil (then_normal (hK3 _ _ (sg S (.mv rfl <| .mv rfl <| .yy (ys_shlC (m := 0) (c := 1) Ev.c (.t rfl) rfl rfl (fun _ => by unfold I64; omega)) rfl <| .yy (ys_pred (.t rfl) Ev.c (by omega)) rfl <| .yy (ys_andM 0 (c := 1) (.t rfl) (.t rfl) rfl rfl rfl (fun _ => by omega)) rfl <| .as rfl <| .z) fun a w S => wp_region_lit (run S (.mv rfl <| .mv rfl <| .mv rfl <| .ad (by unfold I64; omega) rfl <| .yy (ys_slStr1 (l := abc) underlying9 Ev.c (.t rfl) (.t rfl) (fun _ => by have := abcN; omega)) rfl <| .yy (ys_addStr (.t rfl) (.t rfl) (fun _ => by first | omega | (simp; done) | (simp; omega))) rfl <| .as rfl <| .z) fun a w S => st_nil (in_normal (then_normal (st_round (wp_seq_k fun _ hK3 => sg S (.mv rfl <| .yy (ys_F (by omega) (ys_geq (.t rfl) Ev.c)) rfl <| .z) fun a w S => st_else S (.t rfl) (wp_exit (then_exit (then_exit (in_here (in_normal (then_normal (hK2 _ _ (wp_region_lit (run S (.ad (by unfold I64; omega) rfl <| .mv rfl <| .z) fun a w S => st_nil (then_normal ?_))))))))))))))))))
      exact ⟨(k + 1, (x * 256 + (m.toNat : Int)) % 64 % 1, 0, s ++ [lt64 ((x * 256 + (m.toNat : Int)) / 64)] ++ [lt64 ((x * 256 + (m.toNat : Int)) % 64 / 1)]), ⟨by dsimp only; omega, .inl ⟨rfl, by dsimp only; omega⟩, by dsimp only; rw [← hno, hd]; simp [lettersR, lt64]⟩, by dsimp only; omega, S.wk⟩
  · have hend : l.drop k = [] := List.drop_eq_nil_of_le (by omega)
    rw [hend] at hno
    rcases hn with ⟨rfl, rfl⟩ | ⟨rfl, h1, h2⟩ | ⟨rfl, h1, h2⟩
    · refine sg S (.ge (by omega) rfl rfl <| .z) fun a w S => wp_seq_k fun _ hK2 => st_else S (.t rfl) (wp_exit (then_exit (then_exit (in_here (then_normal (hK1 _ _ (wp_seq_k fun _ hK1 => sg S (.mv rfl <| .yy (ys_F (by omega) (ys_gtr (.t rfl) Ev.c)) rfl <| .z) fun a w S => st_else S (.t rfl) (wp_skip (then_normal (hK1 _ _ (sg S (.mv rfl <| .as rfl <| .z) fun a w S => wp_ret (st_ret S (results1 S results44 (Rv.tmp rfl)) ?_))))))))))))
      exact ⟨by rw [← hno]; simp [lettersR], S.wd.below⟩
    · refine sg S (.ge (by omega) rfl rfl <| .z) fun a w S => wp_seq_k fun _ hK2 => st_else S (.t rfl) (wp_exit (then_exit (then_exit (in_here (then_normal (hK1 _ _ (wp_seq_k fun _ hK1 => sg S (.mv rfl <| .yy (ys_T (by omega) (ys_gtr (.t rfl) Ev.c)) rfl <| .z) fun a w S => st_then S (.t rfl) (sg S (.mv rfl <| .mv rfl <| .yy (ys_subI Ev.c (.t rfl) (fun _ => by unfold I64; omega)) rfl <| .yy (ys_shlC (m := 4) (c := 16) (.t rfl) (.t rfl) rfl rfl (fun _ => by unfold I64; omega)) rfl <| .as rfl <| .z) fun a w S => rg S (.mv rfl <| .mv rfl <| .mv rfl <| .ad (by unfold I64; omega) rfl <| .yy (ys_slStr1 (l := abc) underlying9 Ev.c (.t rfl) (.t rfl) (fun _ => by have := abcN; omega)) rfl <| .yy (ys_addStr (.t rfl) (.t rfl) (fun _ => by first | omega | (simp; done) | (simp; omega))) rfl <| .as rfl <| .z) hK1 fun a w S => sg S (.mv rfl <| .as rfl <| .z) fun a w S => wp_ret (st_ret S (results1 S results44 (Rv.tmp rfl)) ?_)))))))))
      exact ⟨by rw [← hno]; simp [lettersR, lt64], S.wd.below⟩
    · refine sg S (.ge (by omega) rfl rfl <| .z) fun a w S => wp_seq_k fun _ hK2 => st_else S (.t rfl) (wp_exit (then_exit (then_exit (in_here (then_normal (hK1 _ _ (wp_seq_k fun _ hK1 => sg S (.mv rfl <| .yy (ys_T (by omega) (ys_gtr (.t rfl) Ev.c)) rfl <| .z) fun a w S => st_then S (.t rfl) (sg S (.mv rfl <| .mv rfl <| .yy (ys_subI Ev.c (.t rfl) (fun _ => by unfold I64; omega)) rfl <| .yy (ys_shlC (m := 2) (c := 4) (.t rfl) (.t rfl) rfl rfl (fun _ => by unfold I64; omega)) rfl <| .as rfl <| .z) fun a w S => rg S (.mv rfl <| .mv rfl <| .mv rfl <| .ad (by unfold I64; omega) rfl <| .yy (ys_slStr1 (l := abc) underlying9 Ev.c (.t rfl) (.t rfl) (fun _ => by have := abcN; omega)) rfl <| .yy (ys_addStr (.t rfl) (.t rfl) (fun _ => by first | omega | (simp; done) | (simp; omega))) rfl <| .as rfl <| .z) hK1 fun a w S => sg S (.mv rfl <| .as rfl <| .z) fun a w S => wp_ret (st_ret S (results1 S results44 (Rv.tmp rfl)) ?_)))))))))
      exact ⟨by rw [← hno]; simp [lettersR, lt64], S.wd.below⟩
theorem bytesR_len : ∀ (l : List UInt8) (h n : Int) (o : List UInt8), bytesR h n l = some o → o.length ≤ l.length
  | [], h, n, o, e => by
    unfold bytesR at e
    split at e
    · cases e
    · cases e; simp
  | x :: r, h, n, o, e => by
    have key : ∀ (z : Option (List UInt8)) (y : UInt8) (h' n' : Int), z = bytesR h' n' r → z.map (y :: ·) = some o → o.length ≤ r.length + 1 := by
      intro z y h' n' hz hm
      cases z with
      | none => cases hm
      | some q =>
        have := bytesR_len r h' n' q hz.symm
        simp at hm
        subst hm
        simp; omega
    unfold bytesR at e
    split at e
    · cases e
    · simp only at e
      split at e
      · have := bytesR_len r _ _ o e; simp; omega
      · split at e
        · exact key _ _ _ _ rfl e
        · split at e
          · exact key _ _ _ _ rfl e
          · exact key _ _ _ _ rfl e
def optB (o : Option (List UInt8)) (v : Value) (L : List Chunk) : Prop :=
  match o with
  | none => v = .tuple #[.slice none 0 0, .bool false] ∧ L = []
  | some l => ∃ A c, v = .tuple #[.slice A l.length c, .bool true] ∧ L = [rowOf 5 1 encB A c l]
theorem optB_all {f : FuncId} {args : Array Value} {w : World} {o : Option (List UInt8)} (h : Rets Try.prog f args w (optB o)) :
    Rets Try.prog f args w fun v L => ∃ A c, v = .tuple #[.slice A (o.getD []).length c, .bool o.isSome] ∧ L = [rowOf 5 1 encB A c (o.getD [])] := by
  refine Calls.mono h fun e w' h => ?_
  obtain ⟨v, L, rfl, W, h⟩ := h
  cases o with
  | none =>
    obtain ⟨rfl, rfl⟩ := h
    exact ⟨_, _, rfl, W.bare (c := rowOf 5 1 encB none 0 []) ⟨rfl, .inl ⟨rfl, rfl⟩⟩ (fun b h => h.1 rfl), none, 0, rfl, rfl⟩
  | some l =>
    obtain ⟨A, c, rfl, rfl⟩ := h
    exact ⟨_, _, rfl, W, A, c, rfl, rfl⟩
def tabN (k : Nat) : List Nat := (List.range 256).map fun c => num (abc.take k) 0 (UInt8.ofNat c)
def tabV (k : Nat) : List Value := (tabN k).map fun (x : Nat) => .int .u8 (x : Int)
theorem tabV_len (k : Nat) : (tabV k).length = 256 := by simp [tabV, tabN]
theorem tabV_one (k : Nat) : ∀ v ∈ tabV k, v.oneCell' = true := fun v hv => by
  obtain ⟨x, _, rfl⟩ := List.mem_map.1 hv
  rfl
theorem tabN_step : ∀ k : Fin 64, (tabN k.val).set (abc.getD k.val 0).toNat (k.val + 1) = tabN (k.val + 1) := by decide +kernel
theorem tabV_step {k : Nat} (h : k < 64) : (tabV k).set (abc.getD k 0).toNat (.int .u8 ((k : Int) + 1)) = tabV (k + 1) := by
  have := tabN_step ⟨k, h⟩
  unfold tabV
  rw [← this, List.map_set]
  rfl
theorem tabV_get (c : UInt8) : (tabV 64)[c.toNat]? = some (.int .u8 (num64 c : Int)) := by
  have hc := c.toNat_lt
  have : abc.take 64 = abc := rfl
  simp [tabV, tabN, this, num64, List.getElem?_map, List.getElem?_range hc]
theorem zc131 (v : Value) (hv : ∀ w, (zeroValue 131).run Try.prog w = .ok v w) : v.cells = (tabV 0).toArray := by
  have h := (zeroValue131 default).symm.trans (hv default)
  simp only [Result.ok.injEq, and_true] at h
  subst h
  rfl
theorem c87 (w0 : World) :
    Calls Try.prog 87 #[] w0 fun e w' => e = .returned (.agg (tabV 64).toArray) ∧ Bel w0.heap.size w0 w' := by
  refine enter0 func87 rfl ntmps87 rfl fun a S => wp_seq_k fun _ hK1 => wp_region_lit (st_m (op_alloc S zeroValue131 (cs := _) (zc131 _ zeroValue131) rfl fun g1 a w S => st_nil (then_normal (hK1 _ _ (wp_seq_k fun _ hK1 => wp_region_lit (st_m (op_alloc S zeroValue131 (cs := _) (zc131 _ zeroValue131) rfl fun g2 a w S => st_nil (then_normal (hK1 _ _ (wp_seq_k fun _ hK1 => sg S (.mc rfl <| .z) fun a w S => wp_block ?_))))))))))
  refine st_lpK S (X := Nat) (fun k => [(3, true, .int .i64 (k : Int))]) (fun k _ => [.blk g2 (.cells (tabV k).toArray 131), .blk g1 (.cells (tabV 0).toArray 131)]) (fun k => k ≤ 64) (fun k => 64 - k) 0 (Nat.zero_le _) ?_
  clear S
  intro k a w hk S
  by_cases hlt : k < 64
  · have hb := (abc.getD k 0).toNat_lt
    have rw_k : (k : Int).toNat = k := Int.toNat_natCast k
    have rw_e : (tabV k).set (0 + (abc.getD k 0).toNat * 1) (.int .u8 ((b8 ((k : Int) + 1)).toNat : Int)) = tabV (k + 1) := by
      rw [← tabV_step hlt, b8_val, Nat.zero_add, Nat.mul_one]
      congr 2
      omega
    refine sg S (.yy (ys_T (by omega) (ys_lss (.t rfl) Ev.c)) rfl <| .z) fun a w S => wp_seq_k fun _ hK2 => st_then S (.t rfl) (wp_skip (then_normal (hK2 _ _ (wp_seq_k fun _ hK2 => wp_block (sg S (.mv rfl <| .as rfl <| .z) fun a w S => wp_region_lit (run S (.mv rfl <| .yy (ys_ixTab (l := abc) underlying9 Ev.c (.t rfl) (fun _ => by have := abcN; omega)) rfl <| .z) fun a w S => ?_))))))
    rw [rw_k] at S
    refine run S (.mv rfl <| .ad (by unfold I64; omega) rfl <| .yy (ys_cvB underlying3 underlying5 (.t rfl)) rfl <| .yy (ys_ixA underlying131 sizeOf5 (.t rfl) (.t rfl) (fun _ => by omega)) rfl <| .z) fun a w S => st_m (op_st S sizeOf5 (.t rfl) (.t rfl) (k := 0) rfl rfl (by rw [Go.Proofs.Ytfblmkocmnbdcaa.tabV_len]; omega) fun a w S => ?_)
    rw [rw_e] at S
    refine st_nil (in_normal (then_normal (hK2 _ _ (wp_region_lit (run S (.ad (by unfold I64; omega) rfl <| .mv rfl <| .z) fun a w S => st_nil (then_normal ?_))))))
    exact ⟨k + 1, by omega, by omega, S.wk⟩
  · obtain rfl : k = 64 := by omega
    refine sg S (.yy (ys_F (by omega) (ys_lss (.t rfl) Ev.c)) rfl <| .z) fun a w S => wp_seq_k fun _ hK2 => st_else S (.t rfl) (wp_exit (then_exit (then_exit (in_here (then_normal (hK1 _ _ (wp_seq_k fun _ hK1 => wp_region_lit (run S (.yy (ys_ldAll ⟨isAgg131, sizeOf131⟩ (.t rfl) (k := 0) rfl (Go.Proofs.Ytfblmkocmnbdcaa.tabV_len _)) rfl <| .z) fun a w S => st_m (op_stW S sizeOf131 (.t rfl) (.t rfl) (k := 1) rfl (Go.Proofs.Ytfblmkocmnbdcaa.tabV_len _) (by first | rfl | exact Go.Proofs.Ytfblmkocmnbdcaa.tabV_len _) (by first | exact Go.Proofs.Ytfblmkocmnbdcaa.tabV_one _ | simp [Value.oneCell']) fun a w S => st_nil (then_normal (hK1 _ _ (wp_ret (st_ret S (results1 S results87 (Rv.cell (k := 1) ⟨isAgg131, sizeOf131⟩ rfl rfl (Go.Proofs.Ytfblmkocmnbdcaa.tabV_len _))) ?_)))))))))))))
    exact ⟨rfl, S.wd.below⟩
end Go.Proofs.Ytfblmkocmnbdcaa
set_option linter.unusedVariables false
set_option linter.unusedSimpArgs false
set_option maxRecDepth 100000
namespace Go.Proofs.Ytfblmkocmnbdcaa
open Go.Fw Go.Proofs Go.RowKit Go.Proofs.Try
theorem bytes64_len : ∀ (l : List UInt8) (o : List UInt8), bytes64 l = some o → o.length ≤ l.length := fun l o h => by
  rw [← bytesR_eq] at h
  unfold bytesRef at h
  split at h
  · cases h
  · exact bytesR_len _ _ _ _ h
theorem tok_step2 (a1 b1 : UInt8) (ha1 : ¬ num64 a1 = 0) (hb1 : ¬ num64 b1 = 0) (hz : ((0 * 64 + ((num64 a1 : Int) - 1)) * 64 + ((num64 b1 : Int) - 1)) * 64 * 64 % 65536 = 0) : bytes64 [a1, b1] = some [b8 (((0 * 64 + ((num64 a1 : Int) - 1)) * 64 + ((num64 b1 : Int) - 1)) * 64 * 64 / 65536)] := by
  have := num64_le a1
  have := num64_le b1
  simp only [bytes64]
  rw [if_neg (by omega), if_pos (by omega)]
  congr 2
  congr 1
  omega
theorem tok_no2 (a1 b1 : UInt8) (ha1 : ¬ num64 a1 = 0) (hb1 : ¬ num64 b1 = 0) (hz : ¬ ((0 * 64 + ((num64 a1 : Int) - 1)) * 64 + ((num64 b1 : Int) - 1)) * 64 * 64 % 65536 = 0) : bytes64 [a1, b1] = none := by
  have := num64_le a1
  have := num64_le b1
  simp only [bytes64]
  rw [if_neg (by omega), if_neg (by omega)]
theorem tok_step3 (a1 b1 c1 : UInt8) (ha1 : ¬ num64 a1 = 0) (hb1 : ¬ num64 b1 = 0) (hc1 : ¬ num64 c1 = 0) (hz : (((0 * 64 + ((num64 a1 : Int) - 1)) * 64 + ((num64 b1 : Int) - 1)) * 64 + ((num64 c1 : Int) - 1)) * 64 % 256 = 0) : bytes64 [a1, b1, c1] = some [b8 ((((0 * 64 + ((num64 a1 : Int) - 1)) * 64 + ((num64 b1 : Int) - 1)) * 64 + ((num64 c1 : Int) - 1)) * 64 / 65536), b8 ((((0 * 64 + ((num64 a1 : Int) - 1)) * 64 + ((num64 b1 : Int) - 1)) * 64 + ((num64 c1 : Int) - 1)) * 64 / 256)] := by
  have := num64_le a1
  have := num64_le b1
  have := num64_le c1
  simp only [bytes64]
  rw [if_neg (by omega), if_pos (by omega)]
  congr 2
  · congr 1
    omega
  · congr 2
    omega
theorem tok_no3 (a1 b1 c1 : UInt8) (ha1 : ¬ num64 a1 = 0) (hb1 : ¬ num64 b1 = 0) (hc1 : ¬ num64 c1 = 0) (hz : ¬ (((0 * 64 + ((num64 a1 : Int) - 1)) * 64 + ((num64 b1 : Int) - 1)) * 64 + ((num64 c1 : Int) - 1)) * 64 % 256 = 0) : bytes64 [a1, b1, c1] = none := by
  have := num64_le a1
  have := num64_le b1
  have := num64_le c1
  simp only [bytes64]
  rw [if_neg (by omega), if_neg (by omega)]
theorem tok_step4 (a1 b1 c1 d1 : UInt8) (r : List UInt8) (ha1 : ¬ num64 a1 = 0) (hb1 : ¬ num64 b1 = 0) (hc1 : ¬ num64 c1 = 0) (hd1 : ¬ num64 d1 = 0) : bytes64 (a1 :: b1 :: c1 :: d1 :: r) = (bytes64 r).map ([b8 (((((0 * 64 + ((num64 a1 : Int) - 1)) * 64 + ((num64 b1 : Int) - 1)) * 64 + ((num64 c1 : Int) - 1)) * 64 + ((num64 d1 : Int) - 1)) / 65536), b8 (((((0 * 64 + ((num64 a1 : Int) - 1)) * 64 + ((num64 b1 : Int) - 1)) * 64 + ((num64 c1 : Int) - 1)) * 64 + ((num64 d1 : Int) - 1)) / 256), b8 (((((0 * 64 + ((num64 a1 : Int) - 1)) * 64 + ((num64 b1 : Int) - 1)) * 64 + ((num64 c1 : Int) - 1)) * 64 + ((num64 d1 : Int) - 1)))] ++ ·) := by
  simp only [bytes64]
  rw [if_neg (by omega), Int.zero_mul, Int.zero_add]
  rfl
set_option maxHeartbeats 4000000 in
theorem k45 (w0 : World) (l : List UInt8) (hn : l.length ≤ 4194304) :
    Rets Try.prog 45 #[.string (bs l)] w0 (optB (bytes64 l)) := by
  unfold Go.Fw.Rets
  refine enter1 func45 rfl ntmps45 rfl fun a S => sg S (.ac rfl <| .ac rfl <| .z) fun a w S => ?_
  refine st_scope (rest := _) 0 (fun a w => bytes64 l = none ∧ St 69 w0 [] [] a w) rfl ?_ ?_
  rotate_left
  · intro a w ⟨hb, S⟩
    refine wp_seq_k fun _ hK1 => wp_skip (then_normal (hK1 _ _ (sg S (.ac rfl <| .ac rfl <| .z) fun a w S => wp_ret ?_)))
    refine jump_ret ?_
    refine st_ret S (results2 S results45 (Rv.tmp rfl) (Rv.tmp rfl)) ?_
    rw [hb]
    exact ⟨_, _, rfl, S.wd, rfl, rfl⟩
  refine wp_seq_k fun _ hK1 => wp_region_lit (run S (.xx (ys_call call87 .nil (fun hp w W => c87 _)) rfl <| .z) fun a w S => st_m (op_alloc S zeroValue131 (cs := _) (zc131 _ zeroValue131) rfl fun g1 a w S => st_m (op_stW S sizeOf131 (.t rfl) (.t rfl) (k := 0) rfl (Go.Proofs.Ytfblmkocmnbdcaa.tabV_len _) (by first | rfl | exact Go.Proofs.Ytfblmkocmnbdcaa.tabV_len _) (by first | exact Go.Proofs.Ytfblmkocmnbdcaa.tabV_one _ | simp [Value.oneCell']) fun a w S => st_nil (then_normal (hK1 _ _ (sg S (.ac rfl <| .z) fun a w S => wp_seq_k fun _ hK1 => wp_block ?_))))))
  refine st_lpK (S.nil_ 5 1 encB none) (X := List UInt8 × List UInt8 × Option Addr × Nat) (fun q => [(0, true, .string (bs q.1)), (5, true, .slice q.2.2.1 q.2.1.length q.2.2.2)]) (fun q _ => [rowOf 5 1 encB q.2.2.1 q.2.2.2 q.2.1, .blk g1 (.cells (tabV 64).toArray 131)])
    (fun q => bytes64 l = (bytes64 q.1).map (q.2.1 ++ ·) ∧ q.2.1.length + q.1.length ≤ 4194304) (fun q => q.1.length) (l, [], none, 0) ⟨by simp, by simpa using hn⟩ ?_
  clear S
  intro ⟨m, out, B, cB⟩ a w ⟨hno, hout⟩ S
  dsimp only at hno hout S
  have key : m = [] ∨ (∃ a1, m = [a1]) ∨ (∃ a1 b1, m = [a1, b1]) ∨ (∃ a1 b1 c1, m = [a1, b1, c1]) ∨ ∃ a1 b1 c1 d1 r, m = a1 :: b1 :: c1 :: d1 :: r := by
    rcases m with _ | ⟨a1, _ | ⟨b1, _ | ⟨c1, _ | ⟨d1, r⟩⟩⟩⟩ <;> simp
  rcases key with hm | ⟨a1, hm⟩ | ⟨a1, b1, hm⟩ | ⟨a1, b1, c1, hm⟩ | ⟨a1, b1, c1, d1, r, hm⟩
  · have hl0 : m.length = 0 := by rw [hm]; rfl
    refine wp_seq_k fun _ hK2 => sg S (.mv rfl <| .yy (ys_lenStr underlying9 (.t rfl)) rfl <| .yy (ys_F (by omega) (ys_gtr (.t rfl) Ev.c)) rfl <| .z) fun a w S => st_else S (.t rfl) (wp_exit (then_exit (then_exit (in_here (then_normal (hK1 _ _ (wp_seq_k fun _ hK1 => sg S (.mv rfl <| .as rfl <| .ac rfl <| .z) fun a w S => wp_ret (then_ret ?_))))))))
    refine jump_ret ?_
    refine st_ret S (results2 S results45 (Rv.tmp rfl) (Rv.tmp rfl)) ?_
    rw [hno, hm]
    simp only [bytes64, Option.map_some, List.append_nil]
    exact ⟨_, _, rfl, S.wd.sub (by repeat (first | exact List.Sublist.refl _ | exact List.nil_sublist _ | refine .cons_cons _ ?_ | refine .cons _ ?_)), B, cB, rfl, rfl⟩
  · have hl0 : m.length = 1 := by rw [hm]; rfl
    have rw_n : min (m.length : Int) 4 = 1 := by omega
    have hi0 : m[0]? = some a1 := by rw [hm]; rfl
    have hu0 := u8lt a1
    have hg0 : (tabV 64)[0 + a1.toNat * 1]? = some (.int .u8 (num64 a1 : Int)) := by simpa using tabV_get a1
    have hk0 := num64_le a1
    by_cases ha1 : num64 a1 = 0
    · have hb : bytes64 l = none := by rw [hno, hm]; simp [bytes64, ha1]
      refine wp_seq_k fun _ hK2 => sg S (.mv rfl <| .yy (ys_lenStr underlying9 (.t rfl)) rfl <| .yy (ys_T (by omega) (ys_gtr (.t rfl) Ev.c)) rfl <| .z) fun a w S => st_then S (.t rfl) (wp_skip (then_normal (hK2 _ _ (wp_block (wp_seq_k fun _ hK2 => wp_region_lit (run S (.mv rfl <| .yy (ys_lenStr underlying9 (.t rfl)) rfl <| .yy (ys_min (.t rfl) Ev.c) rfl <| .z) fun a w S => ?_))))))
      rw [rw_n] at S
      refine run S (.as rfl <| .z) fun a w S => st_nil (then_normal (hK2 _ _ (sg S (.ac rfl <| .z) fun a w S => wp_seq_k fun _ hK2 => sg S (.mc rfl <| .z) fun a w S => wp_block (st_rounds 5 (st_round (sg S (.yy (ys_T (by omega) (ys_lss (.t rfl) Ev.c)) rfl <| .z) fun a w S => wp_seq_k fun _ hK3 => st_then S (.t rfl) (wp_skip (then_normal (hK3 _ _ (wp_seq_k fun _ hK3 => wp_block (sg S (.mv rfl <| .as rfl <| .z) fun a w S => sg S (.mv rfl <| .yy (ys_shlC (m := 6) (c := 64) (.t rfl) Ev.c rfl rfl (fun _ => by unfold I64; omega)) rfl <| .as rfl <| .z) fun a w S => wp_seq_k fun _ hK4 => sg S (.mv rfl <| .mv rfl <| .yy (ys_F (by omega) (ys_geq (.t rfl) (.t rfl))) rfl <| .z) fun a w S => st_else S (.t rfl) (wp_skip (then_normal (hK4 _ _ (wp_seq_k fun _ hK4 => wp_region_lit ?_)))))))))))))))
      refine run S (.mv rfl <| .mv rfl <| .yy (ys_ixStr underlying9 (.t rfl) (.t rfl) (fun _ => by assumption)) rfl <| .yy (ys_ixA underlying131 sizeOf5 (.t rfl) (.t rfl) (fun _ => by omega)) rfl <| .yy (ys_ldN ⟨isAgg5, sizeOf5⟩ (.t rfl) (k := 1) rfl (fun _ => by assumption)) rfl <| .as rfl <| .z) fun a w S => st_nil (then_normal (hK4 _ _ (wp_seq_k fun _ hK4 => sg S (.mv rfl <| .yy (ys_T (by omega) (ys_eql (.t rfl) Ev.c)) rfl <| .z) fun a w S => st_then S (.t rfl) (wp_goto (then_goto (in_goto (then_goto (then_goto (in_goto (then_goto (in_goto (then_goto (in_goto (then_goto ?_))))))))))))))
      refine jump_goto ?_
      exact ⟨hb, S.weak Fits.nil (List.nil_sublist _)⟩
    have hb : bytes64 l = none := by rw [hno, hm]; rfl
    refine wp_seq_k fun _ hK2 => sg S (.mv rfl <| .yy (ys_lenStr underlying9 (.t rfl)) rfl <| .yy (ys_T (by omega) (ys_gtr (.t rfl) Ev.c)) rfl <| .z) fun a w S => st_then S (.t rfl) (wp_skip (then_normal (hK2 _ _ (wp_block (wp_seq_k fun _ hK2 => wp_region_lit (run S (.mv rfl <| .yy (ys_lenStr underlying9 (.t rfl)) rfl <| .yy (ys_min (.t rfl) Ev.c) rfl <| .z) fun a w S => ?_))))))
    rw [rw_n] at S
    refine run S (.as rfl <| .z) fun a w S => st_nil (then_normal (hK2 _ _ (sg S (.ac rfl <| .z) fun a w S => wp_seq_k fun _ hK2 => sg S (.mc rfl <| .z) fun a w S => wp_block (st_rounds 5 (st_round (sg S (.yy (ys_T (by omega) (ys_lss (.t rfl) Ev.c)) rfl <| .z) fun a w S => wp_seq_k fun _ hK3 => st_then S (.t rfl) (wp_skip (then_normal (hK3 _ _ (wp_seq_k fun _ hK3 => wp_block (sg S (.mv rfl <| .as rfl <| .z) fun a w S => sg S (.mv rfl <| .yy (ys_shlC (m := 6) (c := 64) (.t rfl) Ev.c rfl rfl (fun _ => by unfold I64; omega)) rfl <| .as rfl <| .z) fun a w S => wp_seq_k fun _ hK4 => sg S (.mv rfl <| .mv rfl <| .yy (ys_F (by omega) (ys_geq (.t rfl) (.t rfl))) rfl <| .z) fun a w S => st_else S (.t rfl) (wp_skip (then_normal (hK4 _ _ (wp_seq_k fun _ hK4 => wp_region_lit ?_)))))))))))))))
    refine run S (.mv rfl <| .mv rfl <| .yy (ys_ixStr underlying9 (.t rfl) (.t rfl) (fun _ => by assumption)) rfl <| .yy (ys_ixA underlying131 sizeOf5 (.t rfl) (.t rfl) (fun _ => by omega)) rfl <| .yy (ys_ldN ⟨isAgg5, sizeOf5⟩ (.t rfl) (k := 1) rfl (fun _ => by assumption)) rfl <| .as rfl <| .z) fun a w S => st_nil (then_normal (hK4 _ _ (wp_seq_k fun _ hK4 => sg S (.mv rfl <| .yy (ys_F (by omega) (ys_eql (.t rfl) Ev.c)) rfl <| .z) fun a w S => st_else S (.t rfl) (wp_skip (then_normal (hK4 _ _ (wp_region_lit (run S (.mv rfl <| .mv rfl <| .yy (ys_cvI underlying5 underlying3 (.t rfl) (fun _ => by unfold I64; omega)) rfl <| .yy (ys_subI (.t rfl) Ev.c (fun _ => by unfold I64; omega)) rfl <| .yy (ys_orA 8 (c := 256) (.t rfl) (.t rfl) rfl rfl (fun _ => by omega)) rfl <| .as rfl <| .z) fun a w S => st_nil (in_normal (then_normal (hK3 _ _ (wp_region_lit (run S (.ad (by unfold I64; omega) rfl <| .mv rfl <| .z) fun a w S => st_nil (then_normal (st_round (sg S (.yy (ys_T (by omega) (ys_lss (.t rfl) Ev.c)) rfl <| .z) fun a w S => wp_seq_k fun _ hK3 => st_then S (.t rfl) (wp_skip (then_normal (hK3 _ _ (wp_seq_k fun _ hK3 => wp_block (sg S (.mv rfl <| .as rfl <| .z) fun a w S => wp_seq_k fun _ hK4 => ?_)))))))))))))))))))))
    refine rg S (.mv rfl <| .yy (ys_shlC (m := 6) (c := 64) (.t rfl) Ev.c rfl rfl (fun _ => by unfold I64; omega)) rfl <| .as rfl <| .z) hK4 fun a w S => wp_seq_k fun _ hK4 => sg S (.mv rfl <| .mv rfl <| .yy (ys_T (by omega) (ys_geq (.t rfl) (.t rfl))) rfl <| .z) fun a w S => st_then S (.t rfl) (wp_exit (then_exit (in_here (then_normal (hK3 _ _ (wp_region_lit (run S (.ad (by unfold I64; omega) rfl <| .mv rfl <| .z) fun a w S => st_nil (then_normal (st_round (sg S (.yy (ys_T (by omega) (ys_lss (.t rfl) Ev.c)) rfl <| .z) fun a w S => wp_seq_k fun _ hK3 => st_then S (.t rfl) (wp_skip (then_normal (hK3 _ _ (wp_seq_k fun _ hK3 => wp_block (sg S (.mv rfl <| .as rfl <| .z) fun a w S => sg S (.mv rfl <| .yy (ys_shlC (m := 6) (c := 64) (.t rfl) Ev.c rfl rfl (fun _ => by unfold I64; omega)) rfl <| .as rfl <| .z) fun a w S => wp_seq_k fun _ hK5 => sg S (.mv rfl <| .mv rfl <| .yy (ys_T (by omega) (ys_geq (.t rfl) (.t rfl))) rfl <| .z) fun a w S => st_then S (.t rfl) (wp_exit (then_exit (in_here (then_normal (hK3 _ _ (wp_region_lit ?_)))))))))))))))))))))
    refine run S (.ad (by unfold I64; omega) rfl <| .mv rfl <| .z) fun a w S => st_nil (then_normal (st_round (sg S (.yy (ys_T (by omega) (ys_lss (.t rfl) Ev.c)) rfl <| .z) fun a w S => wp_seq_k fun _ hK3 => st_then S (.t rfl) (wp_skip (then_normal (hK3 _ _ (wp_seq_k fun _ hK3 => wp_block (sg S (.mv rfl <| .as rfl <| .z) fun a w S => sg S (.mv rfl <| .yy (ys_shlC (m := 6) (c := 64) (.t rfl) Ev.c rfl rfl (fun _ => by unfold I64; omega)) rfl <| .as rfl <| .z) fun a w S => wp_seq_k fun _ hK6 => sg S (.mv rfl <| .mv rfl <| .yy (ys_T (by omega) (ys_geq (.t rfl) (.t rfl))) rfl <| .z) fun a w S => st_then S (.t rfl) (wp_exit (then_exit (in_here (then_normal (hK3 _ _ (wp_region_lit (run S (.ad (by unfold I64; omega) rfl <| .mv rfl <| .z) fun a w S => st_nil (then_normal (st_round (sg S (.yy (ys_F (by omega) (ys_lss (.t rfl) Ev.c)) rfl <| .z) fun a w S => wp_seq_k fun _ hK3 => st_else S (.t rfl) (wp_exit (then_exit (then_exit (in_here (then_normal (hK2 _ _ (wp_seq_k fun _ hK2 => wp_seq_k fun _ hK7 => wp_region_lit ?_)))))))))))))))))))))))))
    refine run S (.mv rfl <| .yy (ys_T (by omega) (ys_eql (.t rfl) Ev.c)) rfl <| .mv rfl <| .sk rfl rfl rfl <| .sk rfl rfl rfl <| .sk rfl rfl rfl <| .sk rfl rfl rfl <| .sk rfl rfl rfl <| .sk rfl rfl rfl <| .sk rfl rfl rfl <| .sk rfl rfl rfl <| .yy (ys_pickT (.t rfl) Ev.c) rfl <| .z) fun a w S => st_nil (then_normal (hK7 _ _ (st_then S (.t rfl) (wp_goto (then_goto (in_goto (then_goto (in_goto (then_goto ?_)))))))))
    refine jump_goto ?_
    exact ⟨hb, S.weak Fits.nil (List.nil_sublist _)⟩
  · have hl0 : m.length = 2 := by rw [hm]; rfl
    have rw_n : min (m.length : Int) 4 = 2 := by omega
    have hi0 : m[0]? = some a1 := by rw [hm]; rfl
    have hu0 := u8lt a1
    have hg0 : (tabV 64)[0 + a1.toNat * 1]? = some (.int .u8 (num64 a1 : Int)) := by simpa using tabV_get a1
    have hk0 := num64_le a1
    have hi1 : m[1]? = some b1 := by rw [hm]; rfl
    have hu1 := u8lt b1
    have hg1 : (tabV 64)[0 + b1.toNat * 1]? = some (.int .u8 (num64 b1 : Int)) := by simpa using tabV_get b1
    have hk1 := num64_le b1
    by_cases ha1 : num64 a1 = 0
    · have hb : bytes64 l = none := by rw [hno, hm]; simp [bytes64, ha1]
      refine wp_seq_k fun _ hK2 => sg S (.mv rfl <| .yy (ys_lenStr underlying9 (.t rfl)) rfl <| .yy (ys_T (by omega) (ys_gtr (.t rfl) Ev.c)) rfl <| .z) fun a w S => st_then S (.t rfl) (wp_skip (then_normal (hK2 _ _ (wp_block (wp_seq_k fun _ hK2 => wp_region_lit (run S (.mv rfl <| .yy (ys_lenStr underlying9 (.t rfl)) rfl <| .yy (ys_min (.t rfl) Ev.c) rfl <| .z) fun a w S => ?_))))))
      rw [rw_n] at S
      refine run S (.as rfl <| .z) fun a w S => st_nil (then_normal (hK2 _ _ (sg S (.ac rfl <| .z) fun a w S => wp_seq_k fun _ hK2 => sg S (.mc rfl <| .z) fun a w S => wp_block (st_rounds 5 (st_round (sg S (.yy (ys_T (by omega) (ys_lss (.t rfl) Ev.c)) rfl <| .z) fun a w S => wp_seq_k fun _ hK3 => st_then S (.t rfl) (wp_skip (then_normal (hK3 _ _ (wp_seq_k fun _ hK3 => wp_block (sg S (.mv rfl <| .as rfl <| .z) fun a w S => sg S (.mv rfl <| .yy (ys_shlC (m := 6) (c := 64) (.t rfl) Ev.c rfl rfl (fun _ => by unfold I64; omega)) rfl <| .as rfl <| .z) fun a w S => wp_seq_k fun _ hK4 => sg S (.mv rfl <| .mv rfl <| .yy (ys_F (by omega) (ys_geq (.t rfl) (.t rfl))) rfl <| .z) fun a w S => st_else S (.t rfl) (wp_skip (then_normal (hK4 _ _ (wp_seq_k fun _ hK4 => wp_region_lit ?_)))))))))))))))
      refine run S (.mv rfl <| .mv rfl <| .yy (ys_ixStr underlying9 (.t rfl) (.t rfl) (fun _ => by assumption)) rfl <| .yy (ys_ixA underlying131 sizeOf5 (.t rfl) (.t rfl) (fun _ => by omega)) rfl <| .yy (ys_ldN ⟨isAgg5, sizeOf5⟩ (.t rfl) (k := 1) rfl (fun _ => by assumption)) rfl <| .as rfl <| .z) fun a w S => st_nil (then_normal (hK4 _ _ (wp_seq_k fun _ hK4 => sg S (.mv rfl <| .yy (ys_T (by omega) (ys_eql (.t rfl) Ev.c)) rfl <| .z) fun a w S => st_then S (.t rfl) (wp_goto (then_goto (in_goto (then_goto (then_goto (in_goto (then_goto (in_goto (then_goto (in_goto (then_goto ?_))))))))))))))
      refine jump_goto ?_
      exact ⟨hb, S.weak Fits.nil (List.nil_sublist _)⟩
    by_cases hb1 : num64 b1 = 0
    · have hb : bytes64 l = none := by rw [hno, hm]; simp [bytes64, hb1]
      refine wp_seq_k fun _ hK2 => sg S (.mv rfl <| .yy (ys_lenStr underlying9 (.t rfl)) rfl <| .yy (ys_T (by omega) (ys_gtr (.t rfl) Ev.c)) rfl <| .z) fun a w S => st_then S (.t rfl) (wp_skip (then_normal (hK2 _ _ (wp_block (wp_seq_k fun _ hK2 => wp_region_lit (run S (.mv rfl <| .yy (ys_lenStr underlying9 (.t rfl)) rfl <| .yy (ys_min (.t rfl) Ev.c) rfl <| .z) fun a w S => ?_))))))
      rw [rw_n] at S
      refine run S (.as rfl <| .z) fun a w S => st_nil (then_normal (hK2 _ _ (sg S (.ac rfl <| .z) fun a w S => wp_seq_k fun _ hK2 => sg S (.mc rfl <| .z) fun a w S => wp_block (st_rounds 5 (st_round (sg S (.yy (ys_T (by omega) (ys_lss (.t rfl) Ev.c)) rfl <| .z) fun a w S => wp_seq_k fun _ hK3 => st_then S (.t rfl) (wp_skip (then_normal (hK3 _ _ (wp_seq_k fun _ hK3 => wp_block (sg S (.mv rfl <| .as rfl <| .z) fun a w S => sg S (.mv rfl <| .yy (ys_shlC (m := 6) (c := 64) (.t rfl) Ev.c rfl rfl (fun _ => by unfold I64; omega)) rfl <| .as rfl <| .z) fun a w S => wp_seq_k fun _ hK4 => sg S (.mv rfl <| .mv rfl <| .yy (ys_F (by omega) (ys_geq (.t rfl) (.t rfl))) rfl <| .z) fun a w S => st_else S (.t rfl) (wp_skip (then_normal (hK4 _ _ (wp_seq_k fun _ hK4 => wp_region_lit ?_)))))))))))))))
      refine run S (.mv rfl <| .mv rfl <| .yy (ys_ixStr underlying9 (.t rfl) (.t rfl) (fun _ => by assumption)) rfl <| .yy (ys_ixA underlying131 sizeOf5 (.t rfl) (.t rfl) (fun _ => by omega)) rfl <| .yy (ys_ldN ⟨isAgg5, sizeOf5⟩ (.t rfl) (k := 1) rfl (fun _ => by assumption)) rfl <| .as rfl <| .z) fun a w S => st_nil (then_normal (hK4 _ _ (wp_seq_k fun _ hK4 => sg S (.mv rfl <| .yy (ys_F (by omega) (ys_eql (.t rfl) Ev.c)) rfl <| .z) fun a w S => st_else S (.t rfl) (wp_skip (then_normal (hK4 _ _ (wp_region_lit (run S (.mv rfl <| .mv rfl <| .yy (ys_cvI underlying5 underlying3 (.t rfl) (fun _ => by unfold I64; omega)) rfl <| .yy (ys_subI (.t rfl) Ev.c (fun _ => by unfold I64; omega)) rfl <| .yy (ys_orA 8 (c := 256) (.t rfl) (.t rfl) rfl rfl (fun _ => by omega)) rfl <| .as rfl <| .z) fun a w S => st_nil (in_normal (then_normal (hK3 _ _ (wp_region_lit (run S (.ad (by unfold I64; omega) rfl <| .mv rfl <| .z) fun a w S => st_nil (then_normal (st_round (sg S (.yy (ys_T (by omega) (ys_lss (.t rfl) Ev.c)) rfl <| .z) fun a w S => wp_seq_k fun _ hK3 => st_then S (.t rfl) (wp_skip (then_normal (hK3 _ _ (wp_seq_k fun _ hK3 => wp_block (sg S (.mv rfl <| .as rfl <| .z) fun a w S => wp_seq_k fun _ hK4 => ?_)))))))))))))))))))))
      refine rg S (.mv rfl <| .yy (ys_shlC (m := 6) (c := 64) (.t rfl) Ev.c rfl rfl (fun _ => by unfold I64; omega)) rfl <| .as rfl <| .z) hK4 fun a w S => wp_seq_k fun _ hK4 => sg S (.mv rfl <| .mv rfl <| .yy (ys_F (by omega) (ys_geq (.t rfl) (.t rfl))) rfl <| .z) fun a w S => st_else S (.t rfl) (wp_skip (then_normal (hK4 _ _ (sg S (.mv rfl <| .mv rfl <| .yy (ys_ixStr underlying9 (.t rfl) (.t rfl) (fun _ => by assumption)) rfl <| .yy (ys_ixA underlying131 sizeOf5 (.t rfl) (.t rfl) (fun _ => by omega)) rfl <| .yy (ys_ldN ⟨isAgg5, sizeOf5⟩ (.t rfl) (k := 1) rfl (fun _ => by assumption)) rfl <| .as rfl <| .z) fun a w S => wp_seq_k fun _ hK4 => sg S (.mv rfl <| .yy (ys_T (by omega) (ys_eql (.t rfl) Ev.c)) rfl <| .z) fun a w S => st_then S (.t rfl) (wp_goto (then_goto (in_goto (then_goto (then_goto (in_goto (then_goto (in_goto (then_goto (in_goto (then_goto ?_)))))))))))))))
      refine jump_goto ?_
      exact ⟨hb, S.weak Fits.nil (List.nil_sublist _)⟩
    refine wp_seq_k fun _ hK2 => sg S (.mv rfl <| .yy (ys_lenStr underlying9 (.t rfl)) rfl <| .yy (ys_T (by omega) (ys_gtr (.t rfl) Ev.c)) rfl <| .z) fun a w S => st_then S (.t rfl) (wp_skip (then_normal (hK2 _ _ (wp_block (wp_seq_k fun _ hK2 => wp_region_lit (run S (.mv rfl <| .yy (ys_lenStr underlying9 (.t rfl)) rfl <| .yy (ys_min (.t rfl) Ev.c) rfl <| .z) fun a w S => ?_))))))
    rw [rw_n] at S
    refine run S (.as rfl <| .z) fun a w S => st_nil (then_normal (hK2 _ _ (sg S (.ac rfl <| .z) fun a w S => wp_seq_k fun _ hK2 => sg S (.mc rfl <| .z) fun a w S => wp_block (st_rounds 5 (st_round (sg S (.yy (ys_T (by omega) (ys_lss (.t rfl) Ev.c)) rfl <| .z) fun a w S => wp_seq_k fun _ hK3 => st_then S (.t rfl) (wp_skip (then_normal (hK3 _ _ (wp_seq_k fun _ hK3 => wp_block (sg S (.mv rfl <| .as rfl <| .z) fun a w S => sg S (.mv rfl <| .yy (ys_shlC (m := 6) (c := 64) (.t rfl) Ev.c rfl rfl (fun _ => by unfold I64; omega)) rfl <| .as rfl <| .z) fun a w S => wp_seq_k fun _ hK4 => sg S (.mv rfl <| .mv rfl <| .yy (ys_F (by omega) (ys_geq (.t rfl) (.t rfl))) rfl <| .z) fun a w S => st_else S (.t rfl) (wp_skip (then_normal (hK4 _ _ (wp_seq_k fun _ hK4 => wp_region_lit ?_)))))))))))))))
    refine run S (.mv rfl <| .mv rfl <| .yy (ys_ixStr underlying9 (.t rfl) (.t rfl) (fun _ => by assumption)) rfl <| .yy (ys_ixA underlying131 sizeOf5 (.t rfl) (.t rfl) (fun _ => by omega)) rfl <| .yy (ys_ldN ⟨isAgg5, sizeOf5⟩ (.t rfl) (k := 1) rfl (fun _ => by assumption)) rfl <| .as rfl <| .z) fun a w S => st_nil (then_normal (hK4 _ _ (wp_seq_k fun _ hK4 => sg S (.mv rfl <| .yy (ys_F (by omega) (ys_eql (.t rfl) Ev.c)) rfl <| .z) fun a w S => st_else S (.t rfl) (wp_skip (then_normal (hK4 _ _ (wp_region_lit (run S (.mv rfl <| .mv rfl <| .yy (ys_cvI underlying5 underlying3 (.t rfl) (fun _ => by unfold I64; omega)) rfl <| .yy (ys_subI (.t rfl) Ev.c (fun _ => by unfold I64; omega)) rfl <| .yy (ys_orA 8 (c := 256) (.t rfl) (.t rfl) rfl rfl (fun _ => by omega)) rfl <| .as rfl <| .z) fun a w S => st_nil (in_normal (then_normal (hK3 _ _ (wp_region_lit (run S (.ad (by unfold I64; omega) rfl <| .mv rfl <| .z) fun a w S => st_nil (then_normal (st_round (sg S (.yy (ys_T (by omega) (ys_lss (.t rfl) Ev.c)) rfl <| .z) fun a w S => wp_seq_k fun _ hK3 => st_then S (.t rfl) (wp_skip (then_normal (hK3 _ _ (wp_seq_k fun _ hK3 => wp_block (sg S (.mv rfl <| .as rfl <| .z) fun a w S => wp_seq_k fun _ hK4 => ?_)))))))))))))))))))))
    refine rg S (.mv rfl <| .yy (ys_shlC (m := 6) (c := 64) (.t rfl) Ev.c rfl rfl (fun _ => by unfold I64; omega)) rfl <| .as rfl <| .z) hK4 fun a w S => wp_seq_k fun _ hK4 => sg S (.mv rfl <| .mv rfl <| .yy (ys_F (by omega) (ys_geq (.t rfl) (.t rfl))) rfl <| .z) fun a w S => st_else S (.t rfl) (wp_skip (then_normal (hK4 _ _ (sg S (.mv rfl <| .mv rfl <| .yy (ys_ixStr underlying9 (.t rfl) (.t rfl) (fun _ => by assumption)) rfl <| .yy (ys_ixA underlying131 sizeOf5 (.t rfl) (.t rfl) (fun _ => by omega)) rfl <| .yy (ys_ldN ⟨isAgg5, sizeOf5⟩ (.t rfl) (k := 1) rfl (fun _ => by assumption)) rfl <| .as rfl <| .z) fun a w S => wp_seq_k fun _ hK4 => sg S (.mv rfl <| .yy (ys_F (by omega) (ys_eql (.t rfl) Ev.c)) rfl <| .z) fun a w S => st_else S (.t rfl) (wp_skip (then_normal (hK4 _ _ (wp_region_lit (run S (.mv rfl <| .mv rfl <| .yy (ys_cvI underlying5 underlying3 (.t rfl) (fun _ => by unfold I64; omega)) rfl <| .yy (ys_subI (.t rfl) Ev.c (fun _ => by unfold I64; omega)) rfl <| .yy (ys_orA 6 (c := 64) (.t rfl) (.t rfl) rfl rfl (fun _ => by omega)) rfl <| .as rfl <| .z) fun a w S => st_nil (in_normal (then_normal (hK3 _ _ (wp_region_lit ?_)))))))))))))
    refine run S (.ad (by unfold I64; omega) rfl <| .mv rfl <| .z) fun a w S => st_nil (then_normal (st_round (sg S (.yy (ys_T (by omega) (ys_lss (.t rfl) Ev.c)) rfl <| .z) fun a w S => wp_seq_k fun _ hK3 => st_then S (.t rfl) (wp_skip (then_normal (hK3 _ _ (wp_seq_k fun _ hK3 => wp_block (sg S (.mv rfl <| .as rfl <| .z) fun a w S => sg S (.mv rfl <| .yy (ys_shlC (m := 6) (c := 64) (.t rfl) Ev.c rfl rfl (fun _ => by unfold I64; omega)) rfl <| .as rfl <| .z) fun a w S => wp_seq_k fun _ hK4 => sg S (.mv rfl <| .mv rfl <| .yy (ys_T (by omega) (ys_geq (.t rfl) (.t rfl))) rfl <| .z) fun a w S => st_then S (.t rfl) (wp_exit (then_exit (in_here (then_normal (hK3 _ _ (wp_region_lit (run S (.ad (by unfold I64; omega) rfl <| .mv rfl <| .z) fun a w S => st_nil (then_normal (st_round (sg S (.yy (ys_T (by omega) (ys_lss (.t rfl) Ev.c)) rfl <| .z) fun a w S => wp_seq_k fun _ hK3 => st_then S (.t rfl) (wp_skip (then_normal (hK3 _ _ (wp_seq_k fun _ hK3 => wp_block (sg S (.mv rfl <| .as rfl <| .z) fun a w S => wp_seq_k fun _ hK5 => ?_)))))))))))))))))))))))
    refine rg S (.mv rfl <| .yy (ys_shlC (m := 6) (c := 64) (.t rfl) Ev.c rfl rfl (fun _ => by unfold I64; omega)) rfl <| .as rfl <| .z) hK5 fun a w S => wp_seq_k fun _ hK5 => sg S (.mv rfl <| .mv rfl <| .yy (ys_T (by omega) (ys_geq (.t rfl) (.t rfl))) rfl <| .z) fun a w S => st_then S (.t rfl) (wp_exit (then_exit (in_here (then_normal (hK3 _ _ (wp_region_lit (run S (.ad (by unfold I64; omega) rfl <| .mv rfl <| .z) fun a w S => st_nil (then_normal (st_round (sg S (.yy (ys_F (by omega) (ys_lss (.t rfl) Ev.c)) rfl <| .z) fun a w S => wp_seq_k fun _ hK3 => st_else S (.t rfl) (wp_exit (then_exit (then_exit (in_here (then_normal (hK2 _ _ (wp_seq_k fun _ hK2 => wp_seq_k fun _ hK6 => wp_region_lit ?_)))))))))))))))))
    refine run S (.mv rfl <| .yy (ys_F (by omega) (ys_eql (.t rfl) Ev.c)) rfl <| .mv rfl <| .gy rfl rfl (ys_move (.t rfl)) <| .gy rfl rfl (ys_move (.t rfl)) <| .gy rfl rfl (ys_subI Ev.c (.t rfl) (fun _ => by unfold I64; omega)) <| .gy rfl rfl (ys_mulI Ev.c (.t rfl) (fun _ => by unfold I64; omega)) <| .gy rfl rfl (ys_shlC (m := 16) (c := 65536) Ev.c (.t rfl) rfl rfl (fun _ => by unfold I64; omega)) <| .gy rfl rfl (ys_pred (.t rfl) Ev.c (by omega)) <| .gy rfl rfl (ys_andM 16 (c := 65536) (.t rfl) (.t rfl) rfl rfl rfl (fun _ => by omega)) <| .gy rfl rfl (ys_neq (.t rfl) Ev.c) <| .yy (ys_pickF (.t rfl) (.t rfl)) rfl <| .z) fun a w S => st_nil (then_normal (hK6 _ _ ?_))
    refine st_if S (.t rfl) (fun h1 => ?_) (fun h1 => ?_)
    refine wp_goto (then_goto (in_goto (then_goto (in_goto (then_goto ?_)))))
    refine jump_goto ?_
    rotate_left
    refine wp_skip (then_normal (hK2 _ _ (wp_seq_k fun _ hK2 => wp_region_lit (run S (.mv rfl <| .yy (ys_shrC (m := 16) (c := 65536) (.t rfl) Ev.c rfl rfl) rfl <| .yy (ys_cvB underlying3 underlying5 (.t rfl)) rfl <| .mv rfl <| .yy (ys_shrC (m := 8) (c := 256) (.t rfl) Ev.c rfl rfl) rfl <| .yy (ys_cvB underlying3 underlying5 (.t rfl)) rfl <| .mv rfl <| .yy (ys_cvB underlying3 underlying5 (.t rfl)) rfl <| .yy (ys_bldA (ps := [(0, Go.Operand.tmp 53), (1, Go.Operand.tmp 56), (2, Go.Operand.tmp 58)]) (us := [_, _, _]) ⟨⟨_, zeroValue127, rfl⟩, _, _, underlying127, sizeOf5⟩ (.cons (.t rfl) (.cons (.t rfl) (.cons (.t rfl) .nil))) rfl) rfl <| .z) fun a w S => st_m (op_alloc S zeroValue127 (cs := _) rfl rfl fun g2 a w S => st_m (op_stW S sizeOf127 (.t rfl) (.t rfl) (k := 0) rfl rfl rfl (by simp [Value.oneCell']) fun a w S => st_nil (then_normal (hK2 _ _ (wp_seq_k fun _ hK2 => wp_region_lit (run S (.mv rfl <| .mv rfl <| .yy (ys_pred (.t rfl) Ev.c (by omega)) rfl <| .yy (ys_arrHi underlying127 sizeOf5 (.t rfl) (.t rfl) (fun _ => by first | omega | (simp; done) | (simp; omega))) rfl <| .z) fun a w S => ?_))))))))))
    rotate_left
    · exact ⟨by rw [hno, hm, tok_no2 a1 b1 ha1 hb1 (by omega)]; rfl, S.weak Fits.nil (List.nil_sublist _)⟩
    refine st_m (op_extend [b8 (((0 * 64 + ((num64 a1 : Int) - 1)) * 64 + ((num64 b1 : Int) - 1)) * 64 * 64 / 65536)] S underlying57 underlying57 (.inr ⟨_, rfl⟩) inf5 rfl (k := 1) rfl (.t rfl) (.t rfl)
      (Src.blkN S.wd (k := 0) rfl rfl (by simp) (by simp [Value.oneCell'])) (by simp; omega) rfl rfl rfl ?_)
    clear S
    intro B' cB' a w S
    refine run S (.as rfl <| .z) fun a w S => st_nil (then_normal (hK2 _ _ (wp_region_lit (run S (.mv rfl <| .mv rfl <| .yy (ys_slStrLo underlying9 (.t rfl) (.t rfl) (fun _ => by first | omega | (simp; done) | (simp; omega))) rfl <| .as rfl <| .z) fun a w S => st_nil (in_normal (then_normal ?_))))))
    have hdr : m.drop 2 = [] := by rw [hm]; rfl
    exact ⟨(m.drop 2, out ++ [b8 (((0 * 64 + ((num64 a1 : Int) - 1)) * 64 + ((num64 b1 : Int) - 1)) * 64 * 64 / 65536)], B', cB'), ⟨by dsimp only; rw [hno, hm, tok_step2 a1 b1 ha1 hb1 (by omega)]; simp [bytes64, Option.map_map, Function.comp_def], by simp; omega⟩, by rw [List.length_drop]; dsimp only; omega, S.wk⟩
  · have hl0 : m.length = 3 := by rw [hm]; rfl
    have rw_n : min (m.length : Int) 4 = 3 := by omega
    have hi0 : m[0]? = some a1 := by rw [hm]; rfl
    have hu0 := u8lt a1
    have hg0 : (tabV 64)[0 + a1.toNat * 1]? = some (.int .u8 (num64 a1 : Int)) := by simpa using tabV_get a1
    have hk0 := num64_le a1
    have hi1 : m[1]? = some b1 := by rw [hm]; rfl
    have hu1 := u8lt b1
    have hg1 : (tabV 64)[0 + b1.toNat * 1]? = some (.int .u8 (num64 b1 : Int)) := by simpa using tabV_get b1
    have hk1 := num64_le b1
    have hi2 : m[2]? = some c1 := by rw [hm]; rfl
    have hu2 := u8lt c1
    have hg2 : (tabV 64)[0 + c1.toNat * 1]? = some (.int .u8 (num64 c1 : Int)) := by simpa using tabV_get c1
    have hk2 := num64_le c1
    by_cases ha1 : num64 a1 = 0
    · have hb : bytes64 l = none := by rw [hno, hm]; simp [bytes64, ha1]
      refine wp_seq_k fun _ hK2 => sg S (.mv rfl <| .yy (ys_lenStr underlying9 (.t rfl)) rfl <| .yy (ys_T (by omega) (ys_gtr (.t rfl) Ev.c)) rfl <| .z) fun a w S => st_then S (.t rfl) (wp_skip (then_normal (hK2 _ _ (wp_block (wp_seq_k fun _ hK2 => wp_region_lit (run S (.mv rfl <| .yy (ys_lenStr underlying9 (.t rfl)) rfl <| .yy (ys_min (.t rfl) Ev.c) rfl <| .z) fun a w S => ?_))))))
      rw [rw_n] at S
      refine run S (.as rfl <| .z) fun a w S => st_nil (then_normal (hK2 _ _ (sg S (.ac rfl <| .z) fun a w S => wp_seq_k fun _ hK2 => sg S (.mc rfl <| .z) fun a w S => wp_block (st_rounds 5 (st_round (sg S (.yy (ys_T (by omega) (ys_lss (.t rfl) Ev.c)) rfl <| .z) fun a w S => wp_seq_k fun _ hK3 => st_then S (.t rfl) (wp_skip (then_normal (hK3 _ _ (wp_seq_k fun _ hK3 => wp_block (sg S (.mv rfl <| .as rfl <| .z) fun a w S => sg S (.mv rfl <| .yy (ys_shlC (m := 6) (c := 64) (.t rfl) Ev.c rfl rfl (fun _ => by unfold I64; omega)) rfl <| .as rfl <| .z) fun a w S => wp_seq_k fun _ hK4 => sg S (.mv rfl <| .mv rfl <| .yy (ys_F (by omega) (ys_geq (.t rfl) (.t rfl))) rfl <| .z) fun a w S => st_else S (.t rfl) (wp_skip (then_normal (hK4 _ _ (wp_seq_k fun _ hK4 => wp_region_lit ?_)))))))))))))))
      refine run S (.mv rfl <| .mv rfl <| .yy (ys_ixStr underlying9 (.t rfl) (.t rfl) (fun _ => by assumption)) rfl <| .yy (ys_ixA underlying131 sizeOf5 (.t rfl) (.t rfl) (fun _ => by omega)) rfl <| .yy (ys_ldN ⟨isAgg5, sizeOf5⟩ (.t rfl) (k := 1) rfl (fun _ => by assumption)) rfl <| .as rfl <| .z) fun a w S => st_nil (then_normal (hK4 _ _ (wp_seq_k fun _ hK4 => sg S (.mv rfl <| .yy (ys_T (by omega) (ys_eql (.t rfl) Ev.c)) rfl <| .z) fun a w S => st_then S (.t rfl) (wp_goto (then_goto (in_goto (then_goto (then_goto (in_goto (then_goto (in_goto (then_goto (in_goto (then_goto ?_))))))))))))))
      refine jump_goto ?_
      exact ⟨hb, S.weak Fits.nil (List.nil_sublist _)⟩
    by_cases hb1 : num64 b1 = 0
    · have hb : bytes64 l = none := by rw [hno, hm]; simp [bytes64, hb1]
      refine wp_seq_k fun _ hK2 => sg S (.mv rfl <| .yy (ys_lenStr underlying9 (.t rfl)) rfl <| .yy (ys_T (by omega) (ys_gtr (.t rfl) Ev.c)) rfl <| .z) fun a w S => st_then S (.t rfl) (wp_skip (then_normal (hK2 _ _ (wp_block (wp_seq_k fun _ hK2 => wp_region_lit (run S (.mv rfl <| .yy (ys_lenStr underlying9 (.t rfl)) rfl <| .yy (ys_min (.t rfl) Ev.c) rfl <| .z) fun a w S => ?_))))))
      rw [rw_n] at S
      refine run S (.as rfl <| .z) fun a w S => st_nil (then_normal (hK2 _ _ (sg S (.ac rfl <| .z) fun a w S => wp_seq_k fun _ hK2 => sg S (.mc rfl <| .z) fun a w S => wp_block (st_rounds 5 (st_round (sg S (.yy (ys_T (by omega) (ys_lss (.t rfl) Ev.c)) rfl <| .z) fun a w S => wp_seq_k fun _ hK3 => st_then S (.t rfl) (wp_skip (then_normal (hK3 _ _ (wp_seq_k fun _ hK3 => wp_block (sg S (.mv rfl <| .as rfl <| .z) fun a w S => sg S (.mv rfl <| .yy (ys_shlC (m := 6) (c := 64) (.t rfl) Ev.c rfl rfl (fun _ => by unfold I64; omega)) rfl <| .as rfl <| .z) fun a w S => wp_seq_k fun _ hK4 => sg S (.mv rfl <| .mv rfl <| .yy (ys_F (by omega) (ys_geq (.t rfl) (.t rfl))) rfl <| .z) fun a w S => st_else S (.t rfl) (wp_skip (then_normal (hK4 _ _ (wp_seq_k fun _ hK4 => wp_region_lit ?_)))))))))))))))
      refine run S (.mv rfl <| .mv rfl <| .yy (ys_ixStr underlying9 (.t rfl) (.t rfl) (fun _ => by assumption)) rfl <| .yy (ys_ixA underlying131 sizeOf5 (.t rfl) (.t rfl) (fun _ => by omega)) rfl <| .yy (ys_ldN ⟨isAgg5, sizeOf5⟩ (.t rfl) (k := 1) rfl (fun _ => by assumption)) rfl <| .as rfl <| .z) fun a w S => st_nil (then_normal (hK4 _ _ (wp_seq_k fun _ hK4 => sg S (.mv rfl <| .yy (ys_F (by omega) (ys_eql (.t rfl) Ev.c)) rfl <| .z) fun a w S => st_else S (.t rfl) (wp_skip (then_normal (hK4 _ _ (wp_region_lit (run S (.mv rfl <| .mv rfl <| .yy (ys_cvI underlying5 underlying3 (.t rfl) (fun _ => by unfold I64; omega)) rfl <| .yy (ys_subI (.t rfl) Ev.c (fun _ => by unfold I64; omega)) rfl <| .yy (ys_orA 8 (c := 256) (.t rfl) (.t rfl) rfl rfl (fun _ => by omega)) rfl <| .as rfl <| .z) fun a w S => st_nil (in_normal (then_normal (hK3 _ _ (wp_region_lit (run S (.ad (by unfold I64; omega) rfl <| .mv rfl <| .z) fun a w S => st_nil (then_normal (st_round (sg S (.yy (ys_T (by omega) (ys_lss (.t rfl) Ev.c)) rfl <| .z) fun a w S => wp_seq_k fun _ hK3 => st_then S (.t rfl) (wp_skip (then_normal (hK3 _ _ (wp_seq_k fun _ hK3 => wp_block (sg S (.mv rfl <| .as rfl <| .z) fun a w S => wp_seq_k fun _ hK4 => ?_)))))))))))))))))))))
      refine rg S (.mv rfl <| .yy (ys_shlC (m := 6) (c := 64) (.t rfl) Ev.c rfl rfl (fun _ => by unfold I64; omega)) rfl <| .as rfl <| .z) hK4 fun a w S => wp_seq_k fun _ hK4 => sg S (.mv rfl <| .mv rfl <| .yy (ys_F (by omega) (ys_geq (.t rfl) (.t rfl))) rfl <| .z) fun a w S => st_else S (.t rfl) (wp_skip (then_normal (hK4 _ _ (sg S (.mv rfl <| .mv rfl <| .yy (ys_ixStr underlying9 (.t rfl) (.t rfl) (fun _ => by assumption)) rfl <| .yy (ys_ixA underlying131 sizeOf5 (.t rfl) (.t rfl) (fun _ => by omega)) rfl <| .yy (ys_ldN ⟨isAgg5, sizeOf5⟩ (.t rfl) (k := 1) rfl (fun _ => by assumption)) rfl <| .as rfl <| .z) fun a w S => wp_seq_k fun _ hK4 => sg S (.mv rfl <| .yy (ys_T (by omega) (ys_eql (.t rfl) Ev.c)) rfl <| .z) fun a w S => st_then S (.t rfl) (wp_goto (then_goto (in_goto (then_goto (then_goto (in_goto (then_goto (in_goto (then_goto (in_goto (then_goto ?_)))))))))))))))
      refine jump_goto ?_
      exact ⟨hb, S.weak Fits.nil (List.nil_sublist _)⟩
    by_cases hc1 : num64 c1 = 0
    · have hb : bytes64 l = none := by rw [hno, hm]; simp [bytes64, hc1]
      refine wp_seq_k fun _ hK2 => sg S (.mv rfl <| .yy (ys_lenStr underlying9 (.t rfl)) rfl <| .yy (ys_T (by omega) (ys_gtr (.t rfl) Ev.c)) rfl <| .z) fun a w S => st_then S (.t rfl) (wp_skip (then_normal (hK2 _ _ (wp_block (wp_seq_k fun _ hK2 => wp_region_lit (run S (.mv rfl <| .yy (ys_lenStr underlying9 (.t rfl)) rfl <| .yy (ys_min (.t rfl) Ev.c) rfl <| .z) fun a w S => ?_))))))
      rw [rw_n] at S
      refine run S (.as rfl <| .z) fun a w S => st_nil (then_normal (hK2 _ _ (sg S (.ac rfl <| .z) fun a w S => wp_seq_k fun _ hK2 => sg S (.mc rfl <| .z) fun a w S => wp_block (st_rounds 5 (st_round (sg S (.yy (ys_T (by omega) (ys_lss (.t rfl) Ev.c)) rfl <| .z) fun a w S => wp_seq_k fun _ hK3 => st_then S (.t rfl) (wp_skip (then_normal (hK3 _ _ (wp_seq_k fun _ hK3 => wp_block (sg S (.mv rfl <| .as rfl <| .z) fun a w S => sg S (.mv rfl <| .yy (ys_shlC (m := 6) (c := 64) (.t rfl) Ev.c rfl rfl (fun _ => by unfold I64; omega)) rfl <| .as rfl <| .z) fun a w S => wp_seq_k fun _ hK4 => sg S (.mv rfl <| .mv rfl <| .yy (ys_F (by omega) (ys_geq (.t rfl) (.t rfl))) rfl <| .z) fun a w S => st_else S (.t rfl) (wp_skip (then_normal (hK4 _ _ (wp_seq_k fun _ hK4 => wp_region_lit ?_)))))))))))))))
      refine run S (.mv rfl <| .mv rfl <| .yy (ys_ixStr underlying9 (.t rfl) (.t rfl) (fun _ => by assumption)) rfl <| .yy (ys_ixA underlying131 sizeOf5 (.t rfl) (.t rfl) (fun _ => by omega)) rfl <| .yy (ys_ldN ⟨isAgg5, sizeOf5⟩ (.t rfl) (k := 1) rfl (fun _ => by assumption)) rfl <| .as rfl <| .z) fun a w S => st_nil (then_normal (hK4 _ _ (wp_seq_k fun _ hK4 => sg S (.mv rfl <| .yy (ys_F (by omega) (ys_eql (.t rfl) Ev.c)) rfl <| .z) fun a w S => st_else S (.t rfl) (wp_skip (then_normal (hK4 _ _ (wp_region_lit (run S (.mv rfl <| .mv rfl <| .yy (ys_cvI underlying5 underlying3 (.t rfl) (fun _ => by unfold I64; omega)) rfl <| .yy (ys_subI (.t rfl) Ev.c (fun _ => by unfold I64; omega)) rfl <| .yy (ys_orA 8 (c := 256) (.t rfl) (.t rfl) rfl rfl (fun _ => by omega)) rfl <| .as rfl <| .z) fun a w S => st_nil (in_normal (then_normal (hK3 _ _ (wp_region_lit (run S (.ad (by unfold I64; omega) rfl <| .mv rfl <| .z) fun a w S => st_nil (then_normal (st_round (sg S (.yy (ys_T (by omega) (ys_lss (.t rfl) Ev.c)) rfl <| .z) fun a w S => wp_seq_k fun _ hK3 => st_then S (.t rfl) (wp_skip (then_normal (hK3 _ _ (wp_seq_k fun _ hK3 => wp_block (sg S (.mv rfl <| .as rfl <| .z) fun a w S => wp_seq_k fun _ hK4 => ?_)))))))))))))))))))))
      refine rg S (.mv rfl <| .yy (ys_shlC (m := 6) (c := 64) (.t rfl) Ev.c rfl rfl (fun _ => by unfold I64; omega)) rfl <| .as rfl <| .z) hK4 fun a w S => wp_seq_k fun _ hK4 => sg S (.mv rfl <| .mv rfl <| .yy (ys_F (by omega) (ys_geq (.t rfl) (.t rfl))) rfl <| .z) fun a w S => st_else S (.t rfl) (wp_skip (then_normal (hK4 _ _ (sg S (.mv rfl <| .mv rfl <| .yy (ys_ixStr underlying9 (.t rfl) (.t rfl) (fun _ => by assumption)) rfl <| .yy (ys_ixA underlying131 sizeOf5 (.t rfl) (.t rfl) (fun _ => by omega)) rfl <| .yy (ys_ldN ⟨isAgg5, sizeOf5⟩ (.t rfl) (k := 1) rfl (fun _ => by assumption)) rfl <| .as rfl <| .z) fun a w S => wp_seq_k fun _ hK4 => sg S (.mv rfl <| .yy (ys_F (by omega) (ys_eql (.t rfl) Ev.c)) rfl <| .z) fun a w S => st_else S (.t rfl) (wp_skip (then_normal (hK4 _ _ (wp_region_lit (run S (.mv rfl <| .mv rfl <| .yy (ys_cvI underlying5 underlying3 (.t rfl) (fun _ => by unfold I64; omega)) rfl <| .yy (ys_subI (.t rfl) Ev.c (fun _ => by unfold I64; omega)) rfl <| .yy (ys_orA 6 (c := 64) (.t rfl) (.t rfl) rfl rfl (fun _ => by omega)) rfl <| .as rfl <| .z) fun a w S => st_nil (in_normal (then_normal (hK3 _ _ (wp_region_lit ?_)))))))))))))
      refine run S (.ad (by unfold I64; omega) rfl <| .mv rfl <| .z) fun a w S => st_nil (then_normal (st_round (sg S (.yy (ys_T (by omega) (ys_lss (.t rfl) Ev.c)) rfl <| .z) fun a w S => wp_seq_k fun _ hK3 => st_then S (.t rfl) (wp_skip (then_normal (hK3 _ _ (wp_seq_k fun _ hK3 => wp_block (sg S (.mv rfl <| .as rfl <| .z) fun a w S => sg S (.mv rfl <| .yy (ys_shlC (m := 6) (c := 64) (.t rfl) Ev.c rfl rfl (fun _ => by unfold I64; omega)) rfl <| .as rfl <| .z) fun a w S => wp_seq_k fun _ hK4 => sg S (.mv rfl <| .mv rfl <| .yy (ys_F (by omega) (ys_geq (.t rfl) (.t rfl))) rfl <| .z) fun a w S => st_else S (.t rfl) (wp_skip (then_normal (hK4 _ _ (sg S (.mv rfl <| .mv rfl <| .yy (ys_ixStr underlying9 (.t rfl) (.t rfl) (fun _ => by assumption)) rfl <| .yy (ys_ixA underlying131 sizeOf5 (.t rfl) (.t rfl) (fun _ => by omega)) rfl <| .yy (ys_ldN ⟨isAgg5, sizeOf5⟩ (.t rfl) (k := 1) rfl (fun _ => by assumption)) rfl <| .as rfl <| .z) fun a w S => wp_seq_k fun _ hK4 => wp_seq_k fun _ hK5 => wp_region_lit ?_))))))))))))
      refine run S (.mv rfl <| .yy (ys_T (by omega) (ys_eql (.t rfl) Ev.c)) rfl <| .z) fun a w S => st_nil (then_normal (hK5 _ _ (st_then S (.t rfl) (wp_goto (then_goto (in_goto (then_goto (then_goto (in_goto (then_goto (in_goto (then_goto (in_goto (then_goto ?_))))))))))))))
      refine jump_goto ?_
      exact ⟨hb, S.weak Fits.nil (List.nil_sublist _)⟩
    refine wp_seq_k fun _ hK2 => sg S (.mv rfl <| .yy (ys_lenStr underlying9 (.t rfl)) rfl <| .yy (ys_T (by omega) (ys_gtr (.t rfl) Ev.c)) rfl <| .z) fun a w S => st_then S (.t rfl) (wp_skip (then_normal (hK2 _ _ (wp_block (wp_seq_k fun _ hK2 => wp_region_lit (run S (.mv rfl <| .yy (ys_lenStr underlying9 (.t rfl)) rfl <| .yy (ys_min (.t rfl) Ev.c) rfl <| .z) fun a w S => ?_))))))
    rw [rw_n] at S
    refine run S (.as rfl <| .z) fun a w S => st_nil (then_normal (hK2 _ _ (sg S (.ac rfl <| .z) fun a w S => wp_seq_k fun _ hK2 => sg S (.mc rfl <| .z) fun a w S => wp_block (st_rounds 5 (st_round (sg S (.yy (ys_T (by omega) (ys_lss (.t rfl) Ev.c)) rfl <| .z) fun a w S => wp_seq_k fun _ hK3 => st_then S (.t rfl) (wp_skip (then_normal (hK3 _ _ (wp_seq_k fun _ hK3 => wp_block (sg S (.mv rfl <| .as rfl <| .z) fun a w S => sg S (.mv rfl <| .yy (ys_shlC (m := 6) (c := 64) (.t rfl) Ev.c rfl rfl (fun _ => by unfold I64; omega)) rfl <| .as rfl <| .z) fun a w S => wp_seq_k fun _ hK4 => sg S (.mv rfl <| .mv rfl <| .yy (ys_F (by omega) (ys_geq (.t rfl) (.t rfl))) rfl <| .z) fun a w S => st_else S (.t rfl) (wp_skip (then_normal (hK4 _ _ (wp_seq_k fun _ hK4 => wp_region_lit ?_)))))))))))))))
    refine run S (.mv rfl <| .mv rfl <| .yy (ys_ixStr underlying9 (.t rfl) (.t rfl) (fun _ => by assumption)) rfl <| .yy (ys_ixA underlying131 sizeOf5 (.t rfl) (.t rfl) (fun _ => by omega)) rfl <| .yy (ys_ldN ⟨isAgg5, sizeOf5⟩ (.t rfl) (k := 1) rfl (fun _ => by assumption)) rfl <| .as rfl <| .z) fun a w S => st_nil (then_normal (hK4 _ _ (wp_seq_k fun _ hK4 => sg S (.mv rfl <| .yy (ys_F (by omega) (ys_eql (.t rfl) Ev.c)) rfl <| .z) fun a w S => st_else S (.t rfl) (wp_skip (then_normal (hK4 _ _ (wp_region_lit (run S (.mv rfl <| .mv rfl <| .yy (ys_cvI underlying5 underlying3 (.t rfl) (fun _ => by unfold I64; omega)) rfl <| .yy (ys_subI (.t rfl) Ev.c (fun _ => by unfold I64; omega)) rfl <| .yy (ys_orA 8 (c := 256) (.t rfl) (.t rfl) rfl rfl (fun _ => by omega)) rfl <| .as rfl <| .z) fun a w S => st_nil (in_normal (then_normal (hK3 _ _ (wp_region_lit (run S (.ad (by unfold I64; omega) rfl <| .mv rfl <| .z) fun a w S => st_nil (then_normal (st_round (sg S (.yy (ys_T (by omega) (ys_lss (.t rfl) Ev.c)) rfl <| .z) fun a w S => wp_seq_k fun _ hK3 => st_then S (.t rfl) (wp_skip (then_normal (hK3 _ _ (wp_seq_k fun _ hK3 => wp_block (sg S (.mv rfl <| .as rfl <| .z) fun a w S => wp_seq_k fun _ hK4 => ?_)))))))))))))))))))))
    refine rg S (.mv rfl <| .yy (ys_shlC (m := 6) (c := 64) (.t rfl) Ev.c rfl rfl (fun _ => by unfold I64; omega)) rfl <| .as rfl <| .z) hK4 fun a w S => wp_seq_k fun _ hK4 => sg S (.mv rfl <| .mv rfl <| .yy (ys_F (by omega) (ys_geq (.t rfl) (.t rfl))) rfl <| .z) fun a w S => st_else S (.t rfl) (wp_skip (then_normal (hK4 _ _ (sg S (.mv rfl <| .mv rfl <| .yy (ys_ixStr underlying9 (.t rfl) (.t rfl) (fun _ => by assumption)) rfl <| .yy (ys_ixA underlying131 sizeOf5 (.t rfl) (.t rfl) (fun _ => by omega)) rfl <| .yy (ys_ldN ⟨isAgg5, sizeOf5⟩ (.t rfl) (k := 1) rfl (fun _ => by assumption)) rfl <| .as rfl <| .z) fun a w S => wp_seq_k fun _ hK4 => sg S (.mv rfl <| .yy (ys_F (by omega) (ys_eql (.t rfl) Ev.c)) rfl <| .z) fun a w S => st_else S (.t rfl) (wp_skip (then_normal (hK4 _ _ (wp_region_lit (run S (.mv rfl <| .mv rfl <| .yy (ys_cvI underlying5 underlying3 (.t rfl) (fun _ => by unfold I64; omega)) rfl <| .yy (ys_subI (.t rfl) Ev.c (fun _ => by unfold I64; omega)) rfl <| .yy (ys_orA 6 (c := 64) (.t rfl) (.t rfl) rfl rfl (fun _ => by omega)) rfl <| .as rfl <| .z) fun a w S => st_nil (in_normal (then_normal (hK3 _ _ (wp_region_lit ?_)))))))))))))
    refine run S (.ad (by unfold I64; omega) rfl <| .mv rfl <| .z) fun a w S => st_nil (then_normal (st_round (sg S (.yy (ys_T (by omega) (ys_lss (.t rfl) Ev.c)) rfl <| .z) fun a w S => wp_seq_k fun _ hK3 => st_then S (.t rfl) (wp_skip (then_normal (hK3 _ _ (wp_seq_k fun _ hK3 => wp_block (sg S (.mv rfl <| .as rfl <| .z) fun a w S => sg S (.mv rfl <| .yy (ys_shlC (m := 6) (c := 64) (.t rfl) Ev.c rfl rfl (fun _ => by unfold I64; omega)) rfl <| .as rfl <| .z) fun a w S => wp_seq_k fun _ hK4 => sg S (.mv rfl <| .mv rfl <| .yy (ys_F (by omega) (ys_geq (.t rfl) (.t rfl))) rfl <| .z) fun a w S => st_else S (.t rfl) (wp_skip (then_normal (hK4 _ _ (sg S (.mv rfl <| .mv rfl <| .yy (ys_ixStr underlying9 (.t rfl) (.t rfl) (fun _ => by assumption)) rfl <| .yy (ys_ixA underlying131 sizeOf5 (.t rfl) (.t rfl) (fun _ => by omega)) rfl <| .yy (ys_ldN ⟨isAgg5, sizeOf5⟩ (.t rfl) (k := 1) rfl (fun _ => by assumption)) rfl <| .as rfl <| .z) fun a w S => wp_seq_k fun _ hK4 => wp_seq_k fun _ hK5 => wp_region_lit ?_))))))))))))
    refine run S (.mv rfl <| .yy (ys_F (by omega) (ys_eql (.t rfl) Ev.c)) rfl <| .z) fun a w S => st_nil (then_normal (hK5 _ _ (st_else S (.t rfl) (wp_skip (then_normal (hK4 _ _ (wp_region_lit (run S (.mv rfl <| .mv rfl <| .yy (ys_cvI underlying5 underlying3 (.t rfl) (fun _ => by unfold I64; omega)) rfl <| .yy (ys_subI (.t rfl) Ev.c (fun _ => by unfold I64; omega)) rfl <| .yy (ys_orA 6 (c := 64) (.t rfl) (.t rfl) rfl rfl (fun _ => by omega)) rfl <| .as rfl <| .z) fun a w S => st_nil (in_normal (then_normal (hK3 _ _ (wp_region_lit (run S (.ad (by unfold I64; omega) rfl <| .mv rfl <| .z) fun a w S => st_nil (then_normal (st_round (sg S (.yy (ys_T (by omega) (ys_lss (.t rfl) Ev.c)) rfl <| .z) fun a w S => wp_seq_k fun _ hK3 => st_then S (.t rfl) (wp_skip (then_normal (hK3 _ _ (wp_seq_k fun _ hK3 => wp_block (sg S (.mv rfl <| .as rfl <| .z) fun a w S => sg S (.mv rfl <| .yy (ys_shlC (m := 6) (c := 64) (.t rfl) Ev.c rfl rfl (fun _ => by unfold I64; omega)) rfl <| .as rfl <| .z) fun a w S => wp_seq_k fun _ hK4 => sg S (.mv rfl <| .mv rfl <| .yy (ys_T (by omega) (ys_geq (.t rfl) (.t rfl))) rfl <| .z) fun a w S => st_then S (.t rfl) (wp_exit ?_))))))))))))))))))))))
    refine then_exit (in_here (then_normal (hK3 _ _ (wp_region_lit (run S (.ad (by unfold I64; omega) rfl <| .mv rfl <| .z) fun a w S => st_nil (then_normal (st_round (sg S (.yy (ys_F (by omega) (ys_lss (.t rfl) Ev.c)) rfl <| .z) fun a w S => wp_seq_k fun _ hK3 => st_else S (.t rfl) (wp_exit (then_exit (then_exit (in_here (then_normal (hK2 _ _ (wp_seq_k fun _ hK2 => sg S (.mv rfl <| .yy (ys_F (by omega) (ys_eql (.t rfl) Ev.c)) rfl <| .mv rfl <| .gy rfl rfl (ys_move (.t rfl)) <| .gy rfl rfl (ys_move (.t rfl)) <| .gy rfl rfl (ys_subI Ev.c (.t rfl) (fun _ => by unfold I64; omega)) <| .gy rfl rfl (ys_mulI Ev.c (.t rfl) (fun _ => by unfold I64; omega)) <| .gy rfl rfl (ys_shlC (m := 8) (c := 256) Ev.c (.t rfl) rfl rfl (fun _ => by unfold I64; omega)) <| .gy rfl rfl (ys_pred (.t rfl) Ev.c (by omega)) <| .gy rfl rfl (ys_andM 8 (c := 256) (.t rfl) (.t rfl) rfl rfl rfl (fun _ => by omega)) <| .gy rfl rfl (ys_neq (.t rfl) Ev.c) <| .yy (ys_pickF (.t rfl) (.t rfl)) rfl <| .z) fun a w S => ?_)))))))))))))))
    refine st_if S (.t rfl) (fun h1 => ?_) (fun h1 => ?_)
    refine wp_goto (then_goto (in_goto (then_goto (in_goto (then_goto ?_)))))
    refine jump_goto ?_
    rotate_left
    refine wp_skip (then_normal (hK2 _ _ (wp_seq_k fun _ hK2 => wp_region_lit (run S (.mv rfl <| .yy (ys_shrC (m := 16) (c := 65536) (.t rfl) Ev.c rfl rfl) rfl <| .yy (ys_cvB underlying3 underlying5 (.t rfl)) rfl <| .mv rfl <| .yy (ys_shrC (m := 8) (c := 256) (.t rfl) Ev.c rfl rfl) rfl <| .yy (ys_cvB underlying3 underlying5 (.t rfl)) rfl <| .mv rfl <| .yy (ys_cvB underlying3 underlying5 (.t rfl)) rfl <| .yy (ys_bldA (ps := [(0, Go.Operand.tmp 53), (1, Go.Operand.tmp 56), (2, Go.Operand.tmp 58)]) (us := [_, _, _]) ⟨⟨_, zeroValue127, rfl⟩, _, _, underlying127, sizeOf5⟩ (.cons (.t rfl) (.cons (.t rfl) (.cons (.t rfl) .nil))) rfl) rfl <| .z) fun a w S => st_m (op_alloc S zeroValue127 (cs := _) rfl rfl fun g2 a w S => st_m (op_stW S sizeOf127 (.t rfl) (.t rfl) (k := 0) rfl rfl rfl (by simp [Value.oneCell']) fun a w S => st_nil (then_normal (hK2 _ _ (wp_seq_k fun _ hK2 => wp_region_lit (run S (.mv rfl <| .mv rfl <| .yy (ys_pred (.t rfl) Ev.c (by omega)) rfl <| .yy (ys_arrHi underlying127 sizeOf5 (.t rfl) (.t rfl) (fun _ => by first | omega | (simp; done) | (simp; omega))) rfl <| .z) fun a w S => ?_))))))))))
    rotate_left
    · exact ⟨by rw [hno, hm, tok_no3 a1 b1 c1 ha1 hb1 hc1 (by omega)]; rfl, S.weak Fits.nil (List.nil_sublist _)⟩
    refine st_m (op_extend [b8 ((((0 * 64 + ((num64 a1 : Int) - 1)) * 64 + ((num64 b1 : Int) - 1)) * 64 + ((num64 c1 : Int) - 1)) * 64 / 65536), b8 ((((0 * 64 + ((num64 a1 : Int) - 1)) * 64 + ((num64 b1 : Int) - 1)) * 64 + ((num64 c1 : Int) - 1)) * 64 / 256)] S underlying57 underlying57 (.inr ⟨_, rfl⟩) inf5 rfl (k := 1) rfl (.t rfl) (.t rfl)
      (Src.blkN S.wd (k := 0) rfl rfl (by simp) (by simp [Value.oneCell'])) (by simp; omega) rfl rfl rfl ?_)
    clear S
    intro B' cB' a w S
    refine run S (.as rfl <| .z) fun a w S => st_nil (then_normal (hK2 _ _ (wp_region_lit (run S (.mv rfl <| .mv rfl <| .yy (ys_slStrLo underlying9 (.t rfl) (.t rfl) (fun _ => by first | omega | (simp; done) | (simp; omega))) rfl <| .as rfl <| .z) fun a w S => st_nil (in_normal (then_normal ?_))))))
    have hdr : m.drop 3 = [] := by rw [hm]; rfl
    exact ⟨(m.drop 3, out ++ [b8 ((((0 * 64 + ((num64 a1 : Int) - 1)) * 64 + ((num64 b1 : Int) - 1)) * 64 + ((num64 c1 : Int) - 1)) * 64 / 65536), b8 ((((0 * 64 + ((num64 a1 : Int) - 1)) * 64 + ((num64 b1 : Int) - 1)) * 64 + ((num64 c1 : Int) - 1)) * 64 / 256)], B', cB'), ⟨by dsimp only; rw [hno, hm, tok_step3 a1 b1 c1 ha1 hb1 hc1 (by omega)]; simp [bytes64, Option.map_map, Function.comp_def], by simp; omega⟩, by rw [List.length_drop]; dsimp only; omega, S.wk⟩
  · have hl0 : 4 ≤ m.length := by rw [hm]; simp
    have rw_n : min (m.length : Int) 4 = 4 := by omega
    have hi0 : m[0]? = some a1 := by rw [hm]; rfl
    have hu0 := u8lt a1
    have hg0 : (tabV 64)[0 + a1.toNat * 1]? = some (.int .u8 (num64 a1 : Int)) := by simpa using tabV_get a1
    have hk0 := num64_le a1
    have hi1 : m[1]? = some b1 := by rw [hm]; rfl
    have hu1 := u8lt b1
    have hg1 : (tabV 64)[0 + b1.toNat * 1]? = some (.int .u8 (num64 b1 : Int)) := by simpa using tabV_get b1
    have hk1 := num64_le b1
    have hi2 : m[2]? = some c1 := by rw [hm]; rfl
    have hu2 := u8lt c1
    have hg2 : (tabV 64)[0 + c1.toNat * 1]? = some (.int .u8 (num64 c1 : Int)) := by simpa using tabV_get c1
    have hk2 := num64_le c1
    have hi3 : m[3]? = some d1 := by rw [hm]; rfl
    have hu3 := u8lt d1
    have hg3 : (tabV 64)[0 + d1.toNat * 1]? = some (.int .u8 (num64 d1 : Int)) := by simpa using tabV_get d1
    have hk3 := num64_le d1
    by_cases ha1 : num64 a1 = 0
    · have hb : bytes64 l = none := by rw [hno, hm]; simp [bytes64, ha1]
      refine wp_seq_k fun _ hK2 => sg S (.mv rfl <| .yy (ys_lenStr underlying9 (.t rfl)) rfl <| .yy (ys_T (by omega) (ys_gtr (.t rfl) Ev.c)) rfl <| .z) fun a w S => st_then S (.t rfl) (wp_skip (then_normal (hK2 _ _ (wp_block (wp_seq_k fun _ hK2 => wp_region_lit (run S (.mv rfl <| .yy (ys_lenStr underlying9 (.t rfl)) rfl <| .yy (ys_min (.t rfl) Ev.c) rfl <| .z) fun a w S => ?_))))))
      rw [rw_n] at S
      refine run S (.as rfl <| .z) fun a w S => st_nil (then_normal (hK2 _ _ (sg S (.ac rfl <| .z) fun a w S => wp_seq_k fun _ hK2 => sg S (.mc rfl <| .z) fun a w S => wp_block (st_rounds 5 (st_round (sg S (.yy (ys_T (by omega) (ys_lss (.t rfl) Ev.c)) rfl <| .z) fun a w S => wp_seq_k fun _ hK3 => st_then S (.t rfl) (wp_skip (then_normal (hK3 _ _ (wp_seq_k fun _ hK3 => wp_block (sg S (.mv rfl <| .as rfl <| .z) fun a w S => sg S (.mv rfl <| .yy (ys_shlC (m := 6) (c := 64) (.t rfl) Ev.c rfl rfl (fun _ => by unfold I64; omega)) rfl <| .as rfl <| .z) fun a w S => wp_seq_k fun _ hK4 => sg S (.mv rfl <| .mv rfl <| .yy (ys_F (by omega) (ys_geq (.t rfl) (.t rfl))) rfl <| .z) fun a w S => st_else S (.t rfl) (wp_skip (then_normal (hK4 _ _ (wp_seq_k fun _ hK4 => wp_region_lit ?_)))))))))))))))
      refine run S (.mv rfl <| .mv rfl <| .yy (ys_ixStr underlying9 (.t rfl) (.t rfl) (fun _ => by assumption)) rfl <| .yy (ys_ixA underlying131 sizeOf5 (.t rfl) (.t rfl) (fun _ => by omega)) rfl <| .yy (ys_ldN ⟨isAgg5, sizeOf5⟩ (.t rfl) (k := 1) rfl (fun _ => by assumption)) rfl <| .as rfl <| .z) fun a w S => st_nil (then_normal (hK4 _ _ (wp_seq_k fun _ hK4 => sg S (.mv rfl <| .yy (ys_T (by omega) (ys_eql (.t rfl) Ev.c)) rfl <| .z) fun a w S => st_then S (.t rfl) (wp_goto (then_goto (in_goto (then_goto (then_goto (in_goto (then_goto (in_goto (then_goto (in_goto (then_goto ?_))))))))))))))
      refine jump_goto ?_
      exact ⟨hb, S.weak Fits.nil (List.nil_sublist _)⟩
    by_cases hb1 : num64 b1 = 0
    · have hb : bytes64 l = none := by rw [hno, hm]; simp [bytes64, hb1]
      refine wp_seq_k fun _ hK2 => sg S (.mv rfl <| .yy (ys_lenStr underlying9 (.t rfl)) rfl <| .yy (ys_T (by omega) (ys_gtr (.t rfl) Ev.c)) rfl <| .z) fun a w S => st_then S (.t rfl) (wp_skip (then_normal (hK2 _ _ (wp_block (wp_seq_k fun _ hK2 => wp_region_lit (run S (.mv rfl <| .yy (ys_lenStr underlying9 (.t rfl)) rfl <| .yy (ys_min (.t rfl) Ev.c) rfl <| .z) fun a w S => ?_))))))
      rw [rw_n] at S
      refine run S (.as rfl <| .z) fun a w S => st_nil (then_normal (hK2 _ _ (sg S (.ac rfl <| .z) fun a w S => wp_seq_k fun _ hK2 => sg S (.mc rfl <| .z) fun a w S => wp_block (st_rounds 5 (st_round (sg S (.yy (ys_T (by omega) (ys_lss (.t rfl) Ev.c)) rfl <| .z) fun a w S => wp_seq_k fun _ hK3 => st_then S (.t rfl) (wp_skip (then_normal (hK3 _ _ (wp_seq_k fun _ hK3 => wp_block (sg S (.mv rfl <| .as rfl <| .z) fun a w S => sg S (.mv rfl <| .yy (ys_shlC (m := 6) (c := 64) (.t rfl) Ev.c rfl rfl (fun _ => by unfold I64; omega)) rfl <| .as rfl <| .z) fun a w S => wp_seq_k fun _ hK4 => sg S (.mv rfl <| .mv rfl <| .yy (ys_F (by omega) (ys_geq (.t rfl) (.t rfl))) rfl <| .z) fun a w S => st_else S (.t rfl) (wp_skip (then_normal (hK4 _ _ (wp_seq_k fun _ hK4 => wp_region_lit ?_)))))))))))))))
      refine run S (.mv rfl <| .mv rfl <| .yy (ys_ixStr underlying9 (.t rfl) (.t rfl) (fun _ => by assumption)) rfl <| .yy (ys_ixA underlying131 sizeOf5 (.t rfl) (.t rfl) (fun _ => by omega)) rfl <| .yy (ys_ldN ⟨isAgg5, sizeOf5⟩ (.t rfl) (k := 1) rfl (fun _ => by assumption)) rfl <| .as rfl <| .z) fun a w S => st_nil (then_normal (hK4 _ _ (wp_seq_k fun _ hK4 => sg S (.mv rfl <| .yy (ys_F (by omega) (ys_eql (.t rfl) Ev.c)) rfl <| .z) fun a w S => st_else S (.t rfl) (wp_skip (then_normal (hK4 _ _ (wp_region_lit (run S (.mv rfl <| .mv rfl <| .yy (ys_cvI underlying5 underlying3 (.t rfl) (fun _ => by unfold I64; omega)) rfl <| .yy (ys_subI (.t rfl) Ev.c (fun _ => by unfold I64; omega)) rfl <| .yy (ys_orA 8 (c := 256) (.t rfl) (.t rfl) rfl rfl (fun _ => by omega)) rfl <| .as rfl <| .z) fun a w S => st_nil (in_normal (then_normal (hK3 _ _ (wp_region_lit (run S (.ad (by unfold I64; omega) rfl <| .mv rfl <| .z) fun a w S => st_nil (then_normal (st_round (sg S (.yy (ys_T (by omega) (ys_lss (.t rfl) Ev.c)) rfl <| .z) fun a w S => wp_seq_k fun _ hK3 => st_then S (.t rfl) (wp_skip (then_normal (hK3 _ _ (wp_seq_k fun _ hK3 => wp_block (sg S (.mv rfl <| .as rfl <| .z) fun a w S => wp_seq_k fun _ hK4 => ?_)))))))))))))))))))))
      refine rg S (.mv rfl <| .yy (ys_shlC (m := 6) (c := 64) (.t rfl) Ev.c rfl rfl (fun _ => by unfold I64; omega)) rfl <| .as rfl <| .z) hK4 fun a w S => wp_seq_k fun _ hK4 => sg S (.mv rfl <| .mv rfl <| .yy (ys_F (by omega) (ys_geq (.t rfl) (.t rfl))) rfl <| .z) fun a w S => st_else S (.t rfl) (wp_skip (then_normal (hK4 _ _ (sg S (.mv rfl <| .mv rfl <| .yy (ys_ixStr underlying9 (.t rfl) (.t rfl) (fun _ => by assumption)) rfl <| .yy (ys_ixA underlying131 sizeOf5 (.t rfl) (.t rfl) (fun _ => by omega)) rfl <| .yy (ys_ldN ⟨isAgg5, sizeOf5⟩ (.t rfl) (k := 1) rfl (fun _ => by assumption)) rfl <| .as rfl <| .z) fun a w S => wp_seq_k fun _ hK4 => sg S (.mv rfl <| .yy (ys_T (by omega) (ys_eql (.t rfl) Ev.c)) rfl <| .z) fun a w S => st_then S (.t rfl) (wp_goto (then_goto (in_goto (then_goto (then_goto (in_goto (then_goto (in_goto (then_goto (in_goto (then_goto ?_)))))))))))))))
      refine jump_goto ?_
      exact ⟨hb, S.weak Fits.nil (List.nil_sublist _)⟩
    by_cases hc1 : num64 c1 = 0
    · have hb : bytes64 l = none := by rw [hno, hm]; simp [bytes64, hc1]
      refine wp_seq_k fun _ hK2 => sg S (.mv rfl <| .yy (ys_lenStr underlying9 (.t rfl)) rfl <| .yy (ys_T (by omega) (ys_gtr (.t rfl) Ev.c)) rfl <| .z) fun a w S => st_then S (.t rfl) (wp_skip (then_normal (hK2 _ _ (wp_block (wp_seq_k fun _ hK2 => wp_region_lit (run S (.mv rfl <| .yy (ys_lenStr underlying9 (.t rfl)) rfl <| .yy (ys_min (.t rfl) Ev.c) rfl <| .z) fun a w S => ?_))))))
      rw [rw_n] at S
      refine run S (.as rfl <| .z) fun a w S => st_nil (then_normal (hK2 _ _ (sg S (.ac rfl <| .z) fun a w S => wp_seq_k fun _ hK2 => sg S (.mc rfl <| .z) fun a w S => wp_block (st_rounds 5 (st_round (sg S (.yy (ys_T (by omega) (ys_lss (.t rfl) Ev.c)) rfl <| .z) fun a w S => wp_seq_k fun _ hK3 => st_then S (.t rfl) (wp_skip (then_normal (hK3 _ _ (wp_seq_k fun _ hK3 => wp_block (sg S (.mv rfl <| .as rfl <| .z) fun a w S => sg S (.mv rfl <| .yy (ys_shlC (m := 6) (c := 64) (.t rfl) Ev.c rfl rfl (fun _ => by unfold I64; omega)) rfl <| .as rfl <| .z) fun a w S => wp_seq_k fun _ hK4 => sg S (.mv rfl <| .mv rfl <| .yy (ys_F (by omega) (ys_geq (.t rfl) (.t rfl))) rfl <| .z) fun a w S => st_else S (.t rfl) (wp_skip (then_normal (hK4 _ _ (wp_seq_k fun _ hK4 => wp_region_lit ?_)))))))))))))))
      refine run S (.mv rfl <| .mv rfl <| .yy (ys_ixStr underlying9 (.t rfl) (.t rfl) (fun _ => by assumption)) rfl <| .yy (ys_ixA underlying131 sizeOf5 (.t rfl) (.t rfl) (fun _ => by omega)) rfl <| .yy (ys_ldN ⟨isAgg5, sizeOf5⟩ (.t rfl) (k := 1) rfl (fun _ => by assumption)) rfl <| .as rfl <| .z) fun a w S => st_nil (then_normal (hK4 _ _ (wp_seq_k fun _ hK4 => sg S (.mv rfl <| .yy (ys_F (by omega) (ys_eql (.t rfl) Ev.c)) rfl <| .z) fun a w S => st_else S (.t rfl) (wp_skip (then_normal (hK4 _ _ (wp_region_lit (run S (.mv rfl <| .mv rfl <| .yy (ys_cvI underlying5 underlying3 (.t rfl) (fun _ => by unfold I64; omega)) rfl <| .yy (ys_subI (.t rfl) Ev.c (fun _ => by unfold I64; omega)) rfl <| .yy (ys_orA 8 (c := 256) (.t rfl) (.t rfl) rfl rfl (fun _ => by omega)) rfl <| .as rfl <| .z) fun a w S => st_nil (in_normal (then_normal (hK3 _ _ (wp_region_lit (run S (.ad (by unfold I64; omega) rfl <| .mv rfl <| .z) fun a w S => st_nil (then_normal (st_round (sg S (.yy (ys_T (by omega) (ys_lss (.t rfl) Ev.c)) rfl <| .z) fun a w S => wp_seq_k fun _ hK3 => st_then S (.t rfl) (wp_skip (then_normal (hK3 _ _ (wp_seq_k fun _ hK3 => wp_block (sg S (.mv rfl <| .as rfl <| .z) fun a w S => wp_seq_k fun _ hK4 => ?_)))))))))))))))))))))
      refine rg S (.mv rfl <| .yy (ys_shlC (m := 6) (c := 64) (.t rfl) Ev.c rfl rfl (fun _ => by unfold I64; omega)) rfl <| .as rfl <| .z) hK4 fun a w S => wp_seq_k fun _ hK4 => sg S (.mv rfl <| .mv rfl <| .yy (ys_F (by omega) (ys_geq (.t rfl) (.t rfl))) rfl <| .z) fun a w S => st_else S (.t rfl) (wp_skip (then_normal (hK4 _ _ (sg S (.mv rfl <| .mv rfl <| .yy (ys_ixStr underlying9 (.t rfl) (.t rfl) (fun _ => by assumption)) rfl <| .yy (ys_ixA underlying131 sizeOf5 (.t rfl) (.t rfl) (fun _ => by omega)) rfl <| .yy (ys_ldN ⟨isAgg5, sizeOf5⟩ (.t rfl) (k := 1) rfl (fun _ => by assumption)) rfl <| .as rfl <| .z) fun a w S => wp_seq_k fun _ hK4 => sg S (.mv rfl <| .yy (ys_F (by omega) (ys_eql (.t rfl) Ev.c)) rfl <| .z) fun a w S => st_else S (.t rfl) (wp_skip (then_normal (hK4 _ _ (wp_region_lit (run S (.mv rfl <| .mv rfl <| .yy (ys_cvI underlying5 underlying3 (.t rfl) (fun _ => by unfold I64; omega)) rfl <| .yy (ys_subI (.t rfl) Ev.c (fun _ => by unfold I64; omega)) rfl <| .yy (ys_orA 6 (c := 64) (.t rfl) (.t rfl) rfl rfl (fun _ => by omega)) rfl <| .as rfl <| .z) fun a w S => st_nil (in_normal (then_normal (hK3 _ _ (wp_region_lit ?_)))))))))))))
      refine run S (.ad (by unfold I64; omega) rfl <| .mv rfl <| .z) fun a w S => st_nil (then_normal (st_round (sg S (.yy (ys_T (by omega) (ys_lss (.t rfl) Ev.c)) rfl <| .z) fun a w S => wp_seq_k fun _ hK3 => st_then S (.t rfl) (wp_skip (then_normal (hK3 _ _ (wp_seq_k fun _ hK3 => wp_block (sg S (.mv rfl <| .as rfl <| .z) fun a w S => sg S (.mv rfl <| .yy (ys_shlC (m := 6) (c := 64) (.t rfl) Ev.c rfl rfl (fun _ => by unfold I64; omega)) rfl <| .as rfl <| .z) fun a w S => wp_seq_k fun _ hK4 => sg S (.mv rfl <| .mv rfl <| .yy (ys_F (by omega) (ys_geq (.t rfl) (.t rfl))) rfl <| .z) fun a w S => st_else S (.t rfl) (wp_skip (then_normal (hK4 _ _ (sg S (.mv rfl <| .mv rfl <| .yy (ys_ixStr underlying9 (.t rfl) (.t rfl) (fun _ => by assumption)) rfl <| .yy (ys_ixA underlying131 sizeOf5 (.t rfl) (.t rfl) (fun _ => by omega)) rfl <| .yy (ys_ldN ⟨isAgg5, sizeOf5⟩ (.t rfl) (k := 1) rfl (fun _ => by assumption)) rfl <| .as rfl <| .z) fun a w S => wp_seq_k fun _ hK4 => wp_seq_k fun _ hK5 => wp_region_lit ?_))))))))))))
      refine run S (.mv rfl <| .yy (ys_T (by omega) (ys_eql (.t rfl) Ev.c)) rfl <| .z) fun a w S => st_nil (then_normal (hK5 _ _ (st_then S (.t rfl) (wp_goto (then_goto (in_goto (then_goto (then_goto (in_goto (then_goto (in_goto (then_goto (in_goto (then_goto ?_))))))))))))))
      refine jump_goto ?_
      exact ⟨hb, S.weak Fits.nil (List.nil_sublist _)⟩
    by_cases hd1 : num64 d1 = 0
    · have hb : bytes64 l = none := by rw [hno, hm]; simp [bytes64, hd1]
      refine wp_seq_k fun _ hK2 => sg S (.mv rfl <| .yy (ys_lenStr underlying9 (.t rfl)) rfl <| .yy (ys_T (by omega) (ys_gtr (.t rfl) Ev.c)) rfl <| .z) fun a w S => st_then S (.t rfl) (wp_skip (then_normal (hK2 _ _ (wp_block (wp_seq_k fun _ hK2 => wp_region_lit (run S (.mv rfl <| .yy (ys_lenStr underlying9 (.t rfl)) rfl <| .yy (ys_min (.t rfl) Ev.c) rfl <| .z) fun a w S => ?_))))))
      rw [rw_n] at S
      refine run S (.as rfl <| .z) fun a w S => st_nil (then_normal (hK2 _ _ (sg S (.ac rfl <| .z) fun a w S => wp_seq_k fun _ hK2 => sg S (.mc rfl <| .z) fun a w S => wp_block (st_rounds 5 (st_round (sg S (.yy (ys_T (by omega) (ys_lss (.t rfl) Ev.c)) rfl <| .z) fun a w S => wp_seq_k fun _ hK3 => st_then S (.t rfl) (wp_skip (then_normal (hK3 _ _ (wp_seq_k fun _ hK3 => wp_block (sg S (.mv rfl <| .as rfl <| .z) fun a w S => sg S (.mv rfl <| .yy (ys_shlC (m := 6) (c := 64) (.t rfl) Ev.c rfl rfl (fun _ => by unfold I64; omega)) rfl <| .as rfl <| .z) fun a w S => wp_seq_k fun _ hK4 => sg S (.mv rfl <| .mv rfl <| .yy (ys_F (by omega) (ys_geq (.t rfl) (.t rfl))) rfl <| .z) fun a w S => st_else S (.t rfl) (wp_skip (then_normal (hK4 _ _ (wp_seq_k fun _ hK4 => wp_region_lit ?_)))))))))))))))
      refine run S (.mv rfl <| .mv rfl <| .yy (ys_ixStr underlying9 (.t rfl) (.t rfl) (fun _ => by assumption)) rfl <| .yy (ys_ixA underlying131 sizeOf5 (.t rfl) (.t rfl) (fun _ => by omega)) rfl <| .yy (ys_ldN ⟨isAgg5, sizeOf5⟩ (.t rfl) (k := 1) rfl (fun _ => by assumption)) rfl <| .as rfl <| .z) fun a w S => st_nil (then_normal (hK4 _ _ (wp_seq_k fun _ hK4 => sg S (.mv rfl <| .yy (ys_F (by omega) (ys_eql (.t rfl) Ev.c)) rfl <| .z) fun a w S => st_else S (.t rfl) (wp_skip (then_normal (hK4 _ _ (wp_region_lit (run S (.mv rfl <| .mv rfl <| .yy (ys_cvI underlying5 underlying3 (.t rfl) (fun _ => by unfold I64; omega)) rfl <| .yy (ys_subI (.t rfl) Ev.c (fun _ => by unfold I64; omega)) rfl <| .yy (ys_orA 8 (c := 256) (.t rfl) (.t rfl) rfl rfl (fun _ => by omega)) rfl <| .as rfl <| .z) fun a w S => st_nil (in_normal (then_normal (hK3 _ _ (wp_region_lit (run S (.ad (by unfold I64; omega) rfl <| .mv rfl <| .z) fun a w S => st_nil (then_normal (st_round (sg S (.yy (ys_T (by omega) (ys_lss (.t rfl) Ev.c)) rfl <| .z) fun a w S => wp_seq_k fun _ hK3 => st_then S (.t rfl) (wp_skip (then_normal (hK3 _ _ (wp_seq_k fun _ hK3 => wp_block (sg S (.mv rfl <| .as rfl <| .z) fun a w S => wp_seq_k fun _ hK4 => ?_)))))))))))))))))))))
      refine rg S (.mv rfl <| .yy (ys_shlC (m := 6) (c := 64) (.t rfl) Ev.c rfl rfl (fun _ => by unfold I64; omega)) rfl <| .as rfl <| .z) hK4 fun a w S => wp_seq_k fun _ hK4 => sg S (.mv rfl <| .mv rfl <| .yy (ys_F (by omega) (ys_geq (.t rfl) (.t rfl))) rfl <| .z) fun a w S => st_else S (.t rfl) (wp_skip (then_normal (hK4 _ _ (sg S (.mv rfl <| .mv rfl <| .yy (ys_ixStr underlying9 (.t rfl) (.t rfl) (fun _ => by assumption)) rfl <| .yy (ys_ixA underlying131 sizeOf5 (.t rfl) (.t rfl) (fun _ => by omega)) rfl <| .yy (ys_ldN ⟨isAgg5, sizeOf5⟩ (.t rfl) (k := 1) rfl (fun _ => by assumption)) rfl <| .as rfl <| .z) fun a w S => wp_seq_k fun _ hK4 => sg S (.mv rfl <| .yy (ys_F (by omega) (ys_eql (.t rfl) Ev.c)) rfl <| .z) fun a w S => st_else S (.t rfl) (wp_skip (then_normal (hK4 _ _ (wp_region_lit (run S (.mv rfl <| .mv rfl <| .yy (ys_cvI underlying5 underlying3 (.t rfl) (fun _ => by unfold I64; omega)) rfl <| .yy (ys_subI (.t rfl) Ev.c (fun _ => by unfold I64; omega)) rfl <| .yy (ys_orA 6 (c := 64) (.t rfl) (.t rfl) rfl rfl (fun _ => by omega)) rfl <| .as rfl <| .z) fun a w S => st_nil (in_normal (then_normal (hK3 _ _ (wp_region_lit ?_)))))))))))))
      refine run S (.ad (by unfold I64; omega) rfl <| .mv rfl <| .z) fun a w S => st_nil (then_normal (st_round (sg S (.yy (ys_T (by omega) (ys_lss (.t rfl) Ev.c)) rfl <| .z) fun a w S => wp_seq_k fun _ hK3 => st_then S (.t rfl) (wp_skip (then_normal (hK3 _ _ (wp_seq_k fun _ hK3 => wp_block (sg S (.mv rfl <| .as rfl <| .z) fun a w S => sg S (.mv rfl <| .yy (ys_shlC (m := 6) (c := 64) (.t rfl) Ev.c rfl rfl (fun _ => by unfold I64; omega)) rfl <| .as rfl <| .z) fun a w S => wp_seq_k fun _ hK4 => sg S (.mv rfl <| .mv rfl <| .yy (ys_F (by omega) (ys_geq (.t rfl) (.t rfl))) rfl <| .z) fun a w S => st_else S (.t rfl) (wp_skip (then_normal (hK4 _ _ (sg S (.mv rfl <| .mv rfl <| .yy (ys_ixStr underlying9 (.t rfl) (.t rfl) (fun _ => by assumption)) rfl <| .yy (ys_ixA underlying131 sizeOf5 (.t rfl) (.t rfl) (fun _ => by omega)) rfl <| .yy (ys_ldN ⟨isAgg5, sizeOf5⟩ (.t rfl) (k := 1) rfl (fun _ => by assumption)) rfl <| .as rfl <| .z) fun a w S => wp_seq_k fun _ hK4 => wp_seq_k fun _ hK5 => wp_region_lit ?_))))))))))))
      refine run S (.mv rfl <| .yy (ys_F (by omega) (ys_eql (.t rfl) Ev.c)) rfl <| .z) fun a w S => st_nil (then_normal (hK5 _ _ (st_else S (.t rfl) (wp_skip (then_normal (hK4 _ _ (wp_region_lit (run S (.mv rfl <| .mv rfl <| .yy (ys_cvI underlying5 underlying3 (.t rfl) (fun _ => by unfold I64; omega)) rfl <| .yy (ys_subI (.t rfl) Ev.c (fun _ => by unfold I64; omega)) rfl <| .yy (ys_orA 6 (c := 64) (.t rfl) (.t rfl) rfl rfl (fun _ => by omega)) rfl <| .as rfl <| .z) fun a w S => st_nil (in_normal (then_normal (hK3 _ _ (wp_region_lit (run S (.ad (by unfold I64; omega) rfl <| .mv rfl <| .z) fun a w S => st_nil (then_normal (st_round (sg S (.yy (ys_T (by omega) (ys_lss (.t rfl) Ev.c)) rfl <| .z) fun a w S => wp_seq_k fun _ hK3 => st_then S (.t rfl) (wp_skip (then_normal (hK3 _ _ (wp_seq_k fun _ hK3 => wp_block (sg S (.mv rfl <| .as rfl <| .z) fun a w S => sg S (.mv rfl <| .yy (ys_shlC (m := 6) (c := 64) (.t rfl) Ev.c rfl rfl (fun _ => by unfold I64; omega)) rfl <| .as rfl <| .z) fun a w S => wp_seq_k fun _ hK4 => sg S (.mv rfl <| .mv rfl <| .yy (ys_F (by omega) (ys_geq (.t rfl) (.t rfl))) rfl <| .z) fun a w S => st_else S (.t rfl) (wp_skip ?_))))))))))))))))))))))
      refine then_normal (hK4 _ _ (sg S (.mv rfl <| .mv rfl <| .yy (ys_ixStr underlying9 (.t rfl) (.t rfl) (fun _ => by assumption)) rfl <| .yy (ys_ixA underlying131 sizeOf5 (.t rfl) (.t rfl) (fun _ => by omega)) rfl <| .yy (ys_ldN ⟨isAgg5, sizeOf5⟩ (.t rfl) (k := 1) rfl (fun _ => by assumption)) rfl <| .as rfl <| .z) fun a w S => wp_seq_k fun _ hK4 => sg S (.mv rfl <| .yy (ys_T (by omega) (ys_eql (.t rfl) Ev.c)) rfl <| .z) fun a w S => st_then S (.t rfl) (wp_goto (then_goto (in_goto (then_goto (then_goto (in_goto (then_goto (in_goto (then_goto (in_goto (then_goto ?_)))))))))))))
      refine jump_goto ?_
      exact ⟨hb, S.weak Fits.nil (List.nil_sublist _)⟩
    refine wp_seq_k fun _ hK2 => sg S (.mv rfl <| .yy (ys_lenStr underlying9 (.t rfl)) rfl <| .yy (ys_T (by omega) (ys_gtr (.t rfl) Ev.c)) rfl <| .z) fun a w S => st_then S (.t rfl) (wp_skip (then_normal (hK2 _ _ (wp_block (wp_seq_k fun _ hK2 => wp_region_lit (run S (.mv rfl <| .yy (ys_lenStr underlying9 (.t rfl)) rfl <| .yy (ys_min (.t rfl) Ev.c) rfl <| .z) fun a w S => ?_))))))
    rw [rw_n] at S
    refine run S (.as rfl <| .z) fun a w S => st_nil (then_normal (hK2 _ _ (sg S (.ac rfl <| .z) fun a w S => wp_seq_k fun _ hK2 => sg S (.mc rfl <| .z) fun a w S => wp_block (st_rounds 5 (st_round (sg S (.yy (ys_T (by omega) (ys_lss (.t rfl) Ev.c)) rfl <| .z) fun a w S => wp_seq_k fun _ hK3 => st_then S (.t rfl) (wp_skip (then_normal (hK3 _ _ (wp_seq_k fun _ hK3 => wp_block (sg S (.mv rfl <| .as rfl <| .z) fun a w S => sg S (.mv rfl <| .yy (ys_shlC (m := 6) (c := 64) (.t rfl) Ev.c rfl rfl (fun _ => by unfold I64; omega)) rfl <| .as rfl <| .z) fun a w S => wp_seq_k fun _ hK4 => sg S (.mv rfl <| .mv rfl <| .yy (ys_F (by omega) (ys_geq (.t rfl) (.t rfl))) rfl <| .z) fun a w S => st_else S (.t rfl) (wp_skip (then_normal (hK4 _ _ (wp_seq_k fun _ hK4 => wp_region_lit ?_)))))))))))))))
    refine run S (.mv rfl <| .mv rfl <| .yy (ys_ixStr underlying9 (.t rfl) (.t rfl) (fun _ => by assumption)) rfl <| .yy (ys_ixA underlying131 sizeOf5 (.t rfl) (.t rfl) (fun _ => by omega)) rfl <| .yy (ys_ldN ⟨isAgg5, sizeOf5⟩ (.t rfl) (k := 1) rfl (fun _ => by assumption)) rfl <| .as rfl <| .z) fun a w S => st_nil (then_normal (hK4 _ _ (wp_seq_k fun _ hK4 => sg S (.mv rfl <| .yy (ys_F (by omega) (ys_eql (.t rfl) Ev.c)) rfl <| .z) fun a w S => st_else S (.t rfl) (wp_skip (then_normal (hK4 _ _ (wp_region_lit (run S (.mv rfl <| .mv rfl <| .yy (ys_cvI underlying5 underlying3 (.t rfl) (fun _ => by unfold I64; omega)) rfl <| .yy (ys_subI (.t rfl) Ev.c (fun _ => by unfold I64; omega)) rfl <| .yy (ys_orA 8 (c := 256) (.t rfl) (.t rfl) rfl rfl (fun _ => by omega)) rfl <| .as rfl <| .z) fun a w S => st_nil (in_normal (then_normal (hK3 _ _ (wp_region_lit (run S (.ad (by unfold I64; omega) rfl <| .mv rfl <| .z) fun a w S => st_nil (then_normal (st_round (sg S (.yy (ys_T (by omega) (ys_lss (.t rfl) Ev.c)) rfl <| .z) fun a w S => wp_seq_k fun _ hK3 => st_then S (.t rfl) (wp_skip (then_normal (hK3 _ _ (wp_seq_k fun _ hK3 => wp_block (sg S (.mv rfl <| .as rfl <| .z) fun a w S => wp_seq_k fun _ hK4 => ?_)))))))))))))))))))))
    refine rg S (.mv rfl <| .yy (ys_shlC (m := 6) (c := 64) (.t rfl) Ev.c rfl rfl (fun _ => by unfold I64; omega)) rfl <| .as rfl <| .z) hK4 fun a w S => wp_seq_k fun _ hK4 => sg S (.mv rfl <| .mv rfl <| .yy (ys_F (by omega) (ys_geq (.t rfl) (.t rfl))) rfl <| .z) fun a w S => st_else S (.t rfl) (wp_skip (then_normal (hK4 _ _ (sg S (.mv rfl <| .mv rfl <| .yy (ys_ixStr underlying9 (.t rfl) (.t rfl) (fun _ => by assumption)) rfl <| .yy (ys_ixA underlying131 sizeOf5 (.t rfl) (.t rfl) (fun _ => by omega)) rfl <| .yy (ys_ldN ⟨isAgg5, sizeOf5⟩ (.t rfl) (k := 1) rfl (fun _ => by assumption)) rfl <| .as rfl <| .z) fun a w S => wp_seq_k fun _ hK4 => sg S (.mv rfl <| .yy (ys_F (by omega) (ys_eql (.t rfl) Ev.c)) rfl <| .z) fun a w S => st_else S (.t rfl) (wp_skip (then_normal (hK4 _ _ (wp_region_lit (run S (.mv rfl <| .mv rfl <| .yy (ys_cvI underlying5 underlying3 (.t rfl) (fun _ => by unfold I64; omega)) rfl <| .yy (ys_subI (.t rfl) Ev.c (fun _ => by unfold I64; omega)) rfl <| .yy (ys_orA 6 (c := 64) (.t rfl) (.t rfl) rfl rfl (fun _ => by omega)) rfl <| .as rfl <| .z) fun a w S => st_nil (in_normal (then_normal (hK3 _ _ (wp_region_lit ?_)))))))))))))
    refine run S (.ad (by unfold I64; omega) rfl <| .mv rfl <| .z) fun a w S => st_nil (then_normal (st_round (sg S (.yy (ys_T (by omega) (ys_lss (.t rfl) Ev.c)) rfl <| .z) fun a w S => wp_seq_k fun _ hK3 => st_then S (.t rfl) (wp_skip (then_normal (hK3 _ _ (wp_seq_k fun _ hK3 => wp_block (sg S (.mv rfl <| .as rfl <| .z) fun a w S => sg S (.mv rfl <| .yy (ys_shlC (m := 6) (c := 64) (.t rfl) Ev.c rfl rfl (fun _ => by unfold I64; omega)) rfl <| .as rfl <| .z) fun a w S => wp_seq_k fun _ hK4 => sg S (.mv rfl <| .mv rfl <| .yy (ys_F (by omega) (ys_geq (.t rfl) (.t rfl))) rfl <| .z) fun a w S => st_else S (.t rfl) (wp_skip (then_normal (hK4 _ _ (sg S (.mv rfl <| .mv rfl <| .yy (ys_ixStr underlying9 (.t rfl) (.t rfl) (fun _ => by assumption)) rfl <| .yy (ys_ixA underlying131 sizeOf5 (.t rfl) (.t rfl) (fun _ => by omega)) rfl <| .yy (ys_ldN ⟨isAgg5, sizeOf5⟩ (.t rfl) (k := 1) rfl (fun _ => by assumption)) rfl <| .as rfl <| .z) fun a w S => wp_seq_k fun _ hK4 => wp_seq_k fun _ hK5 => wp_region_lit ?_))))))))))))
    refine run S (.mv rfl <| .yy (ys_F (by omega) (ys_eql (.t rfl) Ev.c)) rfl <| .z) fun a w S => st_nil (then_normal (hK5 _ _ (st_else S (.t rfl) (wp_skip (then_normal (hK4 _ _ (wp_region_lit (run S (.mv rfl <| .mv rfl <| .yy (ys_cvI underlying5 underlying3 (.t rfl) (fun _ => by unfold I64; omega)) rfl <| .yy (ys_subI (.t rfl) Ev.c (fun _ => by unfold I64; omega)) rfl <| .yy (ys_orA 6 (c := 64) (.t rfl) (.t rfl) rfl rfl (fun _ => by omega)) rfl <| .as rfl <| .z) fun a w S => st_nil (in_normal (then_normal (hK3 _ _ (wp_region_lit (run S (.ad (by unfold I64; omega) rfl <| .mv rfl <| .z) fun a w S => st_nil (then_normal (st_round (sg S (.yy (ys_T (by omega) (ys_lss (.t rfl) Ev.c)) rfl <| .z) fun a w S => wp_seq_k fun _ hK3 => st_then S (.t rfl) (wp_skip (then_normal (hK3 _ _ (wp_seq_k fun _ hK3 => wp_block (sg S (.mv rfl <| .as rfl <| .z) fun a w S => sg S (.mv rfl <| .yy (ys_shlC (m := 6) (c := 64) (.t rfl) Ev.c rfl rfl (fun _ => by unfold I64; omega)) rfl <| .as rfl <| .z) fun a w S => wp_seq_k fun _ hK4 => sg S (.mv rfl <| .mv rfl <| .yy (ys_F (by omega) (ys_geq (.t rfl) (.t rfl))) rfl <| .z) fun a w S => st_else S (.t rfl) (wp_skip ?_))))))))))))))))))))))
    refine then_normal (hK4 _ _ (sg S (.mv rfl <| .mv rfl <| .yy (ys_ixStr underlying9 (.t rfl) (.t rfl) (fun _ => by assumption)) rfl <| .yy (ys_ixA underlying131 sizeOf5 (.t rfl) (.t rfl) (fun _ => by omega)) rfl <| .yy (ys_ldN ⟨isAgg5, sizeOf5⟩ (.t rfl) (k := 1) rfl (fun _ => by assumption)) rfl <| .as rfl <| .z) fun a w S => wp_seq_k fun _ hK4 => sg S (.mv rfl <| .yy (ys_F (by omega) (ys_eql (.t rfl) Ev.c)) rfl <| .z) fun a w S => st_else S (.t rfl) (wp_skip (then_normal (hK4 _ _ (wp_region_lit (run S (.mv rfl <| .mv rfl <| .yy (ys_cvI underlying5 underlying3 (.t rfl) (fun _ => by unfold I64; omega)) rfl <| .yy (ys_subI (.t rfl) Ev.c (fun _ => by unfold I64; omega)) rfl <| .yy (ys_orA 6 (c := 64) (.t rfl) (.t rfl) rfl rfl (fun _ => by omega)) rfl <| .as rfl <| .z) fun a w S => st_nil (in_normal (then_normal (hK3 _ _ (wp_region_lit (run S (.ad (by unfold I64; omega) rfl <| .mv rfl <| .z) fun a w S => st_nil (then_normal (st_round (sg S (.yy (ys_F (by omega) (ys_lss (.t rfl) Ev.c)) rfl <| .z) fun a w S => wp_seq_k fun _ hK3 => st_else S (.t rfl) (wp_exit (then_exit (then_exit (in_here (then_normal (hK2 _ _ (wp_seq_k fun _ hK2 => wp_seq_k fun _ hK4 => wp_region_lit ?_))))))))))))))))))))))
    refine run S (.mv rfl <| .yy (ys_F (by omega) (ys_eql (.t rfl) Ev.c)) rfl <| .mv rfl <| .gy rfl rfl (ys_move (.t rfl)) <| .gy rfl rfl (ys_move (.t rfl)) <| .gy rfl rfl (ys_subI Ev.c (.t rfl) (fun _ => by unfold I64; omega)) <| .gy rfl rfl (ys_mulI Ev.c (.t rfl) (fun _ => by unfold I64; omega)) <| .gy rfl rfl (ys_shlC (m := 0) (c := 1) Ev.c (.t rfl) rfl rfl (fun _ => by unfold I64; omega)) <| .gy rfl rfl (ys_pred (.t rfl) Ev.c (by omega)) <| .gy rfl rfl (ys_andM 0 (c := 1) (.t rfl) (.t rfl) rfl rfl rfl (fun _ => by omega)) <| .gy rfl rfl (ys_F (by omega) (ys_neq (.t rfl) Ev.c)) <| .yy (ys_pickF (.t rfl) (.t rfl)) rfl <| .z) fun a w S => st_nil (then_normal (hK4 _ _ (st_else S (.t rfl) (wp_skip (then_normal (hK2 _ _ (wp_seq_k fun _ hK2 => wp_region_lit (run S (.mv rfl <| .yy (ys_shrC (m := 16) (c := 65536) (.t rfl) Ev.c rfl rfl) rfl <| .yy (ys_cvB underlying3 underlying5 (.t rfl)) rfl <| .mv rfl <| .yy (ys_shrC (m := 8) (c := 256) (.t rfl) Ev.c rfl rfl) rfl <| .yy (ys_cvB underlying3 underlying5 (.t rfl)) rfl <| .mv rfl <| .yy (ys_cvB underlying3 underlying5 (.t rfl)) rfl <| .yy (ys_bldA (ps := [(0, Go.Operand.tmp 53), (1, Go.Operand.tmp 56), (2, Go.Operand.tmp 58)]) (us := [_, _, _]) ⟨⟨_, zeroValue127, rfl⟩, _, _, underlying127, sizeOf5⟩ (.cons (.t rfl) (.cons (.t rfl) (.cons (.t rfl) .nil))) rfl) rfl <| .z) fun a w S => ?_))))))))
    refine st_m (op_alloc S zeroValue127 (cs := _) rfl rfl fun g2 a w S => st_m (op_stW S sizeOf127 (.t rfl) (.t rfl) (k := 0) rfl rfl rfl (by simp [Value.oneCell']) fun a w S => st_nil (then_normal (hK2 _ _ (wp_seq_k fun _ hK2 => wp_region_lit (run S (.mv rfl <| .mv rfl <| .yy (ys_pred (.t rfl) Ev.c (by omega)) rfl <| .yy (ys_arrHi underlying127 sizeOf5 (.t rfl) (.t rfl) (fun _ => by first | omega | (simp; done) | (simp; omega))) rfl <| .z) fun a w S => ?_))))))
    refine st_m (op_extend [b8 (((((0 * 64 + ((num64 a1 : Int) - 1)) * 64 + ((num64 b1 : Int) - 1)) * 64 + ((num64 c1 : Int) - 1)) * 64 + ((num64 d1 : Int) - 1)) / 65536), b8 (((((0 * 64 + ((num64 a1 : Int) - 1)) * 64 + ((num64 b1 : Int) - 1)) * 64 + ((num64 c1 : Int) - 1)) * 64 + ((num64 d1 : Int) - 1)) / 256), b8 (((((0 * 64 + ((num64 a1 : Int) - 1)) * 64 + ((num64 b1 : Int) - 1)) * 64 + ((num64 c1 : Int) - 1)) * 64 + ((num64 d1 : Int) - 1)))] S underlying57 underlying57 (.inr ⟨_, rfl⟩) inf5 rfl (k := 1) rfl (.t rfl) (.t rfl)
      (Src.blkN S.wd (k := 0) rfl rfl (by simp) (by simp [Value.oneCell'])) (by simp; omega) rfl rfl rfl ?_)
    clear S
    intro B' cB' a w S
    refine run S (.as rfl <| .z) fun a w S => st_nil (then_normal (hK2 _ _ (wp_region_lit (run S (.mv rfl <| .mv rfl <| .yy (ys_slStrLo underlying9 (.t rfl) (.t rfl) (fun _ => by first | omega | (simp; done) | (simp; omega))) rfl <| .as rfl <| .z) fun a w S => st_nil (in_normal (then_normal ?_))))))
    have hdr : m.drop 4 = r := by rw [hm]; rfl
    exact ⟨(m.drop 4, out ++ [b8 (((((0 * 64 + ((num64 a1 : Int) - 1)) * 64 + ((num64 b1 : Int) - 1)) * 64 + ((num64 c1 : Int) - 1)) * 64 + ((num64 d1 : Int) - 1)) / 65536), b8 (((((0 * 64 + ((num64 a1 : Int) - 1)) * 64 + ((num64 b1 : Int) - 1)) * 64 + ((num64 c1 : Int) - 1)) * 64 + ((num64 d1 : Int) - 1)) / 256), b8 (((((0 * 64 + ((num64 a1 : Int) - 1)) * 64 + ((num64 b1 : Int) - 1)) * 64 + ((num64 c1 : Int) - 1)) * 64 + ((num64 d1 : Int) - 1)))], B', cB'), ⟨by dsimp only; rw [hno, hm, tok_step4 a1 b1 c1 d1 r ha1 hb1 hc1 hd1]; simp [bytes64, Option.map_map, Function.comp_def], by simp; omega⟩, by rw [List.length_drop]; dsimp only; omega, S.wk⟩
theorem c45 (w0 : World) (l : List UInt8) (hn : l.length ≤ 4194304) :
    Rets Try.prog 45 #[.string (bs l)] w0 fun v L => ∃ A c, v = .tuple #[.slice A ((bytes64 l).getD []).length c, .bool (bytes64 l).isSome] ∧ L = [rowOf 5 1 encB A c ((bytes64 l).getD [])] :=
  optB_all (k45 w0 l hn)
end Go.Proofs.Ytfblmkocmnbdcaa
