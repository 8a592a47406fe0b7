/- Contracts and laws that the statement Rph leans on, part 4. -/
import Derived.Test.YtbijdmfilmecbaaGreatRphK3
set_option linter.unusedVariables false
set_option linter.unusedSimpArgs false
set_option maxRecDepth 100000
set_option maxHeartbeats 4000000
namespace Go.Proofs.YtbijdmfilmecbaaGreat
open Go.Fw Go.Proofs Go.RowKit Go.Proofs.Tryz
theorem c86 (w0 : World) (v0 v1 v2 : Value) (b : List UInt8) (C : Ctx) (hs : Sl encB 1 w0 w0.heap.size v0 b) (h : RdCtx w0 w0.heap.size v1 v2 C) (hb : b.length ≤ 4194304) :
    Rets Tryz.prog 86 #[v0, .agg #[v1, v2]] w0 fun v L => ∃ A c, v = .tuple #[.slice A (if canL C then encC b C else []).length c, .int .i64 (if canL C then 0 else 30)] ∧ L = [rowOf 5 1 encB A c (if canL C then encC b C else [])] := by
  obtain ⟨A0, q0, rfl, _⟩ := id hs
  obtain ⟨h1, h2⟩ := id h
  obtain ⟨B1, q1, rfl, _, _, hA⟩ := id h1
  obtain ⟨B2, q2, rfl, _, _, hA2⟩ := id h2
  cases rw_c : canL C with
  | false =>
    unfold Go.Fw.Rets
    refine enter2 func86 rfl ntmps86 rfl fun a S => wp_seq_k fun _ hK1 => wp_region_lit (st_m (op_box S (.t rfl) rfl fun g1 a w S => run S (.ac rfl <| .ac rfl <| .z) fun a w S => st_nil (then_normal (hK1 _ _ (wp_seq_k fun _ hK1 => wp_seq_k fun _ hK2 => wp_region_lit (run S (.la gt27 0 rfl rfl rfl <| .xx (ys_call call107 (.cons (.t rfl) .nil) (fun hp w W => c107 _ _ _ _ (by exact .old W (by assumption)))) rfl <| .z) fun a w S => ?_))))))
    rw [rw_c] at S
    refine run S (.nt rfl <| .z) fun a w S => st_nil (then_normal (hK2 _ _ (st_then S (.t rfl) (sg S (.ac rfl <| .ac rfl <| .z) fun a w S => wp_ret (then_ret (st_ret S (results2 S results86 (Rv.tmp rfl) (Rv.tmp rfl)) ?_))))))
    exact ⟨_, _, rfl, (S.nil_ 5 1 encB none).wd.sub (by repeat (first | exact List.Sublist.refl _ | exact List.nil_sublist _ | refine .cons_cons _ ?_ | refine .cons _ ?_)), none, 0, rfl, rfl⟩
  | true =>
    have hmM := (can_nf rw_c).mayM
    have hmC := (can_nf rw_c).mayC
    have hlen := can_len rw_c
    have hb1 := putL_len b (n := (C.marks.length : Int)) (by omega)
    have hd1 := dotsB_len (b := b) hmM hlen.1
    have hb2 := putL_len (dotsB b C.marks) (n := (C.cloud.length : Int)) (by omega)
    unfold Go.Fw.Rets
    refine enter2 func86 rfl ntmps86 rfl fun a S => wp_seq_k fun _ hK1 => wp_region_lit (st_m (op_box S (.t rfl) rfl fun g1 a w S => run S (.ac rfl <| .ac rfl <| .z) fun a w S => st_nil (then_normal (hK1 _ _ (wp_seq_k fun _ hK1 => wp_seq_k fun _ hK2 => wp_region_lit (run S (.la gt27 0 rfl rfl rfl <| .xx (ys_call call107 (.cons (.t rfl) .nil) (fun hp w W => c107 _ _ _ _ (by exact .old W (by assumption)))) rfl <| .z) fun a w S => ?_))))))
    rw [rw_c] at S
    refine run S (.nt rfl <| .z) fun a w S => st_nil (then_normal (hK2 _ _ (st_else S (.t rfl) (wp_skip (then_normal (hK1 _ _ (wp_seq_k fun _ hK1 => wp_region_lit (run S (.mv rfl <| .fa underlying27 sizeOf24 0 rfl rfl rfl <| .ld gt24 0 rfl rfl rfl <| .ln underlying24 rfl <| .z) fun a w S => ?_))))))))
    (refine st_m (op_calls S call84 (.cons (.t rfl) (.cons (.t rfl) .nil)) (c84 _ _ _ _ (by exact .old S.wd (by assumption)) (by omega) (by omega)) rfl ?_); clear S a w; rintro _ _ ⟨A1, c1, rfl, rfl⟩ a w S)
    refine run S (.as rfl <| .z) fun a w S => st_nil (then_normal (hK1 _ _ (wp_seq_k fun _ hK1 => sg S (.fa underlying27 sizeOf24 0 rfl rfl rfl <| .ld gt24 1 rfl rfl rfl <| .ln underlying24 rfl <| .mc rfl <| .z) fun a w S => wp_block ?_)))
    replace S := S.wk (K' := [(21, true, .int .i64 ((0 : Nat) : Int)), (20, true, .int .i64 (C.marks.length : Int)), (19, true, .slice B1 C.marks.length q1), (0, true, .slice A1 (putL b (C.marks.length : Int)).length c1), (3, true, .pointer (some ⟨g1, 0, none⟩)), (4, true, .slice none 0 0), (5, true, .int .i64 0)])
      (L' := [rowOf 5 1 encB A1 c1 (putL b (C.marks.length : Int)), .blk g1 (.cells #[.slice B1 C.marks.length q1, .slice B2 C.cloud.length q2] 27)])
    refine st_lpK S (X := Nat × Option Addr × Nat × List UInt8) (fun q => [(21, true, .int .i64 (q.1 : Int)), (0, true, .slice q.2.1 q.2.2.2.length q.2.2.1)]) (fun q _ => [rowOf 5 1 encB q.2.1 q.2.2.1 q.2.2.2, .blk g1 (.cells #[.slice B1 C.marks.length q1, .slice B2 C.cloud.length q2] 27)])
      (fun q => q.1 ≤ C.marks.length ∧ q.2.2.2 = (C.marks.take q.1).foldl dotB (putL b (C.marks.length : Int))) (fun q => C.marks.length - q.1) (0, A1, c1, putL b (C.marks.length : Int)) ⟨Nat.zero_le _, by simp⟩ ?_
    clear S
    intro ⟨k, B, cB, out⟩ a w ⟨hk, hno⟩ S
    dsimp only at hk hno S
    have hout : out.length ≤ b.length + 1737 := by
      have h1 := dotF_len (l := C.marks.take k) (b := putL b (C.marks.length : Int)) fun x hx => hmM x (List.mem_of_mem_take hx)
      have h2 : (C.marks.take k).length ≤ 64 := by rw [List.length_take]; omega
      rw [← hno] at h1
      omega
    by_cases hlt : k < C.marks.length
    · obtain ⟨gq, oq, m, rfl, hmm, hdq, hc⟩ := row_at hA hlt
      have hlm := may_lim (hmM m (List.mem_of_getElem? hmm))
      have hq1 := putL_len out (n := m.node) (by omega)
      have hq2 := putL_len (putL out m.node) (n := m.life) (by omega)
      refine sg S (.lt (by omega) rfl rfl <| .z) fun a w S => wp_seq_k fun _ hK2 => st_then S (.t rfl) (wp_skip (then_normal (hK2 _ _ (wp_seq_k fun _ hK2 => wp_block (wp_seq_k fun _ hK3 => wp_region_lit (run S (.ix underlying24 sizeOf137 (by omega) rfl rfl <| .yy (ys_ldOA ⟨isAgg137, sizeOf137⟩ (.t rfl) (vs := [_, _, _]) rfl (fun _ => hc)) rfl <| .z) fun a w S => st_m (op_alloc S zeroValue137 (cs := _) rfl rfl fun g2 a w S => st_m (op_stW S sizeOf137 (.t rfl) (.t rfl) (k := 0) rfl rfl rfl (by simp [Value.oneCell']) fun a w S => st_nil (then_normal (hK3 _ _ (h_begin0 S (by kernel_rfl) fun a w S => hy 0 S rfl (ys_move (.t rfl)) rfl fun a w S => hy 1 S rfl (ys_fieldN (FieldT.mk underlying137 rfl sizeOf3 rfl) (.t rfl) (i' := 0) rfl) rfl fun a w S => ?_)))))))))))
      refine hy 2 S rfl (ys_ld ⟨isAgg3, sizeOf3⟩ (.t rfl) (k := 0) rfl rfl) rfl fun a w S => hy 4 S rfl (ys_fieldN (FieldT.mk underlying137 rfl sizeOf3 rfl) (.t rfl) (i' := 1) rfl) rfl fun a w S => hy 5 S rfl (ys_ld ⟨isAgg3, sizeOf3⟩ (.t rfl) (k := 0) rfl rfl) rfl fun a w S => hy 7 S rfl (ys_fieldN (FieldT.mk underlying137 rfl sizeOf3 rfl) (.t rfl) (i' := 2) rfl) rfl fun a w S => hy 8 S rfl (ys_ld ⟨isAgg3, sizeOf3⟩ (.t rfl) (k := 0) rfl rfl) rfl fun a w S => ?_
      (refine h_m (i := 3) rfl (by kernel_rfl) (op_calls S call84 (.cons (.t rfl) (.cons (.t rfl) .nil)) (c84 _ _ _ _ (by exact Sl.of_own S.wd (k := 1) rfl (fun _ => rfl)) (by omega) (by omega)) rfl ?_); clear S a w; rintro _ _ ⟨A2, c2, rfl, rfl⟩ a w S; refine h_n2 S ?_)
      (refine h_m (i := 6) rfl (by kernel_rfl) (op_calls S call84 (.cons (.t rfl) (.cons (.t rfl) .nil)) (c84 _ _ _ _ (by exact Sl.of_own S.wd (k := 0) rfl (fun _ => rfl)) (by omega) (by omega)) rfl ?_); clear S a w; rintro _ _ ⟨A3, c3, rfl, rfl⟩ a w S; refine h_n2 S ?_)
      (refine h_m (i := 9) rfl (by kernel_rfl) (op_calls S call84 (.cons (.t rfl) (.cons (.t rfl) .nil)) (c84 _ _ _ _ (by exact Sl.of_own S.wd (k := 0) rfl (fun _ => rfl)) (by omega) (by omega)) rfl ?_); clear S a w; rintro _ _ ⟨A4, c4, rfl, rfl⟩ a w S; refine h_n2 S ?_)
      refine hy 10 S rfl (ys_assign (.t rfl)) rfl fun a w S => h_done (by kernel_rfl) (in_normal (then_normal (hK2 _ _ (wp_region_lit (run S (.ad (by unfold I64; omega) rfl <| .mv rfl <| .z) fun a w S => st_nil (then_normal ?_))))))
      exact ⟨(k + 1, A4, c4, dotB out m), ⟨by dsimp only; omega, by dsimp only; rw [dotF_take hmm, ← hno]⟩, by dsimp only; omega, S.wk⟩
    have hend : k = C.marks.length := by omega
    subst hend
    rw [List.take_length] at hno
    obtain rfl : out = dotsB b C.marks := hno
    clear hlt
    refine sg S (.ge (by omega) rfl rfl <| .z) fun a w S => wp_seq_k fun _ hK2 => st_else S (.t rfl) (wp_exit (then_exit (then_exit (in_here (then_normal (hK1 _ _ (wp_seq_k fun _ hK1 => wp_region_lit (run S (.mv rfl <| .fa underlying27 sizeOf25 1 rfl rfl rfl <| .ld gt25 1 rfl rfl rfl <| .ln underlying25 rfl <| .z) fun a w S => ?_))))))))
    (refine st_m (op_calls S call84 (.cons (.t rfl) (.cons (.t rfl) .nil)) (c84 _ _ _ _ (by exact Sl.of_own S.wd (k := 0) rfl (fun _ => rfl)) (by omega) (by omega)) rfl ?_); clear S a w; rintro _ _ ⟨A2, c2, rfl, rfl⟩ a w S)
    refine run S (.as rfl <| .z) fun a w S => st_nil (then_normal (hK1 _ _ (wp_seq_k fun _ hK1 => sg S (.fa underlying27 sizeOf25 1 rfl rfl rfl <| .ld gt25 2 rfl rfl rfl <| .ln underlying25 rfl <| .mc rfl <| .z) fun a w S => wp_block ?_)))
    replace S := S.wk (K' := [(44, true, .int .i64 ((0 : Nat) : Int)), (43, true, .int .i64 (C.cloud.length : Int)), (42, true, .slice B2 C.cloud.length q2), (0, true, .slice A2 (putL (dotsB b C.marks) (C.cloud.length : Int)).length c2), (3, true, .pointer (some ⟨g1, 0, none⟩)), (4, true, .slice none 0 0), (5, true, .int .i64 0)])
      (L' := [rowOf 5 1 encB A2 c2 (putL (dotsB b C.marks) (C.cloud.length : Int)), .blk g1 (.cells #[.slice B1 C.marks.length q1, .slice B2 C.cloud.length q2] 27)])
    refine st_lpK S (X := Nat × Option Addr × Nat × List UInt8) (fun q => [(44, true, .int .i64 (q.1 : Int)), (0, true, .slice q.2.1 q.2.2.2.length q.2.2.1)]) (fun q _ => [rowOf 5 1 encB q.2.1 q.2.2.1 q.2.2.2, .blk g1 (.cells #[.slice B1 C.marks.length q1, .slice B2 C.cloud.length q2] 27)])
      (fun q => q.1 ≤ C.cloud.length ∧ q.2.2.2 = (C.cloud.take q.1).foldl dotB (putL (dotsB b C.marks) (C.cloud.length : Int))) (fun q => C.cloud.length - q.1) (0, A2, c2, putL (dotsB b C.marks) (C.cloud.length : Int)) ⟨Nat.zero_le _, by simp⟩ ?_
    clear S
    intro ⟨k, B, cB, out⟩ a w ⟨hk, hno⟩ S
    dsimp only at hk hno S
    have hout : out.length ≤ b.length + 3474 := by
      have h1 := dotF_len (l := C.cloud.take k) (b := putL (dotsB b C.marks) (C.cloud.length : Int)) fun x hx => hmC x (List.mem_of_mem_take hx)
      have h2 : (C.cloud.take k).length ≤ 64 := by rw [List.length_take]; omega
      rw [← hno] at h1
      omega
    by_cases hlt : k < C.cloud.length
    · obtain ⟨gq, oq, m, rfl, hmm, hdq, hc⟩ := row_at hA2 hlt
      have hlm := may_lim (hmC m (List.mem_of_getElem? hmm))
      have hq1 := putL_len out (n := m.node) (by omega)
      have hq2 := putL_len (putL out m.node) (n := m.life) (by omega)
      refine sg S (.lt (by omega) rfl rfl <| .z) fun a w S => wp_seq_k fun _ hK3 => st_then S (.t rfl) (wp_skip (then_normal (hK3 _ _ (wp_seq_k fun _ hK3 => wp_block (wp_seq_k fun _ hK4 => wp_region_lit (run S (.ix underlying25 sizeOf113 (by omega) rfl rfl <| .yy (ys_ldOA ⟨isAgg113, sizeOf113⟩ (.t rfl) (vs := [_, _, _]) rfl (fun _ => hc)) rfl <| .z) fun a w S => st_m (op_alloc S zeroValue113 (cs := _) rfl rfl fun g2 a w S => st_m (op_stW S sizeOf113 (.t rfl) (.t rfl) (k := 0) rfl rfl rfl (by simp [Value.oneCell']) fun a w S => st_nil (then_normal (hK4 _ _ (h_begin0 S (by kernel_rfl) fun a w S => hy 0 S rfl (ys_move (.t rfl)) rfl fun a w S => hy 1 S rfl (ys_fieldN (FieldT.mk underlying113 rfl sizeOf3 rfl) (.t rfl) (i' := 0) rfl) rfl fun a w S => ?_)))))))))))
      refine hy 2 S rfl (ys_ld ⟨isAgg3, sizeOf3⟩ (.t rfl) (k := 0) rfl rfl) rfl fun a w S => hy 4 S rfl (ys_fieldN (FieldT.mk underlying113 rfl sizeOf3 rfl) (.t rfl) (i' := 1) rfl) rfl fun a w S => hy 5 S rfl (ys_ld ⟨isAgg3, sizeOf3⟩ (.t rfl) (k := 0) rfl rfl) rfl fun a w S => hy 7 S rfl (ys_fieldN (FieldT.mk underlying113 rfl sizeOf3 rfl) (.t rfl) (i' := 2) rfl) rfl fun a w S => hy 8 S rfl (ys_ld ⟨isAgg3, sizeOf3⟩ (.t rfl) (k := 0) rfl rfl) rfl fun a w S => ?_
      (refine h_m (i := 3) rfl (by kernel_rfl) (op_calls S call84 (.cons (.t rfl) (.cons (.t rfl) .nil)) (c84 _ _ _ _ (by exact Sl.of_own S.wd (k := 1) rfl (fun _ => rfl)) (by omega) (by omega)) rfl ?_); clear S a w; rintro _ _ ⟨A3, c3, rfl, rfl⟩ a w S; refine h_n2 S ?_)
      (refine h_m (i := 6) rfl (by kernel_rfl) (op_calls S call84 (.cons (.t rfl) (.cons (.t rfl) .nil)) (c84 _ _ _ _ (by exact Sl.of_own S.wd (k := 0) rfl (fun _ => rfl)) (by omega) (by omega)) rfl ?_); clear S a w; rintro _ _ ⟨A4, c4, rfl, rfl⟩ a w S; refine h_n2 S ?_)
      (refine h_m (i := 9) rfl (by kernel_rfl) (op_calls S call84 (.cons (.t rfl) (.cons (.t rfl) .nil)) (c84 _ _ _ _ (by exact Sl.of_own S.wd (k := 0) rfl (fun _ => rfl)) (by omega) (by omega)) rfl ?_); clear S a w; rintro _ _ ⟨A5, c5, rfl, rfl⟩ a w S; refine h_n2 S ?_)
      refine hy 10 S rfl (ys_assign (.t rfl)) rfl fun a w S => h_done (by kernel_rfl) (in_normal (then_normal (hK3 _ _ (wp_region_lit (run S (.ad (by unfold I64; omega) rfl <| .mv rfl <| .z) fun a w S => st_nil (then_normal ?_))))))
      exact ⟨(k + 1, A5, c5, dotB out m), ⟨by dsimp only; omega, by dsimp only; rw [dotF_take hmm, ← hno]⟩, by dsimp only; omega, S.wk⟩
    have hend : k = C.cloud.length := by omega
    subst hend
    rw [List.take_length] at hno
    obtain rfl : out = encC b C := hno
    clear hlt
    refine sg S (.ge (by omega) rfl rfl <| .z) fun a w S => wp_seq_k fun _ hK3 => st_else S (.t rfl) (wp_exit (then_exit (then_exit (in_here (then_normal (hK1 _ _ (sg S (.mv rfl <| .as rfl <| .ac rfl <| .z) fun a w S => wp_ret (st_ret S (results2 S results86 (Rv.tmp rfl) (Rv.tmp rfl)) ?_))))))))
    exact ⟨_, _, rfl, S.wd.sub (by repeat (first | exact List.Sublist.refl _ | exact List.nil_sublist _ | refine .cons_cons _ ?_ | refine .cons _ ?_)), B, cB, rfl, rfl⟩
end Go.Proofs.YtbijdmfilmecbaaGreat
set_option linter.unusedVariables false
set_option linter.unusedSimpArgs false
set_option maxRecDepth 100000
set_option maxHeartbeats 4000000
namespace Go.Fw
def textL (l s : List UInt8) : List UInt8 := putL l (s.length : Int) ++ s
end Go.Fw
namespace Go.Proofs.YtbijdmfilmecbaaGreat
open Go.Fw Go.Proofs Go.RowKit Go.Proofs.Tryz
theorem c79 (w0 : World) (v1 : Value) (l s : List UInt8) (h : Sl encB 1 w0 w0.heap.size v1 l) (hl : l.length ≤ 4194304) (hs : s.length ≤ 4194304) :
    Rets Tryz.prog 79 #[v1, .string (bs s)] w0 fun v L => ∃ A r, v = .slice A (textL l s).length r ∧ L = [rowOf 5 1 encB A r (textL l s)] := by
  have hh := h
  obtain ⟨A, cap, rfl, _⟩ := h
  have hpl := putL_len l (n := (s.length : Int)) (by omega)
  have rw_t : putL l (s.length : Int) ++ s = textL l s := rfl
  unfold Go.Fw.Rets
  refine enter2 func79 rfl ntmps79 rfl fun a S => sg S (.ac rfl <| .z) fun a w S => wp_seq_k fun _ hK1 => wp_region_lit (run S (.mv rfl <| .mv rfl <| .yy (ys_lenStr underlying9 (.t rfl)) rfl <| .z) fun a w S => ?_)
  (refine st_m (op_calls S call78 (.cons (.t rfl) (.cons (.t rfl) .nil)) (c78 _ _ _ _ (by exact .old S.wd (by assumption)) (by omega) (by omega)) rfl ?_); clear S a w; rintro _ _ ⟨A1, c1, rfl, rfl⟩ a w S)
  refine run S (.mv rfl <| .z) fun a w S => st_m (op_extend _ S underlying107 underlying9 (.inl rfl) inf5 rfl (k := 0) rfl (.t rfl) (.t rfl) Src.str (by first | omega | (simp only [List.length_append, List.length_cons, List.length_nil]; omega) | (simp; omega)) rfl rfl rfl fun A2 cap1 a w S => ?_)
  rw [rw_t] at S
  refine run S (.as rfl <| .z) fun a w S => st_nil (then_normal (hK1 _ _ (wp_ret (st_ret S (results1 S results79 (Rv.tmp rfl)) ?_))))
  exact ⟨_, _, rfl, S.wd.pk, _, _, rfl, rfl⟩
theorem c85 (w0 : World) (v1 : Value) (l s : List UInt8) (h : Sl encB 1 w0 w0.heap.size v1 l) (hl : l.length ≤ 4194304) (hs : s.length ≤ 4194304) :
    Rets Tryz.prog 85 #[v1, .string (bs s)] w0 fun v L => ∃ A r, v = .slice A (textL l s).length r ∧ L = [rowOf 5 1 encB A r (textL l s)] := by
  have hh := h
  obtain ⟨A, cap, rfl, _⟩ := h
  have hpl := putL_len l (n := (s.length : Int)) (by omega)
  have rw_t : putL l (s.length : Int) ++ s = textL l s := rfl
  unfold Go.Fw.Rets
  refine enter2 func85 rfl ntmps85 rfl fun a S => sg S (.ac rfl <| .z) fun a w S => wp_seq_k fun _ hK1 => wp_region_lit (run S (.mv rfl <| .mv rfl <| .yy (ys_lenStr underlying9 (.t rfl)) rfl <| .z) fun a w S => ?_)
  (refine st_m (op_calls S call84 (.cons (.t rfl) (.cons (.t rfl) .nil)) (c84 _ _ _ _ (by exact .old S.wd (by assumption)) (by omega) (by omega)) rfl ?_); clear S a w; rintro _ _ ⟨A1, c1, rfl, rfl⟩ a w S)
  refine run S (.mv rfl <| .z) fun a w S => st_m (op_extend _ S underlying107 underlying9 (.inl rfl) inf5 rfl (k := 0) rfl (.t rfl) (.t rfl) Src.str (by first | omega | (simp only [List.length_append, List.length_cons, List.length_nil]; omega) | (simp; omega)) rfl rfl rfl fun A2 cap1 a w S => ?_)
  rw [rw_t] at S
  refine run S (.as rfl <| .z) fun a w S => st_nil (then_normal (hK1 _ _ (wp_ret (st_ret S (results1 S results85 (Rv.tmp rfl)) ?_))))
  exact ⟨_, _, rfl, S.wd.pk, _, _, rfl, rfl⟩
end Go.Proofs.YtbijdmfilmecbaaGreat
set_option linter.unusedVariables false
set_option linter.unusedSimpArgs false
set_option maxRecDepth 100000
set_option maxHeartbeats 4000000
namespace Go.Proofs.YtbijdmfilmecbaaGreat
open Go.Fw Go.Proofs Go.RowKit Go.Proofs.Tryz
theorem c105 {w0 w : World} {L : List Chunk} {A A' : Option Addr} {cap cap' g : Nat} {b : List UInt8} {l : List Dot}
    (W : Wd w0 (.blk g (.cells #[.slice A b.length cap] 107) :: rowOf 113 3 Dot.enc A' cap' l :: L) w) (hs : Sl encB 1 w0 w0.heap.size (.slice A b.length cap) b) (hm : ∀ m ∈ l, mayD m = true) (hl : l.length ≤ 64) (hb : b.length ≤ 8388608) :
    RetsO Tryz.prog 105 #[.slice A' l.length cap', .pointer (some ⟨g, 0, none⟩)] w0 w fun v L' => ∃ A1 c1, v = .tuple #[] ∧
      L' = .blk g (.cells #[.slice A1 (dotsB b l).length c1] 107) :: rowOf 5 1 encB A1 c1 (dotsB b l) :: rowOf 113 3 Dot.enc A' cap' l :: L := by
  unfold RetsO
  refine enterW2 W func105 rfl ntmps105 rfl fun a S => wp_seq_k fun _ hK1 => wp_region_lit (run S (.ld gt107 0 rfl rfl rfl <| .mv rfl <| .ln underlying25 rfl <| .z) fun a w S => ?_)
  (refine st_m (op_calls S call78 (.cons (.t rfl) (.cons (.t rfl) .nil)) (c78 _ _ _ _ (by exact .old S.wd (by assumption)) (by omega) (by omega)) rfl ?_); clear S a w; rintro _ _ ⟨A1, c1, rfl, rfl⟩ a w S)
  refine st_m (op_st S sizeOf107 (.t rfl) (.t rfl) (k := 1) rfl rfl (by simp) fun a w S => st_nil (then_normal (hK1 _ _ (sg S (.mv rfl <| .ln underlying25 rfl <| .mc rfl <| .z) fun a w S => wp_block ?_))))
  (replace S := S.pull 1 rfl; try simp only [List.set_cons_zero, List.set_cons_succ, List.eraseIdx_cons_succ, List.eraseIdx_cons_zero] at S)
  have hb1 := putL_len b (n := (l.length : Int)) (by omega)
  replace S := S.wk (K' := [(11, true, .int .i64 ((0 : Nat) : Int)), (10, true, .int .i64 (l.length : Int)), (9, true, .slice A' l.length cap'), (1, true, .pointer (some ⟨g, 0, none⟩))]) (L' := .blk g (.cells #[.slice A1 (putL b (l.length : Int)).length c1] 107) :: rowOf 5 1 encB A1 c1 (putL b (l.length : Int)) :: rowOf 113 3 Dot.enc A' cap' l :: L)
  refine st_lpK S (X := Nat × Option Addr × Nat × List UInt8) (fun q => [(11, true, .int .i64 (q.1 : Int))]) (fun q _ => .blk g (.cells #[.slice q.2.1 q.2.2.2.length q.2.2.1] 107) :: rowOf 5 1 encB q.2.1 q.2.2.1 q.2.2.2 :: rowOf 113 3 Dot.enc A' cap' l :: L)
    (fun q => q.1 ≤ l.length ∧ q.2.2.2 = (l.take q.1).foldl dotB (putL b (l.length : Int))) (fun q => l.length - q.1) (0, A1, c1, putL b (l.length : Int)) ⟨Nat.zero_le _, by simp⟩ ?_
  clear S
  intro ⟨k, B, cB, out⟩ a w ⟨hk, hno⟩ S
  dsimp only at hk hno S
  have hout : out.length ≤ b.length + 1737 := by
    have h1 := dotF_len (l := l.take k) (b := putL b (l.length : Int)) fun x hx => hm x (List.mem_of_mem_take hx)
    have h2 : (l.take k).length ≤ 64 := by rw [List.length_take]; omega
    rw [← hno] at h1
    omega
  by_cases hlt : k < l.length
  · obtain ⟨ga, rfl⟩ := S.wd.row_at (k := 2) rfl (by have := (S.wd.room (k := 2) rfl).1; omega)
    obtain ⟨m, hmm⟩ : ∃ m, l[k]? = some m := ⟨l[k], by simp⟩
    have hlm := may_lim (hm m (List.mem_of_getElem? hmm))
    have hq1 := putL_len out (n := m.node) (by omega)
    have hq2 := putL_len (putL out m.node) (n := m.life) (by omega)
    refine sg S (.lt (by omega) rfl rfl <| .z) fun a w S => wp_seq_k fun _ hK1 => st_then S (.t rfl) (wp_skip (then_normal (hK1 _ _ (wp_seq_k fun _ hK1 => wp_block (wp_seq_k fun _ hK2 => wp_region_lit (run S (.ix underlying25 sizeOf113 (by omega) rfl rfl <| .yy (ys_ldWA ⟨isAgg113, sizeOf113⟩ (.t rfl) (k := 2) rfl hmm (fun _ => rfl)) rfl <| .z) fun a w S => st_m (op_alloc S zeroValue113 (cs := _) rfl rfl fun g1 a w S => st_m (op_stW S sizeOf113 (.t rfl) (.t rfl) (k := 0) rfl rfl rfl (by simp [Value.oneCell']) fun a w S => st_nil (then_normal (hK2 _ _ (h_beginE S (by kernel_rfl) 1 fun a w S => hy 1 S rfl (ys_fieldN (FieldT.mk underlying113 rfl sizeOf3 rfl) (.t rfl) (i' := 0) rfl) rfl fun a w S => hy 2 S rfl (ys_ld ⟨isAgg3, sizeOf3⟩ (.t rfl) (k := 0) rfl rfl) rfl fun a w S => ?_)))))))))))
    refine hy 4 S rfl (ys_fieldN (FieldT.mk underlying113 rfl sizeOf3 rfl) (.t rfl) (i' := 1) rfl) rfl fun a w S => hy 5 S rfl (ys_ld ⟨isAgg3, sizeOf3⟩ (.t rfl) (k := 0) rfl rfl) rfl fun a w S => hy 7 S rfl (ys_fieldN (FieldT.mk underlying113 rfl sizeOf3 rfl) (.t rfl) (i' := 2) rfl) rfl fun a w S => hy 8 S rfl (ys_ld ⟨isAgg3, sizeOf3⟩ (.t rfl) (k := 0) rfl rfl) rfl fun a w S => h_q (i := 0) S (by repeat (first | exact List.Sublist.refl _ | exact List.nil_sublist _ | refine .cons_cons _ ?_ | refine .cons _ ?_)) rfl (by kernel_rfl) (Yr.ys (ys_ld ⟨isAgg107, sizeOf107⟩ (.t rfl) (k := 1) rfl rfl)) rfl fun a w S => ?_
    (refine h_m (i := 3) rfl (by kernel_rfl) (op_calls S call78 (.cons (.t rfl) (.cons (.t rfl) .nil)) (c78 _ _ _ _ (by exact Sl.of_own S.wd (k := 2) rfl (fun _ => rfl)) (by omega) (by omega)) rfl ?_); clear S a w; rintro _ _ ⟨A2, c2, rfl, rfl⟩ a w S; refine h_n1 S ?_)
    (refine h_m (i := 6) rfl (by kernel_rfl) (op_calls S call78 (.cons (.t rfl) (.cons (.t rfl) .nil)) (c78 _ _ _ _ (by exact Sl.of_own S.wd (k := 0) rfl (fun _ => rfl)) (by omega) (by omega)) rfl ?_); clear S a w; rintro _ _ ⟨A3, c3, rfl, rfl⟩ a w S; refine h_n1 S ?_)
    (refine h_m (i := 9) rfl (by kernel_rfl) (op_calls S call78 (.cons (.t rfl) (.cons (.t rfl) .nil)) (c78 _ _ _ _ (by exact Sl.of_own S.wd (k := 0) rfl (fun _ => rfl)) (by omega) (by omega)) rfl ?_); clear S a w; rintro _ _ ⟨A4, c4, rfl, rfl⟩ a w S; refine h_n1 S ?_)
    (refine h_m0 (i := 10) rfl (by kernel_rfl) (op_st S sizeOf107 (.t rfl) (.t rfl) (k := 4) rfl rfl (by simp) ?_); clear S a w; intro a w S; refine h_n1 S ?_)
    refine h_done (by kernel_rfl) (in_normal (then_normal (hK1 _ _ (wp_region_lit (run S (.ad (by unfold I64; omega) rfl <| .mv rfl <| .z) fun a w S => st_nil (then_normal ?_))))))
    (replace S := S.pull 4 rfl; try simp only [List.set_cons_zero, List.set_cons_succ, List.eraseIdx_cons_succ, List.eraseIdx_cons_zero] at S)
    exact ⟨(k + 1, A4, c4, dotB out m), ⟨by dsimp only; omega, by dsimp only; rw [dotF_take hmm, ← hno]⟩, by dsimp only; omega, S.wk⟩
  · have hend : k = l.length := by omega
    subst hend
    rw [List.take_length] at hno
    refine sg S (.ge (by omega) rfl rfl <| .z) fun a w S => wp_seq_k fun _ hK1 => st_else S (.t rfl) (wp_exit (then_exit (then_exit (in_here (st_end S (results0 results105) ?_)))))
    obtain rfl : out = dotsB b l := hno
    exact ⟨_, _, rfl, S.wd.sub (by repeat (first | exact List.Sublist.refl _ | exact List.nil_sublist _ | refine .cons_cons _ ?_ | refine .cons _ ?_)), B, cB, rfl, rfl⟩
theorem o105 {w0 w : World} {L : List Chunk} {A A' : Option Addr} {cap cap' g : Nat} {b : List UInt8} {l : List Dot}
    (W : Wd w0 (.blk g (.cells #[.slice A b.length cap] 107) :: rowOf 5 1 encB A cap b :: L) w) (hm : ∀ m ∈ l, mayD m = true) (h : Sl Dot.enc 3 w0 w0.heap.size (.slice A' l.length cap') l) (hl : l.length ≤ 64) (hb : b.length ≤ 8388608) :
    RetsO Tryz.prog 105 #[.slice A' l.length cap', .pointer (some ⟨g, 0, none⟩)] w0 w fun v L' => ∃ A1 c1, v = .tuple #[] ∧
      L' = .blk g (.cells #[.slice A1 (dotsB b l).length c1] 107) :: rowOf 5 1 encB A1 c1 (dotsB b l) :: L := by
  obtain ⟨_, _, e0, _, _, hA⟩ := id h
  simp only [Value.slice.injEq, true_and] at e0
  obtain ⟨rfl, rfl⟩ := e0
  unfold RetsO
  refine enterW2 W func105 rfl ntmps105 rfl fun a S => wp_seq_k fun _ hK1 => wp_region_lit (run S (.ld gt107 0 rfl rfl rfl <| .mv rfl <| .ln underlying25 rfl <| .z) fun a w S => ?_)
  (refine st_m (op_calls S call78 (.cons (.t rfl) (.cons (.t rfl) .nil)) (c78 _ _ _ _ (by exact Sl.of_own S.wd (k := 1) rfl (fun _ => rfl)) (by omega) (by omega)) rfl ?_); clear S a w; rintro _ _ ⟨A1, c1, rfl, rfl⟩ a w S)
  refine st_m (op_st S sizeOf107 (.t rfl) (.t rfl) (k := 1) rfl rfl (by simp) fun a w S => st_nil (then_normal (hK1 _ _ (sg S (.mv rfl <| .ln underlying25 rfl <| .mc rfl <| .z) fun a w S => wp_block ?_))))
  (replace S := S.pull 1 rfl; try simp only [List.set_cons_zero, List.set_cons_succ, List.eraseIdx_cons_succ, List.eraseIdx_cons_zero] at S)
  have hb1 := putL_len b (n := (l.length : Int)) (by omega)
  replace S := S.wk (K' := [(11, true, .int .i64 ((0 : Nat) : Int)), (10, true, .int .i64 (l.length : Int)), (9, true, .slice A' l.length cap'), (1, true, .pointer (some ⟨g, 0, none⟩))]) (L' := .blk g (.cells #[.slice A1 (putL b (l.length : Int)).length c1] 107) :: rowOf 5 1 encB A1 c1 (putL b (l.length : Int)) :: L)
  refine st_lpK S (X := Nat × Option Addr × Nat × List UInt8) (fun q => [(11, true, .int .i64 (q.1 : Int))]) (fun q _ => .blk g (.cells #[.slice q.2.1 q.2.2.2.length q.2.2.1] 107) :: rowOf 5 1 encB q.2.1 q.2.2.1 q.2.2.2 :: L)
    (fun q => q.1 ≤ l.length ∧ q.2.2.2 = (l.take q.1).foldl dotB (putL b (l.length : Int))) (fun q => l.length - q.1) (0, A1, c1, putL b (l.length : Int)) ⟨Nat.zero_le _, by simp⟩ ?_
  clear S
  intro ⟨k, B, cB, out⟩ a w ⟨hk, hno⟩ S
  dsimp only at hk hno S
  have hout : out.length ≤ b.length + 1737 := by
    have h1 := dotF_len (l := l.take k) (b := putL b (l.length : Int)) fun x hx => hm x (List.mem_of_mem_take hx)
    have h2 : (l.take k).length ≤ 64 := by rw [List.length_take]; omega
    rw [← hno] at h1
    omega
  by_cases hlt : k < l.length
  · obtain ⟨gq, oq, m, rfl, hmm, hdq, hc⟩ := row_at hA hlt
    have hlm := may_lim (hm m (List.mem_of_getElem? hmm))
    have hq1 := putL_len out (n := m.node) (by omega)
    have hq2 := putL_len (putL out m.node) (n := m.life) (by omega)
    refine sg S (.lt (by omega) rfl rfl <| .z) fun a w S => wp_seq_k fun _ hK1 => st_then S (.t rfl) (wp_skip (then_normal (hK1 _ _ (wp_seq_k fun _ hK1 => wp_block (wp_seq_k fun _ hK2 => wp_region_lit (run S (.ix underlying25 sizeOf113 (by omega) rfl rfl <| .yy (ys_ldOA ⟨isAgg113, sizeOf113⟩ (.t rfl) (vs := [_, _, _]) rfl (fun _ => hc)) rfl <| .z) fun a w S => st_m (op_alloc S zeroValue113 (cs := _) rfl rfl fun g1 a w S => st_m (op_stW S sizeOf113 (.t rfl) (.t rfl) (k := 0) rfl rfl rfl (by simp [Value.oneCell']) fun a w S => st_nil (then_normal (hK2 _ _ (h_beginE S (by kernel_rfl) 1 fun a w S => hy 1 S rfl (ys_fieldN (FieldT.mk underlying113 rfl sizeOf3 rfl) (.t rfl) (i' := 0) rfl) rfl fun a w S => hy 2 S rfl (ys_ld ⟨isAgg3, sizeOf3⟩ (.t rfl) (k := 0) rfl rfl) rfl fun a w S => ?_)))))))))))
    refine hy 4 S rfl (ys_fieldN (FieldT.mk underlying113 rfl sizeOf3 rfl) (.t rfl) (i' := 1) rfl) rfl fun a w S => hy 5 S rfl (ys_ld ⟨isAgg3, sizeOf3⟩ (.t rfl) (k := 0) rfl rfl) rfl fun a w S => hy 7 S rfl (ys_fieldN (FieldT.mk underlying113 rfl sizeOf3 rfl) (.t rfl) (i' := 2) rfl) rfl fun a w S => hy 8 S rfl (ys_ld ⟨isAgg3, sizeOf3⟩ (.t rfl) (k := 0) rfl rfl) rfl fun a w S => h_q (i := 0) S (by repeat (first | exact List.Sublist.refl _ | exact List.nil_sublist _ | refine .cons_cons _ ?_ | refine .cons _ ?_)) rfl (by kernel_rfl) (Yr.ys (ys_ld ⟨isAgg107, sizeOf107⟩ (.t rfl) (k := 1) rfl rfl)) rfl fun a w S => ?_
    (refine h_m (i := 3) rfl (by kernel_rfl) (op_calls S call78 (.cons (.t rfl) (.cons (.t rfl) .nil)) (c78 _ _ _ _ (by exact Sl.of_own S.wd (k := 2) rfl (fun _ => rfl)) (by omega) (by omega)) rfl ?_); clear S a w; rintro _ _ ⟨A2, c2, rfl, rfl⟩ a w S; refine h_n1 S ?_)
    (refine h_m (i := 6) rfl (by kernel_rfl) (op_calls S call78 (.cons (.t rfl) (.cons (.t rfl) .nil)) (c78 _ _ _ _ (by exact Sl.of_own S.wd (k := 0) rfl (fun _ => rfl)) (by omega) (by omega)) rfl ?_); clear S a w; rintro _ _ ⟨A3, c3, rfl, rfl⟩ a w S; refine h_n1 S ?_)
    (refine h_m (i := 9) rfl (by kernel_rfl) (op_calls S call78 (.cons (.t rfl) (.cons (.t rfl) .nil)) (c78 _ _ _ _ (by exact Sl.of_own S.wd (k := 0) rfl (fun _ => rfl)) (by omega) (by omega)) rfl ?_); clear S a w; rintro _ _ ⟨A4, c4, rfl, rfl⟩ a w S; refine h_n1 S ?_)
    (refine h_m0 (i := 10) rfl (by kernel_rfl) (op_st S sizeOf107 (.t rfl) (.t rfl) (k := 4) rfl rfl (by simp) ?_); clear S a w; intro a w S; refine h_n1 S ?_)
    refine h_done (by kernel_rfl) (in_normal (then_normal (hK1 _ _ (wp_region_lit (run S (.ad (by unfold I64; omega) rfl <| .mv rfl <| .z) fun a w S => st_nil (then_normal ?_))))))
    (replace S := S.pull 4 rfl; try simp only [List.set_cons_zero, List.set_cons_succ, List.eraseIdx_cons_succ, List.eraseIdx_cons_zero] at S)
    exact ⟨(k + 1, A4, c4, dotB out m), ⟨by dsimp only; omega, by dsimp only; rw [dotF_take hmm, ← hno]⟩, by dsimp only; omega, S.wk⟩
  · have hend : k = l.length := by omega
    subst hend
    rw [List.take_length] at hno
    refine sg S (.ge (by omega) rfl rfl <| .z) fun a w S => wp_seq_k fun _ hK1 => st_else S (.t rfl) (wp_exit (then_exit (then_exit (in_here (st_end S (results0 results105) ?_)))))
    obtain rfl : out = dotsB b l := hno
    exact ⟨_, _, rfl, S.wd.sub (by repeat (first | exact List.Sublist.refl _ | exact List.nil_sublist _ | refine .cons_cons _ ?_ | refine .cons _ ?_)), B, cB, rfl, rfl⟩
end Go.Proofs.YtbijdmfilmecbaaGreat
set_option linter.unusedVariables false
set_option linter.unusedSimpArgs false
set_option maxRecDepth 100000
set_option maxHeartbeats 4000000
namespace Go.Proofs.YtbijdmfilmecbaaGreat
open Go.Fw Go.Proofs Go.RowKit Go.Proofs.Tryz
theorem c80 (w0 : World) (v0 v1 v2 : Value) (b : List UInt8) (C : Ctx) (hs : Sl encB 1 w0 w0.heap.size v0 b) (h : RdCtx w0 w0.heap.size v1 v2 C) (hb : b.length ≤ 4194304) :
    Rets Tryz.prog 80 #[v0, .agg #[v1, v2]] w0 fun v L => ∃ A c, v = .tuple #[.slice A (if canL C then encC b C else []).length c, .int .i64 (if canL C then 0 else 30)] ∧ L = [rowOf 5 1 encB A c (if canL C then encC b C else [])] := by
  obtain ⟨A0, q0, rfl, _⟩ := id hs
  obtain ⟨h1, h2⟩ := id h
  obtain ⟨B1, q1, rfl, _, _, hA⟩ := id h1
  obtain ⟨B2, q2, rfl, _⟩ := id h2
  cases rw_c : canL C with
  | false =>
    unfold Go.Fw.Rets
    refine enter2 func80 rfl ntmps80 rfl fun a S => wp_seq_k fun _ hK1 => wp_region_lit (st_m (op_box1 S (.t rfl) rfl rfl fun g1 a w S => st_m (op_box S (.t rfl) rfl fun g2 a w S => run S (.ac rfl <| .ac rfl <| .z) fun a w S => st_nil (then_normal (hK1 _ _ (wp_seq_k fun _ hK1 => wp_seq_k fun _ hK2 => wp_region_lit (run S (.la gt27 0 rfl rfl rfl <| .xx (ys_call call102 (.cons (.t rfl) .nil) (fun hp w W => c102 _ _ _ _ (by exact .old W (by assumption)))) rfl <| .z) fun a w S => ?_)))))))
    rw [rw_c] at S
    refine run S (.nt rfl <| .z) fun a w S => st_nil (then_normal (hK2 _ _ (st_then S (.t rfl) (sg S (.ac rfl <| .ac rfl <| .z) fun a w S => wp_ret (then_ret (st_ret S (results2 S results80 (Rv.tmp rfl) (Rv.tmp rfl)) ?_))))))
    exact ⟨_, _, rfl, (S.nil_ 5 1 encB none).wd.sub (by repeat (first | exact List.Sublist.refl _ | exact List.nil_sublist _ | refine .cons_cons _ ?_ | refine .cons _ ?_)), none, 0, rfl, rfl⟩
  | true =>
    have hmM := (can_nf rw_c).mayM
    have hmC := (can_nf rw_c).mayC
    have hlen := can_len rw_c
    unfold Go.Fw.Rets
    refine enter2 func80 rfl ntmps80 rfl fun a S => wp_seq_k fun _ hK1 => wp_region_lit (st_m (op_box1 S (.t rfl) rfl rfl fun g1 a w S => st_m (op_box S (.t rfl) rfl fun g2 a w S => run S (.ac rfl <| .ac rfl <| .z) fun a w S => st_nil (then_normal (hK1 _ _ (wp_seq_k fun _ hK1 => wp_seq_k fun _ hK2 => wp_region_lit (run S (.la gt27 0 rfl rfl rfl <| .xx (ys_call call102 (.cons (.t rfl) .nil) (fun hp w W => c102 _ _ _ _ (by exact .old W (by assumption)))) rfl <| .z) fun a w S => ?_)))))))
    rw [rw_c] at S
    refine run S (.nt rfl <| .z) fun a w S => st_nil (then_normal (hK2 _ _ (st_else S (.t rfl) (wp_skip (then_normal (hK1 _ _ (sg S (.yy (ys_mkFunc (.cons (.t rfl) .nil)) rfl <| .as rfl <| .z) fun a w S => sg S (.ac rfl <| .z) fun a w S => wp_seq_k fun _ hK1 => sg S (.fa underlying27 sizeOf24 0 rfl rfl rfl <| .ld gt24 0 rfl rfl rfl <| .ln underlying24 rfl <| .mc rfl <| .z) fun a w S => wp_block ?_)))))))
    (replace S := S.pull 1 rfl; try simp only [List.set_cons_zero, List.set_cons_succ, List.eraseIdx_cons_succ, List.eraseIdx_cons_zero] at S)
    refine st_lpK (S.nil_ 113 3 Dot.enc none) (X := Nat × Option Addr × Nat) (fun q => [(17, true, .int .i64 (q.1 : Int)), (7, true, .slice q.2.1 (C.marks.take q.1).length q.2.2)]) (fun q _ => [rowOf 113 3 Dot.enc q.2.1 q.2.2 (C.marks.take q.1), .blk g1 (.cells #[.slice A0 b.length q0] 107), .blk g2 (.cells #[.slice B1 C.marks.length q1, .slice B2 C.cloud.length q2] 27)])
      (fun q => q.1 ≤ C.marks.length) (fun q => C.marks.length - q.1) (0, none, 0) (Nat.zero_le _) ?_
    clear S
    intro ⟨k, D, cD⟩ a w hk S
    dsimp only at hk S
    by_cases hlt : k < C.marks.length
    · obtain ⟨gq, oq, m, rfl, hmm, hdq, hc⟩ := row_at hA hlt
      have hlk : (C.marks.take k).length ≤ 64 := by rw [List.length_take]; omega
      refine sg S (.lt (by omega) rfl rfl <| .z) fun a w S => wp_seq_k fun _ hK2 => st_then S (.t rfl) (wp_skip (then_normal (hK2 _ _ (wp_seq_k fun _ hK2 => wp_block (wp_seq_k fun _ hK3 => wp_region_lit (run S (.ix underlying24 sizeOf137 (by omega) rfl rfl <| .yy (ys_ldOA ⟨isAgg137, sizeOf137⟩ (.t rfl) (vs := [_, _, _]) rfl (fun _ => hc)) rfl <| .z) fun a w S => st_m (op_alloc S zeroValue137 (cs := _) rfl rfl fun g3 a w S => st_m (op_stW S sizeOf137 (.t rfl) (.t rfl) (k := 0) rfl rfl rfl (by simp [Value.oneCell']) fun a w S => st_nil (then_normal (hK3 _ _ (wp_region_lit (run S (.mv rfl <| .la gt137 0 rfl rfl rfl <| .xx (ys_call call106 (.cons (.t rfl) .nil) (fun hp w W => c106 _ _ _ _)) rfl <| .z) fun a w S => st_m (op_bslice1 S underlying25 inf113 rfl rfl rfl (.t rfl) rfl rfl rfl fun g4 a w S => st_m (op_push S underlying25 inf113 rfl (k := 2) (j := 0) rfl (.t rfl) (.t rfl) rfl rfl rfl rfl (by first | omega | (simp only [List.length_append, List.length_cons, List.length_nil]; omega)) rfl rfl rfl fun A1 cap1 a w S => run S (.as rfl <| .z) fun a w S => st_nil (in_normal (then_normal (hK2 _ _ (wp_region_lit (run S (.ad (by unfold I64; omega) rfl <| .mv rfl <| .z) fun a w S => st_nil (then_normal ?_))))))))))))))))))))
      have et : C.marks.take (k + 1) = C.marks.take k ++ [m] := by rw [List.take_add_one, hmm]; rfl
      rw [← et] at S
      exact ⟨(k + 1, A1, cap1), by dsimp only; omega, by dsimp only; omega, S.wk⟩
    · have hend : k = C.marks.length := by omega
      subst hend
      rw [List.take_length] at S
      have hb1 := dotsB_len (b := b) hmM hlen.1
      refine sg S (.ge (by omega) rfl rfl <| .z) fun a w S => wp_seq_k fun _ hK2 => st_else S (.t rfl) (wp_exit (then_exit (then_exit (in_here (then_normal (hK1 _ _ (wp_seq_k fun _ hK1 => wp_region_lit (run S (.mv rfl <| .mv rfl <| .z) fun a w S => ?_))))))))
      (replace S := S.pull 0 rfl; try simp only [List.set_cons_zero, List.set_cons_succ, List.eraseIdx_cons_succ, List.eraseIdx_cons_zero] at S; replace S := S.pull 1 rfl; try simp only [List.set_cons_zero, List.set_cons_succ, List.eraseIdx_cons_succ, List.eraseIdx_cons_zero] at S; refine st_m (op_callVO (cs := [_]) S (.t rfl) call105 (.cons (.t rfl) .nil) (c105 S.wd (by first | assumption | omega | (dsimp only; omega) | exact Sl.nil_ | exact .old S.wd (by assumption) | exact Sl.of_own S.wd (k := 0) rfl (fun _ => rfl) | exact Sl.of_own S.wd (k := 1) rfl (fun _ => rfl) | exact Sl.of_own S.wd (k := 2) rfl (fun _ => rfl) | (simp; done) | (simp at *; omega)) (by first | assumption | omega | (dsimp only; omega) | exact Sl.nil_ | exact .old S.wd (by assumption) | exact Sl.of_own S.wd (k := 0) rfl (fun _ => rfl) | exact Sl.of_own S.wd (k := 1) rfl (fun _ => rfl) | exact Sl.of_own S.wd (k := 2) rfl (fun _ => rfl) | (intro _ W'; first | exact .old W' (by assumption) | exact Sl.of_own W' (k := 0) rfl (fun _ => rfl) | exact Sl.of_own W' (k := 1) rfl (fun _ => rfl) | exact Sl.of_own W' (k := 2) rfl (fun _ => rfl)) | (simp; done) | (simp at *; omega)) (by first | assumption | omega | (dsimp only; omega) | exact Sl.nil_ | exact .old S.wd (by assumption) | exact Sl.of_own S.wd (k := 0) rfl (fun _ => rfl) | exact Sl.of_own S.wd (k := 1) rfl (fun _ => rfl) | exact Sl.of_own S.wd (k := 2) rfl (fun _ => rfl) | (simp; done) | (simp at *; omega)) (by first | assumption | omega | (dsimp only; omega) | exact Sl.nil_ | exact .old S.wd (by assumption) | exact Sl.of_own S.wd (k := 0) rfl (fun _ => rfl) | exact Sl.of_own S.wd (k := 1) rfl (fun _ => rfl) | exact Sl.of_own S.wd (k := 2) rfl (fun _ => rfl) | (simp; done) | (simp at *; omega))) rfl ?_) <;> clear S a w)
      rintro _ _ ⟨A11, c11, rfl, rfl⟩ a w S
      refine st_nil (then_normal (hK1 _ _ (wp_seq_k fun _ hK1 => wp_region_lit (run S (.mv rfl <| .fa underlying27 sizeOf25 1 rfl rfl rfl <| .ld gt25 3 rfl rfl rfl <| .z) fun a w S => ?_))))
      (refine st_m (op_callVO (cs := [_]) S (.t rfl) call105 (.cons (.t rfl) .nil) (o105 S.wd (by first | assumption | omega | (dsimp only; omega) | exact Sl.nil_ | exact .old S.wd (by assumption) | exact Sl.of_own S.wd (k := 0) rfl (fun _ => rfl) | exact Sl.of_own S.wd (k := 1) rfl (fun _ => rfl) | exact Sl.of_own S.wd (k := 2) rfl (fun _ => rfl) | exact Sl.of_own S.wd (k := 3) rfl (fun _ => rfl) | (intro _ W'; first | exact .old W' (by assumption) | exact Sl.of_own W' (k := 0) rfl (fun _ => rfl) | exact Sl.of_own W' (k := 1) rfl (fun _ => rfl) | exact Sl.of_own W' (k := 2) rfl (fun _ => rfl) | exact Sl.of_own W' (k := 3) rfl (fun _ => rfl)) | (simp; done) | (simp at *; omega)) (by first | assumption | omega | (dsimp only; omega) | exact Sl.nil_ | exact .old S.wd (by assumption) | exact Sl.of_own S.wd (k := 0) rfl (fun _ => rfl) | exact Sl.of_own S.wd (k := 1) rfl (fun _ => rfl) | exact Sl.of_own S.wd (k := 2) rfl (fun _ => rfl) | exact Sl.of_own S.wd (k := 3) rfl (fun _ => rfl) | (simp; done) | (simp at *; omega)) (by first | assumption | omega | (dsimp only; omega) | exact Sl.nil_ | exact .old S.wd (by assumption) | exact Sl.of_own S.wd (k := 0) rfl (fun _ => rfl) | exact Sl.of_own S.wd (k := 1) rfl (fun _ => rfl) | exact Sl.of_own S.wd (k := 2) rfl (fun _ => rfl) | exact Sl.of_own S.wd (k := 3) rfl (fun _ => rfl) | (simp; done) | (simp at *; omega)) (by first | assumption | omega | (dsimp only; omega) | exact Sl.nil_ | exact .old S.wd (by assumption) | exact Sl.of_own S.wd (k := 0) rfl (fun _ => rfl) | exact Sl.of_own S.wd (k := 1) rfl (fun _ => rfl) | exact Sl.of_own S.wd (k := 2) rfl (fun _ => rfl) | exact Sl.of_own S.wd (k := 3) rfl (fun _ => rfl) | (simp; done) | (simp at *; omega))) rfl ?_) <;> clear S a w)
      rintro _ _ ⟨A12, c12, rfl, rfl⟩ a w S
      refine st_nil (then_normal (hK1 _ _ (sg S (.ld gt107 0 rfl rfl rfl <| .as rfl <| .ac rfl <| .z) fun a w S => wp_ret (st_ret S (results2 S results80 (Rv.tmp rfl) (Rv.tmp rfl)) ?_))))
      exact ⟨_, _, rfl, S.wd.pk, _, _, rfl, rfl⟩
end Go.Proofs.YtbijdmfilmecbaaGreat
set_option linter.unusedVariables false
set_option linter.unusedSimpArgs false
set_option maxRecDepth 100000
set_option maxHeartbeats 4000000
namespace Go.Fw
def leN (p : Nat) : Nat → List UInt8
  | 0 => []
  | n + 1 => leN p n ++ [UInt8.ofNat (p / 256 ^ n % 256)]
theorem leN_len (p : Nat) : ∀ n, (leN p n).length = n
  | 0 => rfl
  | n + 1 => by rw [leN, List.length_append, leN_len p n]; rfl
theorem le_byte (p i : Nat) : b8 (Int.fdiv (p : Int) (2 ^ (8 * i))) = UInt8.ofNat (p / 256 ^ i % 256) := by
  have e : Int.fdiv (p : Int) (2 ^ (8 * i)) = ((p / 256 ^ i : Nat) : Int) := by
    rw [Int.fdiv_eq_ediv_of_nonneg _ (by exact_mod_cast Nat.zero_le _)]
    have h : (2 : Int) ^ (8 * i) = ((256 ^ i : Nat) : Int) := by
      rw [Int.pow_mul]; simp
    rw [h]
    simp
  rw [e]
  unfold b8
  congr 1
def entB (b : List UInt8) (x : Ent) : List UInt8 := putL (putL (putL (putL (textL b x.item) x.dot.node) x.dot.life) x.dot.count) x.qty ++ leN x.price.toNat 8
def entsB (b : List UInt8) (l : List Ent) : List UInt8 := l.foldl entB (putL b (l.length : Int))
def encK (c : Cart) : List UInt8 := encC (entsB [] c.ents) c.ctx
theorem textL_len (l s : List UInt8) (h : (s.length : Int) < 9223372036854775808 := by omega) : (textL l s).length ≤ l.length + 9 + s.length := by
  have := putL_len l (n := (s.length : Int)) h
  unfold textL
  rw [List.length_append]; omega
theorem ent_lim {C : Ctx} {x : Ent} (hC : canL C = true) (h : EntOk C x) : x.item.length ≤ 32 ∧ 1 ≤ x.qty ∧ x.qty ≤ 1000000 ∧ 0 ≤ x.dot.node ∧ x.dot.node < 8 ∧ 1 ≤ x.dot.life ∧ x.dot.life ≤ 1099511627776 ∧ 1 ≤ x.dot.count ∧ x.dot.count ≤ 1099511627776 := by
  obtain ⟨h1, ⟨h2, h3⟩, h4, h5⟩ := h
  have := may_lim (cov_may hC h5)
  exact ⟨name_len h1, h2, h3, this⟩
theorem entB_len {C : Ctx} {x : Ent} (hC : canL C = true) (h : EntOk C x) (b : List UInt8) : (entB b x).length ≤ b.length + 100 := by
  obtain ⟨h1, h2, h3, h4, h5, h6, h7, h8, h9⟩ := ent_lim hC h
  unfold entB
  have p1 := textL_len b x.item
  have p2 := putL_len (textL b x.item) (n := x.dot.node) (by omega)
  have p3 := putL_len (putL (textL b x.item) x.dot.node) (n := x.dot.life) (by omega)
  have p4 := putL_len (putL (putL (textL b x.item) x.dot.node) x.dot.life) (n := x.dot.count) (by omega)
  have p5 := putL_len (putL (putL (putL (textL b x.item) x.dot.node) x.dot.life) x.dot.count) (n := x.qty) (by omega)
  rw [List.length_append, leN_len]
  omega
theorem ents_len {X : Cart} (ok : CartOk X) : ∀ k, ((X.ents.take k).foldl entB (putL [] (X.ents.length : Int))).length ≤ 9 + 100 * k
  | 0 => by
    have := putL_len [] (n := (X.ents.length : Int)) (by have := ok.len; omega)
    simpa using this
  | k + 1 => by
    have ih := ents_len ok k
    rw [List.take_add_one]
    cases hx : X.ents[k]? with
    | none => simp; omega
    | some x =>
      rw [Option.toList_some, List.foldl_append]
      have := entB_len ok.ctx (ok.each x (List.mem_of_getElem? hx)) ((X.ents.take k).foldl entB (putL [] (X.ents.length : Int)))
      simp only [List.foldl_cons, List.foldl_nil]
      omega
end Go.Fw
namespace Go.Proofs.YtbijdmfilmecbaaGreat
open Go.Fw Go.Proofs Go.RowKit Go.Proofs.Tryz
theorem c49 (w0 : World) (v1 v2 v3 : Value) (X : Cart) (h : Sl Ent.enc 6 w0 w0.heap.size v1 X.ents) (hr : RdCtx w0 w0.heap.size v2 v3 X.ctx) :
    Rets Tryz.prog 49 #[.agg #[v1, v2, v3]] w0 fun v L => ∃ A r, v = .tuple #[.slice A (if canE X = 0 then encK X else []).length r, .int .i64 (canE X)] ∧ L = [rowOf 5 1 encB A r (if canE X = 0 then encK X else [])] := by
  have hs := h
  have hrr := hr
  obtain ⟨A, cap, rfl, hl, hcap, hA⟩ := h
  obtain ⟨⟨A2, cap2, rfl, _⟩, ⟨A3, cap3, rfl, _⟩⟩ := hr
  by_cases he : canE X = 0
  rotate_left
  · have rw_e : decide (canE X ≠ 0) = true := decide_eq_true he
    unfold Go.Fw.Rets
    refine enter1 func49 rfl ntmps49 rfl fun a S => wp_seq_k fun _ hK1 => wp_region_lit (st_m (op_box S (.t rfl) rfl fun g1 a w S => run S (.ac rfl <| .ac rfl <| .z) fun a w S => st_nil (then_normal (hK1 _ _ (sg S (.la gt29 0 rfl rfl rfl <| .xx (ys_call call77 (.cons (.t rfl) .nil) (fun hp w W => c77 _ _ _ _ _ (by exact .old W (by assumption)) (by exact .old W (by assumption)))) rfl <| .as rfl <| .z) fun a w S => wp_seq_k fun _ hK1 => sg S (.mv rfl <| .yy (ys_T (by omega) (ys_neq (.t rfl) Ev.c)) rfl <| .z) fun a w S => st_then S (.t rfl) (sg S (.mv rfl <| .ac rfl <| .as rfl <| .z) fun a w S => wp_ret (then_ret (st_ret S (results2 S results49 (Rv.tmp rfl) (Rv.tmp rfl)) ?_))))))))
    rw [if_neg he]
    exact ⟨_, _, rfl, (S.nil_ 5 1 encB none).wd.pk, none, 0, rfl, rfl⟩
  have rw_e := he
  unfold Go.Fw.Rets
  refine enter1 func49 rfl ntmps49 rfl fun a S => wp_seq_k fun _ hK1 => wp_region_lit (st_m (op_box S (.t rfl) rfl fun g1 a w S => run S (.ac rfl <| .ac rfl <| .z) fun a w S => st_nil (then_normal (hK1 _ _ (wp_seq_k fun _ hK1 => wp_region_lit (run S (.la gt29 0 rfl rfl rfl <| .xx (ys_call call77 (.cons (.t rfl) .nil) (fun hp w W => c77 _ _ _ _ _ (by exact .old W (by assumption)) (by exact .old W (by assumption)))) rfl <| .z) fun a w S => ?_))))))
  rw [rw_e] at S
  refine run S (.as rfl <| .z) fun a w S => st_nil (then_normal (hK1 _ _ (wp_seq_k fun _ hK1 => sg S (.mv rfl <| .yy (ys_F (by omega) (ys_neq (.t rfl) Ev.c)) rfl <| .z) fun a w S => st_else S (.t rfl) (wp_skip (then_normal (hK1 _ _ (wp_seq_k fun _ hK1 => wp_region_lit (run S (.fa underlying29 sizeOf23 0 rfl rfl rfl <| .ld gt23 0 rfl rfl rfl <| .ln underlying23 rfl <| .z) fun a w S => ?_))))))))
  (refine st_m (op_calls S call78 (.cons Ev.c (.cons (.t rfl) .nil)) (c78 _ _ _ _ (by exact Sl.nil_) (by (simp; done)) (by omega)) rfl ?_); clear S a w; rintro _ _ ⟨A1, c1, rfl, rfl⟩ a w S)
  refine run S (.as rfl <| .z) fun a w S => st_nil (then_normal (hK1 _ _ (wp_seq_k fun _ hK1 => sg S (.fa underlying29 sizeOf23 0 rfl rfl rfl <| .ld gt23 1 rfl rfl rfl <| .ln underlying23 rfl <| .mc rfl <| .z) fun a w S => wp_block ?_)))
  have ok := (canE_ok X).1 he
  have lX := ok.len
  have hp0 := putL_len [] (n := (X.ents.length : Int)) (by omega)
  have e0 : putL [] (X.ents.length : Int) = (X.ents.take 0).foldl entB (putL [] (X.ents.length : Int)) := rfl
  rw [e0] at S
  refine st_lpM S [5, 23] (X := Nat × Option Addr × Nat) (fun q => [(5, true, .slice q.2.1 ((X.ents.take q.1).foldl entB (putL [] (X.ents.length : Int))).length q.2.2), (23, true, .int .i64 (q.1 : Int))])
    (fun q => [rowOf 5 1 encB q.2.1 q.2.2 ((X.ents.take q.1).foldl entB (putL [] (X.ents.length : Int))), .blk g1 (.cells #[.slice A X.ents.length cap, .slice A2 X.ctx.marks.length cap2, .slice A3 X.ctx.cloud.length cap3] 29)])
    (fun q => q.1 ≤ X.ents.length) (fun q => X.ents.length - q.1) (0, A1, c1) (Nat.zero_le _) ?_
  clear S
  rintro ⟨k, D, cD⟩ a w hk S
  dsimp only at hk S
  have hbl := ents_len ok k
  by_cases hlt : k < X.ents.length
  · obtain ⟨g, o, x, rfl, hx, hd, hc⟩ := row_at hA hlt
    have hxo := ok.each x (List.mem_of_getElem? hx)
    obtain ⟨hxi, hxq1, hxq2, hx1, hx2, hx3, hx4, hx5, hx6⟩ := ent_lim ok.ctx hxo
    have hst : (X.ents.take (k + 1)).foldl entB (putL [] (X.ents.length : Int)) = entB ((X.ents.take k).foldl entB (putL [] (X.ents.length : Int))) x := by
      rw [List.take_add_one, hx, Option.toList_some, List.foldl_append]; rfl
    generalize hO : (X.ents.take k).foldl entB (putL [] (X.ents.length : Int)) = O at *
    have hl1 := textL_len O x.item
    generalize rw_o1 : textL O x.item = O1 at *
    have hl2 := putL_len O1 (n := x.dot.node) (by omega)
    generalize rw_o2 : putL O1 x.dot.node = O2 at *
    have hl3 := putL_len O2 (n := x.dot.life) (by omega)
    generalize rw_o3 : putL O2 x.dot.life = O3 at *
    have hl4 := putL_len O3 (n := x.dot.count) (by omega)
    generalize rw_o4 : putL O3 x.dot.count = O4 at *
    have hl5 := putL_len O4 (n := x.qty) (by omega)
    generalize rw_o5 : putL O4 x.qty = O5 at *
    refine sg S (.lt (by omega) rfl rfl <| .z) fun a w S => wp_seq_k fun _ hK2 => st_then S (.t rfl) (wp_skip (then_normal (hK2 _ _ (wp_seq_k fun _ hK2 => wp_block (wp_seq_k fun _ hK3 => wp_region_lit (run S (.ix underlying23 sizeOf115 (by omega) rfl rfl <| .yy (ys_ldOA ⟨isAgg115, sizeOf115⟩ (.t rfl) (vs := [_, _, _, _, _, _]) rfl (fun _ => hc)) rfl <| .z) fun a w S => st_m (op_alloc S zeroValue115 (cs := _) rfl rfl fun g2 a w S => st_m (op_stW S sizeOf115 (.t rfl) (.t rfl) (k := 0) rfl rfl rfl (by simp [Value.oneCell']) fun a w S => st_nil (then_normal (hK3 _ _ (wp_seq_k fun _ hK3 => wp_region_lit (run S (.mv rfl <| .fa underlying115 sizeOf9 0 rfl rfl rfl <| .ld gt9 0 rfl rfl rfl <| .z) fun a w S => ?_))))))))))))
    (refine st_m (op_calls S call79 (.cons (.t rfl) (.cons (.t rfl) .nil)) (c79 _ _ _ _ (by exact Sl.of_own S.wd (k := 1) rfl (fun _ => rfl)) (by omega) (by omega)) rfl ?_); clear S a w; rintro _ _ ⟨A4, r1, rfl, rfl⟩ a w S)
    rw [rw_o1] at S
    refine run S (.as rfl <| .z) fun a w S => st_nil (then_normal (hK3 _ _ (wp_seq_k fun _ hK3 => wp_seq_k fun _ hK4 => wp_region_lit (run S (.fa underlying115 sizeOf113 1 rfl rfl rfl <| .fa underlying113 sizeOf3 1 rfl rfl rfl <| .ld gt3 1 rfl rfl rfl <| .fa underlying115 sizeOf113 1 rfl rfl rfl <| .fa underlying113 sizeOf3 2 rfl rfl rfl <| .ld gt3 1 rfl rfl rfl <| .fa underlying115 sizeOf113 1 rfl rfl rfl <| .fa underlying113 sizeOf3 3 rfl rfl rfl <| .ld gt3 1 rfl rfl rfl <| .fa underlying115 sizeOf3 4 rfl rfl rfl <| .ld gt3 1 rfl rfl rfl <| .z) fun a w S => st_m (op_bsliceZ (ps := [(0, Go.Operand.tmp 33), (1, Go.Operand.tmp 36), (2, Go.Operand.tmp 39), (3, Go.Operand.tmp 41)]) (us := [_, _, _, _]) S underlying82 sizeOf3 zeroValue3 rfl rfl (.cons (.t rfl) (.cons (.t rfl) (.cons (.t rfl) (.cons (.t rfl) .nil)))) rfl rfl fun g3 a w S => run S (.ln underlying82 rfl <| .mc rfl <| .z) fun a w S => st_nil (then_normal (hK4 _ _ (wp_block (st_rounds 5 (st_round (sg S (.lt (by omega) rfl rfl <| .z) fun a w S => wp_seq_k fun _ hK4 => st_then S (.t rfl) (wp_skip (then_normal (hK4 _ _ (wp_seq_k fun _ hK4 => wp_block (wp_seq_k fun _ hK5 => wp_region_lit ?_))))))))))))))))
    refine run S (.yy (ys_ixS (j := 0) underlying82 sizeOf3 (.t rfl) (.t rfl) (fun _ => by omega)) rfl <| .ld gt3 0 rfl rfl rfl <| .as rfl <| .z) fun a w S => st_nil (then_normal (hK5 _ _ (wp_region_lit (run S (.mv rfl <| .mv rfl <| .z) fun a w S => ?_))))
    (refine st_m (op_calls S call78 (.cons (.t rfl) (.cons (.t rfl) .nil)) (c78 _ _ _ _ (by exact Sl.of_own S.wd (k := 1) rfl (fun _ => rfl)) (by omega) (by omega)) rfl ?_); clear S a w; rintro _ _ ⟨A5, c2, rfl, rfl⟩ a w S)
    rw [rw_o2] at S
    refine run S (.as rfl <| .z) fun a w S => st_nil (in_normal (then_normal (hK4 _ _ (wp_region_lit (run S (.ad (by unfold I64; omega) rfl <| .mv rfl <| .z) fun a w S => st_nil (then_normal (st_round (sg S (.lt (by omega) rfl rfl <| .z) fun a w S => wp_seq_k fun _ hK4 => st_then S (.t rfl) (wp_skip (then_normal (hK4 _ _ (wp_seq_k fun _ hK4 => wp_block (sg S (.yy (ys_ixS (j := 1) underlying82 sizeOf3 (.t rfl) (.t rfl) (fun _ => by omega)) rfl <| .ld gt3 1 rfl rfl rfl <| .as rfl <| .z) fun a w S => wp_region_lit (run S (.mv rfl <| .mv rfl <| .z) fun a w S => ?_))))))))))))))
    (refine st_m (op_calls S call78 (.cons (.t rfl) (.cons (.t rfl) .nil)) (c78 _ _ _ _ (by exact Sl.of_own S.wd (k := 0) rfl (fun _ => rfl)) (by omega) (by omega)) rfl ?_); clear S a w; rintro _ _ ⟨A6, c3, rfl, rfl⟩ a w S)
    rw [rw_o3] at S
    refine run S (.as rfl <| .z) fun a w S => st_nil (in_normal (then_normal (hK4 _ _ (wp_region_lit (run S (.ad (by unfold I64; omega) rfl <| .mv rfl <| .z) fun a w S => st_nil (then_normal (st_round (sg S (.lt (by omega) rfl rfl <| .z) fun a w S => wp_seq_k fun _ hK4 => st_then S (.t rfl) (wp_skip (then_normal (hK4 _ _ (wp_seq_k fun _ hK4 => wp_block (sg S (.yy (ys_ixS (j := 2) underlying82 sizeOf3 (.t rfl) (.t rfl) (fun _ => by omega)) rfl <| .ld gt3 2 rfl rfl rfl <| .as rfl <| .z) fun a w S => wp_region_lit (run S (.mv rfl <| .mv rfl <| .z) fun a w S => ?_))))))))))))))
    (refine st_m (op_calls S call78 (.cons (.t rfl) (.cons (.t rfl) .nil)) (c78 _ _ _ _ (by exact Sl.of_own S.wd (k := 0) rfl (fun _ => rfl)) (by omega) (by omega)) rfl ?_); clear S a w; rintro _ _ ⟨A7, c4, rfl, rfl⟩ a w S)
    rw [rw_o4] at S
    refine run S (.as rfl <| .z) fun a w S => st_nil (in_normal (then_normal (hK4 _ _ (wp_region_lit (run S (.ad (by unfold I64; omega) rfl <| .mv rfl <| .z) fun a w S => st_nil (then_normal (st_round (sg S (.lt (by omega) rfl rfl <| .z) fun a w S => wp_seq_k fun _ hK4 => st_then S (.t rfl) (wp_skip (then_normal (hK4 _ _ (wp_seq_k fun _ hK4 => wp_block (sg S (.yy (ys_ixS (j := 3) underlying82 sizeOf3 (.t rfl) (.t rfl) (fun _ => by omega)) rfl <| .ld gt3 3 rfl rfl rfl <| .as rfl <| .z) fun a w S => wp_region_lit (run S (.mv rfl <| .mv rfl <| .z) fun a w S => ?_))))))))))))))
    (refine st_m (op_calls S call78 (.cons (.t rfl) (.cons (.t rfl) .nil)) (c78 _ _ _ _ (by exact Sl.of_own S.wd (k := 0) rfl (fun _ => rfl)) (by omega) (by omega)) rfl ?_); clear S a w; rintro _ _ ⟨A8, c5, rfl, rfl⟩ a w S)
    rw [rw_o5] at S
    refine run S (.as rfl <| .z) fun a w S => st_nil (in_normal (then_normal (hK4 _ _ (wp_region_lit (run S (.ad (by unfold I64; omega) rfl <| .mv rfl <| .z) fun a w S => st_nil (then_normal (st_round (sg S (.ge (by omega) rfl rfl <| .z) fun a w S => wp_seq_k fun _ hK4 => st_else S (.t rfl) (wp_exit (then_exit (then_exit (in_here (then_normal (hK3 _ _ (sg S (.mc rfl <| .z) fun a w S => wp_block ?_)))))))))))))))
    have rw_f : O5 ++ leN x.price.toNat 0 = O5 := List.append_nil _
    rw [← rw_f] at S
    clear rw_f
    refine st_lpM S [5, 52] (X := Nat × Option Addr × Nat) (fun q => [(5, true, .slice q.2.1 (O5 ++ leN x.price.toNat q.1).length q.2.2), (52, true, .int .i64 (q.1 : Int))])
      (fun q => [rowOf 5 1 encB q.2.1 q.2.2 (O5 ++ leN x.price.toNat q.1), .blk g2 (.cells (Ent.enc x).toArray 115), .blk g1 (.cells #[.slice (some ⟨g, o, none⟩) X.ents.length cap, .slice A2 X.ctx.marks.length cap2, .slice A3 X.ctx.cloud.length cap3] 29)])
      (fun q => q.1 ≤ 8) (fun q => 8 - q.1) (0, _, _) (Nat.zero_le _) ?_
    clear S
    rintro ⟨i, F, cF⟩ a w hi S
    dsimp only at hi S
    have hll : (O5 ++ leN x.price.toNat i).length = O5.length + i := by rw [List.length_append, leN_len]
    have rw_8 : 8 * (i : Int) = ((8 * i : Nat) : Int) := by omega
    by_cases hi8 : i < 8
    · refine sg S (.yy (ys_T (by omega) (ys_lss (.t rfl) Ev.c)) rfl <| .z) fun a w S => wp_seq_k fun _ hK3 => st_then S (.t rfl) (wp_skip (then_normal (hK3 _ _ (wp_seq_k fun _ hK3 => wp_block (sg S (.mv rfl <| .as rfl <| .z) fun a w S => wp_region_lit (run S (.mv rfl <| .fa underlying115 sizeOf60 5 rfl rfl rfl <| .ld gt60 1 rfl rfl rfl <| .mv rfl <| .yy (ys_mulI Ev.c (.t rfl) (fun _ => by unfold I64; omega)) rfl <| .z) fun a w S => ?_))))))
      rw [rw_8] at S
      refine run S (.yy (ys_shr (.t rfl) (.t rfl) (Nat.ble_eq_true_of_le (by show _ ≤ 64; omega))) rfl <| .yy (ys_cvB underlying60 underlying5 (.t rfl)) rfl <| .z) fun a w S => st_m (op_bslice1 S underlying107 inf5 rfl rfl rfl (.t rfl) rfl rfl rfl fun g4 a w S => st_m (op_push S underlying107 inf5 rfl (k := 1) (j := 0) rfl (.t rfl) (.t rfl) rfl rfl rfl rfl (by first | omega | (simp only [List.length_append, List.length_cons, List.length_nil]; omega)) rfl rfl rfl fun A9 cap1 a w S => run S (.as rfl <| .z) fun a w S => st_nil (in_normal (then_normal (hK3 _ _ (wp_region_lit (run S (.ad (by unfold I64; omega) rfl <| .mv rfl <| .z) fun a w S => st_nil (then_normal ?_))))))))
      rw [le_byte, List.append_assoc, show leN x.price.toNat i ++ [UInt8.ofNat (x.price.toNat / 256 ^ i % 256)] = leN x.price.toNat (i + 1) from rfl] at S
      exact ⟨(i + 1, A9, cap1), by dsimp only; omega, by dsimp only; omega, S.pk⟩
    obtain rfl : i = 8 := by omega
    have he5 : entB O x = O5 ++ leN x.price.toNat 8 := by unfold entB; rw [rw_o1, rw_o2, rw_o3, rw_o4, rw_o5]
    refine sg S (.yy (ys_F (by omega) (ys_lss (.t rfl) Ev.c)) rfl <| .z) fun a w S => wp_seq_k fun _ hK3 => st_else S (.t rfl) (wp_exit (then_exit (then_exit (in_here (in_normal (then_normal (hK2 _ _ (wp_region_lit (run S (.ad (by unfold I64; omega) rfl <| .mv rfl <| .z) fun a w S => st_nil (then_normal ?_))))))))))
    exact ⟨(k + 1, F, cF), by dsimp only; omega, by dsimp only; omega, by dsimp only; rw [hst, he5]; exact S.pk⟩
  obtain rfl : k = X.ents.length := by omega
  rw [List.take_length] at S hbl
  have ee : X.ents.foldl entB (putL [] (X.ents.length : Int)) = entsB [] X.ents := rfl
  rw [ee] at S hbl
  have rw_1 : ∀ a b : List UInt8, (if canL X.ctx = true then a else b) = a := fun _ _ => if_pos ok.ctx
  have rw_2 : ∀ a b : Int, (if canL X.ctx = true then a else b) = a := fun _ _ => if_pos ok.ctx
  have rw_3 : encC (entsB [] X.ents) X.ctx = encK X := rfl
  refine sg S (.ge (by omega) rfl rfl <| .z) fun a w S => wp_seq_k fun _ hK2 => st_else S (.t rfl) (wp_exit (then_exit (then_exit (in_here (then_normal (hK1 _ _ (wp_seq_k fun _ hK1 => wp_region_lit (run S (.mv rfl <| .fa underlying29 sizeOf27 1 rfl rfl rfl <| .la gt27 1 rfl rfl rfl <| .z) fun a w S => ?_))))))))
  (refine st_m (op_calls S call80 (.cons (.t rfl) (.cons (.t rfl) .nil)) (c80 _ _ _ _ _ _ (by exact Sl.of_own S.wd (k := 0) rfl (fun _ => rfl)) (by exact .old S.wd (by assumption)) (by omega)) rfl ?_); clear S a w; rintro _ _ ⟨A4, c2, rfl, rfl⟩ a w S)
  rw [rw_1] at S
  rw [rw_2] at S
  rw [rw_3] at S
  refine run S (.ex rfl rfl <| .ex rfl rfl <| .as rfl <| .as rfl <| .z) fun a w S => st_nil (then_normal (hK1 _ _ (wp_ret (st_ret S (results2 S results49 (Rv.tmp rfl) (Rv.tmp rfl)) ?_))))
  rw [if_pos he, he]
  exact ⟨_, _, rfl, S.wd.pk, _, _, rfl, rfl⟩
end Go.Proofs.YtbijdmfilmecbaaGreat
set_option linter.unusedVariables false
set_option linter.unusedSimpArgs false
set_option maxRecDepth 100000
set_option maxHeartbeats 4000000
namespace Go.Fw
def shN (p : Nat) : Nat → Nat
  | 0 => p
  | i + 1 => shN p i / 256
theorem shN_eq (p : Nat) : ∀ i, shN p i = p / 256 ^ i
  | 0 => by simp [shN]
  | i + 1 => by rw [shN, shN_eq p i, Nat.div_div_eq_div_mul, Nat.pow_succ]
theorem shN_le (p i : Nat) : shN p i ≤ p := by rw [shN_eq]; exact Nat.div_le_self _ _
theorem shN_next {p : Nat} (hp : p < 18446744073709551616) (i : Nat) : IntKind.u64.wrap (((shN p i : Nat) : Int).tdiv 256) = ((shN p (i + 1) : Nat) : Int) := by
  have h := shN_le p i
  have e : ((shN p i : Nat) : Int).tdiv 256 = ((shN p i / 256 : Nat) : Int) := by
    rw [Int.tdiv_eq_ediv_of_nonneg (by omega)]; omega
  rw [e, shN]
  simp only [IntKind.wrap, IntKind.signed, IntKind.bits]
  simp
  omega
theorem shN_byte (p i : Nat) : b8 (((shN p i : Nat) : Int) % 256) = UInt8.ofNat (p / 256 ^ i % 256) := by
  rw [← shN_eq]
  unfold b8
  congr 1
  omega
end Go.Fw
namespace Go.Proofs.YtbijdmfilmecbaaGreat
open Go.Fw Go.Proofs Go.RowKit Go.Proofs.Tryz
theorem c53 (w0 : World) (v1 v2 v3 : Value) (X : Cart) (h : Sl Ent.enc 6 w0 w0.heap.size v1 X.ents) (hr : RdCtx w0 w0.heap.size v2 v3 X.ctx) :
    Rets Tryz.prog 53 #[.agg #[v1, v2, v3]] w0 fun v L => ∃ A r, v = .tuple #[.slice A (if canE X = 0 then encK X else []).length r, .int .i64 (canE X)] ∧ L = [rowOf 5 1 encB A r (if canE X = 0 then encK X else [])] := by
  have hs := h
  have hrr := hr
  obtain ⟨A, cap, rfl, hl, hcap, hA⟩ := h
  obtain ⟨⟨A2, cap2, rfl, _⟩, ⟨A3, cap3, rfl, _⟩⟩ := hr
  by_cases he : canE X = 0
  rotate_left
  · have rw_e : decide (canE X ≠ 0) = true := decide_eq_true he
    unfold Go.Fw.Rets
    refine enter1 func53 rfl ntmps53 rfl fun a S => wp_seq_k fun _ hK1 => wp_region_lit (st_m (op_box S (.t rfl) rfl fun g1 a w S => run S (.ac rfl <| .ac rfl <| .z) fun a w S => st_nil (then_normal (hK1 _ _ (wp_seq_k fun _ hK1 => sg S (.la gt29 0 rfl rfl rfl <| .xx (ys_call call83 (.cons (.t rfl) .nil) (fun hp w W => c83 _ _ _ _ _ (by exact .old W (by assumption)) (by exact .old W (by assumption)))) rfl <| .as rfl <| .z) fun a w S => sg S (.mv rfl <| .yy (ys_T (by omega) (ys_neq (.t rfl) Ev.c)) rfl <| .z) fun a w S => st_then S (.t rfl) (sg S (.mv rfl <| .ac rfl <| .as rfl <| .z) fun a w S => wp_ret (then_ret (st_ret S (results2 S results53 (Rv.tmp rfl) (Rv.tmp rfl)) ?_))))))))
    rw [if_neg he]
    exact ⟨_, _, rfl, (S.nil_ 5 1 encB none).wd.pk, none, 0, rfl, rfl⟩
  have rw_e := he
  unfold Go.Fw.Rets
  refine enter1 func53 rfl ntmps53 rfl fun a S => wp_seq_k fun _ hK1 => wp_region_lit (st_m (op_box S (.t rfl) rfl fun g1 a w S => run S (.ac rfl <| .ac rfl <| .z) fun a w S => st_nil (then_normal (hK1 _ _ (wp_seq_k fun _ hK1 => wp_seq_k fun _ hK2 => wp_region_lit (run S (.la gt29 0 rfl rfl rfl <| .xx (ys_call call83 (.cons (.t rfl) .nil) (fun hp w W => c83 _ _ _ _ _ (by exact .old W (by assumption)) (by exact .old W (by assumption)))) rfl <| .z) fun a w S => ?_))))))
  rw [rw_e] at S
  refine run S (.as rfl <| .z) fun a w S => st_nil (then_normal (hK2 _ _ (sg S (.mv rfl <| .yy (ys_F (by omega) (ys_neq (.t rfl) Ev.c)) rfl <| .z) fun a w S => st_else S (.t rfl) (wp_skip (then_normal (hK1 _ _ (wp_seq_k fun _ hK1 => wp_region_lit (run S (.fa underlying29 sizeOf23 0 rfl rfl rfl <| .ld gt23 0 rfl rfl rfl <| .ln underlying23 rfl <| .z) fun a w S => ?_))))))))
  (refine st_m (op_calls S call84 (.cons Ev.c (.cons (.t rfl) .nil)) (c84 _ _ _ _ (by exact Sl.nil_) (by (simp; done)) (by omega)) rfl ?_); clear S a w; rintro _ _ ⟨A1, c1, rfl, rfl⟩ a w S)
  refine run S (.as rfl <| .z) fun a w S => st_nil (then_normal (hK1 _ _ (wp_seq_k fun _ hK1 => sg S (.fa underlying29 sizeOf23 0 rfl rfl rfl <| .ld gt23 1 rfl rfl rfl <| .ln underlying23 rfl <| .mc rfl <| .z) fun a w S => wp_block ?_)))
  have ok := (canE_ok X).1 he
  have lX := ok.len
  have hp0 := putL_len [] (n := (X.ents.length : Int)) (by omega)
  have e0 : putL [] (X.ents.length : Int) = (X.ents.take 0).foldl entB (putL [] (X.ents.length : Int)) := rfl
  rw [e0] at S
  refine st_lpM S [5, 23] (X := Nat × Option Addr × Nat) (fun q => [(5, true, .slice q.2.1 ((X.ents.take q.1).foldl entB (putL [] (X.ents.length : Int))).length q.2.2), (23, true, .int .i64 (q.1 : Int))])
    (fun q => [rowOf 5 1 encB q.2.1 q.2.2 ((X.ents.take q.1).foldl entB (putL [] (X.ents.length : Int))), .blk g1 (.cells #[.slice A X.ents.length cap, .slice A2 X.ctx.marks.length cap2, .slice A3 X.ctx.cloud.length cap3] 29)])
    (fun q => q.1 ≤ X.ents.length) (fun q => X.ents.length - q.1) (0, A1, c1) (Nat.zero_le _) ?_
  clear S
  rintro ⟨k, D, cD⟩ a w hk S
  dsimp only at hk S
  have hbl := ents_len ok k
  by_cases hlt : k < X.ents.length
  · obtain ⟨g, o, x, rfl, hx, hd, hc⟩ := row_at hA hlt
    have hxo := ok.each x (List.mem_of_getElem? hx)
    obtain ⟨hxi, hxq1, hxq2, hx1, hx2, hx3, hx4, hx5, hx6⟩ := ent_lim ok.ctx hxo
    have hst : (X.ents.take (k + 1)).foldl entB (putL [] (X.ents.length : Int)) = entB ((X.ents.take k).foldl entB (putL [] (X.ents.length : Int))) x := by
      rw [List.take_add_one, hx, Option.toList_some, List.foldl_append]; rfl
    generalize hO : (X.ents.take k).foldl entB (putL [] (X.ents.length : Int)) = O at *
    have hl1 := textL_len O x.item
    generalize rw_o1 : textL O x.item = O1 at *
    have hl2 := putL_len O1 (n := x.dot.node) (by omega)
    generalize rw_o2 : putL O1 x.dot.node = O2 at *
    have hl3 := putL_len O2 (n := x.dot.life) (by omega)
    generalize rw_o3 : putL O2 x.dot.life = O3 at *
    have hl4 := putL_len O3 (n := x.dot.count) (by omega)
    generalize rw_o4 : putL O3 x.dot.count = O4 at *
    have hl5 := putL_len O4 (n := x.qty) (by omega)
    generalize rw_o5 : putL O4 x.qty = O5 at *
    refine sg S (.lt (by omega) rfl rfl <| .z) fun a w S => wp_seq_k fun _ hK2 => st_then S (.t rfl) (wp_skip (then_normal (hK2 _ _ (wp_seq_k fun _ hK2 => wp_block (wp_seq_k fun _ hK3 => wp_region_lit (run S (.ix underlying23 sizeOf115 (by omega) rfl rfl <| .yy (ys_ldOA ⟨isAgg115, sizeOf115⟩ (.t rfl) (vs := [_, _, _, _, _, _]) rfl (fun _ => hc)) rfl <| .z) fun a w S => st_m (op_alloc S zeroValue115 (cs := _) rfl rfl fun g2 a w S => st_m (op_stW S sizeOf115 (.t rfl) (.t rfl) (k := 0) rfl rfl rfl (by simp [Value.oneCell']) fun a w S => st_nil (then_normal (hK3 _ _ (wp_seq_k fun _ hK3 => wp_region_lit (run S (.mv rfl <| .fa underlying115 sizeOf9 0 rfl rfl rfl <| .ld gt9 0 rfl rfl rfl <| .z) fun a w S => ?_))))))))))))
    (refine st_m (op_calls S call85 (.cons (.t rfl) (.cons (.t rfl) .nil)) (c85 _ _ _ _ (by exact Sl.of_own S.wd (k := 1) rfl (fun _ => rfl)) (by omega) (by omega)) rfl ?_); clear S a w; rintro _ _ ⟨A4, r1, rfl, rfl⟩ a w S)
    rw [rw_o1] at S
    refine run S (.as rfl <| .z) fun a w S => st_nil (then_normal (hK3 _ _ (wp_seq_k fun _ hK3 => wp_seq_k fun _ hK4 => wp_region_lit (run S (.fa underlying115 sizeOf113 1 rfl rfl rfl <| .fa underlying113 sizeOf3 1 rfl rfl rfl <| .ld gt3 1 rfl rfl rfl <| .fa underlying115 sizeOf113 1 rfl rfl rfl <| .fa underlying113 sizeOf3 2 rfl rfl rfl <| .ld gt3 1 rfl rfl rfl <| .fa underlying115 sizeOf113 1 rfl rfl rfl <| .fa underlying113 sizeOf3 3 rfl rfl rfl <| .ld gt3 1 rfl rfl rfl <| .fa underlying115 sizeOf3 4 rfl rfl rfl <| .ld gt3 1 rfl rfl rfl <| .z) fun a w S => st_m (op_bsliceZ (ps := [(0, Go.Operand.tmp 33), (1, Go.Operand.tmp 36), (2, Go.Operand.tmp 39), (3, Go.Operand.tmp 41)]) (us := [_, _, _, _]) S underlying82 sizeOf3 zeroValue3 rfl rfl (.cons (.t rfl) (.cons (.t rfl) (.cons (.t rfl) (.cons (.t rfl) .nil)))) rfl rfl fun g3 a w S => run S (.ln underlying82 rfl <| .mc rfl <| .z) fun a w S => st_nil (then_normal (hK4 _ _ (wp_block (st_rounds 5 (st_round (sg S (.lt (by omega) rfl rfl <| .z) fun a w S => wp_seq_k fun _ hK4 => st_then S (.t rfl) (wp_skip (then_normal (hK4 _ _ (wp_seq_k fun _ hK4 => wp_block (wp_seq_k fun _ hK5 => wp_region_lit ?_))))))))))))))))
    refine run S (.yy (ys_ixS (j := 0) underlying82 sizeOf3 (.t rfl) (.t rfl) (fun _ => by omega)) rfl <| .ld gt3 0 rfl rfl rfl <| .as rfl <| .z) fun a w S => st_nil (then_normal (hK5 _ _ (wp_region_lit (run S (.mv rfl <| .mv rfl <| .z) fun a w S => ?_))))
    (refine st_m (op_calls S call84 (.cons (.t rfl) (.cons (.t rfl) .nil)) (c84 _ _ _ _ (by exact Sl.of_own S.wd (k := 1) rfl (fun _ => rfl)) (by omega) (by omega)) rfl ?_); clear S a w; rintro _ _ ⟨A5, c2, rfl, rfl⟩ a w S)
    rw [rw_o2] at S
    refine run S (.as rfl <| .z) fun a w S => st_nil (in_normal (then_normal (hK4 _ _ (wp_region_lit (run S (.ad (by unfold I64; omega) rfl <| .mv rfl <| .z) fun a w S => st_nil (then_normal (st_round (sg S (.lt (by omega) rfl rfl <| .z) fun a w S => wp_seq_k fun _ hK4 => st_then S (.t rfl) (wp_skip (then_normal (hK4 _ _ (wp_seq_k fun _ hK4 => wp_block (sg S (.yy (ys_ixS (j := 1) underlying82 sizeOf3 (.t rfl) (.t rfl) (fun _ => by omega)) rfl <| .ld gt3 1 rfl rfl rfl <| .as rfl <| .z) fun a w S => wp_region_lit (run S (.mv rfl <| .mv rfl <| .z) fun a w S => ?_))))))))))))))
    (refine st_m (op_calls S call84 (.cons (.t rfl) (.cons (.t rfl) .nil)) (c84 _ _ _ _ (by exact Sl.of_own S.wd (k := 0) rfl (fun _ => rfl)) (by omega) (by omega)) rfl ?_); clear S a w; rintro _ _ ⟨A6, c3, rfl, rfl⟩ a w S)
    rw [rw_o3] at S
    refine run S (.as rfl <| .z) fun a w S => st_nil (in_normal (then_normal (hK4 _ _ (wp_region_lit (run S (.ad (by unfold I64; omega) rfl <| .mv rfl <| .z) fun a w S => st_nil (then_normal (st_round (sg S (.lt (by omega) rfl rfl <| .z) fun a w S => wp_seq_k fun _ hK4 => st_then S (.t rfl) (wp_skip (then_normal (hK4 _ _ (wp_seq_k fun _ hK4 => wp_block (sg S (.yy (ys_ixS (j := 2) underlying82 sizeOf3 (.t rfl) (.t rfl) (fun _ => by omega)) rfl <| .ld gt3 2 rfl rfl rfl <| .as rfl <| .z) fun a w S => wp_region_lit (run S (.mv rfl <| .mv rfl <| .z) fun a w S => ?_))))))))))))))
    (refine st_m (op_calls S call84 (.cons (.t rfl) (.cons (.t rfl) .nil)) (c84 _ _ _ _ (by exact Sl.of_own S.wd (k := 0) rfl (fun _ => rfl)) (by omega) (by omega)) rfl ?_); clear S a w; rintro _ _ ⟨A7, c4, rfl, rfl⟩ a w S)
    rw [rw_o4] at S
    refine run S (.as rfl <| .z) fun a w S => st_nil (in_normal (then_normal (hK4 _ _ (wp_region_lit (run S (.ad (by unfold I64; omega) rfl <| .mv rfl <| .z) fun a w S => st_nil (then_normal (st_round (sg S (.lt (by omega) rfl rfl <| .z) fun a w S => wp_seq_k fun _ hK4 => st_then S (.t rfl) (wp_skip (then_normal (hK4 _ _ (wp_seq_k fun _ hK4 => wp_block (sg S (.yy (ys_ixS (j := 3) underlying82 sizeOf3 (.t rfl) (.t rfl) (fun _ => by omega)) rfl <| .ld gt3 3 rfl rfl rfl <| .as rfl <| .z) fun a w S => wp_region_lit (run S (.mv rfl <| .mv rfl <| .z) fun a w S => ?_))))))))))))))
    (refine st_m (op_calls S call84 (.cons (.t rfl) (.cons (.t rfl) .nil)) (c84 _ _ _ _ (by exact Sl.of_own S.wd (k := 0) rfl (fun _ => rfl)) (by omega) (by omega)) rfl ?_); clear S a w; rintro _ _ ⟨A8, c5, rfl, rfl⟩ a w S)
    rw [rw_o5] at S
    refine run S (.as rfl <| .z) fun a w S => st_nil (in_normal (then_normal (hK4 _ _ (wp_region_lit (run S (.ad (by unfold I64; omega) rfl <| .mv rfl <| .z) fun a w S => st_nil (then_normal (st_round (sg S (.ge (by omega) rfl rfl <| .z) fun a w S => wp_seq_k fun _ hK4 => st_else S (.t rfl) (wp_exit (then_exit (then_exit (in_here (then_normal (hK3 _ _ (sg S (.fa underlying115 sizeOf60 5 rfl rfl rfl <| .ld gt60 6 rfl rfl rfl <| .as rfl <| .z) fun a w S => sg S (.mc rfl <| .z) fun a w S => wp_block ?_)))))))))))))))
    have hpl := x.price.toNat_lt
    have rw_f : O5 ++ leN x.price.toNat 0 = O5 := List.append_nil _
    rw [← rw_f] at S
    clear rw_f
    refine st_lpM S [5, 10, 54] (X := Nat × Option Addr × Nat) (fun q => [(5, true, .slice q.2.1 (O5 ++ leN x.price.toNat q.1).length q.2.2), (10, true, .int .u64 ((shN x.price.toNat q.1 : Nat) : Int)), (54, true, .int .i64 (q.1 : Int))])
      (fun q => [rowOf 5 1 encB q.2.1 q.2.2 (O5 ++ leN x.price.toNat q.1), .blk g2 (.cells (Ent.enc x).toArray 115), .blk g1 (.cells #[.slice (some ⟨g, o, none⟩) X.ents.length cap, .slice A2 X.ctx.marks.length cap2, .slice A3 X.ctx.cloud.length cap3] 29)])
      (fun q => q.1 ≤ 8) (fun q => 8 - q.1) (0, _, _) (Nat.zero_le _) ?_
    clear S
    rintro ⟨i, F, cF⟩ a w hi S
    dsimp only at hi S
    have hll : (O5 ++ leN x.price.toNat i).length = O5.length + i := by rw [List.length_append, leN_len]
    have hpd := shN_le x.price.toNat i
    have rw_d := shN_next (p := x.price.toNat) hpl i
    by_cases hi8 : i < 8
    · refine sg S (.yy (ys_T (by omega) (ys_lss (.t rfl) Ev.c)) rfl <| .z) fun a w S => wp_seq_k fun _ hK3 => st_then S (.t rfl) (wp_skip (then_normal (hK3 _ _ (wp_seq_k fun _ hK3 => wp_block (wp_seq_k fun _ hK5 => wp_region_lit (run S (.mv rfl <| .mv rfl <| .yy (ys_remE (.t rfl) Ev.c (fun _ => by omega)) rfl <| .yy (ys_cvB underlying60 underlying5 (.t rfl)) rfl <| .z) fun a w S => st_m (op_bslice1 S underlying107 inf5 rfl rfl rfl (.t rfl) rfl rfl rfl fun g4 a w S => st_m (op_push S underlying107 inf5 rfl (k := 1) (j := 0) rfl (.t rfl) (.t rfl) rfl rfl rfl rfl (by first | omega | (simp only [List.length_append, List.length_cons, List.length_nil]; omega)) rfl rfl rfl fun A9 cap1 a w S => run S (.as rfl <| .z) fun a w S => st_nil (then_normal (hK5 _ _ (wp_region_lit (run S (.mv rfl <| .yy (ys_quo (.t rfl) Ev.c (fun _ => by omega)) rfl <| .z) fun a w S => ?_))))))))))))
      rw [rw_d] at S
      refine run S (.as rfl <| .z) fun a w S => st_nil (in_normal (then_normal (hK3 _ _ (wp_region_lit (run S (.ad (by unfold I64; omega) rfl <| .mv rfl <| .z) fun a w S => st_nil (then_normal ?_))))))
      rw [shN_byte, List.append_assoc, show leN x.price.toNat i ++ [UInt8.ofNat (x.price.toNat / 256 ^ i % 256)] = leN x.price.toNat (i + 1) from rfl] at S
      exact ⟨(i + 1, A9, cap1), by dsimp only; omega, by dsimp only; omega, S.pk⟩
    obtain rfl : i = 8 := by omega
    have he5 : entB O x = O5 ++ leN x.price.toNat 8 := by unfold entB; rw [rw_o1, rw_o2, rw_o3, rw_o4, rw_o5]
    refine sg S (.yy (ys_F (by omega) (ys_lss (.t rfl) Ev.c)) rfl <| .z) fun a w S => wp_seq_k fun _ hK3 => st_else S (.t rfl) (wp_exit (then_exit (then_exit (in_here (in_normal (then_normal (hK2 _ _ (wp_region_lit (run S (.ad (by unfold I64; omega) rfl <| .mv rfl <| .z) fun a w S => st_nil (then_normal ?_))))))))))
    exact ⟨(k + 1, F, cF), by dsimp only; omega, by dsimp only; omega, by dsimp only; rw [hst, he5]; exact S.pk⟩
  obtain rfl : k = X.ents.length := by omega
  rw [List.take_length] at S hbl
  have ee : X.ents.foldl entB (putL [] (X.ents.length : Int)) = entsB [] X.ents := rfl
  rw [ee] at S hbl
  have rw_1 : ∀ a b : List UInt8, (if canL X.ctx = true then a else b) = a := fun _ _ => if_pos ok.ctx
  have rw_2 : ∀ a b : Int, (if canL X.ctx = true then a else b) = a := fun _ _ => if_pos ok.ctx
  have rw_3 : encC (entsB [] X.ents) X.ctx = encK X := rfl
  refine sg S (.ge (by omega) rfl rfl <| .z) fun a w S => wp_seq_k fun _ hK2 => st_else S (.t rfl) (wp_exit (then_exit (then_exit (in_here (then_normal (hK1 _ _ (wp_seq_k fun _ hK1 => wp_region_lit (run S (.mv rfl <| .fa underlying29 sizeOf27 1 rfl rfl rfl <| .la gt27 1 rfl rfl rfl <| .z) fun a w S => ?_))))))))
  (refine st_m (op_calls S call86 (.cons (.t rfl) (.cons (.t rfl) .nil)) (c86 _ _ _ _ _ _ (by exact Sl.of_own S.wd (k := 0) rfl (fun _ => rfl)) (by exact .old S.wd (by assumption)) (by omega)) rfl ?_); clear S a w; rintro _ _ ⟨A4, c2, rfl, rfl⟩ a w S)
  rw [rw_1] at S
  rw [rw_2] at S
  rw [rw_3] at S
  refine run S (.ex rfl rfl <| .ex rfl rfl <| .as rfl <| .as rfl <| .z) fun a w S => st_nil (then_normal (hK1 _ _ (wp_ret (st_ret S (results2 S results53 (Rv.tmp rfl) (Rv.tmp rfl)) ?_))))
  rw [if_pos he, he]
  exact ⟨_, _, rfl, S.wd.pk, _, _, rfl, rfl⟩
end Go.Proofs.YtbijdmfilmecbaaGreat
set_option linter.unusedVariables false
set_option linter.unusedSimpArgs false
namespace Go.Fw
open Go.RowKit
abbrev Ent.none : Ent := ⟨[], ⟨0, 0, 0⟩, 0, 0⟩
end Go.Fw
set_option linter.unusedVariables false
set_option linter.unusedSimpArgs false
namespace Go.Fw
open Go.RowKit
structure Play where
  st : List Cart
  up : List Upd
  ct : List Int
def Play.start : Play := ⟨[], [], List.replicate 8 0⟩
end Go.Fw
set_option linter.unusedVariables false
set_option linter.unusedSimpArgs false
set_option maxRecDepth 100000
set_option maxHeartbeats 4000000
namespace Go.Fw
theorem encK_len {X : Cart} (h : CartOk X) : (encK X).length ≤ 16384 := by
  have h1 := ents_len h X.ents.length
  rw [List.take_length] at h1
  have h2 := h.len
  have hm := (can_nf h.ctx).mayM
  have hc := (can_nf h.ctx).mayC
  have h3 := dotsB_len (b := entsB [] X.ents) hm (can_len h.ctx).1
  have h4 := dotsB_len (b := dotsB (entsB [] X.ents) X.ctx.marks) hc (can_len h.ctx).2
  unfold encK encC
  unfold entsB at h3 h4 ⊢
  omega
end Go.Fw
namespace Go.Proofs.YtbijdmfilmecbaaGreat
open Go.Fw Go.Proofs Go.RowKit Go.Proofs.Tryz
end Go.Proofs.YtbijdmfilmecbaaGreat
set_option linter.unusedVariables false
set_option linter.unusedSimpArgs false
set_option maxRecDepth 100000
set_option maxHeartbeats 4000000
namespace Go.Proofs.YtbijdmfilmecbaaGreat
open Go.Fw Go.Proofs Go.RowKit Go.Proofs.Tryz
theorem c21 (w0 : World) (v v' : Value) (l l' : List (List UInt8)) (h : Sl encS' 1 w0 w0.heap.size v l) (h' : Sl encS' 1 w0 w0.heap.size v' l') :
    Calls Tryz.prog 21 #[v, v'] w0 fun e w' => e = .returned (.bool (decide (l = l'))) ∧ Bel w0.heap.size w0 w' := by
  obtain ⟨A, cap, rfl, hl, hcap, hA⟩ := h
  obtain ⟨A', cap', rfl, hl', hcap', hA'⟩ := h'
  refine enter2 func21 rfl ntmps21 rfl fun a S => sg S (.ac rfl <| .z) fun a w S => wp_seq_k fun _ hK1 => sg S (.mv rfl <| .ln underlying58 rfl <| .mv rfl <| .ln underlying58 rfl <| .yy (ys_neq (.t rfl) (.t rfl)) rfl <| .z) fun a w S => ?_
  refine st_if S (.t rfl) (fun h1 => ?_) (fun h1 => ?_)
  refine sg S (.ac rfl <| .z) fun a w S => wp_ret (then_ret (st_ret S (results1 S results21 (Rv.tmp rfl)) ?_))
  rotate_left
  refine wp_skip (then_normal (hK1 _ _ (wp_seq_k fun _ hK1 => sg S (.mv rfl <| .ln underlying58 rfl <| .mc rfl <| .z) fun a w S => wp_block ?_)))
  rotate_left
  · refine ⟨?_, S.wd.below⟩
    rw [decide_eq_false (fun e => h1 (by rw [e]))]
  · refine st_lpK S (X := Nat) (fun k => [(13, true, .int .i64 (k : Int))]) (fun _ L => L) (fun k => k ≤ l.length ∧ l.take k = l'.take k) (fun k => l.length - k) 0 ⟨Nat.zero_le _, rfl⟩ ?_
    clear S
    intro k a w ⟨hk, hno⟩ S
    by_cases hlt : k < l.length
    · obtain ⟨g, o, m, rfl, hmm, hd, hc⟩ := row_at hA hlt
      obtain ⟨g', o', m', rfl, hmm', hd', hc'⟩ := row_at hA' (show k < l'.length by omega)
      clear hA hA'
      by_cases he : m = m'
      · have rw_e : decide (m ≠ m') = false := decide_eq_false (fun h => h he)
        refine sg S (.lt (by omega) rfl rfl <| .z) fun a w S => wp_seq_k fun _ hK2 => st_then S (.t rfl) (wp_skip (then_normal (hK2 _ _ (wp_seq_k fun _ hK2 => wp_block (sg S (.mv rfl <| .as rfl <| .z) fun a w S => wp_seq_k fun _ hK3 => st_quiet S (by kernel_rfl) (by kernel_rfl) fun a S => qrun S (.mv rfl <| .mv rfl <| .ix underlying58 sizeOf9 (by omega) rfl rfl <| .yy (ys_ldO ⟨isAgg9, sizeOf9⟩ (.t rfl) (fun _ => hc 0 _ rfl)) rfl <| .mv rfl <| .mv rfl <| .ix underlying58 sizeOf9 (by omega) rfl rfl <| .yy (ys_ldO ⟨isAgg9, sizeOf9⟩ (.t rfl) (fun _ => hc' 0 _ rfl)) rfl <| .yy (ys_neqStr (.t rfl) (.t rfl)) rfl <| .z) fun a S => ?_)))))
        rw [rw_e] at S
        (refine q_nil ?_; intro w W; replace S := St.mk S W; clear W)
        refine then_normal (hK3 _ _ (st_else S (.t rfl) (wp_skip (in_normal (then_normal (hK2 _ _ (wp_region_lit (run S (.ad (by unfold I64; omega) rfl <| .mv rfl <| .z) fun a w S => st_nil (then_normal ?_)))))))))
        exact ⟨k + 1, ⟨by omega, at_step hno hmm hmm' he⟩, by omega, S.wk⟩
      · have rw_e : decide (m ≠ m') = true := decide_eq_true he
        refine sg S (.lt (by omega) rfl rfl <| .z) fun a w S => wp_seq_k fun _ hK2 => st_then S (.t rfl) (wp_skip (then_normal (hK2 _ _ (wp_seq_k fun _ hK2 => wp_block (sg S (.mv rfl <| .as rfl <| .z) fun a w S => wp_seq_k fun _ hK3 => st_quiet S (by kernel_rfl) (by kernel_rfl) fun a S => qrun S (.mv rfl <| .mv rfl <| .ix underlying58 sizeOf9 (by omega) rfl rfl <| .yy (ys_ldO ⟨isAgg9, sizeOf9⟩ (.t rfl) (fun _ => hc 0 _ rfl)) rfl <| .mv rfl <| .mv rfl <| .ix underlying58 sizeOf9 (by omega) rfl rfl <| .yy (ys_ldO ⟨isAgg9, sizeOf9⟩ (.t rfl) (fun _ => hc' 0 _ rfl)) rfl <| .yy (ys_neqStr (.t rfl) (.t rfl)) rfl <| .z) fun a S => ?_)))))
        rw [rw_e] at S
        (refine q_nil ?_; intro w W; replace S := St.mk S W; clear W)
        refine then_normal (hK3 _ _ (st_then S (.t rfl) (sg S (.ac rfl <| .z) fun a w S => wp_ret (in_ret (then_ret (then_ret (in_ret (then_ret (st_ret S (results1 S results21 (Rv.tmp rfl)) ?_)))))))))
        exact ⟨by rw [at_ne hmm hmm' he], S.wd.below⟩
    · refine sg S (.ge (by omega) rfl rfl <| .z) fun a w S => wp_seq_k fun _ hK2 => st_else S (.t rfl) (wp_exit (then_exit (then_exit (in_here (then_normal (hK1 _ _ (sg S (.ac rfl <| .z) fun a w S => wp_ret (st_ret S (results1 S results21 (Rv.tmp rfl)) ?_))))))))
      refine ⟨?_, S.wd.below⟩
      rw [decide_eq_true]
      rw [List.take_of_length_le (by omega), List.take_of_length_le (by omega)] at hno
      exact hno
theorem c18 (w0 : World) (v1 : Value) (l : List (List UInt8)) (h : Sl encS' 1 w0 w0.heap.size v1 l) (hn : l.length ≤ 4194304) :
    Rets Tryz.prog 18 #[v1] w0 fun v L => ∃ A c, v = .slice A l.length c ∧ L = [rowOf 9 1 encS' A c l] := by
  have h0 := h
  obtain ⟨A, cap, rfl, hl, hcap, hA⟩ := h
  unfold Go.Fw.Rets
  refine enter1 func18 rfl ntmps18 rfl fun a S => sg S (.ac rfl <| .z) fun a w S => wp_seq_k fun _ hK1 => sg S (.mv rfl <| .yy (ys_sNil underlying58 (.t rfl) Ev.c) rfl <| .z) fun a w S => ?_
  refine st_cond S (.t rfl) (fun h1 => ?_) (fun h1 => ?_)
  refine sg S (.ac rfl <| .z) fun a w S => wp_ret (then_ret (st_ret S (results1 S results18 (Rv.tmp rfl)) ?_))
  rotate_left
  refine wp_skip (then_normal (hK1 _ _ (wp_seq_k fun _ hK1 => wp_region_lit (st_m (op_bslice0 S underlying58 sizeOf9 rfl fun g1 a w S => run S (.mv rfl <| .z) fun a w S => st_m (op_extend _ (S.nil_ 9 _ Go.Fw.encS' _) underlying58 underlying58 (.inr ⟨_, rfl⟩) inf9 rfl (k := 0) rfl (.t rfl) (.t rfl) (Src.sl (Sl.old S.wd h0) (by decide) Go.Fw.encS'_len Go.Fw.encS'_one) (by first | omega | (simp only [List.length_append, List.length_cons, List.length_nil]; omega) | (simp; omega)) rfl rfl rfl fun A1 cap1 a w S => ?_))))))
  simp only [List.nil_append] at S
  refine run S (.as rfl <| .z) fun a w S => st_nil (then_normal (hK1 _ _ (wp_ret (st_ret S (results1 S results18 (Rv.tmp rfl)) ?_))))
  rotate_left
  · have hnil : l = [] := by
      refine List.eq_nil_of_length_eq_zero (Decidable.byContradiction fun hne => ?_)
      obtain ⟨g, o, rfl, _⟩ := hA (by omega)
      cases h1
    subst hnil
    exact ⟨_, _, rfl, (S.nil_ 9 1 encS' none).wd.sub (by repeat (first | exact List.Sublist.refl _ | exact List.nil_sublist _ | refine .cons_cons _ ?_ | refine .cons _ ?_)), none, 0, rfl, rfl⟩
  · try simp only [List.nil_append] at S ⊢
    exact ⟨_, _, rfl, S.wd.sub (by repeat (first | exact List.Sublist.refl _ | exact List.nil_sublist _ | refine .cons_cons _ ?_ | refine .cons _ ?_)), _, _, rfl, rfl⟩
end Go.Proofs.YtbijdmfilmecbaaGreat
set_option linter.unusedVariables false
set_option linter.unusedSimpArgs false
set_option maxRecDepth 100000
set_option maxHeartbeats 4000000
namespace Go.Fw
open Go.RowKit
def cartH (X : Cart) : Int := if canE X = 0 then hashL (encK X) else 0
theorem cartH_range (X : Cart) : 0 ≤ cartH X ∧ cartH X ≤ 18446744073709551615 := by
  unfold cartH
  have := hash_range (encK X)
  split <;> omega
def pairE (k : List UInt8) (X : Cart) : Int := if canE X = 0 then setE k else canE X
def treeE : List (List UInt8) → List Cart → Int
  | k :: l, X :: m => if pairE k X = 0 then treeE l m else pairE k X
  | _, _ => 0
def sumsC (l : List (List UInt8)) (m : List Cart) : List Sm := List.zipWith (fun k X => ⟨0, k, cartH X⟩) l m
theorem sumsC_at {l : List (List UInt8)} {m : List Cart} {i : Nat} {k : List UInt8} {X : Cart} (h1 : l[i]? = some k) (h2 : m[i]? = some X) : (sumsC l m)[i]? = some ⟨0, k, cartH X⟩ := by
  rw [sumsC, List.getElem?_zipWith, h1, h2]
theorem sumsC_sums {l : List (List UInt8)} {m : List Cart} (hl : l.length ≤ 1048576) (hk : ∀ k ∈ l, k.length ≤ 1048576) : Sums (sumsC l m) := by
  refine ⟨fun x hx => ?_, fun x hx => ?_, ?_⟩
  · obtain ⟨i, hi⟩ := List.mem_iff_getElem?.1 hx
    rw [sumsC, List.getElem?_zipWith] at hi
    cases h1 : l[i]? with
    | none => rw [h1] at hi; cases hi
    | some k =>
      cases h2 : m[i]? with
      | none => rw [h1, h2] at hi; cases hi
      | some X => rw [h1, h2] at hi; cases hi; exact cartH_range X
  · obtain ⟨i, hi⟩ := List.mem_iff_getElem?.1 hx
    rw [sumsC, List.getElem?_zipWith] at hi
    cases h1 : l[i]? with
    | none => rw [h1] at hi; cases hi
    | some k =>
      cases h2 : m[i]? with
      | none => rw [h1, h2] at hi; cases hi
      | some X => rw [h1, h2] at hi; cases hi; exact hk k (List.mem_of_getElem? h1)
  · rw [sumsC, List.length_zipWith]; omega
theorem treeE_at {l : List (List UInt8)} {m : List Cart} {i : Nat} {k : List UInt8} {X : Cart} (h1 : l[i]? = some k) (h2 : m[i]? = some X) : treeE (l.drop i) (m.drop i) = if pairE k X = 0 then treeE (l.drop (i + 1)) (m.drop (i + 1)) else pairE k X := by
  obtain ⟨h3, e1⟩ := List.getElem?_eq_some_iff.1 h1
  obtain ⟨h4, e2⟩ := List.getElem?_eq_some_iff.1 h2
  rw [List.drop_eq_getElem_cons h3, List.drop_eq_getElem_cons h4, e1, e2, treeE]
end Go.Fw
namespace Go.Proofs.YtbijdmfilmecbaaGreat
open Go.Fw Go.Proofs Go.RowKit Go.Proofs.Tryz
theorem c15 (w0 : World) (v1 v2 v3 : Value) (X : Cart) (h : Sl Ent.enc 6 w0 w0.heap.size v1 X.ents) (hr : RdCtx w0 w0.heap.size v2 v3 X.ctx) :
    Calls Tryz.prog 15 #[.agg #[v1, v2, v3]] w0 fun e w' => e = .returned (.tuple #[.int .u64 (cartH X), .int .i64 (canE X)]) ∧ Bel w0.heap.size w0 w' := by
  have hs := h
  have hrr := hr
  obtain ⟨A, cap, rfl, hl, hcap, hA⟩ := h
  obtain ⟨⟨A2, cap2, rfl, _⟩, ⟨A3, cap3, rfl, _⟩⟩ := hr
  by_cases h0 : canE X = 0
  · have hxl := encK_len ((canE_ok X).1 h0)
    have rw_c := h0
    have rw_i : (if (0 : Int) = 0 then encK X else []) = encK X := if_pos rfl
    have ht : cartH X = hashL (encK X) := if_pos h0
    rw [ht]
    refine enter1 func15 rfl ntmps15 rfl fun a S => wp_seq_k fun _ hK1 => wp_region_lit (st_m (op_box S (.t rfl) rfl fun g1 a w S => run S (.ac rfl <| .ac rfl <| .z) fun a w S => st_nil (then_normal (hK1 _ _ (wp_seq_k fun _ hK1 => wp_region_lit (run S (.la gt29 0 rfl rfl rfl <| .z) fun a w S => ?_))))))
    (refine st_m (op_calls S call49 (.cons (.t rfl) .nil) (c49 _ _ _ _ _ (by exact .old S.wd (by assumption)) (by exact .old S.wd (by assumption))) rfl ?_); clear S a w; rintro _ _ ⟨A1, r1, rfl, rfl⟩ a w S)
    rw [rw_c] at S
    rw [rw_i] at S
    refine run S (.mv rfl <| .ex rfl rfl <| .ex rfl rfl <| .as rfl <| .as rfl <| .z) fun a w S => st_nil (then_normal (hK1 _ _ (wp_seq_k fun _ hK1 => sg S (.mv rfl <| .yy (ys_F (by omega) (ys_neq (.t rfl) Ev.c)) rfl <| .z) fun a w S => st_else S (.t rfl) (wp_skip (then_normal (hK1 _ _ (sg S (.mv rfl <| .xx (ys_call call50 (.cons (.t rfl) .nil) (fun hp w W => c50 _ _ _ (by exact Sl.of_own W (k := 0) rfl (fun _ => rfl)) (by omega))) rfl <| .as rfl <| .ac rfl <| .z) fun a w S => wp_ret (st_ret S (results2 S results15 (Rv.tmp rfl) (Rv.tmp rfl)) ?_))))))))
    exact ⟨by rw [h0], S.wd.below⟩
  · have rw_d : decide (canE X ≠ 0) = true := decide_eq_true h0
    have ht : cartH X = 0 := if_neg h0
    refine enter1 func15 rfl ntmps15 rfl fun a S => wp_seq_k fun _ hK1 => wp_region_lit (st_m (op_box S (.t rfl) rfl fun g1 a w S => run S (.ac rfl <| .ac rfl <| .z) fun a w S => st_nil (then_normal (hK1 _ _ (wp_seq_k fun _ hK1 => wp_region_lit (run S (.la gt29 0 rfl rfl rfl <| .z) fun a w S => ?_))))))
    (refine st_m (op_calls S call49 (.cons (.t rfl) .nil) (c49 _ _ _ _ _ (by exact .old S.wd (by assumption)) (by exact .old S.wd (by assumption))) rfl ?_); clear S a w; rintro _ _ ⟨A1, r1, rfl, rfl⟩ a w S)
    refine run S (.mv rfl <| .ex rfl rfl <| .ex rfl rfl <| .as rfl <| .as rfl <| .z) fun a w S => st_nil (then_normal (hK1 _ _ (wp_seq_k fun _ hK1 => sg S (.mv rfl <| .yy (ys_T (by omega) (ys_neq (.t rfl) Ev.c)) rfl <| .z) fun a w S => st_then S (.t rfl) (sg S (.mv rfl <| .ac rfl <| .as rfl <| .z) fun a w S => wp_ret (then_ret (st_ret S (results2 S results15 (Rv.tmp rfl) (Rv.tmp rfl)) ?_))))))
    rw [ht]
    exact ⟨rfl, S.wd.below⟩
theorem c17 (w0 : World) (v1 v2 v3 : Value) (X : Cart) (h : Sl Ent.enc 6 w0 w0.heap.size v1 X.ents) (hr : RdCtx w0 w0.heap.size v2 v3 X.ctx) :
    Calls Tryz.prog 17 #[.agg #[v1, v2, v3]] w0 fun e w' => e = .returned (.tuple #[.int .u64 (cartH X), .int .i64 (canE X)]) ∧ Bel w0.heap.size w0 w' := by
  have hs := h
  have hrr := hr
  obtain ⟨A, cap, rfl, hl, hcap, hA⟩ := h
  obtain ⟨⟨A2, cap2, rfl, _⟩, ⟨A3, cap3, rfl, _⟩⟩ := hr
  by_cases h0 : canE X = 0
  · have hxl := encK_len ((canE_ok X).1 h0)
    have rw_c := h0
    have rw_i : (if (0 : Int) = 0 then encK X else []) = encK X := if_pos rfl
    have ht : cartH X = hashL (encK X) := if_pos h0
    rw [ht]
    refine enter1 func17 rfl ntmps17 rfl fun a S => wp_seq_k fun _ hK1 => wp_region_lit (st_m (op_box S (.t rfl) rfl fun g1 a w S => run S (.ac rfl <| .ac rfl <| .z) fun a w S => st_nil (then_normal (hK1 _ _ (wp_seq_k fun _ hK1 => wp_region_lit (run S (.la gt29 0 rfl rfl rfl <| .z) fun a w S => ?_))))))
    (refine st_m (op_calls S call53 (.cons (.t rfl) .nil) (c53 _ _ _ _ _ (by exact .old S.wd (by assumption)) (by exact .old S.wd (by assumption))) rfl ?_); clear S a w; rintro _ _ ⟨A1, r1, rfl, rfl⟩ a w S)
    rw [rw_c] at S
    rw [rw_i] at S
    refine run S (.mv rfl <| .ex rfl rfl <| .ex rfl rfl <| .as rfl <| .as rfl <| .z) fun a w S => st_nil (then_normal (hK1 _ _ (wp_seq_k fun _ hK1 => sg S (.mv rfl <| .yy (ys_F (by omega) (ys_neq (.t rfl) Ev.c)) rfl <| .z) fun a w S => st_else S (.t rfl) (wp_skip (then_normal (hK1 _ _ (sg S (.mv rfl <| .xx (ys_call call54 (.cons (.t rfl) .nil) (fun hp w W => c54 _ _ _ (by exact Sl.of_own W (k := 0) rfl (fun _ => rfl)) (by omega))) rfl <| .as rfl <| .ac rfl <| .z) fun a w S => wp_ret (st_ret S (results2 S results17 (Rv.tmp rfl) (Rv.tmp rfl)) ?_))))))))
    exact ⟨by rw [h0], S.wd.below⟩
  · have rw_d : decide (canE X ≠ 0) = true := decide_eq_true h0
    have ht : cartH X = 0 := if_neg h0
    refine enter1 func17 rfl ntmps17 rfl fun a S => wp_seq_k fun _ hK1 => wp_region_lit (st_m (op_box S (.t rfl) rfl fun g1 a w S => run S (.ac rfl <| .ac rfl <| .z) fun a w S => st_nil (then_normal (hK1 _ _ (wp_seq_k fun _ hK1 => wp_region_lit (run S (.la gt29 0 rfl rfl rfl <| .z) fun a w S => ?_))))))
    (refine st_m (op_calls S call53 (.cons (.t rfl) .nil) (c53 _ _ _ _ _ (by exact .old S.wd (by assumption)) (by exact .old S.wd (by assumption))) rfl ?_); clear S a w; rintro _ _ ⟨A1, r1, rfl, rfl⟩ a w S)
    refine run S (.mv rfl <| .ex rfl rfl <| .ex rfl rfl <| .as rfl <| .as rfl <| .z) fun a w S => st_nil (then_normal (hK1 _ _ (wp_seq_k fun _ hK1 => sg S (.mv rfl <| .yy (ys_T (by omega) (ys_neq (.t rfl) Ev.c)) rfl <| .z) fun a w S => st_then S (.t rfl) (sg S (.mv rfl <| .ac rfl <| .as rfl <| .z) fun a w S => wp_ret (then_ret (st_ret S (results2 S results17 (Rv.tmp rfl) (Rv.tmp rfl)) ?_))))))
    rw [ht]
    exact ⟨rfl, S.wd.below⟩
end Go.Proofs.YtbijdmfilmecbaaGreat
set_option linter.unusedVariables false
set_option linter.unusedSimpArgs false
set_option maxRecDepth 100000
set_option maxHeartbeats 4000000
namespace Go.Fw
open Go.RowKit
theorem pair_ok {k : List UInt8} {X : Cart} (h : pairE k X = 0) : canE X = 0 ∧ setE k = 0 := by
  unfold pairE at h
  split at h
  · rename_i h1; exact ⟨h1, h⟩
  · rename_i h1; exact absurd h h1
theorem sums_nil : Sums [] := ⟨(fun x hx => by cases hx), (fun x hx => by cases hx), by decide⟩
theorem treeE_nil : ∀ m : List Cart, treeE [] m = 0
  | [] => rfl
  | _ :: _ => rfl
end Go.Fw
namespace Go.Proofs.YtbijdmfilmecbaaGreat
open Go.Fw Go.Proofs Go.RowKit Go.Proofs.Tryz
theorem c19 (w0 : World) (v1 v2 : Value) (l : List (List UInt8)) (s : List SCart) (h1 : Sl encS' 1 w0 w0.heap.size v1 l) (h2 : Sl SCart.enc 3 w0 w0.heap.size v2 s) (hc : CartsRd w0 s) (hk : ∀ k ∈ l, k.length ≤ 1048576) (hn : l.length ≤ 1048576) (hls : l.length = s.length) (hE : treeE l (s.map (·.1)) = 0) :
    Rets Tryz.prog 19 #[v1, v2] w0 fun u L => ∃ g A cap gs w1 bs, u = .tuple #[.pointer (some ⟨g, 0, none⟩), .int .i64 0] ∧ L = treeP g A cap gs w1 bs [] ∧ MapsIn w1 bs gs (setsT [] (sumsC l (s.map (·.1)))) := by
  have hs := sumsC_sums (m := s.map (·.1)) hn hk
  have hs0 := sums_nil
  obtain ⟨A, cap, rfl, hl, hcap, hA⟩ := h1
  obtain ⟨A', cap', rfl, hl', hcap', hA'⟩ := h2
  unfold Go.Fw.Rets
  refine enter2 func19 rfl ntmps19 rfl fun a S => sg S (.ac rfl <| .ac rfl <| .z) fun a w S => wp_seq_k fun _ hK1 => sg S (.mv rfl <| .ln underlying58 rfl <| .mv rfl <| .ln underlying59 rfl <| .yy (ys_F (by omega) (ys_neq (.t rfl) (.t rfl))) rfl <| .z) fun a w S => st_else S (.t rfl) (wp_skip (then_normal (hK1 _ _ (wp_seq_k fun _ hK1 => wp_region_lit ?_))))
  (refine st_m (op_calls S call55 .nil (c55 _) rfl ?_); clear S a w; rintro _ _ ⟨g1, A1, cap1, gs1, w11, bs1, rfl, rfl, hr11⟩ a w S)
  refine run S (.as rfl <| .z) fun a w S => st_nil (then_normal (hK1 _ _ (wp_seq_k fun _ hK1 => sg S (.mv rfl <| .ln underlying58 rfl <| .mc rfl <| .z) fun a w S => wp_block ?_)))
  refine st_lpM S [19] (X := Nat × World × List Nat) (fun q => [(19, true, .int .i64 (q.1 : Int))]) (fun q => treeP g1 A1 cap1 gs1 q.2.1 q.2.2 []) (fun q => q.1 ≤ l.length ∧ treeE (l.drop q.1) ((s.map (·.1)).drop q.1) = treeE l (s.map (·.1)) ∧ MapsIn q.2.1 q.2.2 gs1 (setsT [] ((sumsC l (s.map (·.1))).take q.1))) (fun q => l.length - q.1) (0, w11, bs1) ⟨Nat.zero_le _, rfl, hr11⟩ ?_
  clear S
  rintro ⟨q, w1, bs⟩ a w ⟨hq, hF, M⟩ S
  dsimp only at hq hF M S
  have hT := sets_take hs q
  by_cases hlt : q < l.length
  · obtain ⟨g, o, k, rfl, hk1, hd, hcc⟩ := row_at hA hlt
    obtain ⟨g', o', x, rfl, hx1, hd', hcc'⟩ := row_at hA' (show q < s.length by omega)
    have hkl := hk k (List.mem_of_getElem? hk1)
    have r1 := (hc x (List.mem_of_getElem? hx1)).ents
    have r2 := (hc x (List.mem_of_getElem? hx1)).ctx
    have hC : (s.map (·.1))[q]? = some x.1 := by rw [List.getElem?_map, hx1]; rfl
    rw [treeE_at hk1 hC] at hF
    have hst := sets_step (T := []) (sumsC_at hk1 hC)
    have hTl := sets_len ((sumsC l (s.map (·.1))).take q) []
    rw [List.length_nil, List.length_take] at hTl
    have hsl := hs.len
    have hh := cartH_range x.1
    dsimp only at hst
    generalize setsT [] ((sumsC l (s.map (·.1))).take q) = T at *
    have hTl2 : T.length ≤ 2097152 := by omega
    obtain ⟨H, rw_H⟩ : ∃ H, cartH x.1 = H := ⟨_, rfl⟩
    rw [rw_H] at hst hh
    by_cases hp : pairE k x.1 = 0
    · obtain ⟨rw_c, rw_s⟩ := pair_ok hp
      rw [if_pos hp] at hF
      refine sg S (.lt (by omega) rfl rfl <| .z) fun a w S => wp_seq_k fun _ hK2 => st_then S (.t rfl) (wp_skip (then_normal (hK2 _ _ (wp_seq_k fun _ hK2 => wp_block (sg S (.mv rfl <| .ix underlying58 sizeOf9 (by omega) rfl rfl <| .yy (ys_ldO ⟨isAgg9, sizeOf9⟩ (.t rfl) (fun _ => hcc 0 _ rfl)) rfl <| .as rfl <| .as rfl <| .z) fun a w S => wp_seq_k fun _ hK3 => wp_region_lit (run S (.mv rfl <| .mv rfl <| .ix underlying59 sizeOf29 (by omega) rfl rfl <| .yy (ys_ldOA ⟨isAgg29, sizeOf29⟩ (.t rfl) (vs := [_, _, _]) rfl (fun _ => hcc')) rfl <| .xx (ys_call call15 (.cons (.t rfl) .nil) (fun hp w W => c15 _ _ _ _ _ (by exact .old W (by assumption)) (by exact .old W (by assumption)))) rfl <| .z) fun a w S => ?_))))))
      rw [rw_H] at S
      rw [rw_c] at S
      refine run S (.mv rfl <| .ex rfl rfl <| .ex rfl rfl <| .as rfl <| .as rfl <| .z) fun a w S => st_nil (then_normal (hK3 _ _ (wp_seq_k fun _ hK3 => sg S (.mv rfl <| .yy (ys_T (by omega) (ys_eql (.t rfl) Ev.c)) rfl <| .z) fun a w S => st_then S (.t rfl) (wp_region_lit (run S (.mv rfl <| .mv rfl <| .mv rfl <| .z) fun a w S => ?_)))))
      (refine st_m (op_callO S call56 (.cons (.t rfl) (.cons (.t rfl) (.cons (.t rfl) .nil))) (c56 S.wd (by first | assumption | omega | (dsimp only; omega) | exact Sl.nil_ | exact .old S.wd (by assumption) | exact Sl.of_own S.wd (k := 0) rfl (fun _ => rfl) | exact Sl.of_own S.wd (k := 1) rfl (fun _ => rfl) | exact Sl.of_own S.wd (k := 2) rfl (fun _ => rfl) | (simp; done) | (simp at *; omega)) (by first | assumption | omega | (dsimp only; omega) | exact Sl.nil_ | exact .old S.wd (by assumption) | exact Sl.of_own S.wd (k := 0) rfl (fun _ => rfl) | exact Sl.of_own S.wd (k := 1) rfl (fun _ => rfl) | exact Sl.of_own S.wd (k := 2) rfl (fun _ => rfl) | (simp; done) | (simp at *; omega)) (by first | assumption | omega | (dsimp only; omega) | exact Sl.nil_ | exact .old S.wd (by assumption) | exact Sl.of_own S.wd (k := 0) rfl (fun _ => rfl) | exact Sl.of_own S.wd (k := 1) rfl (fun _ => rfl) | exact Sl.of_own S.wd (k := 2) rfl (fun _ => rfl) | (simp; done) | (simp at *; omega))) rfl ?_) <;> clear S a w)
      rintro _ _ ⟨w21, bs21, rfl, rfl, hr1⟩ a w S
      rw [rw_s] at S
      refine run S (.as rfl <| .z) fun a w S => st_nil (then_normal (hK3 _ _ (sg S (.mv rfl <| .yy (ys_F (by omega) (ys_neq (.t rfl) Ev.c)) rfl <| .z) fun a w S => st_else S (.t rfl) (wp_skip (in_normal (then_normal (hK2 _ _ (wp_region_lit (run S (.ad (by unfold I64; omega) rfl <| .mv rfl <| .z) fun a w S => st_nil (then_normal ?_))))))))))
      exact ⟨(q + 1, w21, bs21), ⟨by dsimp only; omega, hF, by dsimp only; rw [hst]; assumption⟩, by dsimp only; omega, S.pk⟩
    · rw [if_neg hp, hE] at hF
      exact absurd hF hp
  obtain rfl : q = l.length := by omega
  rw [List.take_of_length_le (by rw [sumsC, List.length_zipWith, List.length_map]; omega)] at M
  refine sg S (.ge (by omega) rfl rfl <| .z) fun a w S => wp_seq_k fun _ hK2 => st_else S (.t rfl) (wp_exit (then_exit (then_exit (in_here (then_normal (hK1 _ _ (sg S (.mv rfl <| .as rfl <| .ac rfl <| .z) fun a w S => wp_ret (st_ret S (results2 S results19 (Rv.tmp rfl) (Rv.tmp rfl)) ?_))))))))
  exact ⟨_, _, rfl, S.wd.pk, g1, A1, cap1, gs1, w1, bs, rfl, rfl, M⟩
theorem d19 (w0 : World) (v1 v2 : Value) (l : List (List UInt8)) (s : List SCart) (h1 : Sl encS' 1 w0 w0.heap.size v1 l) (h2 : Sl SCart.enc 3 w0 w0.heap.size v2 s) (hc : CartsRd w0 s) (hk : ∀ k ∈ l, k.length ≤ 1048576) (hn : l.length ≤ 1048576) (hls : l.length = s.length) (hE : treeE l (s.map (·.1)) ≠ 0) :
    Calls Tryz.prog 19 #[v1, v2] w0 fun e w' => e = .returned (.tuple #[.pointer none, .int .i64 (treeE l (s.map (·.1)))]) ∧ Bel w0.heap.size w0 w' := by
  have hs := sumsC_sums (m := s.map (·.1)) hn hk
  have hs0 := sums_nil
  obtain ⟨A, cap, rfl, hl, hcap, hA⟩ := h1
  obtain ⟨A', cap', rfl, hl', hcap', hA'⟩ := h2
  refine enter2 func19 rfl ntmps19 rfl fun a S => sg S (.ac rfl <| .ac rfl <| .z) fun a w S => wp_seq_k fun _ hK1 => sg S (.mv rfl <| .ln underlying58 rfl <| .mv rfl <| .ln underlying59 rfl <| .yy (ys_F (by omega) (ys_neq (.t rfl) (.t rfl))) rfl <| .z) fun a w S => st_else S (.t rfl) (wp_skip (then_normal (hK1 _ _ (wp_seq_k fun _ hK1 => wp_region_lit ?_))))
  (refine st_m (op_calls S call55 .nil (c55 _) rfl ?_); clear S a w; rintro _ _ ⟨g1, A1, cap1, gs1, w11, bs1, rfl, rfl, hr11⟩ a w S)
  refine run S (.as rfl <| .z) fun a w S => st_nil (then_normal (hK1 _ _ (wp_seq_k fun _ hK1 => sg S (.mv rfl <| .ln underlying58 rfl <| .mc rfl <| .z) fun a w S => wp_block ?_)))
  refine st_lpM S [19] (X := Nat × World × List Nat) (fun q => [(19, true, .int .i64 (q.1 : Int))]) (fun q => treeP g1 A1 cap1 gs1 q.2.1 q.2.2 []) (fun q => q.1 ≤ l.length ∧ treeE (l.drop q.1) ((s.map (·.1)).drop q.1) = treeE l (s.map (·.1)) ∧ MapsIn q.2.1 q.2.2 gs1 (setsT [] ((sumsC l (s.map (·.1))).take q.1))) (fun q => l.length - q.1) (0, w11, bs1) ⟨Nat.zero_le _, rfl, hr11⟩ ?_
  clear S
  rintro ⟨q, w1, bs⟩ a w ⟨hq, hF, M⟩ S
  dsimp only at hq hF M S
  have hT := sets_take hs q
  by_cases hlt : q < l.length
  · obtain ⟨g, o, k, rfl, hk1, hd, hcc⟩ := row_at hA hlt
    obtain ⟨g', o', x, rfl, hx1, hd', hcc'⟩ := row_at hA' (show q < s.length by omega)
    have hkl := hk k (List.mem_of_getElem? hk1)
    have r1 := (hc x (List.mem_of_getElem? hx1)).ents
    have r2 := (hc x (List.mem_of_getElem? hx1)).ctx
    have hC : (s.map (·.1))[q]? = some x.1 := by rw [List.getElem?_map, hx1]; rfl
    rw [treeE_at hk1 hC] at hF
    have hst := sets_step (T := []) (sumsC_at hk1 hC)
    have hTl := sets_len ((sumsC l (s.map (·.1))).take q) []
    rw [List.length_nil, List.length_take] at hTl
    have hsl := hs.len
    have hh := cartH_range x.1
    dsimp only at hst
    generalize setsT [] ((sumsC l (s.map (·.1))).take q) = T at *
    have hTl2 : T.length ≤ 2097152 := by omega
    obtain ⟨H, rw_H⟩ : ∃ H, cartH x.1 = H := ⟨_, rfl⟩
    rw [rw_H] at hst hh
    by_cases hp : pairE k x.1 = 0
    · obtain ⟨rw_c, rw_s⟩ := pair_ok hp
      rw [if_pos hp] at hF
      refine sg S (.lt (by omega) rfl rfl <| .z) fun a w S => wp_seq_k fun _ hK2 => st_then S (.t rfl) (wp_skip (then_normal (hK2 _ _ (wp_seq_k fun _ hK2 => wp_block (sg S (.mv rfl <| .ix underlying58 sizeOf9 (by omega) rfl rfl <| .yy (ys_ldO ⟨isAgg9, sizeOf9⟩ (.t rfl) (fun _ => hcc 0 _ rfl)) rfl <| .as rfl <| .as rfl <| .z) fun a w S => wp_seq_k fun _ hK3 => wp_region_lit (run S (.mv rfl <| .mv rfl <| .ix underlying59 sizeOf29 (by omega) rfl rfl <| .yy (ys_ldOA ⟨isAgg29, sizeOf29⟩ (.t rfl) (vs := [_, _, _]) rfl (fun _ => hcc')) rfl <| .xx (ys_call call15 (.cons (.t rfl) .nil) (fun hp w W => c15 _ _ _ _ _ (by exact .old W (by assumption)) (by exact .old W (by assumption)))) rfl <| .z) fun a w S => ?_))))))
      rw [rw_H] at S
      rw [rw_c] at S
      refine run S (.mv rfl <| .ex rfl rfl <| .ex rfl rfl <| .as rfl <| .as rfl <| .z) fun a w S => st_nil (then_normal (hK3 _ _ (wp_seq_k fun _ hK3 => sg S (.mv rfl <| .yy (ys_T (by omega) (ys_eql (.t rfl) Ev.c)) rfl <| .z) fun a w S => st_then S (.t rfl) (wp_region_lit (run S (.mv rfl <| .mv rfl <| .mv rfl <| .z) fun a w S => ?_)))))
      (refine st_m (op_callO S call56 (.cons (.t rfl) (.cons (.t rfl) (.cons (.t rfl) .nil))) (c56 S.wd (by first | assumption | omega | (dsimp only; omega) | exact Sl.nil_ | exact .old S.wd (by assumption) | exact Sl.of_own S.wd (k := 0) rfl (fun _ => rfl) | exact Sl.of_own S.wd (k := 1) rfl (fun _ => rfl) | exact Sl.of_own S.wd (k := 2) rfl (fun _ => rfl) | (simp; done) | (simp at *; omega)) (by first | assumption | omega | (dsimp only; omega) | exact Sl.nil_ | exact .old S.wd (by assumption) | exact Sl.of_own S.wd (k := 0) rfl (fun _ => rfl) | exact Sl.of_own S.wd (k := 1) rfl (fun _ => rfl) | exact Sl.of_own S.wd (k := 2) rfl (fun _ => rfl) | (simp; done) | (simp at *; omega)) (by first | assumption | omega | (dsimp only; omega) | exact Sl.nil_ | exact .old S.wd (by assumption) | exact Sl.of_own S.wd (k := 0) rfl (fun _ => rfl) | exact Sl.of_own S.wd (k := 1) rfl (fun _ => rfl) | exact Sl.of_own S.wd (k := 2) rfl (fun _ => rfl) | (simp; done) | (simp at *; omega))) rfl ?_) <;> clear S a w)
      rintro _ _ ⟨w21, bs21, rfl, rfl, hr1⟩ a w S
      rw [rw_s] at S
      refine run S (.as rfl <| .z) fun a w S => st_nil (then_normal (hK3 _ _ (sg S (.mv rfl <| .yy (ys_F (by omega) (ys_neq (.t rfl) Ev.c)) rfl <| .z) fun a w S => st_else S (.t rfl) (wp_skip (in_normal (then_normal (hK2 _ _ (wp_region_lit (run S (.ad (by unfold I64; omega) rfl <| .mv rfl <| .z) fun a w S => st_nil (then_normal ?_))))))))))
      exact ⟨(q + 1, w21, bs21), ⟨by dsimp only; omega, hF, by dsimp only; rw [hst]; assumption⟩, by dsimp only; omega, S.pk⟩
    · rw [if_neg hp] at hF
      rw [← hF]
      by_cases hcn : canE x.1 = 0
      · have rw_c := hcn
        have hpe : pairE k x.1 = setE k := if_pos hcn
        rw [hpe] at hp ⊢
        have rw_n : decide (setE k ≠ 0) = true := decide_eq_true hp
        refine sg S (.lt (by omega) rfl rfl <| .z) fun a w S => wp_seq_k fun _ hK2 => st_then S (.t rfl) (wp_skip (then_normal (hK2 _ _ (wp_seq_k fun _ hK2 => wp_block (sg S (.mv rfl <| .ix underlying58 sizeOf9 (by omega) rfl rfl <| .yy (ys_ldO ⟨isAgg9, sizeOf9⟩ (.t rfl) (fun _ => hcc 0 _ rfl)) rfl <| .as rfl <| .as rfl <| .z) fun a w S => wp_seq_k fun _ hK3 => wp_region_lit (run S (.mv rfl <| .mv rfl <| .ix underlying59 sizeOf29 (by omega) rfl rfl <| .yy (ys_ldOA ⟨isAgg29, sizeOf29⟩ (.t rfl) (vs := [_, _, _]) rfl (fun _ => hcc')) rfl <| .xx (ys_call call15 (.cons (.t rfl) .nil) (fun hp w W => c15 _ _ _ _ _ (by exact .old W (by assumption)) (by exact .old W (by assumption)))) rfl <| .z) fun a w S => ?_))))))
        rw [rw_H] at S
        rw [rw_c] at S
        refine run S (.mv rfl <| .ex rfl rfl <| .ex rfl rfl <| .as rfl <| .as rfl <| .z) fun a w S => st_nil (then_normal (hK3 _ _ (wp_seq_k fun _ hK3 => sg S (.mv rfl <| .yy (ys_T (by omega) (ys_eql (.t rfl) Ev.c)) rfl <| .z) fun a w S => st_then S (.t rfl) (wp_region_lit (run S (.mv rfl <| .mv rfl <| .mv rfl <| .z) fun a w S => ?_)))))
        (refine st_m (op_callO S call56 (.cons (.t rfl) (.cons (.t rfl) (.cons (.t rfl) .nil))) (c56 S.wd (by first | assumption | omega | (dsimp only; omega) | exact Sl.nil_ | exact .old S.wd (by assumption) | exact Sl.of_own S.wd (k := 0) rfl (fun _ => rfl) | exact Sl.of_own S.wd (k := 1) rfl (fun _ => rfl) | exact Sl.of_own S.wd (k := 2) rfl (fun _ => rfl) | (simp; done) | (simp at *; omega)) (by first | assumption | omega | (dsimp only; omega) | exact Sl.nil_ | exact .old S.wd (by assumption) | exact Sl.of_own S.wd (k := 0) rfl (fun _ => rfl) | exact Sl.of_own S.wd (k := 1) rfl (fun _ => rfl) | exact Sl.of_own S.wd (k := 2) rfl (fun _ => rfl) | (simp; done) | (simp at *; omega)) (by first | assumption | omega | (dsimp only; omega) | exact Sl.nil_ | exact .old S.wd (by assumption) | exact Sl.of_own S.wd (k := 0) rfl (fun _ => rfl) | exact Sl.of_own S.wd (k := 1) rfl (fun _ => rfl) | exact Sl.of_own S.wd (k := 2) rfl (fun _ => rfl) | (simp; done) | (simp at *; omega))) rfl ?_) <;> clear S a w)
        rintro _ _ ⟨w21, bs21, rfl, rfl, hr1⟩ a w S
        refine run S (.as rfl <| .z) fun a w S => st_nil (then_normal (hK3 _ _ (sg S (.mv rfl <| .yy (ys_T (by omega) (ys_neq (.t rfl) Ev.c)) rfl <| .z) fun a w S => st_then S (.t rfl) (sg S (.mv rfl <| .ac rfl <| .as rfl <| .z) fun a w S => wp_ret (in_ret (then_ret (then_ret (in_ret (then_ret (st_ret S (results2 S results19 (Rv.tmp rfl) (Rv.tmp rfl)) ?_))))))))))
        exact ⟨rfl, S.wd.below⟩
      · have rw_n : decide (canE x.1 ≠ 0) = true := decide_eq_true hcn
        have rw_n2 : decide (canE x.1 = 0) = false := decide_eq_false hcn
        have hpe : pairE k x.1 = canE x.1 := if_neg hcn
        rw [hpe]
        refine sg S (.lt (by omega) rfl rfl <| .z) fun a w S => wp_seq_k fun _ hK2 => st_then S (.t rfl) (wp_skip (then_normal (hK2 _ _ (wp_seq_k fun _ hK2 => wp_block (sg S (.mv rfl <| .ix underlying58 sizeOf9 (by omega) rfl rfl <| .yy (ys_ldO ⟨isAgg9, sizeOf9⟩ (.t rfl) (fun _ => hcc 0 _ rfl)) rfl <| .as rfl <| .as rfl <| .z) fun a w S => wp_seq_k fun _ hK3 => wp_region_lit (run S (.mv rfl <| .mv rfl <| .ix underlying59 sizeOf29 (by omega) rfl rfl <| .yy (ys_ldOA ⟨isAgg29, sizeOf29⟩ (.t rfl) (vs := [_, _, _]) rfl (fun _ => hcc')) rfl <| .xx (ys_call call15 (.cons (.t rfl) .nil) (fun hp w W => c15 _ _ _ _ _ (by exact .old W (by assumption)) (by exact .old W (by assumption)))) rfl <| .z) fun a w S => ?_))))))
        rw [rw_H] at S
        refine run S (.mv rfl <| .ex rfl rfl <| .ex rfl rfl <| .as rfl <| .as rfl <| .z) fun a w S => st_nil (then_normal (hK3 _ _ (wp_seq_k fun _ hK3 => sg S (.mv rfl <| .yy (ys_F (by omega) (ys_eql (.t rfl) Ev.c)) rfl <| .z) fun a w S => st_else S (.t rfl) (wp_skip (then_normal (hK3 _ _ (sg S (.mv rfl <| .yy (ys_T (by omega) (ys_neq (.t rfl) Ev.c)) rfl <| .z) fun a w S => st_then S (.t rfl) (sg S (.mv rfl <| .ac rfl <| .as rfl <| .z) fun a w S => wp_ret (in_ret (then_ret (then_ret (in_ret (then_ret (st_ret S (results2 S results19 (Rv.tmp rfl) (Rv.tmp rfl)) ?_))))))))))))))
        exact ⟨rfl, S.wd.below⟩
  obtain rfl : q = l.length := by omega
  rw [List.drop_length, treeE_nil] at hF
  exact absurd hF.symm hE
theorem e19 (w0 : World) (v1 v2 : Value) (l : List (List UInt8)) (s : List SCart) (h1 : Sl encS' 1 w0 w0.heap.size v1 l) (h2 : Sl SCart.enc 3 w0 w0.heap.size v2 s) (hls : l.length ≠ s.length) :
    Calls Tryz.prog 19 #[v1, v2] w0 fun e w' => e = .returned (.tuple #[.pointer none, .int .i64 1]) ∧ Bel w0.heap.size w0 w' := by
  obtain ⟨A, cap, rfl, hl, hcap, hA⟩ := h1
  obtain ⟨A', cap', rfl, hl', hcap', hA'⟩ := h2
  have rw_ne : decide ((l.length : Int) ≠ (s.length : Int)) = true := decide_eq_true (fun e => hls (Int.ofNat_inj.1 e))
  refine enter2 func19 rfl ntmps19 rfl fun a S => sg S (.ac rfl <| .ac rfl <| .z) fun a w S => wp_seq_k fun _ hK1 => wp_seq_k fun _ hK2 => wp_region_lit (run S (.mv rfl <| .ln underlying58 rfl <| .mv rfl <| .ln underlying59 rfl <| .yy (ys_neq (.t rfl) (.t rfl)) rfl <| .z) fun a w S => ?_)
  rw [rw_ne] at S
  refine st_nil (then_normal (hK2 _ _ (st_then S (.t rfl) (sg S (.ac rfl <| .ac rfl <| .z) fun a w S => wp_ret (then_ret (st_ret S (results2 S results19 (Rv.tmp rfl) (Rv.tmp rfl)) ?_))))))
  exact ⟨rfl, S.wd.below⟩
theorem c20 (w0 : World) (v1 v2 : Value) (l : List (List UInt8)) (s : List SCart) (h1 : Sl encS' 1 w0 w0.heap.size v1 l) (h2 : Sl SCart.enc 3 w0 w0.heap.size v2 s) (hc : CartsRd w0 s) (hk : ∀ k ∈ l, k.length ≤ 1048576) (hn : l.length ≤ 1048576) (hls : l.length = s.length) (hE : treeE l (s.map (·.1)) = 0) :
    Rets Tryz.prog 20 #[v1, v2] w0 fun u L => ∃ g A cap, u = .tuple #[.pointer (some ⟨g, 0, none⟩), .int .i64 0] ∧ L = docP g A cap (setsT [] (sumsC l (s.map (·.1)))) [] := by
  have hs := sumsC_sums (m := s.map (·.1)) hn hk
  have hs0 := sums_nil
  obtain ⟨A, cap, rfl, hl, hcap, hA⟩ := h1
  obtain ⟨A', cap', rfl, hl', hcap', hA'⟩ := h2
  unfold Go.Fw.Rets
  refine enter2 func20 rfl ntmps20 rfl fun a S => sg S (.ac rfl <| .ac rfl <| .z) fun a w S => wp_seq_k fun _ hK1 => sg S (.mv rfl <| .ln underlying58 rfl <| .mv rfl <| .ln underlying59 rfl <| .yy (ys_F (by omega) (ys_neq (.t rfl) (.t rfl))) rfl <| .z) fun a w S => st_else S (.t rfl) (wp_skip (then_normal (hK1 _ _ (wp_seq_k fun _ hK1 => wp_region_lit ?_))))
  (refine st_m (op_calls S call28 (.cons Ev.c .nil) (c28 _ _ _ (by exact Sl.nil_) (by assumption)) rfl ?_); clear S a w; rintro _ _ ⟨g1, A1, cap1, rfl, rfl⟩ a w S)
  refine run S (.as rfl <| .z) fun a w S => st_nil (then_normal (hK1 _ _ (wp_seq_k fun _ hK1 => sg S (.mv rfl <| .ln underlying58 rfl <| .mc rfl <| .z) fun a w S => wp_block ?_)))
  refine st_lpM S [20] (X := Nat × Option Addr × Nat) (fun q => [(20, true, .int .i64 (q.1 : Int))]) (fun q => docP g1 q.2.1 q.2.2 (setsT [] ((sumsC l (s.map (·.1))).take q.1)) []) (fun q => q.1 ≤ l.length ∧ treeE (l.drop q.1) ((s.map (·.1)).drop q.1) = treeE l (s.map (·.1))) (fun q => l.length - q.1) (0, A1, cap1) ⟨Nat.zero_le _, rfl⟩ ?_
  clear S
  rintro ⟨q, B, cB⟩ a w ⟨hq, hF⟩ S
  dsimp only at hq hF S
  have hT := sets_take hs q
  by_cases hlt : q < l.length
  · obtain ⟨g, o, k, rfl, hk1, hd, hcc⟩ := row_at hA hlt
    obtain ⟨g', o', x, rfl, hx1, hd', hcc'⟩ := row_at hA' (show q < s.length by omega)
    have hkl := hk k (List.mem_of_getElem? hk1)
    have r1 := (hc x (List.mem_of_getElem? hx1)).ents
    have r2 := (hc x (List.mem_of_getElem? hx1)).ctx
    have hC : (s.map (·.1))[q]? = some x.1 := by rw [List.getElem?_map, hx1]; rfl
    rw [treeE_at hk1 hC] at hF
    have hst := sets_step (T := []) (sumsC_at hk1 hC)
    have hTl := sets_len ((sumsC l (s.map (·.1))).take q) []
    rw [List.length_nil, List.length_take] at hTl
    have hsl := hs.len
    have hh := cartH_range x.1
    dsimp only at hst
    generalize setsT [] ((sumsC l (s.map (·.1))).take q) = T at *
    have hTl2 : T.length ≤ 2097152 := by omega
    obtain ⟨H, rw_H⟩ : ∃ H, cartH x.1 = H := ⟨_, rfl⟩
    rw [rw_H] at hst hh
    by_cases hp : pairE k x.1 = 0
    · obtain ⟨rw_c, rw_s⟩ := pair_ok hp
      rw [if_pos hp] at hF
      refine sg S (.lt (by omega) rfl rfl <| .z) fun a w S => wp_seq_k fun _ hK2 => st_then S (.t rfl) (wp_skip (then_normal (hK2 _ _ (wp_seq_k fun _ hK2 => wp_block (sg S (.mv rfl <| .ix underlying58 sizeOf9 (by omega) rfl rfl <| .yy (ys_ldO ⟨isAgg9, sizeOf9⟩ (.t rfl) (fun _ => hcc 0 _ rfl)) rfl <| .as rfl <| .as rfl <| .z) fun a w S => wp_seq_k fun _ hK3 => wp_region_lit (run S (.mv rfl <| .mv rfl <| .ix underlying59 sizeOf29 (by omega) rfl rfl <| .yy (ys_ldOA ⟨isAgg29, sizeOf29⟩ (.t rfl) (vs := [_, _, _]) rfl (fun _ => hcc')) rfl <| .xx (ys_call call17 (.cons (.t rfl) .nil) (fun hp w W => c17 _ _ _ _ _ (by exact .old W (by assumption)) (by exact .old W (by assumption)))) rfl <| .z) fun a w S => ?_))))))
      rw [rw_H] at S
      rw [rw_c] at S
      refine run S (.mv rfl <| .ex rfl rfl <| .ex rfl rfl <| .as rfl <| .as rfl <| .z) fun a w S => st_nil (then_normal (hK3 _ _ (wp_seq_k fun _ hK3 => sg S (.mv rfl <| .yy (ys_F (by omega) (ys_neq (.t rfl) Ev.c)) rfl <| .z) fun a w S => st_else S (.t rfl) (wp_skip (then_normal (hK3 _ _ (wp_seq_k fun _ hK3 => wp_region_lit (run S (.mv rfl <| .mv rfl <| .mv rfl <| .z) fun a w S => ?_))))))))
      (refine st_m (op_callO S call57 (.cons (.t rfl) (.cons (.t rfl) (.cons (.t rfl) .nil))) (c57 S.wd (by first | assumption | omega | (dsimp only; omega) | exact Sl.nil_ | exact .old S.wd (by assumption) | exact Sl.of_own S.wd (k := 0) rfl (fun _ => rfl) | exact Sl.of_own S.wd (k := 1) rfl (fun _ => rfl) | (simp; done) | (simp at *; omega)) (by first | assumption | omega | (dsimp only; omega) | exact Sl.nil_ | exact .old S.wd (by assumption) | exact Sl.of_own S.wd (k := 0) rfl (fun _ => rfl) | exact Sl.of_own S.wd (k := 1) rfl (fun _ => rfl) | (simp; done) | (simp at *; omega)) (by first | assumption | omega | (dsimp only; omega) | exact Sl.nil_ | exact .old S.wd (by assumption) | exact Sl.of_own S.wd (k := 0) rfl (fun _ => rfl) | exact Sl.of_own S.wd (k := 1) rfl (fun _ => rfl) | (simp; done) | (simp at *; omega))) rfl ?_) <;> clear S a w)
      rintro _ _ ⟨A21, e21, rfl, rfl⟩ a w S
      rw [rw_s] at S
      refine run S (.as rfl <| .z) fun a w S => st_nil (then_normal (hK3 _ _ (sg S (.mv rfl <| .yy (ys_F (by omega) (ys_neq (.t rfl) Ev.c)) rfl <| .z) fun a w S => st_else S (.t rfl) (wp_skip (in_normal (then_normal (hK2 _ _ (wp_region_lit (run S (.ad (by unfold I64; omega) rfl <| .mv rfl <| .z) fun a w S => st_nil (then_normal ?_))))))))))
      exact ⟨(q + 1, A21, e21), ⟨by dsimp only; omega, hF⟩, by dsimp only; omega, by dsimp only; rw [hst]; exact S.pk⟩
    · rw [if_neg hp, hE] at hF
      exact absurd hF hp
  obtain rfl : q = l.length := by omega
  rw [List.take_of_length_le (by rw [sumsC, List.length_zipWith, List.length_map]; omega)] at S
  refine sg S (.ge (by omega) rfl rfl <| .z) fun a w S => wp_seq_k fun _ hK2 => st_else S (.t rfl) (wp_exit (then_exit (then_exit (in_here (then_normal (hK1 _ _ (sg S (.mv rfl <| .as rfl <| .ac rfl <| .z) fun a w S => wp_ret (st_ret S (results2 S results20 (Rv.tmp rfl) (Rv.tmp rfl)) ?_))))))))
  exact ⟨_, _, rfl, S.wd.pk, g1, B, cB, rfl, rfl⟩
theorem d20 (w0 : World) (v1 v2 : Value) (l : List (List UInt8)) (s : List SCart) (h1 : Sl encS' 1 w0 w0.heap.size v1 l) (h2 : Sl SCart.enc 3 w0 w0.heap.size v2 s) (hc : CartsRd w0 s) (hk : ∀ k ∈ l, k.length ≤ 1048576) (hn : l.length ≤ 1048576) (hls : l.length = s.length) (hE : treeE l (s.map (·.1)) ≠ 0) :
    Calls Tryz.prog 20 #[v1, v2] w0 fun e w' => e = .returned (.tuple #[.pointer none, .int .i64 (treeE l (s.map (·.1)))]) ∧ Bel w0.heap.size w0 w' := by
  have hs := sumsC_sums (m := s.map (·.1)) hn hk
  have hs0 := sums_nil
  obtain ⟨A, cap, rfl, hl, hcap, hA⟩ := h1
  obtain ⟨A', cap', rfl, hl', hcap', hA'⟩ := h2
  refine enter2 func20 rfl ntmps20 rfl fun a S => sg S (.ac rfl <| .ac rfl <| .z) fun a w S => wp_seq_k fun _ hK1 => sg S (.mv rfl <| .ln underlying58 rfl <| .mv rfl <| .ln underlying59 rfl <| .yy (ys_F (by omega) (ys_neq (.t rfl) (.t rfl))) rfl <| .z) fun a w S => st_else S (.t rfl) (wp_skip (then_normal (hK1 _ _ (wp_seq_k fun _ hK1 => wp_region_lit ?_))))
  (refine st_m (op_calls S call28 (.cons Ev.c .nil) (c28 _ _ _ (by exact Sl.nil_) (by assumption)) rfl ?_); clear S a w; rintro _ _ ⟨g1, A1, cap1, rfl, rfl⟩ a w S)
  refine run S (.as rfl <| .z) fun a w S => st_nil (then_normal (hK1 _ _ (wp_seq_k fun _ hK1 => sg S (.mv rfl <| .ln underlying58 rfl <| .mc rfl <| .z) fun a w S => wp_block ?_)))
  refine st_lpM S [20] (X := Nat × Option Addr × Nat) (fun q => [(20, true, .int .i64 (q.1 : Int))]) (fun q => docP g1 q.2.1 q.2.2 (setsT [] ((sumsC l (s.map (·.1))).take q.1)) []) (fun q => q.1 ≤ l.length ∧ treeE (l.drop q.1) ((s.map (·.1)).drop q.1) = treeE l (s.map (·.1))) (fun q => l.length - q.1) (0, A1, cap1) ⟨Nat.zero_le _, rfl⟩ ?_
  clear S
  rintro ⟨q, B, cB⟩ a w ⟨hq, hF⟩ S
  dsimp only at hq hF S
  have hT := sets_take hs q
  by_cases hlt : q < l.length
  · obtain ⟨g, o, k, rfl, hk1, hd, hcc⟩ := row_at hA hlt
    obtain ⟨g', o', x, rfl, hx1, hd', hcc'⟩ := row_at hA' (show q < s.length by omega)
    have hkl := hk k (List.mem_of_getElem? hk1)
    have r1 := (hc x (List.mem_of_getElem? hx1)).ents
    have r2 := (hc x (List.mem_of_getElem? hx1)).ctx
    have hC : (s.map (·.1))[q]? = some x.1 := by rw [List.getElem?_map, hx1]; rfl
    rw [treeE_at hk1 hC] at hF
    have hst := sets_step (T := []) (sumsC_at hk1 hC)
    have hTl := sets_len ((sumsC l (s.map (·.1))).take q) []
    rw [List.length_nil, List.length_take] at hTl
    have hsl := hs.len
    have hh := cartH_range x.1
    dsimp only at hst
    generalize setsT [] ((sumsC l (s.map (·.1))).take q) = T at *
    have hTl2 : T.length ≤ 2097152 := by omega
    obtain ⟨H, rw_H⟩ : ∃ H, cartH x.1 = H := ⟨_, rfl⟩
    rw [rw_H] at hst hh
    by_cases hp : pairE k x.1 = 0
    · obtain ⟨rw_c, rw_s⟩ := pair_ok hp
      rw [if_pos hp] at hF
      refine sg S (.lt (by omega) rfl rfl <| .z) fun a w S => wp_seq_k fun _ hK2 => st_then S (.t rfl) (wp_skip (then_normal (hK2 _ _ (wp_seq_k fun _ hK2 => wp_block (sg S (.mv rfl <| .ix underlying58 sizeOf9 (by omega) rfl rfl <| .yy (ys_ldO ⟨isAgg9, sizeOf9⟩ (.t rfl) (fun _ => hcc 0 _ rfl)) rfl <| .as rfl <| .as rfl <| .z) fun a w S => wp_seq_k fun _ hK3 => wp_region_lit (run S (.mv rfl <| .mv rfl <| .ix underlying59 sizeOf29 (by omega) rfl rfl <| .yy (ys_ldOA ⟨isAgg29, sizeOf29⟩ (.t rfl) (vs := [_, _, _]) rfl (fun _ => hcc')) rfl <| .xx (ys_call call17 (.cons (.t rfl) .nil) (fun hp w W => c17 _ _ _ _ _ (by exact .old W (by assumption)) (by exact .old W (by assumption)))) rfl <| .z) fun a w S => ?_))))))
      rw [rw_H] at S
      rw [rw_c] at S
      refine run S (.mv rfl <| .ex rfl rfl <| .ex rfl rfl <| .as rfl <| .as rfl <| .z) fun a w S => st_nil (then_normal (hK3 _ _ (wp_seq_k fun _ hK3 => sg S (.mv rfl <| .yy (ys_F (by omega) (ys_neq (.t rfl) Ev.c)) rfl <| .z) fun a w S => st_else S (.t rfl) (wp_skip (then_normal (hK3 _ _ (wp_seq_k fun _ hK3 => wp_region_lit (run S (.mv rfl <| .mv rfl <| .mv rfl <| .z) fun a w S => ?_))))))))
      (refine st_m (op_callO S call57 (.cons (.t rfl) (.cons (.t rfl) (.cons (.t rfl) .nil))) (c57 S.wd (by first | assumption | omega | (dsimp only; omega) | exact Sl.nil_ | exact .old S.wd (by assumption) | exact Sl.of_own S.wd (k := 0) rfl (fun _ => rfl) | exact Sl.of_own S.wd (k := 1) rfl (fun _ => rfl) | (simp; done) | (simp at *; omega)) (by first | assumption | omega | (dsimp only; omega) | exact Sl.nil_ | exact .old S.wd (by assumption) | exact Sl.of_own S.wd (k := 0) rfl (fun _ => rfl) | exact Sl.of_own S.wd (k := 1) rfl (fun _ => rfl) | (simp; done) | (simp at *; omega)) (by first | assumption | omega | (dsimp only; omega) | exact Sl.nil_ | exact .old S.wd (by assumption) | exact Sl.of_own S.wd (k := 0) rfl (fun _ => rfl) | exact Sl.of_own S.wd (k := 1) rfl (fun _ => rfl) | (simp; done) | (simp at *; omega))) rfl ?_) <;> clear S a w)
      rintro _ _ ⟨A21, e21, rfl, rfl⟩ a w S
      rw [rw_s] at S
      refine run S (.as rfl <| .z) fun a w S => st_nil (then_normal (hK3 _ _ (sg S (.mv rfl <| .yy (ys_F (by omega) (ys_neq (.t rfl) Ev.c)) rfl <| .z) fun a w S => st_else S (.t rfl) (wp_skip (in_normal (then_normal (hK2 _ _ (wp_region_lit (run S (.ad (by unfold I64; omega) rfl <| .mv rfl <| .z) fun a w S => st_nil (then_normal ?_))))))))))
      exact ⟨(q + 1, A21, e21), ⟨by dsimp only; omega, hF⟩, by dsimp only; omega, by dsimp only; rw [hst]; exact S.pk⟩
    · rw [if_neg hp] at hF
      rw [← hF]
      by_cases hcn : canE x.1 = 0
      · have rw_c := hcn
        have hpe : pairE k x.1 = setE k := if_pos hcn
        rw [hpe] at hp ⊢
        have rw_n : decide (setE k ≠ 0) = true := decide_eq_true hp
        refine sg S (.lt (by omega) rfl rfl <| .z) fun a w S => wp_seq_k fun _ hK2 => st_then S (.t rfl) (wp_skip (then_normal (hK2 _ _ (wp_seq_k fun _ hK2 => wp_block (sg S (.mv rfl <| .ix underlying58 sizeOf9 (by omega) rfl rfl <| .yy (ys_ldO ⟨isAgg9, sizeOf9⟩ (.t rfl) (fun _ => hcc 0 _ rfl)) rfl <| .as rfl <| .as rfl <| .z) fun a w S => wp_seq_k fun _ hK3 => wp_region_lit (run S (.mv rfl <| .mv rfl <| .ix underlying59 sizeOf29 (by omega) rfl rfl <| .yy (ys_ldOA ⟨isAgg29, sizeOf29⟩ (.t rfl) (vs := [_, _, _]) rfl (fun _ => hcc')) rfl <| .xx (ys_call call17 (.cons (.t rfl) .nil) (fun hp w W => c17 _ _ _ _ _ (by exact .old W (by assumption)) (by exact .old W (by assumption)))) rfl <| .z) fun a w S => ?_))))))
        rw [rw_H] at S
        rw [rw_c] at S
        refine run S (.mv rfl <| .ex rfl rfl <| .ex rfl rfl <| .as rfl <| .as rfl <| .z) fun a w S => st_nil (then_normal (hK3 _ _ (wp_seq_k fun _ hK3 => sg S (.mv rfl <| .yy (ys_F (by omega) (ys_neq (.t rfl) Ev.c)) rfl <| .z) fun a w S => st_else S (.t rfl) (wp_skip (then_normal (hK3 _ _ (wp_seq_k fun _ hK3 => wp_region_lit (run S (.mv rfl <| .mv rfl <| .mv rfl <| .z) fun a w S => ?_))))))))
        (refine st_m (op_callO S call57 (.cons (.t rfl) (.cons (.t rfl) (.cons (.t rfl) .nil))) (c57 S.wd (by first | assumption | omega | (dsimp only; omega) | exact Sl.nil_ | exact .old S.wd (by assumption) | exact Sl.of_own S.wd (k := 0) rfl (fun _ => rfl) | exact Sl.of_own S.wd (k := 1) rfl (fun _ => rfl) | (simp; done) | (simp at *; omega)) (by first | assumption | omega | (dsimp only; omega) | exact Sl.nil_ | exact .old S.wd (by assumption) | exact Sl.of_own S.wd (k := 0) rfl (fun _ => rfl) | exact Sl.of_own S.wd (k := 1) rfl (fun _ => rfl) | (simp; done) | (simp at *; omega)) (by first | assumption | omega | (dsimp only; omega) | exact Sl.nil_ | exact .old S.wd (by assumption) | exact Sl.of_own S.wd (k := 0) rfl (fun _ => rfl) | exact Sl.of_own S.wd (k := 1) rfl (fun _ => rfl) | (simp; done) | (simp at *; omega))) rfl ?_) <;> clear S a w)
        rintro _ _ ⟨A21, e21, rfl, rfl⟩ a w S
        refine run S (.as rfl <| .z) fun a w S => st_nil (then_normal (hK3 _ _ (sg S (.mv rfl <| .yy (ys_T (by omega) (ys_neq (.t rfl) Ev.c)) rfl <| .z) fun a w S => st_then S (.t rfl) (sg S (.mv rfl <| .ac rfl <| .as rfl <| .z) fun a w S => wp_ret (in_ret (then_ret (then_ret (in_ret (then_ret (st_ret S (results2 S results20 (Rv.tmp rfl) (Rv.tmp rfl)) ?_))))))))))
        exact ⟨rfl, S.wd.below⟩
      · have rw_n : decide (canE x.1 ≠ 0) = true := decide_eq_true hcn
        have rw_n2 : decide (canE x.1 = 0) = false := decide_eq_false hcn
        have hpe : pairE k x.1 = canE x.1 := if_neg hcn
        rw [hpe]
        refine sg S (.lt (by omega) rfl rfl <| .z) fun a w S => wp_seq_k fun _ hK2 => st_then S (.t rfl) (wp_skip (then_normal (hK2 _ _ (wp_seq_k fun _ hK2 => wp_block (sg S (.mv rfl <| .ix underlying58 sizeOf9 (by omega) rfl rfl <| .yy (ys_ldO ⟨isAgg9, sizeOf9⟩ (.t rfl) (fun _ => hcc 0 _ rfl)) rfl <| .as rfl <| .as rfl <| .z) fun a w S => wp_seq_k fun _ hK3 => wp_region_lit (run S (.mv rfl <| .mv rfl <| .ix underlying59 sizeOf29 (by omega) rfl rfl <| .yy (ys_ldOA ⟨isAgg29, sizeOf29⟩ (.t rfl) (vs := [_, _, _]) rfl (fun _ => hcc')) rfl <| .xx (ys_call call17 (.cons (.t rfl) .nil) (fun hp w W => c17 _ _ _ _ _ (by exact .old W (by assumption)) (by exact .old W (by assumption)))) rfl <| .z) fun a w S => ?_))))))
        rw [rw_H] at S
        refine run S (.mv rfl <| .ex rfl rfl <| .ex rfl rfl <| .as rfl <| .as rfl <| .z) fun a w S => st_nil (then_normal (hK3 _ _ (wp_seq_k fun _ hK3 => sg S (.mv rfl <| .yy (ys_T (by omega) (ys_neq (.t rfl) Ev.c)) rfl <| .z) fun a w S => st_then S (.t rfl) (sg S (.mv rfl <| .ac rfl <| .as rfl <| .z) fun a w S => wp_ret (then_ret (in_ret (then_ret (then_ret (in_ret (then_ret (st_ret S (results2 S results20 (Rv.tmp rfl) (Rv.tmp rfl)) ?_)))))))))))
        exact ⟨rfl, S.wd.below⟩
  obtain rfl : q = l.length := by omega
  rw [List.drop_length, treeE_nil] at hF
  exact absurd hF.symm hE
theorem e20 (w0 : World) (v1 v2 : Value) (l : List (List UInt8)) (s : List SCart) (h1 : Sl encS' 1 w0 w0.heap.size v1 l) (h2 : Sl SCart.enc 3 w0 w0.heap.size v2 s) (hls : l.length ≠ s.length) :
    Calls Tryz.prog 20 #[v1, v2] w0 fun e w' => e = .returned (.tuple #[.pointer none, .int .i64 1]) ∧ Bel w0.heap.size w0 w' := by
  obtain ⟨A, cap, rfl, hl, hcap, hA⟩ := h1
  obtain ⟨A', cap', rfl, hl', hcap', hA'⟩ := h2
  have rw_ne : decide ((l.length : Int) ≠ (s.length : Int)) = true := decide_eq_true (fun e => hls (Int.ofNat_inj.1 e))
  refine enter2 func20 rfl ntmps20 rfl fun a S => sg S (.ac rfl <| .ac rfl <| .z) fun a w S => wp_seq_k fun _ hK1 => wp_seq_k fun _ hK2 => wp_region_lit (run S (.mv rfl <| .ln underlying58 rfl <| .mv rfl <| .ln underlying59 rfl <| .yy (ys_neq (.t rfl) (.t rfl)) rfl <| .z) fun a w S => ?_)
  rw [rw_ne] at S
  refine st_nil (then_normal (hK2 _ _ (st_then S (.t rfl) (sg S (.ac rfl <| .ac rfl <| .z) fun a w S => wp_ret (then_ret (st_ret S (results2 S results20 (Rv.tmp rfl) (Rv.tmp rfl)) ?_))))))
  exact ⟨rfl, S.wd.below⟩
end Go.Proofs.YtbijdmfilmecbaaGreat
set_option linter.unusedVariables false
set_option linter.unusedSimpArgs false
set_option maxRecDepth 100000
set_option maxHeartbeats 4000000
namespace Go.Fw
open Go.RowKit
end Go.Fw
namespace Go.Proofs.YtbijdmfilmecbaaGreat
open Go.Fw Go.Proofs Go.RowKit Go.Proofs.Tryz
theorem c24 (w0 : World) (g cap : Nat) (A : Option Addr) (gs : List Nat) (T : List KH) (h : TreeAt w0 g A cap gs T) (hT : KhOk T) (hl : T.length ≤ 4194304) :
    Calls Tryz.prog 24 #[.pointer (some ⟨g, 0, none⟩)] w0 fun e w' => e = .returned (.int .u64 (hashT T 4 0)) ∧ Bel w0.heap.size w0 w' := by
  have hkeys := h.keys
  have h1 : (0 : Int) ≤ 0 ∧ (0 : Int) ≤ 4 := by omega
  have h2 : (0 : Int) ≤ 0 ∧ (0 : Int) < 2 ^ (0 : Int).toNat := ⟨by omega, by decide⟩
  have rw_h : hashT T (4 - (0 : Int)).toNat (0 : Int).toNat = hashT T 4 0 := rfl
  refine enter1 func24 rfl ntmps24 rfl fun a S => sg S (.ac rfl <| .z) fun a w S => wp_seq_k fun _ hK1 => sg S (.mv rfl <| .xx (ys_call call60 (.cons (.t rfl) .nil) (fun hp w W => c60 _ _ _ _ _ (by exact Wd.cellOld W (by assumption)))) rfl <| .nt rfl <| .z) fun a w S => st_else S (.t rfl) (wp_skip (then_normal (hK1 _ _ (wp_seq_k fun _ hK1 => wp_region_lit (run S (.mv rfl <| .xx (ys_call call61 (.cons (.t rfl) (.cons Ev.c (.cons Ev.c .nil))) (fun hp w W => c61 _ _ _ _ _ _ _ _ (by exact .old W (by assumption)) (by assumption) (by assumption) (by assumption) (by assumption))) rfl <| .z) fun a w S => ?_)))))
  rw [rw_h] at S
  refine run S (.as rfl <| .z) fun a w S => st_nil (then_normal (hK1 _ _ (wp_ret (st_ret S (results1 S results24 (Rv.tmp rfl)) ?_))))
  exact ⟨rfl, S.wd.below⟩
end Go.Proofs.YtbijdmfilmecbaaGreat
set_option linter.unusedVariables false
set_option linter.unusedSimpArgs false
set_option maxRecDepth 100000
set_option maxHeartbeats 4000000
namespace Go.Proofs.YtbijdmfilmecbaaGreat
open Go.Fw Go.Proofs Go.RowKit Go.Proofs.Tryz
theorem c25 (w0 : World) (g cap : Nat) (A : Option Addr) (T : List KH) (h : DocAt w0 g A cap T) (hT : KhOk T) (hl : T.length ≤ 4194304) :
    Calls Tryz.prog 25 #[.pointer (some ⟨g, 0, none⟩)] w0 fun e w' => e = .returned (.int .u64 (hashT T 4 0)) ∧ Bel w0.heap.size w0 w' := by
  have h1 : (0 : Int) ≤ 0 ∧ (0 : Int) ≤ 4 := by omega
  have h2 : (0 : Int) ≤ 0 ∧ (0 : Int) < 2 ^ (0 : Int).toNat := ⟨by omega, by decide⟩
  have rw_h : hashT T (4 - (0 : Int)).toNat (0 : Int).toNat = hashT T 4 0 := rfl
  refine enter1 func25 rfl ntmps25 rfl fun a S => sg S (.ac rfl <| .z) fun a w S => wp_seq_k fun _ hK1 => wp_region_lit (run S (.mv rfl <| .xx (ys_call call62 (.cons (.t rfl) (.cons Ev.c (.cons Ev.c .nil))) (fun hp w W => c62 _ _ _ _ _ _ _ (by exact .old W (by assumption)) (by assumption) (by assumption) (by assumption) (by assumption))) rfl <| .z) fun a w S => ?_)
  rw [rw_h] at S
  refine run S (.as rfl <| .z) fun a w S => st_nil (then_normal (hK1 _ _ (wp_ret (st_ret S (results1 S results25 (Rv.tmp rfl)) ?_))))
  exact ⟨rfl, S.wd.below⟩
theorem c4 (w0 : World) (v1 v2 v3 v4 v5 : Value) (X : Cart) (l : List (List UInt8)) (s : List SCart) (h : Sl Ent.enc 6 w0 w0.heap.size v1 X.ents) (hr : RdCtx w0 w0.heap.size v2 v3 X.ctx) (hl1 : X.ents.length ≤ 1048576) (hl2 : X.ctx.marks.length ≤ 1048576) (hl3 : X.ctx.cloud.length ≤ 1048576)
    (h4 : Sl encS' 1 w0 w0.heap.size v4 l) (hk : ∀ k ∈ l, k.length ≤ 1048576) (hn : l.length ≤ 1048576) (h5 : Sl SCart.enc 3 w0 w0.heap.size v5 s) (hc : CartsRd w0 s) (hb : SmallC s) (hm : s.length ≤ 1048576) :
    Calls Tryz.prog 4 #[.agg #[v1, v2, v3], v4, v5] w0 fun e w' => e = .returned (.bool true) ∧ Bel w0.heap.size w0 w' := by
  have hs := h
  have hrr := hr
  obtain ⟨A, cap, rfl, hl, hcap, hA⟩ := h
  obtain ⟨⟨A2, cap2, rfl, _⟩, ⟨A3, cap3, rfl, _⟩⟩ := hr
  have hs4 := h4
  have hs5 := h5
  obtain ⟨A4, cap4, rfl, hl4, hcap4, hA4⟩ := h4
  obtain ⟨A5, cap5, rfl, hl5, hcap5, hA5⟩ := h5
  have rw_n : ∀ i : Int, decide (i ≠ i) = false := fun i => decide_eq_false (by simp)
  generalize hH : cartH X = H at *
  generalize hE : canE X = E at *
  refine enter3 func4 rfl ntmps4 rfl fun a S => wp_seq_k fun _ hK1 => wp_region_lit (st_m (op_box S (.t rfl) rfl fun g1 a w S => run S (.ac rfl <| .z) fun a w S => st_nil (then_normal (hK1 _ _ (wp_seq_k fun _ hK1 => wp_region_lit (run S (.la gt29 0 rfl rfl rfl <| .z) fun a w S => ?_))))))
  (refine st_m (op_calls S call16 (.cons (.t rfl) .nil) (c16 _ _ _ _ _ (by exact .old S.wd (by assumption)) (by exact .old S.wd (by assumption)) (by assumption) (by assumption) (by assumption)) rfl ?_); clear S a w; rintro _ _ ⟨A11, r11, A21, r21, A31, r31, rfl, rfl⟩ a w S)
  refine run S (.xx (ys_call call15 (.cons (.t rfl) .nil) (fun hp w W => c15 _ _ _ _ _ (by exact Sl.of_own W (k := 0) rfl (fun _ => rfl)) (by exact ⟨(by exact Sl.of_own W (k := 1) rfl (fun _ => rfl)), (by exact Sl.of_own W (k := 2) rfl (fun _ => rfl))⟩))) rfl <| .mv rfl <| .ex rfl rfl <| .ex rfl rfl <| .as rfl <| .as rfl <| .z) fun a w S => st_nil (then_normal (hK1 _ _ (sg S (.la gt29 3 rfl rfl rfl <| .xx (ys_call call17 (.cons (.t rfl) .nil) (fun hp w W => c17 _ _ _ _ _ (by exact .old W (by assumption)) (by exact .old W (by assumption)))) rfl <| .mv rfl <| .ex rfl rfl <| .ex rfl rfl <| .as rfl <| .as rfl <| .z) fun a w S => wp_seq_k fun _ hK1 => sg S (.mv rfl <| .mv rfl <| .yy (ys_F (by omega) (ys_neq (.t rfl) (.t rfl))) rfl <| .mv rfl <| .gy rfl rfl (ys_move (.t rfl)) <| .gy rfl rfl (ys_move (.t rfl)) <| .gy rfl rfl (ys_F (by omega) (ys_neq (.t rfl) (.t rfl))) <| .yy (ys_pickF (.t rfl) (.t rfl)) rfl <| .z) fun a w S => st_else S (.t rfl) (wp_skip (then_normal (hK1 _ _ (wp_seq_k fun _ hK1 => wp_region_lit (run S (.mv rfl <| .z) fun a w S => ?_))))))))
  (refine st_m (op_calls S call18 (.cons (.t rfl) .nil) (c18 _ _ _ (by exact .old S.wd (by assumption)) (by omega)) rfl ?_); clear S a w; rintro _ _ ⟨A1, c1, rfl, rfl⟩ a w S)
  refine run S (.as rfl <| .z) fun a w S => st_nil (then_normal (hK1 _ _ (sg S (.ac rfl <| .z) fun a w S => wp_seq_k fun _ hK1 => sg S (.mv rfl <| .ln underlying59 rfl <| .mc rfl <| .z) fun a w S => wp_block ?_)))
  replace S : St _ w0 [(40, true, .int .i64 0), (39, true, .int .i64 (s.length : Int)), (38, true, .slice A5 s.length cap5), (12, true, .slice none 0 0), (11, true, .slice A1 l.length c1), (6, true, .bool false), (1, true, .slice A4 l.length cap4), (2, true, .slice A5 s.length cap5)] [rowOf 9 1 encS' A1 c1 l] _ _ := S.pk
  replace S := S.nil_ 29 3 SCart.enc none
  replace S : St _ _ _ (.ice w0 [] :: _) _ _ := ⟨S.kn, S.wd.bare (fun b hb => by cases hb) (fun b hb => by cases hb)⟩
  refine st_lpM S [12, 40] (X := Nat × Option Addr × Nat × List SCart × World × List Nat) (fun q => [(12, true, .slice q.2.1 q.2.2.2.1.length q.2.2.1), (40, true, .int .i64 (q.1 : Int))])
    (fun q => [rowOf 29 3 SCart.enc q.2.1 q.2.2.1 q.2.2.2.1, .ice q.2.2.2.2.1 q.2.2.2.2.2, rowOf 9 1 encS' A1 c1 l]) (fun q => q.1 ≤ s.length ∧ q.2.2.2.1.map (·.1) = (s.map (·.1)).take q.1 ∧ ∀ p ∈ q.2.2.2.1, CartIn q.2.2.2.2.1 q.2.2.2.2.2 p.1 p.2) (fun q => s.length - q.1) (0, none, 0, [], w0, []) ⟨Nat.zero_le _, by simp, by simp⟩ ?_
  clear S
  rintro ⟨i, B, cB, t, w1, bs⟩ a w ⟨hi, hsm, hsi⟩ S
  dsimp only at hi hsm hsi S
  have htl : t.length = i := by
    have := congrArg List.length hsm
    rw [List.length_map, List.length_take, List.length_map] at this
    omega
  by_cases hlt : i < s.length
  · obtain ⟨gq, oq, x, rfl, hx, hd, hcx⟩ := row_at hA5 hlt
    have hxc := hc x (List.mem_of_getElem? hx)
    have q1 := hxc.ents
    have q2 := hxc.ctx
    obtain ⟨z1, z2, z3⟩ := hb x (List.mem_of_getElem? hx)
    refine sg S (.lt (by omega) rfl rfl <| .z) fun a w S => wp_seq_k fun _ hK2 => st_then S (.t rfl) (wp_skip (then_normal (hK2 _ _ (wp_seq_k fun _ hK2 => wp_block (wp_seq_k fun _ hK3 => wp_region_lit (run S (.ix underlying59 sizeOf29 (by omega) rfl rfl <| .yy (ys_ldOA ⟨isAgg29, sizeOf29⟩ (.t rfl) (vs := [_, _, _]) rfl (fun _ => hcx)) rfl <| .z) fun a w S => st_m (op_alloc S zeroValue29 (cs := _) rfl rfl fun g2 a w S => st_m (op_stW S sizeOf29 (.t rfl) (.t rfl) (k := 0) rfl rfl rfl (by simp [Value.oneCell']) fun a w S => st_nil (then_normal (hK3 _ _ (wp_region_lit (run S (.mv rfl <| .la gt29 0 rfl rfl rfl <| .z) fun a w S => ?_))))))))))))
    (refine st_m (op_calls S call16 (.cons (.t rfl) .nil) (c16 _ _ _ _ _ (by exact .old S.wd (by assumption)) (by exact .old S.wd (by assumption)) (by assumption) (by assumption) (by assumption)) rfl ?_); clear S a w; rintro _ _ ⟨A12, r12, A22, r22, A32, r32, rfl, rfl⟩ a w S)
    refine st_m (op_bslice1 S underlying59 inf29 rfl rfl rfl (.t rfl) rfl rfl rfl fun g3 a w S => ?_)
    have e3 : #[Value.slice A12 x.1.ents.length r12, .slice A22 x.1.ctx.marks.length r22, .slice A32 x.1.ctx.cloud.length r32] = (SCart.enc (x.1, (⟨A12, x.1.ents.length, r12, A22, x.1.ctx.marks.length, r22, A32, x.1.ctx.cloud.length, r32⟩ : Sls3))).toArray := rfl
    rw [e3] at S
    refine st_m (op_push S underlying59 inf29 rfl (k := 5) (j := 0) rfl (.t rfl) (.t rfl) rfl rfl rfl rfl (by first | omega | (simp only [List.length_append, List.length_cons, List.length_nil]; omega)) rfl rfl rfl fun A5 cap1 a w S => run S (.as rfl <| .z) fun a w S => st_nil (in_normal (then_normal (hK2 _ _ (wp_region_lit (run S (.ad (by unfold I64; omega) rfl <| .mv rfl <| .z) fun a w S => st_nil (then_normal ?_)))))))
    obtain ⟨bs', W1, n1, hold⟩ := freeze_cart (S.wd.picks (L' := [rowOf 115 6 Ent.enc A12 r12 x.1.ents, rowOf 137 3 Dot.enc A22 r22 x.1.ctx.marks, rowOf 113 3 Dot.enc A32 r32 x.1.ctx.cloud, .ice w1 bs, rowOf 29 3 SCart.enc A5 cap1 (t ++ [(x.1, (⟨A12, x.1.ents.length, r12, A22, x.1.ctx.marks.length, r22, A32, x.1.ctx.cloud.length, r32⟩ : Sls3))]), rowOf 9 1 encS' A1 c1 l]) (by repeat (first | exact Picks.nil | (refine Picks.rest ?_; (repeat (first | exact List.Sublist.refl _ | refine List.Sublist.cons_cons _ ?_ | refine List.Sublist.cons _ ?_)); done) | refine Picks.take 0 rfl ?_ | refine Picks.take 1 rfl ?_ | refine Picks.take 2 rfl ?_ | refine Picks.take 3 rfl ?_ | refine Picks.take 4 rfl ?_ | refine Picks.take 5 rfl ?_ | refine Picks.take 6 rfl ?_ | refine Picks.take 7 rfl ?_ | refine Picks.take 8 rfl ?_ | refine Picks.take 9 rfl ?_ | refine Picks.take 10 rfl ?_ | refine Picks.take 11 rfl ?_)))
    replace S := St.mk S.kn W1
    refine ⟨(i + 1, A5, cap1, t ++ [(x.1, (⟨A12, x.1.ents.length, r12, A22, x.1.ctx.marks.length, r22, A32, x.1.ctx.cloud.length, r32⟩ : Sls3))], _, bs'), ⟨by dsimp only; omega, map_take_snoc hsm hx, fun p hp => ?_⟩, by dsimp only; omega, S.pk⟩
    rcases List.mem_append.1 hp with hp | hp
    · exact hold _ _ (hsi p hp)
    · rw [List.mem_singleton.1 hp]; exact n1
  obtain rfl : i = s.length := by omega
  rw [List.take_of_length_le (by simp)] at hsm
  by_cases hls : l.length = s.length
  rotate_left
  · have hls2 : l.length ≠ t.length := by rw [htl]; exact hls
    have rw_T : decide True = true := rfl
    have rw_sm : decide (t.map (·.1) = s.map (·.1)) = true := decide_eq_true hsm
    refine sg S (.ge (by omega) rfl rfl <| .z) fun a w S => wp_seq_k fun _ hK2 => st_else S (.t rfl) (wp_exit (then_exit (then_exit (in_here (then_normal (hK1 _ _ (wp_seq_k fun _ hK1 => wp_region_lit (run S (.mv rfl <| .mv rfl <| .z) fun a w S => st_y S (ys_call call19 (.cons (.t rfl) (.cons (.t rfl) .nil)) (fun _ w' W' => e19 w' _ _ l t (Sl.of_own W' (k := 2) rfl (fun _ => rfl)) (Sl.of_own W' (k := 0) rfl (fun _ => rfl)) hls2)) rfl ?_))))))))
    clear S a w
    intro a w S
    refine run S (.mv rfl <| .ex rfl rfl <| .ex rfl rfl <| .as rfl <| .as rfl <| .z) fun a w S => st_nil (then_normal (hK1 _ _ (sg S (.mv rfl <| .mv rfl <| .xx (ys_call call20 (.cons (.t rfl) (.cons (.t rfl) .nil)) (fun hp w W => e20 _ _ _ _ _ (by exact .old W (by assumption)) (by exact .old W (by assumption)) (by assumption))) rfl <| .mv rfl <| .ex rfl rfl <| .ex rfl rfl <| .as rfl <| .as rfl <| .z) fun a w S => wp_seq_k fun _ hK1 => wp_seq_k fun _ hK3 => wp_region_lit (run S (.mv rfl <| .mv rfl <| .yy (ys_F (by omega) (ys_neq (.t rfl) (.t rfl))) rfl <| .mv rfl <| .gy rfl rfl (ys_move (.t rfl)) <| .gy rfl rfl (ys_pNilN underlying36 (.t rfl) Ev.c) <| .gy rfl rfl (ys_move (.t rfl)) <| .gy rfl rfl (ys_pNilN underlying37 (.t rfl) Ev.c) <| .gy rfl rfl (ys_neqB underlying4 (.t rfl) (.t rfl)) <| .yy (ys_pickF (.t rfl) (.t rfl)) rfl <| .mv rfl <| .gy rfl rfl (ys_move (.t rfl)) <| .gy rfl rfl (ys_move (.t rfl)) <| .gx rfl rfl (ys_call call21 (.cons (.t rfl) (.cons (.t rfl) .nil)) (fun hp w W => c21 _ _ _ _ _ (by exact Sl.of_own W (k := 2) rfl (fun _ => rfl)) (by exact .old W (by assumption)))) <| .z) fun a w S => ?_))))
    simp only [List.nil_append] at S
    rw [rw_T] at S
    refine run S (.gy rfl rfl (ys_not (.t rfl)) <| .yy (ys_pickF (.t rfl) (.t rfl)) rfl <| .mv rfl <| .gy rfl rfl (ys_move (.t rfl)) <| .gy rfl rfl (ys_move (.t rfl)) <| .gx rfl rfl (ys_call call22 (.cons (.t rfl) (.cons (.t rfl) (.cons Ev.f .nil))) (fun hp w W => c22 _ _ _ _ _ (by exact Sl.of_own W (k := 0) rfl (fun _ => rfl)) (by exact .old W (by assumption)) (by exact carts_rd (by assumption) W (k := 1) rfl) (by exact .old W (by assumption)))) <| .z) fun a w S => ?_
    rw [rw_sm] at S
    refine run S (.gy rfl rfl (ys_not (.t rfl)) <| .yy (ys_pickF (.t rfl) (.t rfl)) rfl <| .z) fun a w S => st_nil (then_normal (hK3 _ _ (st_else S (.t rfl) (wp_skip (then_normal (hK1 _ _ (sg S (.mv rfl <| .yy (ys_pNilN underlying37 (.t rfl) Ev.c) rfl <| .mv rfl <| .sk rfl rfl rfl <| .sk rfl rfl rfl <| .sk rfl rfl rfl <| .sk rfl rfl rfl <| .sk rfl rfl rfl <| .yy (ys_pickT (.t rfl) Ev.c) rfl <| .as rfl <| .z) fun a w S => wp_ret (st_ret S (results1 S results4 (Rv.tmp rfl)) ?_))))))))
    exact ⟨rfl, S.wd.below⟩
  have hls2 : l.length = t.length := by rw [htl]; exact hls
  have rw_T : decide True = true := rfl
  have rw_sm : decide (t.map (·.1) = s.map (·.1)) = true := decide_eq_true hsm
  by_cases hE : treeE l (s.map (·.1)) = 0
  · have hE2 : treeE l (t.map (·.1)) = 0 := by rw [hsm]; exact hE
    have hsu := sumsC_sums (m := s.map (·.1)) hn hk
    have hT := hsu.ok
    have hTl : (setsT [] (sumsC l (s.map (·.1)))).length ≤ 4194304 := by have := hsu.room; omega
    rw [← hsm] at hT hTl
    have hT2 := hT
    have hTl2 := hTl
    rw [hsm] at hT2 hTl2
    have rw_sme : ∀ n p : Nat, hashT (setsT [] (sumsC l (t.map (·.1)))) n p = hashT (setsT [] (sumsC l (s.map (·.1)))) n p := fun n p => by rw [hsm]
    refine sg S (.ge (by omega) rfl rfl <| .z) fun a w S => wp_seq_k fun _ hK2 => st_else S (.t rfl) (wp_exit (then_exit (then_exit (in_here (then_normal (hK1 _ _ (wp_seq_k fun _ hK1 => wp_region_lit (run S (.mv rfl <| .mv rfl <| .z) fun a w S => ?_))))))))
    (refine st_m (op_calls S call19 (.cons (.t rfl) (.cons (.t rfl) .nil)) (c19 _ _ _ _ _ (by exact Sl.of_own S.wd (k := 2) rfl (fun _ => rfl)) (by exact Sl.of_own S.wd (k := 0) rfl (fun _ => rfl)) (by exact carts_rd (by assumption) S.wd (k := 1) rfl) (by assumption) (by assumption) (by assumption) (by assumption)) rfl ?_); clear S a w; rintro _ _ ⟨g2, A6, cap1, gs1, w11, bs1, rfl, rfl, hr11⟩ a w S)
    refine run S (.mv rfl <| .ex rfl rfl <| .ex rfl rfl <| .as rfl <| .as rfl <| .z) fun a w S => st_nil (then_normal (hK1 _ _ (wp_seq_k fun _ hK1 => wp_region_lit (run S (.mv rfl <| .mv rfl <| .z) fun a w S => ?_))))
    (refine st_m (op_calls S call20 (.cons (.t rfl) (.cons (.t rfl) .nil)) (c20 _ _ _ _ _ (by exact .old S.wd (by assumption)) (by exact .old S.wd (by assumption)) (by exact .old S.wd (by assumption)) (by assumption) (by assumption) (by assumption) (by assumption)) rfl ?_); clear S a w; rintro _ _ ⟨g3, A7, cap6, rfl, rfl⟩ a w S)
    refine run S (.mv rfl <| .ex rfl rfl <| .ex rfl rfl <| .as rfl <| .as rfl <| .z) fun a w S => st_nil (then_normal (hK1 _ _ (wp_seq_k fun _ hK1 => wp_seq_k fun _ hK3 => wp_region_lit (run S (.mv rfl <| .mv rfl <| .yy (ys_F (by omega) (ys_neq (.t rfl) (.t rfl))) rfl <| .mv rfl <| .gy rfl rfl (ys_move (.t rfl)) <| .gy rfl rfl (ys_pNilS underlying36 (.t rfl) Ev.c) <| .gy rfl rfl (ys_move (.t rfl)) <| .gy rfl rfl (ys_pNilS underlying37 (.t rfl) Ev.c) <| .gy rfl rfl (ys_neqB underlying4 (.t rfl) (.t rfl)) <| .yy (ys_pickF (.t rfl) (.t rfl)) rfl <| .mv rfl <| .gy rfl rfl (ys_move (.t rfl)) <| .gy rfl rfl (ys_move (.t rfl)) <| .gx rfl rfl (ys_call call21 (.cons (.t rfl) (.cons (.t rfl) .nil)) (fun hp w W => c21 _ _ _ _ _ (by exact Sl.of_own W (k := 7) rfl (fun _ => rfl)) (by exact .old W (by assumption)))) <| .z) fun a w S => ?_))))
    simp only [List.nil_append] at S
    rw [rw_T] at S
    refine run S (.gy rfl rfl (ys_not (.t rfl)) <| .yy (ys_pickF (.t rfl) (.t rfl)) rfl <| .mv rfl <| .gy rfl rfl (ys_move (.t rfl)) <| .gy rfl rfl (ys_move (.t rfl)) <| .gx rfl rfl (ys_call call22 (.cons (.t rfl) (.cons (.t rfl) (.cons Ev.f .nil))) (fun hp w W => c22 _ _ _ _ _ (by exact Sl.of_own W (k := 5) rfl (fun _ => rfl)) (by exact .old W (by assumption)) (by exact carts_rd (by assumption) W (k := 6) rfl) (by exact .old W (by assumption)))) <| .z) fun a w S => ?_
    simp only [List.nil_append] at S
    rw [rw_sm] at S
    refine run S (.gy rfl rfl (ys_not (.t rfl)) <| .yy (ys_pickF (.t rfl) (.t rfl)) rfl <| .z) fun a w S => st_nil (then_normal (hK3 _ _ (st_else S (.t rfl) (wp_skip (then_normal (hK1 _ _ (wp_seq_k fun _ hK1 => wp_region_lit (run S (.mv rfl <| .yy (ys_pNilS underlying37 (.t rfl) Ev.c) rfl <| .mv rfl <| .gy rfl rfl (ys_move (.t rfl)) <| .gx rfl rfl (ys_call call24 (.cons (.t rfl) .nil) (fun hp w W => c24 _ _ _ _ _ _ (by exact sl_m1 W (k := 2) rfl) (by assumption) (by assumption))) <| .z) fun a w S => ?_))))))))
    simp only [List.nil_append] at S
    rw [rw_sme] at S
    refine run S (.gy rfl rfl (ys_move (.t rfl)) <| .gx rfl rfl (ys_call call25 (.cons (.t rfl) .nil) (fun hp w W => c25 _ _ _ _ _ (by exact sl_m2 W (k := 0) rfl) (by assumption) (by assumption))) <| .z) fun a w S => ?_
    simp only [List.nil_append] at S
    refine run S (.gy rfl rfl (ys_T (by omega) (ys_eql (.t rfl) (.t rfl))) <| .yy (ys_pickF (.t rfl) (.t rfl)) rfl <| .as rfl <| .z) fun a w S => st_nil (then_normal (hK1 _ _ (wp_ret (st_ret S (results1 S results4 (Rv.tmp rfl)) ?_))))
    exact ⟨rfl, S.wd.below⟩
  · have hE2 : treeE l (t.map (·.1)) ≠ 0 := by rw [hsm]; exact hE
    have rw_sme : treeE l (t.map (·.1)) = treeE l (s.map (·.1)) := by rw [hsm]
    refine sg S (.ge (by omega) rfl rfl <| .z) fun a w S => wp_seq_k fun _ hK2 => st_else S (.t rfl) (wp_exit (then_exit (then_exit (in_here (then_normal (hK1 _ _ (wp_seq_k fun _ hK1 => wp_region_lit (run S (.mv rfl <| .mv rfl <| .z) fun a w S => st_y S (ys_call call19 (.cons (.t rfl) (.cons (.t rfl) .nil)) (fun _ w' W' => d19 w' _ _ l t (Sl.of_own W' (k := 2) rfl (fun _ => rfl)) (Sl.of_own W' (k := 0) rfl (fun _ => rfl)) (fun x hx => (hsi x hx).rd W' (k := 1) rfl) hk hn hls2 hE2)) rfl ?_))))))))
    clear S a w
    intro a w S
    refine run S (.mv rfl <| .z) fun a w S => ?_
    rw [rw_sme] at S
    refine run S (.ex rfl rfl <| .ex rfl rfl <| .as rfl <| .as rfl <| .z) fun a w S => st_nil (then_normal (hK1 _ _ (wp_seq_k fun _ hK1 => wp_region_lit (run S (.mv rfl <| .mv rfl <| .xx (ys_call call20 (.cons (.t rfl) (.cons (.t rfl) .nil)) (fun hp w W => d20 _ _ _ _ _ (by exact .old W (by assumption)) (by exact .old W (by assumption)) (by exact .old W (by assumption)) (by assumption) (by assumption) (by assumption) (by assumption))) rfl <| .z) fun a w S => ?_))))
    simp only [List.nil_append] at S
    refine run S (.mv rfl <| .ex rfl rfl <| .ex rfl rfl <| .as rfl <| .as rfl <| .z) fun a w S => st_nil (then_normal (hK1 _ _ (wp_seq_k fun _ hK1 => wp_seq_k fun _ hK3 => wp_region_lit (run S (.mv rfl <| .mv rfl <| .yy (ys_F (by omega) (ys_neq (.t rfl) (.t rfl))) rfl <| .mv rfl <| .gy rfl rfl (ys_move (.t rfl)) <| .gy rfl rfl (ys_pNilN underlying36 (.t rfl) Ev.c) <| .gy rfl rfl (ys_move (.t rfl)) <| .gy rfl rfl (ys_pNilN underlying37 (.t rfl) Ev.c) <| .gy rfl rfl (ys_neqB underlying4 (.t rfl) (.t rfl)) <| .yy (ys_pickF (.t rfl) (.t rfl)) rfl <| .mv rfl <| .gy rfl rfl (ys_move (.t rfl)) <| .gy rfl rfl (ys_move (.t rfl)) <| .gx rfl rfl (ys_call call21 (.cons (.t rfl) (.cons (.t rfl) .nil)) (fun hp w W => c21 _ _ _ _ _ (by exact Sl.of_own W (k := 2) rfl (fun _ => rfl)) (by exact .old W (by assumption)))) <| .z) fun a w S => ?_))))
    simp only [List.nil_append] at S
    rw [rw_T] at S
    refine run S (.gy rfl rfl (ys_not (.t rfl)) <| .yy (ys_pickF (.t rfl) (.t rfl)) rfl <| .mv rfl <| .gy rfl rfl (ys_move (.t rfl)) <| .gy rfl rfl (ys_move (.t rfl)) <| .gx rfl rfl (ys_call call22 (.cons (.t rfl) (.cons (.t rfl) (.cons Ev.f .nil))) (fun hp w W => c22 _ _ _ _ _ (by exact Sl.of_own W (k := 0) rfl (fun _ => rfl)) (by exact .old W (by assumption)) (by exact carts_rd (by assumption) W (k := 1) rfl) (by exact .old W (by assumption)))) <| .z) fun a w S => ?_
    simp only [List.nil_append] at S
    rw [rw_sm] at S
    refine run S (.gy rfl rfl (ys_not (.t rfl)) <| .yy (ys_pickF (.t rfl) (.t rfl)) rfl <| .z) fun a w S => st_nil (then_normal (hK3 _ _ (st_else S (.t rfl) (wp_skip (then_normal (hK1 _ _ (sg S (.mv rfl <| .yy (ys_pNilN underlying37 (.t rfl) Ev.c) rfl <| .mv rfl <| .sk rfl rfl rfl <| .sk rfl rfl rfl <| .sk rfl rfl rfl <| .sk rfl rfl rfl <| .sk rfl rfl rfl <| .yy (ys_pickT (.t rfl) Ev.c) rfl <| .as rfl <| .z) fun a w S => wp_ret (st_ret S (results1 S results4 (Rv.tmp rfl)) ?_))))))))
    exact ⟨rfl, S.wd.below⟩
end Go.Proofs.YtbijdmfilmecbaaGreat
