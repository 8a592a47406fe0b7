/- Contracts and laws that the statement Orp leans on, part 4. -/
import Derived.Test.YtfblmkocmnbdcaaOrpK3
set_option linter.unusedVariables false
set_option linter.unusedSimpArgs false
set_option maxRecDepth 100000
set_option maxHeartbeats 4000000
namespace Go.Fw
theorem insE_none {e : Ent} : ∀ {l : List Ent}, (∀ y ∈ l, ¬ ltE e y) → insE e l = l ++ [e]
  | [], _ => rfl
  | x :: r, h => by
    rw [insE, if_neg (h x (by simp)), insE_none fun y hy => h y (by simp [hy])]
    rfl
theorem insE_put {e x : Ent} : ∀ {l : List Ent}, (∃ y ∈ l, ltE e y) → insE e (l ++ [x]) = insE e l ++ [x]
  | [], h => by obtain ⟨y, hy, _⟩ := h; simp at hy
  | z :: r, h => by
    rw [List.cons_append, insE, insE]
    by_cases hz : ltE e z
    · rw [if_pos hz, if_pos hz]; rfl
    · rw [if_neg hz, if_neg hz, insE_put (l := r)]
      · rfl
      · obtain ⟨y, hy, hy2⟩ := h
        rcases List.mem_cons.1 hy with rfl | hy
        · exact absurd hy2 hz
        · exact ⟨y, hy, hy2⟩
theorem insE_new {e x : Ent} : ∀ {l : List Ent}, (∀ y ∈ l, ¬ ltE e y) → ltE e x → insE e (l ++ [x]) = l ++ [e, x]
  | [], _, h => by simp [insE, h]
  | z :: r, h, hx => by
    rw [List.cons_append, insE, if_neg (h z (by simp)), insE_new (fun y hy => h y (by simp [hy])) hx]
    rfl
end Go.Fw
namespace Go.Proofs.Ytfblmkocmnbdcaa
open Go.Fw Go.Proofs Go.RowKit Go.Sort Go.Proofs.Try
theorem c63 (w0 : World) (v1 : Value) (A2 A3 : Option Addr) (n2 c2 n3 c3 : Nat) (l : List Ent) (h : Sl Ent.enc 6 w0 w0.heap.size v1 l) (hn : l.length ≤ 4194304) :
    Calls Try.prog 63 #[.agg #[v1, .slice A2 n2 c2, .slice A3 n3 c3]] w0 fun e w' => e = .returned (if 64 < l.length ∨ 32 < itemsN l then .tuple #[.agg #[.slice none 0 0, .slice none 0 0, .slice none 0 0], .int .i64 51] else .tuple #[.agg #[v1, .slice A2 n2 c2, .slice A3 n3 c3], .int .i64 0]) ∧ Bel w0.heap.size w0 w' := by
  have hs := h
  obtain ⟨A, cap, rfl, hl, hcap, hA⟩ := h
  by_cases h1 : 64 < l.length
  · refine enter1 func63 rfl ntmps63 rfl fun a S => wp_seq_k fun _ hK1 => wp_region_lit (st_m (op_box S (.t rfl) rfl fun g1 a w S => st_m (op_alloc S zeroValue40 (cs := _) rfl rfl fun g2 a w S => run S (.ac rfl <| .z) fun a w S => st_nil (then_normal (hK1 _ _ (wp_seq_k fun _ hK1 => sg S (.fa underlying40 sizeOf34 0 rfl rfl rfl <| .ld gt34 1 rfl rfl rfl <| .ln underlying34 rfl <| .yy (ys_T (by omega) (ys_gtr (.t rfl) Ev.c)) rfl <| .mv rfl <| .sk rfl rfl rfl <| .sk rfl rfl rfl <| .sk rfl rfl rfl <| .sk rfl rfl rfl <| .yy (ys_pickT (.t rfl) Ev.c) rfl <| .z) fun a w S => st_then S (.t rfl) (wp_seq_k fun _ hK2 => wp_region_lit (run S (.yy (ys_bld (ps := []) (us := [_, _, _]) bld40 .nil rfl) rfl <| .z) fun a w S => st_m (op_stW S sizeOf40 (.t rfl) (.t rfl) (k := 0) rfl rfl rfl (by simp [Value.oneCell']) fun a w S => run S (.ac rfl <| .z) fun a w S => st_nil (then_normal (hK2 _ _ (wp_ret (then_ret (st_ret S (results2 S results63 (Rv.cell (k := 0) ⟨isAgg40, sizeOf40⟩ rfl rfl rfl) (Rv.tmp rfl)) ?_))))))))))))))
    exact ⟨by rw [if_pos (.inl h1)], S.wd.below⟩
  by_cases h2 : 32 < itemsN l
  · refine enter1 func63 rfl ntmps63 rfl fun a S => wp_seq_k fun _ hK1 => wp_region_lit (st_m (op_box S (.t rfl) rfl fun g1 a w S => st_m (op_alloc S zeroValue40 (cs := _) rfl rfl fun g2 a w S => run S (.ac rfl <| .z) fun a w S => st_nil (then_normal (hK1 _ _ (wp_seq_k fun _ hK1 => sg S (.fa underlying40 sizeOf34 0 rfl rfl rfl <| .ld gt34 1 rfl rfl rfl <| .ln underlying34 rfl <| .yy (ys_F (by omega) (ys_gtr (.t rfl) Ev.c)) rfl <| .mv rfl <| .gy rfl rfl (ys_fieldN (FieldT.mk underlying40 rfl sizeOf34 rfl) (.t rfl) (i' := 0) rfl) <| .gy rfl rfl (ys_ld ⟨isAgg34, sizeOf34⟩ (.t rfl) (k := 1) rfl rfl) <| .gx rfl rfl (ys_call call54 (.cons (.t rfl) .nil) (fun hp w W => c54 _ _ _ (by exact .old W (by assumption)) (by assumption))) <| .gy rfl rfl (ys_T (by omega) (ys_gtr (.t rfl) Ev.c)) <| .yy (ys_pickF (.t rfl) (.t rfl)) rfl <| .z) fun a w S => st_then S (.t rfl) (wp_seq_k fun _ hK2 => wp_region_lit (run S (.yy (ys_bld (ps := []) (us := [_, _, _]) bld40 .nil rfl) rfl <| .z) fun a w S => st_m (op_stW S sizeOf40 (.t rfl) (.t rfl) (k := 0) rfl rfl rfl (by simp [Value.oneCell']) fun a w S => run S (.ac rfl <| .z) fun a w S => st_nil (then_normal (hK2 _ _ (wp_ret (then_ret (st_ret S (results2 S results63 (Rv.cell (k := 0) ⟨isAgg40, sizeOf40⟩ rfl rfl rfl) (Rv.tmp rfl)) ?_))))))))))))))
    exact ⟨by rw [if_pos (.inr h2)], S.wd.below⟩
  · refine enter1 func63 rfl ntmps63 rfl fun a S => wp_seq_k fun _ hK1 => wp_region_lit (st_m (op_box S (.t rfl) rfl fun g1 a w S => st_m (op_alloc S zeroValue40 (cs := _) rfl rfl fun g2 a w S => run S (.ac rfl <| .z) fun a w S => st_nil (then_normal (hK1 _ _ (wp_seq_k fun _ hK1 => sg S (.fa underlying40 sizeOf34 0 rfl rfl rfl <| .ld gt34 1 rfl rfl rfl <| .ln underlying34 rfl <| .yy (ys_F (by omega) (ys_gtr (.t rfl) Ev.c)) rfl <| .mv rfl <| .gy rfl rfl (ys_fieldN (FieldT.mk underlying40 rfl sizeOf34 rfl) (.t rfl) (i' := 0) rfl) <| .gy rfl rfl (ys_ld ⟨isAgg34, sizeOf34⟩ (.t rfl) (k := 1) rfl rfl) <| .gx rfl rfl (ys_call call54 (.cons (.t rfl) .nil) (fun hp w W => c54 _ _ _ (by exact .old W (by assumption)) (by assumption))) <| .gy rfl rfl (ys_F (by omega) (ys_gtr (.t rfl) Ev.c)) <| .yy (ys_pickF (.t rfl) (.t rfl)) rfl <| .z) fun a w S => st_else S (.t rfl) (wp_skip (then_normal (hK1 _ _ (wp_seq_k fun _ hK1 => wp_region_lit (run S (.la gt40 1 rfl rfl rfl <| .z) fun a w S => st_m (op_stW S sizeOf40 (.t rfl) (.t rfl) (k := 0) rfl rfl rfl (by simp [Value.oneCell']) fun a w S => run S (.ac rfl <| .z) fun a w S => st_nil (then_normal (hK1 _ _ (wp_ret (st_ret S (results2 S results63 (Rv.cell (k := 0) ⟨isAgg40, sizeOf40⟩ rfl rfl rfl) (Rv.tmp rfl)) ?_))))))))))))))))
    exact ⟨by rw [if_neg (by omega)], S.wd.below⟩
theorem c61 (w0 : World) (v1 : Value) (A2 A3 : Option Addr) (n2 c2 n3 c3 : Nat) (l : List Ent) (x : Ent) (h : Sl Ent.enc 6 w0 w0.heap.size v1 l) :
    Calls Try.prog 61 #[.agg #[v1, .slice A2 n2 c2, .slice A3 n3 c3], .agg (Ent.enc x).toArray] w0 fun e w' => e = .returned (.bool (decide (x ∈ l))) ∧ Bel w0.heap.size w0 w' := by
  obtain ⟨A, cap, rfl, hl, hcap, hA⟩ := h
  refine enter2 func61 rfl ntmps61 rfl fun a S => wp_seq_k fun _ hK1 => wp_region_lit (st_m (op_box S (.t rfl) rfl fun g1 a w S => st_m (op_box S (.t rfl) rfl fun g2 a w S => run S (.ac rfl <| .z) fun a w S => st_nil (then_normal (hK1 _ _ (wp_seq_k fun _ hK1 => sg S (.fa underlying40 sizeOf34 0 rfl rfl rfl <| .ld gt34 1 rfl rfl rfl <| .ln underlying34 rfl <| .mc rfl <| .z) fun a w S => wp_block ?_))))))
  refine st_lpM S [6, 10] (X := Nat) (fun k => [(10, true, .int .i64 (k : Int))]) (fun _ => [.blk g2 (.cells (Ent.enc x).toArray 74), .blk g1 (.cells #[.slice A l.length cap, .slice A2 n2 c2, .slice A3 n3 c3] 40)]) (fun k => k ≤ l.length ∧ x ∉ l.take k) (fun k => l.length - k) 0 ⟨Nat.zero_le _, by simp⟩ ?_
  clear S
  intro k a w ⟨hk, hno⟩ S
  by_cases hlt : k < l.length
  · obtain ⟨g, o, m, rfl, hm, hd, hc⟩ := row_at hA hlt
    by_cases he : m = x
    · have rw_e := decide_eq_true (ent_iff.1 he)
      refine sg S (.lt (by omega) rfl rfl <| .z) fun a w S => wp_seq_k fun _ hK2 => st_then S (.t rfl) (wp_skip (then_normal (hK2 _ _ (wp_seq_k fun _ hK2 => wp_block (wp_seq_k fun _ hK3 => wp_region_lit (run S (.ix underlying34 sizeOf74 (by omega) rfl rfl <| .yy (ys_ldOA ⟨isAgg74, sizeOf74⟩ (.t rfl) (vs := [_, _, _, _, _, _]) rfl (fun _ => hc)) rfl <| .z) fun a w S => st_m (op_alloc S zeroValue74 (cs := _) rfl rfl fun g3 a w S => st_m (op_stW S sizeOf74 (.t rfl) (.t rfl) (k := 0) rfl rfl rfl (by simp [Value.oneCell']) fun a w S => st_nil (then_normal (hK3 _ _ (wp_seq_k fun _ hK3 => wp_region_lit (run S (.la gt74 0 rfl rfl rfl <| .la gt74 1 rfl rfl rfl <| .yy (ys_eqA (.t rfl) (.t rfl) eq74) rfl <| .z) fun a w S => ?_))))))))))))
      rw [rw_e] at S
      refine st_nil (then_normal (hK3 _ _ (st_then S (.t rfl) (sg S (.ac rfl <| .z) fun a w S => wp_ret (in_ret (then_ret (then_ret (in_ret (then_ret (st_ret S (results1 S results61 (Rv.tmp rfl)) ?_))))))))))
      exact ⟨by rw [decide_eq_true (he ▸ List.mem_of_getElem? hm)], S.wd.below⟩
    · have rw_e := decide_eq_false (fun h => he (ent_iff.2 h))
      refine sg S (.lt (by omega) rfl rfl <| .z) fun a w S => wp_seq_k fun _ hK2 => st_then S (.t rfl) (wp_skip (then_normal (hK2 _ _ (wp_seq_k fun _ hK2 => wp_block (wp_seq_k fun _ hK3 => wp_region_lit (run S (.ix underlying34 sizeOf74 (by omega) rfl rfl <| .yy (ys_ldOA ⟨isAgg74, sizeOf74⟩ (.t rfl) (vs := [_, _, _, _, _, _]) rfl (fun _ => hc)) rfl <| .z) fun a w S => st_m (op_alloc S zeroValue74 (cs := _) rfl rfl fun g3 a w S => st_m (op_stW S sizeOf74 (.t rfl) (.t rfl) (k := 0) rfl rfl rfl (by simp [Value.oneCell']) fun a w S => st_nil (then_normal (hK3 _ _ (wp_seq_k fun _ hK3 => wp_region_lit (run S (.la gt74 0 rfl rfl rfl <| .la gt74 1 rfl rfl rfl <| .yy (ys_eqA (.t rfl) (.t rfl) eq74) rfl <| .z) fun a w S => ?_))))))))))))
      rw [rw_e] at S
      refine st_nil (then_normal (hK3 _ _ (st_else S (.t rfl) (wp_skip (in_normal (then_normal (hK2 _ _ (wp_region_lit (run S (.ad (by unfold I64; omega) rfl <| .mv rfl <| .z) fun a w S => st_nil (then_normal ?_))))))))))
      refine ⟨k + 1, ⟨by omega, ?_⟩, by omega, S.pk⟩
      rw [List.take_add_one, hm, Option.toList_some]
      intro h
      rcases List.mem_append.1 h with h | h
      · exact hno h
      · simp at h; exact he h.symm
  · obtain rfl : k = l.length := by omega
    rw [List.take_length] at hno
    refine sg S (.ge (by omega) rfl rfl <| .z) fun a w S => wp_seq_k fun _ hK2 => st_else S (.t rfl) (wp_exit (then_exit (then_exit (in_here (then_normal (hK1 _ _ (sg S (.ac rfl <| .z) fun a w S => wp_ret (st_ret S (results1 S results61 (Rv.tmp rfl)) ?_))))))))
    exact ⟨by rw [decide_eq_false hno], S.wd.below⟩
def outE (e : Ent) (l : List Ent) (put : Bool) : List Ent := if put then insE e l else l
theorem c62 (w0 : World) (v : Value) (l : List Ent) (e : Ent) (h : Sl Ent.enc 6 w0 w0.heap.size v l) (hn : l.length ≤ 1048576) :
    Rets Try.prog 62 #[v, .agg (Ent.enc e).toArray] w0 fun u L => ∃ A1 r1, u = .slice A1 (insE e l).length r1 ∧ L = [rowOf 74 6 Ent.enc A1 r1 (insE e l)] := by
  obtain ⟨A, cap, rfl, hl, hcap, hA⟩ := h
  have hil : ∀ m, (insE e m).length = m.length + 1 := fun m => insE_len e m
  unfold Go.Fw.Rets
  refine enter2 func62 rfl ntmps62 rfl fun a S => wp_seq_k fun _ hK1 => wp_region_lit (st_m (op_box S (.t rfl) rfl fun g1 a w S => run S (.ac rfl <| .z) fun a w S => st_nil (then_normal (hK1 _ _ (sg S (.ac rfl <| .z) fun a w S => sg S (.ac rfl <| .z) fun a w S => wp_seq_k fun _ hK1 => sg S (.mv rfl <| .ln underlying34 rfl <| .mc rfl <| .z) fun a w S => wp_block ?_)))))
  replace S := S.nil_ 74 6 Ent.enc none
  refine st_lpM S [5, 6, 8, 11] (X := Nat × Bool × Option Addr × Nat) (fun q => [(5, true, .slice q.2.2.1 (outE e (l.take q.1) q.2.1).length q.2.2.2), (6, true, .bool q.2.1), (11, true, .int .i64 (q.1 : Int))])
    (fun q => [rowOf 74 6 Ent.enc q.2.2.1 q.2.2.2 (outE e (l.take q.1) q.2.1), .blk g1 (.cells (Ent.enc e).toArray 74)])
    (fun q => q.1 ≤ l.length ∧ (q.2.1 = true → ∃ y ∈ l.take q.1, ltE e y) ∧ (q.2.1 = false → ∀ y ∈ l.take q.1, ¬ ltE e y)) (fun q => l.length - q.1) (0, false, none, 0) ⟨Nat.zero_le _, by simp, by simp⟩ ?_
  clear S
  rintro ⟨k, put, B, cB⟩ a w ⟨hk, hp1, hp2⟩ S
  dsimp only at hk hp1 hp2 S
  have hol : (outE e (l.take k) put).length ≤ k + 1 := by
    unfold outE
    split
    · rw [hil, List.length_take]; omega
    · rw [List.length_take]; omega
  by_cases hlt : k < l.length
  · obtain ⟨g, o, x, rfl, hx, hd, hc⟩ := row_at hA hlt
    have ht : l.take (k + 1) = l.take k ++ [x] := by rw [List.take_add_one, hx, Option.toList_some]
    cases put with
    | true =>
      have hst : outE e (l.take (k + 1)) true = outE e (l.take k) true ++ [x] := by unfold outE; rw [ht, if_pos rfl, if_pos rfl, insE_put (hp1 rfl)]
      generalize outE e (l.take k) true = O at *
      refine sg S (.lt (by omega) rfl rfl <| .z) fun a w S => wp_seq_k fun _ hK2 => st_then S (.t rfl) (wp_skip (then_normal (hK2 _ _ (wp_seq_k fun _ hK2 => wp_block (wp_seq_k fun _ hK3 => wp_region_lit (run S (.ix underlying34 sizeOf74 (by omega) rfl rfl <| .yy (ys_ldOA ⟨isAgg74, sizeOf74⟩ (.t rfl) (vs := [_, _, _, _, _, _]) rfl (fun _ => hc)) rfl <| .z) fun a w S => st_m (op_alloc S zeroValue74 (cs := _) rfl rfl fun g2 a w S => st_m (op_stW S sizeOf74 (.t rfl) (.t rfl) (k := 0) rfl rfl rfl (by simp [Value.oneCell']) fun a w S => st_nil (then_normal (hK3 _ _ (wp_seq_k fun _ hK3 => sg S (.mv rfl <| .nt rfl <| .mv rfl <| .sk rfl rfl rfl <| .sk rfl rfl rfl <| .sk rfl rfl rfl <| .yy (ys_pickF (.t rfl) Ev.c) rfl <| .z) fun a w S => st_else S (.t rfl) (wp_skip (then_normal (hK3 _ _ (wp_region_lit (run S (.mv rfl <| .la gt74 0 rfl rfl rfl <| .z) fun a w S => st_m (op_bslice1 S underlying34 inf74 rfl rfl rfl (.t rfl) rfl rfl rfl fun g3 a w S => st_m (op_push S underlying34 inf74 rfl (k := 2) (j := 0) rfl (.t rfl) (.t rfl) rfl rfl rfl rfl (by first | omega | (simp only [List.length_append, List.length_cons, List.length_nil]; omega)) rfl rfl rfl fun A1 cap1 a w S => run S (.as rfl <| .z) fun a w S => st_nil (in_normal (then_normal (hK2 _ _ (wp_region_lit ?_))))))))))))))))))))))
      refine run S (.ad (by unfold I64; omega) rfl <| .mv rfl <| .z) fun a w S => st_nil (then_normal ?_)
      refine ⟨(k + 1, true, A1, cap1), ⟨by dsimp only; omega, fun _ => ?_, fun h => by cases h⟩, by dsimp only; omega, ?_⟩
      · obtain ⟨y, hy, hy2⟩ := hp1 rfl
        exact ⟨y, by rw [ht]; exact List.mem_append_left _ hy, hy2⟩
      · dsimp only; rw [hst]; exact S.pk
    | false =>
      by_cases hex : ltE e x
      · have hst : outE e (l.take (k + 1)) true = outE e (l.take k) false ++ [e] ++ [x] := by unfold outE; rw [ht, if_pos rfl, if_neg (by simp), insE_new (hp2 rfl) hex]; simp
        have rw_l : decide (ltE e x) = true := decide_eq_true hex
        generalize outE e (l.take k) false = O at *
        refine sg S (.lt (by omega) rfl rfl <| .z) fun a w S => wp_seq_k fun _ hK2 => st_then S (.t rfl) (wp_skip (then_normal (hK2 _ _ (wp_seq_k fun _ hK2 => wp_block (wp_seq_k fun _ hK3 => wp_region_lit (run S (.ix underlying34 sizeOf74 (by omega) rfl rfl <| .yy (ys_ldOA ⟨isAgg74, sizeOf74⟩ (.t rfl) (vs := [_, _, _, _, _, _]) rfl (fun _ => hc)) rfl <| .z) fun a w S => st_m (op_alloc S zeroValue74 (cs := _) rfl rfl fun g2 a w S => st_m (op_stW S sizeOf74 (.t rfl) (.t rfl) (k := 0) rfl rfl rfl (by simp [Value.oneCell']) fun a w S => st_nil (then_normal (hK3 _ _ (wp_seq_k fun _ hK3 => wp_seq_k fun _ hK4 => wp_region_lit (run S (.mv rfl <| .nt rfl <| .mv rfl <| .gy rfl rfl (ys_ldA ⟨isAgg74, sizeOf74⟩ (.t rfl) (k := 0) rfl rfl) <| .gy rfl rfl (ys_ldA ⟨isAgg74, sizeOf74⟩ (.t rfl) (k := 2) rfl rfl) <| .gx rfl rfl (ys_call call53 (.cons (.t rfl) (.cons (.t rfl) .nil)) (fun hp w W => c53 _ _ _)) <| .z) fun a w S => ?_))))))))))))
        rw [rw_l] at S
        refine run S (.yy (ys_pickT (.t rfl) (.t rfl)) rfl <| .z) fun a w S => st_nil (then_normal (hK4 _ _ (st_then S (.t rfl) (wp_seq_k fun _ hK4 => wp_region_lit (run S (.mv rfl <| .la gt74 2 rfl rfl rfl <| .z) fun a w S => st_m (op_bslice1 S underlying34 inf74 rfl rfl rfl (.t rfl) rfl rfl rfl fun g3 a w S => st_m (op_push S underlying34 inf74 rfl (k := 2) (j := 0) rfl (.t rfl) (.t rfl) rfl rfl rfl rfl (by first | omega | (simp only [List.length_append, List.length_cons, List.length_nil]; omega)) rfl rfl rfl fun A1 cap1 a w S => run S (.as rfl <| .z) fun a w S => st_nil (then_normal (hK4 _ _ (rg S (.ac rfl <| .z) hK3 fun a w S => wp_region_lit (run S (.mv rfl <| .la gt74 1 rfl rfl rfl <| .z) fun a w S => st_m (op_bslice1 S underlying34 inf74 rfl rfl rfl (.t rfl) rfl rfl rfl fun g4 a w S => st_m (op_push S underlying34 inf74 rfl (k := 3) (j := 0) rfl (.t rfl) (.t rfl) rfl rfl rfl rfl (by first | omega | (simp only [List.length_append, List.length_cons, List.length_nil]; omega)) rfl rfl rfl fun A2 cap2 a w S => run S (.as rfl <| .z) fun a w S => st_nil (in_normal (then_normal (hK2 _ _ (wp_region_lit (run S (.ad (by unfold I64; omega) rfl <| .mv rfl <| .z) fun a w S => st_nil (then_normal ?_)))))))))))))))))))
        refine ⟨(k + 1, true, A2, cap2), ⟨by dsimp only; omega, fun _ => ⟨x, by rw [ht]; simp, hex⟩, fun h => by cases h⟩, by dsimp only; omega, ?_⟩
        dsimp only; rw [hst]; exact S.pk
      · have hst : outE e (l.take (k + 1)) false = outE e (l.take k) false ++ [x] := by unfold outE; rw [ht, if_neg (by simp), if_neg (by simp)]
        have rw_l : decide (ltE e x) = false := decide_eq_false hex
        generalize outE e (l.take k) false = O at *
        refine sg S (.lt (by omega) rfl rfl <| .z) fun a w S => wp_seq_k fun _ hK2 => st_then S (.t rfl) (wp_skip (then_normal (hK2 _ _ (wp_seq_k fun _ hK2 => wp_block (wp_seq_k fun _ hK3 => wp_region_lit (run S (.ix underlying34 sizeOf74 (by omega) rfl rfl <| .yy (ys_ldOA ⟨isAgg74, sizeOf74⟩ (.t rfl) (vs := [_, _, _, _, _, _]) rfl (fun _ => hc)) rfl <| .z) fun a w S => st_m (op_alloc S zeroValue74 (cs := _) rfl rfl fun g2 a w S => st_m (op_stW S sizeOf74 (.t rfl) (.t rfl) (k := 0) rfl rfl rfl (by simp [Value.oneCell']) fun a w S => st_nil (then_normal (hK3 _ _ (wp_seq_k fun _ hK3 => wp_seq_k fun _ hK4 => wp_region_lit (run S (.mv rfl <| .nt rfl <| .mv rfl <| .gy rfl rfl (ys_ldA ⟨isAgg74, sizeOf74⟩ (.t rfl) (k := 0) rfl rfl) <| .gy rfl rfl (ys_ldA ⟨isAgg74, sizeOf74⟩ (.t rfl) (k := 2) rfl rfl) <| .gx rfl rfl (ys_call call53 (.cons (.t rfl) (.cons (.t rfl) .nil)) (fun hp w W => c53 _ _ _)) <| .z) fun a w S => ?_))))))))))))
        rw [rw_l] at S
        refine run S (.yy (ys_pickT (.t rfl) (.t rfl)) rfl <| .z) fun a w S => st_nil (then_normal (hK4 _ _ (st_else S (.t rfl) (wp_skip (then_normal (hK3 _ _ (wp_region_lit (run S (.mv rfl <| .la gt74 0 rfl rfl rfl <| .z) fun a w S => st_m (op_bslice1 S underlying34 inf74 rfl rfl rfl (.t rfl) rfl rfl rfl fun g3 a w S => st_m (op_push S underlying34 inf74 rfl (k := 2) (j := 0) rfl (.t rfl) (.t rfl) rfl rfl rfl rfl (by first | omega | (simp only [List.length_append, List.length_cons, List.length_nil]; omega)) rfl rfl rfl fun A1 cap1 a w S => run S (.as rfl <| .z) fun a w S => st_nil (in_normal (then_normal (hK2 _ _ (wp_region_lit (run S (.ad (by unfold I64; omega) rfl <| .mv rfl <| .z) fun a w S => st_nil (then_normal ?_))))))))))))))))
        refine ⟨(k + 1, false, A1, cap1), ⟨by dsimp only; omega, (fun h => by cases h), fun _ y hy => ?_⟩, by dsimp only; omega, ?_⟩
        · rw [ht] at hy
          rcases List.mem_append.1 hy with hy | hy
          · exact hp2 rfl y hy
          · simp at hy; exact hy ▸ hex
        · dsimp only; rw [hst]; exact S.pk
  · obtain rfl : k = l.length := by omega
    rw [List.take_length] at S hp1 hp2 hol
    cases put with
    | true =>
      have hst : outE e l true = insE e l := by unfold outE; rw [if_pos rfl]
      rw [hst] at S
      refine sg S (.ge (by omega) rfl rfl <| .z) fun a w S => wp_seq_k fun _ hK2 => st_else S (.t rfl) (wp_exit (then_exit (then_exit (in_here (then_normal (hK1 _ _ (wp_seq_k fun _ hK1 => sg S (.mv rfl <| .nt rfl <| .z) fun a w S => st_else S (.t rfl) (wp_skip (then_normal (hK1 _ _ (sg S (.mv rfl <| .as rfl <| .z) fun a w S => wp_ret (st_ret S (results1 S results62 (Rv.tmp rfl)) ?_))))))))))))
      exact ⟨_, _, rfl, S.wd.picks (L' := [rowOf 74 6 Ent.enc B cB (insE e l)]) (by repeat (first | exact Picks.nil | (refine Picks.rest ?_; (repeat (first | exact List.Sublist.refl _ | refine List.Sublist.cons_cons _ ?_ | refine List.Sublist.cons _ ?_)); done) | refine Picks.take 0 rfl ?_ | refine Picks.take 1 rfl ?_ | refine Picks.take 2 rfl ?_ | refine Picks.take 3 rfl ?_ | refine Picks.take 4 rfl ?_ | refine Picks.take 5 rfl ?_ | refine Picks.take 6 rfl ?_ | refine Picks.take 7 rfl ?_ | refine Picks.take 8 rfl ?_ | refine Picks.take 9 rfl ?_ | refine Picks.take 10 rfl ?_ | refine Picks.take 11 rfl ?_)), _, _, rfl, rfl⟩
    | false =>
      have hst : insE e l = outE e l false ++ [e] := by unfold outE; rw [if_neg (by simp), insE_none (hp2 rfl)]
      generalize outE e l false = O at *
      refine sg S (.ge (by omega) rfl rfl <| .z) fun a w S => wp_seq_k fun _ hK2 => st_else S (.t rfl) (wp_exit (then_exit (then_exit (in_here (then_normal (hK1 _ _ (wp_seq_k fun _ hK1 => sg S (.mv rfl <| .nt rfl <| .z) fun a w S => st_then S (.t rfl) (wp_region_lit (run S (.mv rfl <| .la gt74 1 rfl rfl rfl <| .z) fun a w S => st_m (op_bslice1 S underlying34 inf74 rfl rfl rfl (.t rfl) rfl rfl rfl fun g2 a w S => st_m (op_push S underlying34 inf74 rfl (k := 1) (j := 0) rfl (.t rfl) (.t rfl) rfl rfl rfl rfl (by first | omega | (simp only [List.length_append, List.length_cons, List.length_nil]; omega)) rfl rfl rfl fun A1 cap1 a w S => run S (.as rfl <| .z) fun a w S => st_nil (then_normal (hK1 _ _ (sg S (.mv rfl <| .as rfl <| .z) fun a w S => wp_ret (st_ret S (results1 S results62 (Rv.tmp rfl)) ?_)))))))))))))))
      exact ⟨_, _, rfl, S.wd.picks (L' := [rowOf 74 6 Ent.enc A1 cap1 (O ++ [e])]) (by repeat (first | exact Picks.nil | (refine Picks.rest ?_; (repeat (first | exact List.Sublist.refl _ | refine List.Sublist.cons_cons _ ?_ | refine List.Sublist.cons _ ?_)); done) | refine Picks.take 0 rfl ?_ | refine Picks.take 1 rfl ?_ | refine Picks.take 2 rfl ?_ | refine Picks.take 3 rfl ?_ | refine Picks.take 4 rfl ?_ | refine Picks.take 5 rfl ?_ | refine Picks.take 6 rfl ?_ | refine Picks.take 7 rfl ?_ | refine Picks.take 8 rfl ?_ | refine Picks.take 9 rfl ?_ | refine Picks.take 10 rfl ?_ | refine Picks.take 11 rfl ?_)), A1, cap1, by rw [hst], by rw [hst]⟩
end Go.Proofs.Ytfblmkocmnbdcaa
set_option linter.unusedVariables false
set_option linter.unusedSimpArgs false
set_option maxRecDepth 100000
set_option maxHeartbeats 4000000
namespace Go.Proofs.Ytfblmkocmnbdcaa
open Go.Fw Go.Proofs Go.RowKit Go.Proofs.Try
theorem c60 (w0 : World) (v1 v2 v3 v4 : Value) (C D : Ctx) (h : RdCtx w0 w0.heap.size v1 v2 C) (h' : RdCtx w0 w0.heap.size v3 v4 D) :
    Rets Try.prog 60 #[.agg #[v1, v2], .agg #[v3, v4]] w0 fun v L => ∃ A1 r1 A2 r2, v = .tuple #[.agg #[.slice A1 (joinL C D).1.marks.length r1, .slice A2 (joinL C D).1.cloud.length r2], .int .i64 (joinL C D).2] ∧
      L = [rowOf 110 3 Dot.enc A1 r1 (joinL C D).1.marks, rowOf 62 3 Dot.enc A2 r2 (joinL C D).1.cloud] := by
  obtain ⟨h1, h2⟩ := id h
  obtain ⟨h3, h4⟩ := id h'
  obtain ⟨B1, q1, rfl, _⟩ := id h1
  obtain ⟨B2, q2, rfl, _⟩ := id h2
  obtain ⟨B3, q3, rfl, _⟩ := id h3
  obtain ⟨B4, q4, rfl, _⟩ := id h4
  by_cases hC : canL C = true
  · by_cases hD : canL D = true
    · have hc1 := can_len hC
      have hd1 := can_len hD
      have hj1 : (C.marks ++ D.marks).length ≤ 1900000 := by rw [List.length_append]; omega
      have hj2 : (C.cloud ++ D.cloud).length ≤ 1900000 := by rw [List.length_append]; omega
      have rw_c := hC
      have rw_d := hD
      have e : joinL C D = normalL (C.marks ++ D.marks) (C.cloud ++ D.cloud) := by unfold joinL; rw [hC, hD]; rfl
      unfold Go.Fw.Rets
      refine enter2 func60 rfl ntmps60 rfl fun a S => wp_seq_k fun _ hK1 => wp_region_lit (st_m (op_box S (.t rfl) rfl fun g1 a w S => st_m (op_box S (.t rfl) rfl fun g2 a w S => st_m (op_alloc S zeroValue38 (cs := _) rfl rfl fun g3 a w S => run S (.ac rfl <| .z) fun a w S => st_nil (then_normal (hK1 _ _ (wp_seq_k fun _ hK1 => wp_seq_k fun _ hK2 => wp_region_lit (run S (.la gt38 2 rfl rfl rfl <| .xx (ys_call call48 (.cons (.t rfl) .nil) (fun hp w W => c48 _ _ _ _ (by exact .old W (by assumption)))) rfl <| .z) fun a w S => ?_))))))))
      rw [rw_c] at S
      refine run S (.nt rfl <| .mv rfl <| .gy rfl rfl (ys_ldA ⟨isAgg38, sizeOf38⟩ (.t rfl) (k := 1) rfl rfl) <| .gx rfl rfl (ys_call call48 (.cons (.t rfl) .nil) (fun hp w W => c48 _ _ _ _ (by exact .old W (by assumption)))) <| .z) fun a w S => ?_
      rw [rw_d] at S
      refine run S (.gy rfl rfl (ys_not (.t rfl)) <| .yy (ys_pickF (.t rfl) (.t rfl)) rfl <| .z) fun a w S => st_nil (then_normal (hK2 _ _ (st_else S (.t rfl) (wp_skip (then_normal (hK1 _ _ (wp_seq_k fun _ hK1 => h_beginE S (by kernel_rfl) 0 fun a w S => hy 1 S rfl (ys_fieldN (FieldT.mk underlying38 rfl sizeOf35 rfl) (.t rfl) (i' := 0) rfl) rfl fun a w S => hy 2 S rfl (ys_ld ⟨isAgg35, sizeOf35⟩ (.t rfl) (k := 1) rfl rfl) rfl fun a w S => hy 4 S rfl (ys_fieldN (FieldT.mk underlying38 rfl sizeOf35 rfl) (.t rfl) (i' := 0) rfl) rfl fun a w S => hy 5 S rfl (ys_ld ⟨isAgg35, sizeOf35⟩ (.t rfl) (k := 0) rfl rfl) rfl fun a w S => ?_)))))))
      refine hy 8 S rfl (ys_fieldN (FieldT.mk underlying38 rfl sizeOf36 rfl) (.t rfl) (i' := 1) rfl) rfl fun a w S => hy 9 S rfl (ys_ld ⟨isAgg36, sizeOf36⟩ (.t rfl) (k := 1) rfl rfl) rfl fun a w S => hy 11 S rfl (ys_fieldN (FieldT.mk underlying38 rfl sizeOf36 rfl) (.t rfl) (i' := 1) rfl) rfl fun a w S => hy 12 S rfl (ys_ld ⟨isAgg36, sizeOf36⟩ (.t rfl) (k := 0) rfl rfl) rfl fun a w S => ?_
      refine h_split (i := 0) (j := 7) (by kernel_rfl) rfl rfl ?_ ?_
      (refine op_bslice0 S underlying35 sizeOf110 rfl ?_; clear S a w; intro g4 a w S; refine h_n1 S ?_)
      refine h_split (i := 3) (j := 7) (by kernel_rfl) rfl rfl ?_ ?_
      (refine op_extend _ (S.nil_ 110 _ Go.Fw.Dot.enc _) underlying35 underlying35 (.inr ⟨_, rfl⟩) inf110 rfl (k := 0) rfl (.t rfl) (.t rfl) (Src.sl (Sl.old S.wd h1) (by decide) Go.Fw.Dot.enc_len Go.Fw.Dot.enc_one) (by first | omega | (simp only [List.length_append, List.length_cons, List.length_nil]; omega) | (simp; omega)) rfl rfl rfl ?_; clear S a w; intro A1 cap1 a w S; refine h_n1 S ?_)
      simp only [List.nil_append] at S
      refine h_split (i := 6) (j := 7) (by kernel_rfl) rfl rfl ?_ ?_
      (refine op_extend _ S underlying35 underlying35 (.inr ⟨_, rfl⟩) inf110 rfl (k := 0) rfl (.t rfl) (.t rfl) (Src.sl (Sl.old S.wd h3) (by decide) Go.Fw.Dot.enc_len Go.Fw.Dot.enc_one) (by first | omega | (simp only [List.length_append, List.length_cons, List.length_nil]; omega) | (simp; omega)) rfl rfl rfl ?_; clear S a w; intro A2 cap2 a w S; refine h_n1 S ?_)
      (refine h_m (i := 7) rfl (by kernel_rfl) (op_bslice0 S underlying36 sizeOf62 rfl ?_); clear S a w; intro g5 a w S; refine h_n1 S ?_)
      (refine h_m (i := 10) rfl (by kernel_rfl) (op_extend _ (S.nil_ 62 _ Go.Fw.Dot.enc _) underlying36 underlying36 (.inr ⟨_, rfl⟩) inf62 rfl (k := 0) rfl (.t rfl) (.t rfl) (Src.sl (Sl.old S.wd h2) (by decide) Go.Fw.Dot.enc_len Go.Fw.Dot.enc_one) (by first | omega | (simp only [List.length_append, List.length_cons, List.length_nil]; omega) | (simp; omega)) rfl rfl rfl ?_); clear S a w; intro A3 cap3 a w S; refine h_n1 S ?_)
      simp only [List.nil_append] at S
      (refine h_m (i := 13) rfl (by kernel_rfl) (op_extend _ S underlying36 underlying36 (.inr ⟨_, rfl⟩) inf62 rfl (k := 0) rfl (.t rfl) (.t rfl) (Src.sl (Sl.old S.wd h4) (by decide) Go.Fw.Dot.enc_len Go.Fw.Dot.enc_one) (by first | omega | (simp only [List.length_append, List.length_cons, List.length_nil]; omega) | (simp; omega)) rfl rfl rfl ?_); clear S a w; intro A4 cap4 a w S; refine h_n1 S ?_)
      (refine h_m (i := 14) rfl (by kernel_rfl) (op_calls S call109 (.cons (.t rfl) (.cons (.t rfl) .nil)) (c109 _ _ _ _ _ (by exact Sl.of_own S.wd (k := 1) rfl (fun _ => rfl)) (by exact Sl.of_own S.wd (k := 0) rfl (fun _ => rfl)) (by assumption) (by assumption)) rfl ?_); clear S a w; rintro _ _ ⟨A11, c11, A21, c21, rfl, rfl⟩ a w S; refine h_n1 S ?_)
      refine hy 15 S rfl (ys_ext (.t rfl) rfl) rfl fun a w S => hy 16 S rfl (ys_ext (.t rfl) rfl) rfl fun a w S => ?_
      (refine h_m0 (i := 17) rfl (by kernel_rfl) (op_stW S sizeOf38 (.t rfl) (.t rfl) (k := 4) rfl rfl rfl (by simp [Value.oneCell']) ?_); clear S a w; intro a w S; refine h_n1 S ?_)
      refine hy 18 S rfl (ys_assign (.t rfl)) rfl fun a w S => h_done (by kernel_rfl) (then_normal (hK1 _ _ (wp_ret (st_ret S (results2 S results60 (Rv.cell (k := 4) ⟨isAgg38, sizeOf38⟩ rfl rfl rfl) (Rv.tmp rfl)) ?_))))
      rotate_left
      (refine op_bslice0 S underlying36 sizeOf62 rfl ?_; clear S a w; intro g5 a w S; refine h_n1 S ?_)
      (refine h_m (i := 6) rfl (by kernel_rfl) (op_extend _ S underlying35 underlying35 (.inr ⟨_, rfl⟩) inf110 rfl (k := 0) rfl (.t rfl) (.t rfl) (Src.sl (Sl.old S.wd h3) (by decide) Go.Fw.Dot.enc_len Go.Fw.Dot.enc_one) (by first | omega | (simp only [List.length_append, List.length_cons, List.length_nil]; omega) | (simp; omega)) rfl rfl rfl ?_); clear S a w; intro A2 cap2 a w S; refine h_n1 S ?_)
      (refine h_m (i := 10) rfl (by kernel_rfl) (op_extend _ (S.nil_ 62 _ Go.Fw.Dot.enc _) underlying36 underlying36 (.inr ⟨_, rfl⟩) inf62 rfl (k := 0) rfl (.t rfl) (.t rfl) (Src.sl (Sl.old S.wd h2) (by decide) Go.Fw.Dot.enc_len Go.Fw.Dot.enc_one) (by first | omega | (simp only [List.length_append, List.length_cons, List.length_nil]; omega) | (simp; omega)) rfl rfl rfl ?_); clear S a w; intro A3 cap3 a w S; refine h_n1 S ?_)
      simp only [List.nil_append] at S
      (refine h_m (i := 13) rfl (by kernel_rfl) (op_extend _ S underlying36 underlying36 (.inr ⟨_, rfl⟩) inf62 rfl (k := 0) rfl (.t rfl) (.t rfl) (Src.sl (Sl.old S.wd h4) (by decide) Go.Fw.Dot.enc_len Go.Fw.Dot.enc_one) (by first | omega | (simp only [List.length_append, List.length_cons, List.length_nil]; omega) | (simp; omega)) rfl rfl rfl ?_); clear S a w; intro A4 cap4 a w S; refine h_n1 S ?_)
      (refine h_m (i := 14) rfl (by kernel_rfl) (op_calls S call109 (.cons (.t rfl) (.cons (.t rfl) .nil)) (c109 _ _ _ _ _ (by exact Sl.of_own S.wd (k := 1) rfl (fun _ => rfl)) (by exact Sl.of_own S.wd (k := 0) rfl (fun _ => rfl)) (by assumption) (by assumption)) rfl ?_); clear S a w; rintro _ _ ⟨A11, c11, A21, c21, rfl, rfl⟩ a w S; refine h_n1 S ?_)
      refine hy 15 S rfl (ys_ext (.t rfl) rfl) rfl fun a w S => hy 16 S rfl (ys_ext (.t rfl) rfl) rfl fun a w S => ?_
      (refine h_m0 (i := 17) rfl (by kernel_rfl) (op_stW S sizeOf38 (.t rfl) (.t rfl) (k := 4) rfl rfl rfl (by simp [Value.oneCell']) ?_); clear S a w; intro a w S; refine h_n1 S ?_)
      refine hy 18 S rfl (ys_assign (.t rfl)) rfl fun a w S => h_done (by kernel_rfl) (then_normal (hK1 _ _ (wp_ret (st_ret S (results2 S results60 (Rv.cell (k := 4) ⟨isAgg38, sizeOf38⟩ rfl rfl rfl) (Rv.tmp rfl)) ?_))))
      rotate_left
      (refine op_bslice0 S underlying36 sizeOf62 rfl ?_; clear S a w; intro g5 a w S; refine h_n1 S ?_)
      (refine h_m (i := 3) rfl (by kernel_rfl) (op_extend _ (S.nil_ 110 _ Go.Fw.Dot.enc _) underlying35 underlying35 (.inr ⟨_, rfl⟩) inf110 rfl (k := 0) rfl (.t rfl) (.t rfl) (Src.sl (Sl.old S.wd h1) (by decide) Go.Fw.Dot.enc_len Go.Fw.Dot.enc_one) (by first | omega | (simp only [List.length_append, List.length_cons, List.length_nil]; omega) | (simp; omega)) rfl rfl rfl ?_); clear S a w; intro A1 cap1 a w S; refine h_n1 S ?_)
      simp only [List.nil_append] at S
      (refine h_m (i := 6) rfl (by kernel_rfl) (op_extend _ S underlying35 underlying35 (.inr ⟨_, rfl⟩) inf110 rfl (k := 0) rfl (.t rfl) (.t rfl) (Src.sl (Sl.old S.wd h3) (by decide) Go.Fw.Dot.enc_len Go.Fw.Dot.enc_one) (by first | omega | (simp only [List.length_append, List.length_cons, List.length_nil]; omega) | (simp; omega)) rfl rfl rfl ?_); clear S a w; intro A2 cap2 a w S; refine h_n1 S ?_)
      (refine h_m (i := 10) rfl (by kernel_rfl) (op_extend _ (S.nil_ 62 _ Go.Fw.Dot.enc _) underlying36 underlying36 (.inr ⟨_, rfl⟩) inf62 rfl (k := 0) rfl (.t rfl) (.t rfl) (Src.sl (Sl.old S.wd h2) (by decide) Go.Fw.Dot.enc_len Go.Fw.Dot.enc_one) (by first | omega | (simp only [List.length_append, List.length_cons, List.length_nil]; omega) | (simp; omega)) rfl rfl rfl ?_); clear S a w; intro A3 cap3 a w S; refine h_n1 S ?_)
      simp only [List.nil_append] at S
      (refine h_m (i := 13) rfl (by kernel_rfl) (op_extend _ S underlying36 underlying36 (.inr ⟨_, rfl⟩) inf62 rfl (k := 0) rfl (.t rfl) (.t rfl) (Src.sl (Sl.old S.wd h4) (by decide) Go.Fw.Dot.enc_len Go.Fw.Dot.enc_one) (by first | omega | (simp only [List.length_append, List.length_cons, List.length_nil]; omega) | (simp; omega)) rfl rfl rfl ?_); clear S a w; intro A4 cap4 a w S; refine h_n1 S ?_)
      (refine h_m (i := 14) rfl (by kernel_rfl) (op_calls S call109 (.cons (.t rfl) (.cons (.t rfl) .nil)) (c109 _ _ _ _ _ (by exact Sl.of_own S.wd (k := 1) rfl (fun _ => rfl)) (by exact Sl.of_own S.wd (k := 0) rfl (fun _ => rfl)) (by assumption) (by assumption)) rfl ?_); clear S a w; rintro _ _ ⟨A11, c11, A21, c21, rfl, rfl⟩ a w S; refine h_n1 S ?_)
      refine hy 15 S rfl (ys_ext (.t rfl) rfl) rfl fun a w S => hy 16 S rfl (ys_ext (.t rfl) rfl) rfl fun a w S => ?_
      (refine h_m0 (i := 17) rfl (by kernel_rfl) (op_stW S sizeOf38 (.t rfl) (.t rfl) (k := 4) rfl rfl rfl (by simp [Value.oneCell']) ?_); clear S a w; intro a w S; refine h_n1 S ?_)
      refine hy 18 S rfl (ys_assign (.t rfl)) rfl fun a w S => h_done (by kernel_rfl) (then_normal (hK1 _ _ (wp_ret (st_ret S (results2 S results60 (Rv.cell (k := 4) ⟨isAgg38, sizeOf38⟩ rfl rfl rfl) (Rv.tmp rfl)) ?_))))
      rotate_left
      (refine op_bslice0 S underlying36 sizeOf62 rfl ?_; clear S a w; intro g4 a w S; refine h_n1 S ?_)
      (refine h_m (i := 0) rfl (by kernel_rfl) (op_bslice0 S underlying35 sizeOf110 rfl ?_); clear S a w; intro g5 a w S; refine h_n1 S ?_)
      (refine h_m (i := 3) rfl (by kernel_rfl) (op_extend _ (S.nil_ 110 _ Go.Fw.Dot.enc _) underlying35 underlying35 (.inr ⟨_, rfl⟩) inf110 rfl (k := 0) rfl (.t rfl) (.t rfl) (Src.sl (Sl.old S.wd h1) (by decide) Go.Fw.Dot.enc_len Go.Fw.Dot.enc_one) (by first | omega | (simp only [List.length_append, List.length_cons, List.length_nil]; omega) | (simp; omega)) rfl rfl rfl ?_); clear S a w; intro A1 cap1 a w S; refine h_n1 S ?_)
      simp only [List.nil_append] at S
      (refine h_m (i := 6) rfl (by kernel_rfl) (op_extend _ S underlying35 underlying35 (.inr ⟨_, rfl⟩) inf110 rfl (k := 0) rfl (.t rfl) (.t rfl) (Src.sl (Sl.old S.wd h3) (by decide) Go.Fw.Dot.enc_len Go.Fw.Dot.enc_one) (by first | omega | (simp only [List.length_append, List.length_cons, List.length_nil]; omega) | (simp; omega)) rfl rfl rfl ?_); clear S a w; intro A2 cap2 a w S; refine h_n1 S ?_)
      (refine h_m (i := 10) rfl (by kernel_rfl) (op_extend _ (S.nil_ 62 _ Go.Fw.Dot.enc _) underlying36 underlying36 (.inr ⟨_, rfl⟩) inf62 rfl (k := 0) rfl (.t rfl) (.t rfl) (Src.sl (Sl.old S.wd h2) (by decide) Go.Fw.Dot.enc_len Go.Fw.Dot.enc_one) (by first | omega | (simp only [List.length_append, List.length_cons, List.length_nil]; omega) | (simp; omega)) rfl rfl rfl ?_); clear S a w; intro A3 cap3 a w S; refine h_n1 S ?_)
      simp only [List.nil_append] at S
      (refine h_m (i := 13) rfl (by kernel_rfl) (op_extend _ S underlying36 underlying36 (.inr ⟨_, rfl⟩) inf62 rfl (k := 0) rfl (.t rfl) (.t rfl) (Src.sl (Sl.old S.wd h4) (by decide) Go.Fw.Dot.enc_len Go.Fw.Dot.enc_one) (by first | omega | (simp only [List.length_append, List.length_cons, List.length_nil]; omega) | (simp; omega)) rfl rfl rfl ?_); clear S a w; intro A4 cap4 a w S; refine h_n1 S ?_)
      (refine h_m (i := 14) rfl (by kernel_rfl) (op_calls S call109 (.cons (.t rfl) (.cons (.t rfl) .nil)) (c109 _ _ _ _ _ (by exact Sl.of_own S.wd (k := 1) rfl (fun _ => rfl)) (by exact Sl.of_own S.wd (k := 0) rfl (fun _ => rfl)) (by assumption) (by assumption)) rfl ?_); clear S a w; rintro _ _ ⟨A11, c11, A21, c21, rfl, rfl⟩ a w S; refine h_n1 S ?_)
      refine hy 15 S rfl (ys_ext (.t rfl) rfl) rfl fun a w S => hy 16 S rfl (ys_ext (.t rfl) rfl) rfl fun a w S => ?_
      (refine h_m0 (i := 17) rfl (by kernel_rfl) (op_stW S sizeOf38 (.t rfl) (.t rfl) (k := 4) rfl rfl rfl (by simp [Value.oneCell']) ?_); clear S a w; intro a w S; refine h_n1 S ?_)
      refine hy 18 S rfl (ys_assign (.t rfl)) rfl fun a w S => h_done (by kernel_rfl) (then_normal (hK1 _ _ (wp_ret (st_ret S (results2 S results60 (Rv.cell (k := 4) ⟨isAgg38, sizeOf38⟩ rfl rfl rfl) (Rv.tmp rfl)) ?_))))
      rotate_left
      all_goals rw [e]
      all_goals exact ⟨_, _, rfl, S.wd.sub (by repeat (first | exact List.Sublist.refl _ | exact List.nil_sublist _ | refine .cons_cons _ ?_ | refine .cons _ ?_)), _, _, _, _, rfl, rfl⟩
    · have hD : canL D = false := by simpa using hD
      have rw_c := hC
      have rw_d := hD
      unfold Go.Fw.Rets
      refine enter2 func60 rfl ntmps60 rfl fun a S => wp_seq_k fun _ hK1 => wp_region_lit (st_m (op_box S (.t rfl) rfl fun g1 a w S => st_m (op_box S (.t rfl) rfl fun g2 a w S => st_m (op_alloc S zeroValue38 (cs := _) rfl rfl fun g3 a w S => run S (.ac rfl <| .z) fun a w S => st_nil (then_normal (hK1 _ _ (wp_seq_k fun _ hK1 => wp_seq_k fun _ hK2 => wp_region_lit (run S (.la gt38 2 rfl rfl rfl <| .xx (ys_call call48 (.cons (.t rfl) .nil) (fun hp w W => c48 _ _ _ _ (by exact .old W (by assumption)))) rfl <| .z) fun a w S => ?_))))))))
      rw [rw_c] at S
      refine run S (.nt rfl <| .mv rfl <| .gy rfl rfl (ys_ldA ⟨isAgg38, sizeOf38⟩ (.t rfl) (k := 1) rfl rfl) <| .gx rfl rfl (ys_call call48 (.cons (.t rfl) .nil) (fun hp w W => c48 _ _ _ _ (by exact .old W (by assumption)))) <| .z) fun a w S => ?_
      rw [rw_d] at S
      refine run S (.gy rfl rfl (ys_not (.t rfl)) <| .yy (ys_pickF (.t rfl) (.t rfl)) rfl <| .z) fun a w S => st_nil (then_normal (hK2 _ _ (st_then S (.t rfl) (wp_seq_k fun _ hK2 => wp_region_lit (run S (.yy (ys_bld (ps := []) (us := [_, _]) bld38 .nil rfl) rfl <| .z) fun a w S => st_m (op_stW S sizeOf38 (.t rfl) (.t rfl) (k := 0) rfl rfl rfl (by simp [Value.oneCell']) fun a w S => run S (.ac rfl <| .z) fun a w S => st_nil (then_normal (hK2 _ _ (wp_ret (then_ret (st_ret S (results2 S results60 (Rv.cell (k := 0) ⟨isAgg38, sizeOf38⟩ rfl rfl rfl) (Rv.tmp rfl)) ?_)))))))))))
      have e : joinL C D = (⟨[], []⟩, 30) := by unfold joinL; rw [hC, hD]; rfl
      rw [e]
      exact ⟨_, _, rfl, ((S.nil_ 62 3 Dot.enc none).nil_ 110 3 Dot.enc none).wd.sub (by repeat (first | exact List.Sublist.refl _ | exact List.nil_sublist _ | refine .cons_cons _ ?_ | refine .cons _ ?_)), none, 0, none, 0, rfl, rfl⟩
  · have hC : canL C = false := by simpa using hC
    have rw_c := hC
    unfold Go.Fw.Rets
    refine enter2 func60 rfl ntmps60 rfl fun a S => wp_seq_k fun _ hK1 => wp_region_lit (st_m (op_box S (.t rfl) rfl fun g1 a w S => st_m (op_box S (.t rfl) rfl fun g2 a w S => st_m (op_alloc S zeroValue38 (cs := _) rfl rfl fun g3 a w S => run S (.ac rfl <| .z) fun a w S => st_nil (then_normal (hK1 _ _ (wp_seq_k fun _ hK1 => wp_seq_k fun _ hK2 => wp_region_lit (run S (.la gt38 2 rfl rfl rfl <| .xx (ys_call call48 (.cons (.t rfl) .nil) (fun hp w W => c48 _ _ _ _ (by exact .old W (by assumption)))) rfl <| .z) fun a w S => ?_))))))))
    rw [rw_c] at S
    refine run S (.nt rfl <| .mv rfl <| .sk rfl rfl rfl <| .sk rfl rfl rfl <| .sk rfl rfl rfl <| .yy (ys_pickT (.t rfl) Ev.c) rfl <| .z) fun a w S => st_nil (then_normal (hK2 _ _ (st_then S (.t rfl) (wp_seq_k fun _ hK2 => wp_region_lit (run S (.yy (ys_bld (ps := []) (us := [_, _]) bld38 .nil rfl) rfl <| .z) fun a w S => st_m (op_stW S sizeOf38 (.t rfl) (.t rfl) (k := 0) rfl rfl rfl (by simp [Value.oneCell']) fun a w S => run S (.ac rfl <| .z) fun a w S => st_nil (then_normal (hK2 _ _ (wp_ret (then_ret (st_ret S (results2 S results60 (Rv.cell (k := 0) ⟨isAgg38, sizeOf38⟩ rfl rfl rfl) (Rv.tmp rfl)) ?_)))))))))))
    have e : joinL C D = (⟨[], []⟩, 30) := by unfold joinL; rw [hC]; rfl
    rw [e]
    exact ⟨_, _, rfl, ((S.nil_ 62 3 Dot.enc none).nil_ 110 3 Dot.enc none).wd.sub (by repeat (first | exact List.Sublist.refl _ | exact List.nil_sublist _ | refine .cons_cons _ ?_ | refine .cons _ ?_)), none, 0, none, 0, rfl, rfl⟩
theorem c64 (w0 : World) (v1 v2 : Value) (C : Ctx) (x y z : Int) (h : RdCtx w0 w0.heap.size v1 v2 C) :
    Rets Try.prog 64 #[.agg #[v1, v2], .agg #[.int .i64 x, .int .i64 y, .int .i64 z]] w0 fun v L => ∃ A1 r1 A2 r2, v = .tuple #[.agg #[.slice A1 (addL C ⟨x, y, z⟩).1.marks.length r1, .slice A2 (addL C ⟨x, y, z⟩).1.cloud.length r2], .int .i64 (addL C ⟨x, y, z⟩).2] ∧
      L = [rowOf 110 3 Dot.enc A1 r1 (addL C ⟨x, y, z⟩).1.marks, rowOf 62 3 Dot.enc A2 r2 (addL C ⟨x, y, z⟩).1.cloud] := by
  obtain ⟨h1, h2⟩ := id h
  obtain ⟨B1, q1, rfl, _⟩ := id h1
  obtain ⟨B2, q2, rfl, _⟩ := id h2
  cases rw_c : canL C with
  | true =>
    have hc1 := can_len rw_c
    have hj : (C.cloud ++ [(⟨x, y, z⟩ : Dot)]).length ≤ 1900000 := by simp; omega
    have e : addL C ⟨x, y, z⟩ = normalL C.marks (C.cloud ++ [⟨x, y, z⟩]) := by
      unfold addL
      rw [rw_c]
      cases hd : mayD ⟨x, y, z⟩ with
      | true => rfl
      | false => exact (normalL_bad2 (k := C.cloud.length) (by simp) hd).symm
    unfold Go.Fw.Rets
    refine enter2 func64 rfl ntmps64 rfl fun a S => wp_seq_k fun _ hK1 => wp_region_lit (st_m (op_box S (.t rfl) rfl fun g1 a w S => st_m (op_box S (.t rfl) rfl fun g2 a w S => st_m (op_alloc S zeroValue38 (cs := _) rfl rfl fun g3 a w S => run S (.ac rfl <| .z) fun a w S => st_nil (then_normal (hK1 _ _ (wp_seq_k fun _ hK1 => wp_seq_k fun _ hK2 => wp_region_lit (run S (.la gt38 2 rfl rfl rfl <| .xx (ys_call call48 (.cons (.t rfl) .nil) (fun hp w W => c48 _ _ _ _ (by exact .old W (by assumption)))) rfl <| .z) fun a w S => ?_))))))))
    rw [rw_c] at S
    refine run S (.nt rfl <| .z) fun a w S => st_nil (then_normal (hK2 _ _ (st_else S (.t rfl) (wp_skip (then_normal (hK1 _ _ (wp_seq_k fun _ hK1 => h_beginE S (by kernel_rfl) 0 fun a w S => hy 0 S rfl (ys_fieldN (FieldT.mk underlying38 rfl sizeOf35 rfl) (.t rfl) (i' := 0) rfl) rfl fun a w S => hy 1 S rfl (ys_ld ⟨isAgg35, sizeOf35⟩ (.t rfl) (k := 1) rfl rfl) rfl fun a w S => hy 3 S rfl (ys_fieldN (FieldT.mk underlying38 rfl sizeOf36 rfl) (.t rfl) (i' := 1) rfl) rfl fun a w S => hy 4 S rfl (ys_ld ⟨isAgg36, sizeOf36⟩ (.t rfl) (k := 1) rfl rfl) rfl fun a w S => ?_)))))))
    refine hy 6 S rfl (ys_ldA ⟨isAgg62, sizeOf62⟩ (.t rfl) (k := 0) rfl rfl) rfl fun a w S => ?_
    refine h_split (i := 2) (j := 7) (by kernel_rfl) rfl rfl ?_ ?_
    (refine op_bslice0 S underlying36 sizeOf62 rfl ?_; clear S a w; intro g4 a w S; refine h_n1 S ?_)
    refine h_split (i := 5) (j := 7) (by kernel_rfl) rfl rfl ?_ ?_
    (refine op_extend _ (S.nil_ 62 _ Go.Fw.Dot.enc _) underlying36 underlying36 (.inr ⟨_, rfl⟩) inf62 rfl (k := 0) rfl (.t rfl) (.t rfl) (Src.sl (Sl.old S.wd h2) (by decide) Go.Fw.Dot.enc_len Go.Fw.Dot.enc_one) (by first | omega | (simp only [List.length_append, List.length_cons, List.length_nil]; omega) | (simp; omega)) rfl rfl rfl ?_; clear S a w; intro A1 cap1 a w S; refine h_n1 S ?_)
    simp only [List.nil_append] at S
    (refine h_m (i := 7) rfl (by kernel_rfl) (op_bslice1 S underlying36 inf62 rfl rfl rfl (.t rfl) rfl rfl rfl ?_); clear S a w; intro g5 a w S; refine h_n1 S ?_)
    (refine h_m (i := 8) rfl (by kernel_rfl) (op_push S underlying36 inf62 rfl (k := 1) (j := 0) rfl (.t rfl) (.t rfl) rfl Go.Fw.Dot.mkEnc rfl rfl (by first | omega | (simp only [List.length_append, List.length_cons, List.length_nil]; omega)) rfl rfl rfl ?_); clear S a w; intro A2 cap2 a w S; refine h_n1 S ?_)
    (refine h_m (i := 9) rfl (by kernel_rfl) (op_calls S call109 (.cons (.t rfl) (.cons (.t rfl) .nil)) (c109 _ _ _ _ _ (by exact .old S.wd (by assumption)) (by exact Sl.of_own S.wd (k := 1) rfl (fun _ => rfl)) (by omega) (by assumption)) rfl ?_); clear S a w; rintro _ _ ⟨A11, c11, A21, c21, rfl, rfl⟩ a w S; refine h_n1 S ?_)
    refine hy 10 S rfl (ys_ext (.t rfl) rfl) rfl fun a w S => hy 11 S rfl (ys_ext (.t rfl) rfl) rfl fun a w S => ?_
    (refine h_m0 (i := 12) rfl (by kernel_rfl) (op_stW S sizeOf38 (.t rfl) (.t rfl) (k := 4) rfl rfl rfl (by simp [Value.oneCell']) ?_); clear S a w; intro a w S; refine h_n1 S ?_)
    refine hy 13 S rfl (ys_assign (.t rfl)) rfl fun a w S => h_done (by kernel_rfl) (then_normal (hK1 _ _ (wp_ret (st_ret S (results2 S results64 (Rv.cell (k := 4) ⟨isAgg38, sizeOf38⟩ rfl rfl rfl) (Rv.tmp rfl)) ?_))))
    rotate_left
    (refine op_bslice1 S underlying36 inf62 rfl rfl rfl (.t rfl) rfl rfl rfl ?_; clear S a w; intro g5 a w S; refine h_n1 S ?_)
    (refine h_m (i := 5) rfl (by kernel_rfl) (op_extend _ (S.nil_ 62 _ Go.Fw.Dot.enc _) underlying36 underlying36 (.inr ⟨_, rfl⟩) inf62 rfl (k := 0) rfl (.t rfl) (.t rfl) (Src.sl (Sl.old S.wd h2) (by decide) Go.Fw.Dot.enc_len Go.Fw.Dot.enc_one) (by first | omega | (simp only [List.length_append, List.length_cons, List.length_nil]; omega) | (simp; omega)) rfl rfl rfl ?_); clear S a w; intro A1 cap1 a w S; refine h_n1 S ?_)
    simp only [List.nil_append] at S
    (refine h_m (i := 8) rfl (by kernel_rfl) (op_push S underlying36 inf62 rfl (k := 0) (j := 1) rfl (.t rfl) (.t rfl) rfl Go.Fw.Dot.mkEnc rfl rfl (by first | omega | (simp only [List.length_append, List.length_cons, List.length_nil]; omega)) rfl rfl rfl ?_); clear S a w; intro A2 cap2 a w S; refine h_n1 S ?_)
    (refine h_m (i := 9) rfl (by kernel_rfl) (op_calls S call109 (.cons (.t rfl) (.cons (.t rfl) .nil)) (c109 _ _ _ _ _ (by exact .old S.wd (by assumption)) (by exact Sl.of_own S.wd (k := 0) rfl (fun _ => rfl)) (by omega) (by assumption)) rfl ?_); clear S a w; rintro _ _ ⟨A11, c11, A21, c21, rfl, rfl⟩ a w S; refine h_n1 S ?_)
    refine hy 10 S rfl (ys_ext (.t rfl) rfl) rfl fun a w S => hy 11 S rfl (ys_ext (.t rfl) rfl) rfl fun a w S => ?_
    (refine h_m0 (i := 12) rfl (by kernel_rfl) (op_stW S sizeOf38 (.t rfl) (.t rfl) (k := 4) rfl rfl rfl (by simp [Value.oneCell']) ?_); clear S a w; intro a w S; refine h_n1 S ?_)
    refine hy 13 S rfl (ys_assign (.t rfl)) rfl fun a w S => h_done (by kernel_rfl) (then_normal (hK1 _ _ (wp_ret (st_ret S (results2 S results64 (Rv.cell (k := 4) ⟨isAgg38, sizeOf38⟩ rfl rfl rfl) (Rv.tmp rfl)) ?_))))
    rotate_left
    (refine op_bslice1 S underlying36 inf62 rfl rfl rfl (.t rfl) rfl rfl rfl ?_; clear S a w; intro g4 a w S; refine h_n1 S ?_)
    (refine h_m (i := 2) rfl (by kernel_rfl) (op_bslice0 S underlying36 sizeOf62 rfl ?_); clear S a w; intro g5 a w S; refine h_n1 S ?_)
    (refine h_m (i := 5) rfl (by kernel_rfl) (op_extend _ (S.nil_ 62 _ Go.Fw.Dot.enc _) underlying36 underlying36 (.inr ⟨_, rfl⟩) inf62 rfl (k := 0) rfl (.t rfl) (.t rfl) (Src.sl (Sl.old S.wd h2) (by decide) Go.Fw.Dot.enc_len Go.Fw.Dot.enc_one) (by first | omega | (simp only [List.length_append, List.length_cons, List.length_nil]; omega) | (simp; omega)) rfl rfl rfl ?_); clear S a w; intro A1 cap1 a w S; refine h_n1 S ?_)
    simp only [List.nil_append] at S
    (refine h_m (i := 8) rfl (by kernel_rfl) (op_push S underlying36 inf62 rfl (k := 0) (j := 1) rfl (.t rfl) (.t rfl) rfl Go.Fw.Dot.mkEnc rfl rfl (by first | omega | (simp only [List.length_append, List.length_cons, List.length_nil]; omega)) rfl rfl rfl ?_); clear S a w; intro A2 cap2 a w S; refine h_n1 S ?_)
    (refine h_m (i := 9) rfl (by kernel_rfl) (op_calls S call109 (.cons (.t rfl) (.cons (.t rfl) .nil)) (c109 _ _ _ _ _ (by exact .old S.wd (by assumption)) (by exact Sl.of_own S.wd (k := 0) rfl (fun _ => rfl)) (by omega) (by assumption)) rfl ?_); clear S a w; rintro _ _ ⟨A11, c11, A21, c21, rfl, rfl⟩ a w S; refine h_n1 S ?_)
    refine hy 10 S rfl (ys_ext (.t rfl) rfl) rfl fun a w S => hy 11 S rfl (ys_ext (.t rfl) rfl) rfl fun a w S => ?_
    (refine h_m0 (i := 12) rfl (by kernel_rfl) (op_stW S sizeOf38 (.t rfl) (.t rfl) (k := 4) rfl rfl rfl (by simp [Value.oneCell']) ?_); clear S a w; intro a w S; refine h_n1 S ?_)
    refine hy 13 S rfl (ys_assign (.t rfl)) rfl fun a w S => h_done (by kernel_rfl) (then_normal (hK1 _ _ (wp_ret (st_ret S (results2 S results64 (Rv.cell (k := 4) ⟨isAgg38, sizeOf38⟩ rfl rfl rfl) (Rv.tmp rfl)) ?_))))
    rotate_left
    all_goals rw [e]
    all_goals exact ⟨_, _, rfl, S.wd.sub (by repeat (first | exact List.Sublist.refl _ | exact List.nil_sublist _ | refine .cons_cons _ ?_ | refine .cons _ ?_)), _, _, _, _, rfl, rfl⟩
  | false =>
    unfold Go.Fw.Rets
    refine enter2 func64 rfl ntmps64 rfl fun a S => wp_seq_k fun _ hK1 => wp_region_lit (st_m (op_box S (.t rfl) rfl fun g1 a w S => st_m (op_box S (.t rfl) rfl fun g2 a w S => st_m (op_alloc S zeroValue38 (cs := _) rfl rfl fun g3 a w S => run S (.ac rfl <| .z) fun a w S => st_nil (then_normal (hK1 _ _ (wp_seq_k fun _ hK1 => wp_seq_k fun _ hK2 => wp_region_lit (run S (.la gt38 2 rfl rfl rfl <| .xx (ys_call call48 (.cons (.t rfl) .nil) (fun hp w W => c48 _ _ _ _ (by exact .old W (by assumption)))) rfl <| .z) fun a w S => ?_))))))))
    rw [rw_c] at S
    refine run S (.nt rfl <| .z) fun a w S => st_nil (then_normal (hK2 _ _ (st_then S (.t rfl) (wp_seq_k fun _ hK2 => wp_region_lit (run S (.yy (ys_bld (ps := []) (us := [_, _]) bld38 .nil rfl) rfl <| .z) fun a w S => st_m (op_stW S sizeOf38 (.t rfl) (.t rfl) (k := 0) rfl rfl rfl (by simp [Value.oneCell']) fun a w S => run S (.ac rfl <| .z) fun a w S => st_nil (then_normal (hK2 _ _ (wp_ret (then_ret (st_ret S (results2 S results64 (Rv.cell (k := 0) ⟨isAgg38, sizeOf38⟩ rfl rfl rfl) (Rv.tmp rfl)) ?_)))))))))))
    have e : addL C ⟨x, y, z⟩ = (⟨[], []⟩, 30) := by unfold addL; rw [rw_c]; rfl
    rw [e]
    exact ⟨_, _, rfl, ((S.nil_ 62 3 Dot.enc none).nil_ 110 3 Dot.enc none).wd.sub (by repeat (first | exact List.Sublist.refl _ | exact List.nil_sublist _ | refine .cons_cons _ ?_ | refine .cons _ ?_)), none, 0, none, 0, rfl, rfl⟩
end Go.Proofs.Ytfblmkocmnbdcaa
set_option linter.unusedVariables false
set_option linter.unusedSimpArgs false
set_option maxRecDepth 100000
set_option maxHeartbeats 4000000
namespace Go.Fw
theorem otherE_no {s : List UInt8} {l : List Ent} {k : Nat} {x : Ent} (h : l[k]? = some x) (hs : x.item = s) : otherE s (l.take (k + 1)) = otherE s (l.take k) := by
  rw [List.take_add_one, h, Option.toList_some]
  unfold otherE
  simp [hs]
theorem otherE_yes {s : List UInt8} {l : List Ent} {k : Nat} {x : Ent} (h : l[k]? = some x) (hs : x.item ≠ s) : otherE s (l.take (k + 1)) = otherE s (l.take k) ++ [x] := by
  rw [List.take_add_one, h, Option.toList_some]
  unfold otherE
  simp [hs]
theorem otherE_len (s : List UInt8) (l : List Ent) (k : Nat) : (otherE s (l.take k)).length ≤ l.length := by
  have h1 := List.length_filter_le (fun x : Ent => !decide (x.item = s)) (l.take k)
  have h2 : (l.take k).length ≤ l.length := by rw [List.length_take]; omega
  unfold otherE
  omega
end Go.Fw
namespace Go.Proofs.Ytfblmkocmnbdcaa
open Go.Fw Go.Proofs Go.RowKit Go.Proofs.Try
end Go.Proofs.Ytfblmkocmnbdcaa
set_option linter.unusedVariables false
set_option linter.unusedSimpArgs false
set_option maxRecDepth 100000
set_option maxHeartbeats 4000000
namespace Go.Proofs.Ytfblmkocmnbdcaa
open Go.Fw Go.Proofs Go.RowKit Go.Proofs.Try
theorem c25 (w0 : World) (u : Upd) (v1 v2 v3 : Value) (h : Sl Ent.enc 6 w0 w0.heap.size v1 u.seen.ents) (hr : RdCtx w0 w0.heap.size v2 v3 u.seen.ctx) :
    Rets Try.prog 25 #[.agg (Upd.enc u v1 v2 v3).toArray] w0 fun v L => ∃ A1 r1 A2 r2 A3 r3, v = .tuple #[.agg #[.slice A1 (applyU u).1.ents.length r1, .slice A2 (applyU u).1.ctx.marks.length r2, .slice A3 (applyU u).1.ctx.cloud.length r3], .int .i64 (applyU u).2] ∧
      L = [rowOf 74 6 Ent.enc A1 r1 (applyU u).1.ents, rowOf 110 3 Dot.enc A2 r2 (applyU u).1.ctx.marks, rowOf 62 3 Dot.enc A3 r3 (applyU u).1.ctx.cloud] := by
  have hs := h
  have hrr := hr
  obtain ⟨A, cap, rfl, hl, hcap, hA⟩ := h
  obtain ⟨⟨A2, cap2, rfl, _⟩, ⟨A3, cap3, rfl, _⟩⟩ := hr
  by_cases hm : mayE u = 0
  rotate_left
  · have rw_m : decide (mayE u = 0) = false := decide_eq_false hm
    have e : applyU u = (Cart.zero, mayE u) := by unfold applyU; rw [if_neg hm]
    unfold Go.Fw.Rets
    refine enter1 func25 rfl ntmps25 rfl fun a S => wp_seq_k fun _ hK1 => wp_region_lit (st_m (op_box S (.t rfl) rfl fun g1 a w S => st_m (op_alloc S zeroValue40 (cs := _) rfl rfl fun g2 a w S => run S (.ac rfl <| .z) fun a w S => st_nil (then_normal (hK1 _ _ (wp_seq_k fun _ hK1 => sg S (.la gt64 1 rfl rfl rfl <| .xx (ys_call call22 (.cons (.t rfl) .nil) (fun hp w W => c22 _ _ _ _ _ (by exact .old W (by assumption)) (by exact .old W (by assumption)))) rfl <| .as rfl <| .z) fun a w S => sg S (.mv rfl <| .yy (ys_T (by omega) (ys_neq (.t rfl) Ev.c)) rfl <| .z) fun a w S => st_then S (.t rfl) (wp_seq_k fun _ hK2 => wp_region_lit (run S (.yy (ys_bld (ps := []) (us := [_, _, _]) bld40 .nil rfl) rfl <| .mv rfl <| .z) fun a w S => st_m (op_stW S sizeOf40 (.t rfl) (.t rfl) (k := 0) rfl rfl rfl (by simp [Value.oneCell']) fun a w S => run S (.as rfl <| .z) fun a w S => st_nil (then_normal (hK2 _ _ (wp_ret (then_ret (st_ret S (results2 S results25 (Rv.cell (k := 0) ⟨isAgg40, sizeOf40⟩ rfl rfl rfl) (Rv.tmp rfl)) ?_))))))))))))))
    rw [e]
    exact ⟨_, _, rfl, (((S.nil_ 62 3 Dot.enc none).nil_ 110 3 Dot.enc none).nil_ 74 6 Ent.enc none).wd.sub (by repeat (first | exact List.Sublist.refl _ | exact List.nil_sublist _ | refine .cons_cons _ ?_ | refine .cons _ ?_)), none, 0, none, 0, none, 0, rfl, rfl⟩
  have hu := mayE_ok hm
  have hlen := hu.seen.len
  have rw_m := hm
  unfold Go.Fw.Rets
  refine enter1 func25 rfl ntmps25 rfl fun a S => wp_seq_k fun _ hK1 => wp_region_lit (st_m (op_box S (.t rfl) rfl fun g1 a w S => st_m (op_alloc S zeroValue40 (cs := _) rfl rfl fun g2 a w S => run S (.ac rfl <| .z) fun a w S => st_nil (then_normal (hK1 _ _ (wp_seq_k fun _ hK1 => wp_seq_k fun _ hK2 => wp_region_lit (run S (.la gt64 1 rfl rfl rfl <| .xx (ys_call call22 (.cons (.t rfl) .nil) (fun hp w W => c22 _ _ _ _ _ (by exact .old W (by assumption)) (by exact .old W (by assumption)))) rfl <| .z) fun a w S => ?_)))))))
  rw [rw_m] at S
  refine run S (.as rfl <| .z) fun a w S => st_nil (then_normal (hK2 _ _ (sg S (.mv rfl <| .yy (ys_F (by omega) (ys_neq (.t rfl) Ev.c)) rfl <| .z) fun a w S => st_else S (.t rfl) (wp_skip (then_normal (hK1 _ _ (wp_seq_k fun _ hK1 => wp_region_lit (st_m (op_alloc S zeroValue40 (cs := _) rfl rfl fun g3 a w S => st_nil (then_normal (hK1 _ _ (wp_seq_k fun _ hK1 => sg S (.fa underlying64 sizeOf40 7 rfl rfl rfl <| .fa underlying40 sizeOf34 7 rfl rfl rfl <| .ld gt34 2 rfl rfl rfl <| .ln underlying34 rfl <| .mc rfl <| .z) fun a w S => wp_block ?_))))))))))))
  have en : (addL u.seen.ctx u.dot).2 ≠ 0 → applyU u = (Cart.zero, (addL u.seen.ctx u.dot).2) := fun h => by unfold applyU; rw [if_pos hm, if_neg h]
  have ey : (addL u.seen.ctx u.dot).2 = 0 → applyU u = sizedC ⟨applyE u, (addL u.seen.ctx u.dot).1⟩ := fun h => by unfold applyU; rw [if_pos hm, if_pos h]
  refine st_lpM (S.nil_ 74 6 Ent.enc none) [20] (X := Nat × Option Addr × Nat) (fun q => [(20, true, .int .i64 (q.1 : Int))])
    (fun q => [rowOf 74 6 Ent.enc q.2.1 q.2.2 (otherE u.item (u.seen.ents.take q.1)), .blk g3 (.cells #[.slice q.2.1 (otherE u.item (u.seen.ents.take q.1)).length q.2.2, .slice none 0 0, .slice none 0 0] 40), .blk g2 (.cells #[.slice none 0 0, .slice none 0 0, .slice none 0 0] 40), .blk g1 (.cells (Upd.enc u (.slice A u.seen.ents.length cap) (.slice A2 u.seen.ctx.marks.length cap2) (.slice A3 u.seen.ctx.cloud.length cap3)).toArray 64)])
    (fun q => q.1 ≤ u.seen.ents.length) (fun q => u.seen.ents.length - q.1) (0, none, 0) (Nat.zero_le _) ?_
  clear S
  rintro ⟨k, B, cB⟩ a w hk S
  dsimp only at hk S
  have hol := otherE_len u.item u.seen.ents k
  by_cases hlt : k < u.seen.ents.length
  · obtain ⟨g, o, x, rfl, hx, hd, hc⟩ := row_at hA hlt
    by_cases hi : x.item = u.item
    · have rw_i : decide (x.item ≠ u.item) = false := decide_eq_false fun h => h hi
      have hst := otherE_no hx hi
      refine sg S (.lt (by omega) rfl rfl <| .z) fun a w S => wp_seq_k fun _ hK2 => st_then S (.t rfl) (wp_skip (then_normal (hK2 _ _ (wp_seq_k fun _ hK2 => wp_block (wp_seq_k fun _ hK3 => wp_region_lit (run S (.ix underlying34 sizeOf74 (by omega) rfl rfl <| .yy (ys_ldOA ⟨isAgg74, sizeOf74⟩ (.t rfl) (vs := [_, _, _, _, _, _]) rfl (fun _ => hc)) rfl <| .z) fun a w S => st_m (op_alloc S zeroValue74 (cs := _) rfl rfl fun g4 a w S => st_m (op_stW S sizeOf74 (.t rfl) (.t rfl) (k := 0) rfl rfl rfl (by simp [Value.oneCell']) fun a w S => st_nil (then_normal (hK3 _ _ (wp_seq_k fun _ hK3 => wp_region_lit (run S (.fa underlying74 sizeOf9 0 rfl rfl rfl <| .ld gt9 0 rfl rfl rfl <| .fa underlying64 sizeOf9 4 rfl rfl rfl <| .ld gt9 4 rfl rfl rfl <| .yy (ys_neqStr (.t rfl) (.t rfl)) rfl <| .z) fun a w S => ?_))))))))))))
      rw [rw_i] at S
      refine st_nil (then_normal (hK3 _ _ (st_else S (.t rfl) (wp_skip (in_normal (then_normal (hK2 _ _ (wp_region_lit (run S (.ad (by unfold I64; omega) rfl <| .mv rfl <| .z) fun a w S => st_nil (then_normal ?_))))))))))
      exact ⟨(k + 1, B, cB), by dsimp only; omega, by dsimp only; omega, by dsimp only; rw [hst]; exact S.pk⟩
    · have rw_i : decide (x.item ≠ u.item) = true := decide_eq_true hi
      have hst := otherE_yes hx hi
      refine sg S (.lt (by omega) rfl rfl <| .z) fun a w S => wp_seq_k fun _ hK2 => st_then S (.t rfl) (wp_skip (then_normal (hK2 _ _ (wp_seq_k fun _ hK2 => wp_block (wp_seq_k fun _ hK3 => wp_region_lit (run S (.ix underlying34 sizeOf74 (by omega) rfl rfl <| .yy (ys_ldOA ⟨isAgg74, sizeOf74⟩ (.t rfl) (vs := [_, _, _, _, _, _]) rfl (fun _ => hc)) rfl <| .z) fun a w S => st_m (op_alloc S zeroValue74 (cs := _) rfl rfl fun g4 a w S => st_m (op_stW S sizeOf74 (.t rfl) (.t rfl) (k := 0) rfl rfl rfl (by simp [Value.oneCell']) fun a w S => st_nil (then_normal (hK3 _ _ (wp_seq_k fun _ hK3 => wp_region_lit (run S (.fa underlying74 sizeOf9 0 rfl rfl rfl <| .ld gt9 0 rfl rfl rfl <| .fa underlying64 sizeOf9 4 rfl rfl rfl <| .ld gt9 4 rfl rfl rfl <| .yy (ys_neqStr (.t rfl) (.t rfl)) rfl <| .z) fun a w S => ?_))))))))))))
      rw [rw_i] at S
      refine st_nil (then_normal (hK3 _ _ (st_then S (.t rfl) (wp_region_lit (run S (.fa underlying40 sizeOf34 0 rfl rfl rfl <| .ld gt34 2 rfl rfl rfl <| .la gt74 0 rfl rfl rfl <| .z) fun a w S => st_m (op_bslice1 S underlying34 inf74 rfl rfl rfl (.t rfl) rfl rfl rfl fun g5 a w S => st_m (op_push S underlying34 inf74 rfl (k := 2) (j := 0) rfl (.t rfl) (.t rfl) rfl rfl rfl rfl (by first | omega | (simp only [List.length_append, List.length_cons, List.length_nil]; omega)) rfl rfl rfl fun A1 cap1 a w S => run S (.fa underlying40 sizeOf34 0 rfl rfl rfl <| .z) fun a w S => st_m (op_st S sizeOf34 (.t rfl) (.t rfl) (k := 3) rfl rfl (by simp) fun a w S => st_nil (in_normal (then_normal (hK2 _ _ (wp_region_lit (run S (.ad (by unfold I64; omega) rfl <| .mv rfl <| .z) fun a w S => st_nil (then_normal ?_))))))))))))))
      exact ⟨(k + 1, A1, cap1), by dsimp only; omega, by dsimp only; omega, by dsimp only; rw [hst]; exact S.pk⟩
  · obtain rfl : k = u.seen.ents.length := by omega
    rw [List.take_length] at S hol
    have hal := applyE_len hu
    by_cases hq : 0 < u.qty
    · have rw_q : decide (0 < u.qty) = true := decide_eq_true hq
      have rw_ue : #[Value.string (bs u.item), Value.int .i64 u.dot.node, Value.int .i64 u.dot.life, Value.int .i64 u.dot.count, Value.int .i64 u.qty, Value.int .u64 (u.price.toNat : Int)] = (Ent.enc u.ent).toArray := rfl
      have rw_hae : insE u.ent (otherE u.item u.seen.ents) = applyE u := by unfold applyE; rw [if_pos hq]
      by_cases hd : (addL u.seen.ctx u.dot).2 = 0
      rotate_left
      · have rw_d : decide ((addL u.seen.ctx ⟨u.dot.node, u.dot.life, u.dot.count⟩).2 = 0) = false := decide_eq_false hd
        have e := en hd
        refine sg S (.ge (by omega) rfl rfl <| .z) fun a w S => wp_seq_k fun _ hK2 => st_else S (.t rfl) (wp_exit (then_exit (then_exit (in_here (then_normal (hK1 _ _ (wp_seq_k fun _ hK1 => sg S (.fa underlying64 sizeOf3 5 rfl rfl rfl <| .ld gt3 3 rfl rfl rfl <| .yy (ys_T (by omega) (ys_gtr (.t rfl) Ev.c)) rfl <| .z) fun a w S => st_then S (.t rfl) (wp_region_lit (run S (.fa underlying40 sizeOf34 0 rfl rfl rfl <| .ld gt34 1 rfl rfl rfl <| .fa underlying64 sizeOf9 4 rfl rfl rfl <| .ld gt9 3 rfl rfl rfl <| .fa underlying64 sizeOf62 1 rfl rfl rfl <| .la gt62 3 rfl rfl rfl <| .fa underlying64 sizeOf3 5 rfl rfl rfl <| .ld gt3 3 rfl rfl rfl <| .fa underlying64 sizeOf27 6 rfl rfl rfl <| .ld gt27 3 rfl rfl rfl <| .yy (ys_bld (ps := [(0, Go.Operand.tmp 42), (1, Go.Operand.tmp 44), (2, Go.Operand.tmp 46), (3, Go.Operand.tmp 48)]) (us := [_, _, _, _, _, _]) bld74 (.cons (.t rfl) (.cons (.t rfl) (.cons (.t rfl) (.cons (.t rfl) .nil)))) rfl) rfl <| .z) fun a w S => ?_)))))))))
        rw [rw_ue] at S
        (refine st_m (op_calls S call62 (.cons (.t rfl) (.cons (.t rfl) .nil)) (c62 _ _ _ _ (by exact Sl.of_own S.wd (k := 0) rfl (fun _ => rfl)) (by omega)) rfl ?_); clear S a w; rintro _ _ ⟨A11, r11, rfl, rfl⟩ a w S)
        rw [rw_ue] at S
        rw [rw_hae] at S
        refine run S (.fa underlying40 sizeOf34 0 rfl rfl rfl <| .z) fun a w S => ?_
        rw [rw_ue] at S
        refine st_m (op_st S sizeOf34 (.t rfl) (.t rfl) (k := 2) rfl rfl (by simp) fun a w S => ?_)
        rw [rw_ue] at S
        refine st_nil ?_
        rw [rw_ue] at S
        refine then_normal (hK1 _ _ ?_)
        rw [rw_ue] at S
        refine wp_seq_k fun _ hK1 => ?_
        rw [rw_ue] at S
        refine wp_region_lit ?_
        rw [rw_ue] at S
        refine run S (.fa underlying64 sizeOf40 7 rfl rfl rfl <| .z) fun a w S => ?_
        rw [rw_ue] at S
        refine run S (.fa underlying40 sizeOf38 8 rfl rfl rfl <| .z) fun a w S => ?_
        rw [rw_ue] at S
        refine run S (.la gt38 4 rfl rfl rfl <| .z) fun a w S => ?_
        rw [rw_ue] at S
        refine run S (.fa underlying64 sizeOf62 1 rfl rfl rfl <| .z) fun a w S => ?_
        rw [rw_ue] at S
        refine run S (.la gt62 4 rfl rfl rfl <| .z) fun a w S => ?_
        rw [rw_ue] at S
        (refine st_m (op_calls S call64 (.cons (.t rfl) (.cons (.t rfl) .nil)) (c64 _ _ _ _ _ _ _ (by exact .old S.wd (by assumption))) rfl ?_); clear S a w; rintro _ _ ⟨A12, r12, A21, r21, rfl, rfl⟩ a w S)
        rw [rw_ue] at S
        refine run S (.mv rfl <| .z) fun a w S => ?_
        rw [rw_ue] at S
        refine run S (.ex rfl rfl <| .z) fun a w S => ?_
        rw [rw_ue] at S
        refine run S (.ex rfl rfl <| .z) fun a w S => ?_
        rw [rw_ue] at S
        refine st_m (op_alloc S zeroValue38 (cs := _) rfl rfl fun g4 a w S => ?_)
        rw [rw_ue] at S
        refine st_m (op_stW S sizeOf38 (.t rfl) (.t rfl) (k := 0) rfl rfl rfl (by simp [Value.oneCell']) fun a w S => ?_)
        rw [rw_ue] at S
        refine run S (.as rfl <| .z) fun a w S => ?_
        rw [rw_ue] at S
        refine st_nil ?_
        rw [rw_ue] at S
        refine then_normal (hK1 _ _ ?_)
        rw [rw_ue] at S
        refine wp_seq_k fun _ hK1 => ?_
        rw [rw_ue] at S
        refine wp_seq_k fun _ hK3 => ?_
        rw [rw_ue] at S
        refine wp_region_lit ?_
        rw [rw_ue] at S
        refine run S (.mv rfl <| .z) fun a w S => ?_
        rw [rw_ue] at S
        refine run S (.yy (ys_T (by omega) (ys_neq (.t rfl) Ev.c)) rfl <| .z) fun a w S => ?_
        rw [rw_ue] at S
        refine st_nil ?_
        rw [rw_ue] at S
        refine then_normal (hK3 _ _ ?_)
        rw [rw_ue] at S
        refine st_then S (.t rfl) ?_
        rw [rw_ue] at S
        refine wp_seq_k fun _ hK3 => ?_
        rw [rw_ue] at S
        refine wp_region_lit ?_
        rw [rw_ue] at S
        refine run S (.yy (ys_bld (ps := []) (us := [_, _, _]) bld40 .nil rfl) rfl <| .z) fun a w S => ?_
        rw [rw_ue] at S
        refine run S (.mv rfl <| .z) fun a w S => ?_
        rw [rw_ue] at S
        refine st_m (op_stW S sizeOf40 (.t rfl) (.t rfl) (k := 6) rfl rfl rfl (by simp [Value.oneCell']) fun a w S => ?_)
        rw [rw_ue] at S
        refine run S (.as rfl <| .z) fun a w S => ?_
        rw [rw_ue] at S
        refine st_nil ?_
        rw [rw_ue] at S
        refine then_normal (hK3 _ _ ?_)
        rw [rw_ue] at S
        refine wp_ret ?_
        rw [rw_ue] at S
        refine then_ret ?_
        rw [rw_ue] at S
        refine st_ret S (results2 S results25 (Rv.cell (k := 6) ⟨isAgg40, sizeOf40⟩ rfl rfl rfl) (Rv.tmp rfl)) ?_
        rw [rw_ue] at S
        rw [e]
        exact ⟨_, _, rfl, (((S.nil_ 62 3 Dot.enc none).nil_ 110 3 Dot.enc none).nil_ 74 6 Ent.enc none).wd.sub (by repeat (first | exact List.Sublist.refl _ | exact List.nil_sublist _ | refine .cons_cons _ ?_ | refine .cons _ ?_)), none, 0, none, 0, none, 0, rfl, rfl⟩
      have rw_d : (addL u.seen.ctx ⟨u.dot.node, u.dot.life, u.dot.count⟩).2 = 0 := hd
      by_cases hbig : 64 < (applyE u).length ∨ 32 < itemsN (applyE u)
      · have rw_b : ∀ x y : Value, (if 64 < (applyE u).length ∨ 32 < itemsN (applyE u) then x else y) = x := fun _ _ => if_pos hbig
        have e : applyU u = (Cart.zero, 51) := by rw [ey hd]; unfold sizedC; exact if_pos hbig
        refine sg S (.ge (by omega) rfl rfl <| .z) fun a w S => wp_seq_k fun _ hK2 => st_else S (.t rfl) (wp_exit (then_exit (then_exit (in_here (then_normal (hK1 _ _ (wp_seq_k fun _ hK1 => sg S (.fa underlying64 sizeOf3 5 rfl rfl rfl <| .ld gt3 3 rfl rfl rfl <| .yy (ys_T (by omega) (ys_gtr (.t rfl) Ev.c)) rfl <| .z) fun a w S => st_then S (.t rfl) (wp_region_lit (run S (.fa underlying40 sizeOf34 0 rfl rfl rfl <| .ld gt34 1 rfl rfl rfl <| .fa underlying64 sizeOf9 4 rfl rfl rfl <| .ld gt9 3 rfl rfl rfl <| .fa underlying64 sizeOf62 1 rfl rfl rfl <| .la gt62 3 rfl rfl rfl <| .fa underlying64 sizeOf3 5 rfl rfl rfl <| .ld gt3 3 rfl rfl rfl <| .fa underlying64 sizeOf27 6 rfl rfl rfl <| .ld gt27 3 rfl rfl rfl <| .yy (ys_bld (ps := [(0, Go.Operand.tmp 42), (1, Go.Operand.tmp 44), (2, Go.Operand.tmp 46), (3, Go.Operand.tmp 48)]) (us := [_, _, _, _, _, _]) bld74 (.cons (.t rfl) (.cons (.t rfl) (.cons (.t rfl) (.cons (.t rfl) .nil)))) rfl) rfl <| .z) fun a w S => ?_)))))))))
        rw [rw_ue] at S
        (refine st_m (op_calls S call62 (.cons (.t rfl) (.cons (.t rfl) .nil)) (c62 _ _ _ _ (by exact Sl.of_own S.wd (k := 0) rfl (fun _ => rfl)) (by omega)) rfl ?_); clear S a w; rintro _ _ ⟨A11, r11, rfl, rfl⟩ a w S)
        rw [rw_ue] at S
        rw [rw_hae] at S
        refine run S (.fa underlying40 sizeOf34 0 rfl rfl rfl <| .z) fun a w S => ?_
        rw [rw_ue] at S
        refine st_m (op_st S sizeOf34 (.t rfl) (.t rfl) (k := 2) rfl rfl (by simp) fun a w S => ?_)
        rw [rw_ue] at S
        refine st_nil ?_
        rw [rw_ue] at S
        refine then_normal (hK1 _ _ ?_)
        rw [rw_ue] at S
        refine wp_seq_k fun _ hK1 => ?_
        rw [rw_ue] at S
        refine wp_region_lit ?_
        rw [rw_ue] at S
        refine run S (.fa underlying64 sizeOf40 7 rfl rfl rfl <| .z) fun a w S => ?_
        rw [rw_ue] at S
        refine run S (.fa underlying40 sizeOf38 8 rfl rfl rfl <| .z) fun a w S => ?_
        rw [rw_ue] at S
        refine run S (.la gt38 4 rfl rfl rfl <| .z) fun a w S => ?_
        rw [rw_ue] at S
        refine run S (.fa underlying64 sizeOf62 1 rfl rfl rfl <| .z) fun a w S => ?_
        rw [rw_ue] at S
        refine run S (.la gt62 4 rfl rfl rfl <| .z) fun a w S => ?_
        rw [rw_ue] at S
        (refine st_m (op_calls S call64 (.cons (.t rfl) (.cons (.t rfl) .nil)) (c64 _ _ _ _ _ _ _ (by exact .old S.wd (by assumption))) rfl ?_); clear S a w; rintro _ _ ⟨A12, r12, A21, r21, rfl, rfl⟩ a w S)
        rw [rw_ue] at S
        rw [rw_d] at S
        refine run S (.mv rfl <| .z) fun a w S => ?_
        rw [rw_ue] at S
        refine run S (.ex rfl rfl <| .z) fun a w S => ?_
        rw [rw_ue] at S
        refine run S (.ex rfl rfl <| .z) fun a w S => ?_
        rw [rw_ue] at S
        refine st_m (op_alloc S zeroValue38 (cs := _) rfl rfl fun g4 a w S => ?_)
        rw [rw_ue] at S
        refine st_m (op_stW S sizeOf38 (.t rfl) (.t rfl) (k := 0) rfl rfl rfl (by simp [Value.oneCell']) fun a w S => ?_)
        rw [rw_ue] at S
        refine run S (.as rfl <| .z) fun a w S => ?_
        rw [rw_ue] at S
        refine st_nil ?_
        rw [rw_ue] at S
        refine then_normal (hK1 _ _ ?_)
        rw [rw_ue] at S
        refine wp_seq_k fun _ hK1 => ?_
        rw [rw_ue] at S
        refine wp_seq_k fun _ hK3 => ?_
        rw [rw_ue] at S
        refine wp_region_lit ?_
        rw [rw_ue] at S
        refine run S (.mv rfl <| .z) fun a w S => ?_
        rw [rw_ue] at S
        refine run S (.yy (ys_F (by omega) (ys_neq (.t rfl) Ev.c)) rfl <| .z) fun a w S => ?_
        rw [rw_ue] at S
        refine st_nil ?_
        rw [rw_ue] at S
        refine then_normal (hK3 _ _ ?_)
        rw [rw_ue] at S
        refine st_else S (.t rfl) ?_
        rw [rw_ue] at S
        refine wp_skip ?_
        rw [rw_ue] at S
        refine then_normal (hK1 _ _ ?_)
        rw [rw_ue] at S
        refine wp_seq_k fun _ hK1 => ?_
        rw [rw_ue] at S
        refine wp_region_lit ?_
        rw [rw_ue] at S
        refine run S (.la gt38 0 rfl rfl rfl <| .z) fun a w S => ?_
        rw [rw_ue] at S
        refine run S (.fa underlying40 sizeOf38 1 rfl rfl rfl <| .z) fun a w S => ?_
        rw [rw_ue] at S
        refine st_m (op_stA S sizeOf38 (.t rfl) (.t rfl) (k := 5) rfl rfl (by simp [Value.oneCell']) (by simp) fun a w S => ?_)
        rw [rw_ue] at S
        refine st_nil ?_
        rw [rw_ue] at S
        refine then_normal (hK1 _ _ ?_)
        rw [rw_ue] at S
        refine wp_seq_k fun _ hK1 => ?_
        rw [rw_ue] at S
        refine wp_region_lit ?_
        rw [rw_ue] at S
        refine run S (.la gt40 5 rfl rfl rfl <| .z) fun a w S => ?_
        rw [rw_ue] at S
        refine run S (.xx (ys_call call63 (.cons (.t rfl) .nil) (fun hp w W => c63 _ _ _ _ _ _ _ _ _ (by exact Sl.of_own W (k := 3) rfl (fun _ => rfl)) (by omega))) rfl <| .z) fun a w S => ?_
        rw [rw_ue] at S
        rw [rw_b] at S
        refine run S (.ex rfl rfl <| .z) fun a w S => ?_
        rw [rw_ue] at S
        refine run S (.ex rfl rfl <| .z) fun a w S => ?_
        rw [rw_ue] at S
        refine st_m (op_stW S sizeOf40 (.t rfl) (.t rfl) (k := 6) rfl rfl rfl (by simp [Value.oneCell']) fun a w S => ?_)
        rw [rw_ue] at S
        refine run S (.as rfl <| .z) fun a w S => ?_
        rw [rw_ue] at S
        refine st_nil ?_
        rw [rw_ue] at S
        refine then_normal (hK1 _ _ ?_)
        rw [rw_ue] at S
        refine wp_ret ?_
        rw [rw_ue] at S
        refine st_ret S (results2 S results25 (Rv.cell (k := 6) ⟨isAgg40, sizeOf40⟩ rfl rfl rfl) (Rv.tmp rfl)) ?_
        rw [rw_ue] at S
        rw [e]
        exact ⟨_, _, rfl, (((S.nil_ 62 3 Dot.enc none).nil_ 110 3 Dot.enc none).nil_ 74 6 Ent.enc none).wd.sub (by repeat (first | exact List.Sublist.refl _ | exact List.nil_sublist _ | refine .cons_cons _ ?_ | refine .cons _ ?_)), none, 0, none, 0, none, 0, rfl, rfl⟩
      · have rw_b : ∀ x y : Value, (if 64 < (applyE u).length ∨ 32 < itemsN (applyE u) then x else y) = y := fun _ _ => if_neg hbig
        have e : applyU u = (⟨applyE u, (addL u.seen.ctx u.dot).1⟩, 0) := by rw [ey hd]; unfold sizedC; exact if_neg hbig
        refine sg S (.ge (by omega) rfl rfl <| .z) fun a w S => wp_seq_k fun _ hK2 => st_else S (.t rfl) (wp_exit (then_exit (then_exit (in_here (then_normal (hK1 _ _ (wp_seq_k fun _ hK1 => sg S (.fa underlying64 sizeOf3 5 rfl rfl rfl <| .ld gt3 3 rfl rfl rfl <| .yy (ys_T (by omega) (ys_gtr (.t rfl) Ev.c)) rfl <| .z) fun a w S => st_then S (.t rfl) (wp_region_lit (run S (.fa underlying40 sizeOf34 0 rfl rfl rfl <| .ld gt34 1 rfl rfl rfl <| .fa underlying64 sizeOf9 4 rfl rfl rfl <| .ld gt9 3 rfl rfl rfl <| .fa underlying64 sizeOf62 1 rfl rfl rfl <| .la gt62 3 rfl rfl rfl <| .fa underlying64 sizeOf3 5 rfl rfl rfl <| .ld gt3 3 rfl rfl rfl <| .fa underlying64 sizeOf27 6 rfl rfl rfl <| .ld gt27 3 rfl rfl rfl <| .yy (ys_bld (ps := [(0, Go.Operand.tmp 42), (1, Go.Operand.tmp 44), (2, Go.Operand.tmp 46), (3, Go.Operand.tmp 48)]) (us := [_, _, _, _, _, _]) bld74 (.cons (.t rfl) (.cons (.t rfl) (.cons (.t rfl) (.cons (.t rfl) .nil)))) rfl) rfl <| .z) fun a w S => ?_)))))))))
        rw [rw_ue] at S
        (refine st_m (op_calls S call62 (.cons (.t rfl) (.cons (.t rfl) .nil)) (c62 _ _ _ _ (by exact Sl.of_own S.wd (k := 0) rfl (fun _ => rfl)) (by omega)) rfl ?_); clear S a w; rintro _ _ ⟨A11, r11, rfl, rfl⟩ a w S)
        rw [rw_ue] at S
        rw [rw_hae] at S
        refine run S (.fa underlying40 sizeOf34 0 rfl rfl rfl <| .z) fun a w S => ?_
        rw [rw_ue] at S
        refine st_m (op_st S sizeOf34 (.t rfl) (.t rfl) (k := 2) rfl rfl (by simp) fun a w S => ?_)
        rw [rw_ue] at S
        refine st_nil ?_
        rw [rw_ue] at S
        refine then_normal (hK1 _ _ ?_)
        rw [rw_ue] at S
        refine wp_seq_k fun _ hK1 => ?_
        rw [rw_ue] at S
        refine wp_region_lit ?_
        rw [rw_ue] at S
        refine run S (.fa underlying64 sizeOf40 7 rfl rfl rfl <| .z) fun a w S => ?_
        rw [rw_ue] at S
        refine run S (.fa underlying40 sizeOf38 8 rfl rfl rfl <| .z) fun a w S => ?_
        rw [rw_ue] at S
        refine run S (.la gt38 4 rfl rfl rfl <| .z) fun a w S => ?_
        rw [rw_ue] at S
        refine run S (.fa underlying64 sizeOf62 1 rfl rfl rfl <| .z) fun a w S => ?_
        rw [rw_ue] at S
        refine run S (.la gt62 4 rfl rfl rfl <| .z) fun a w S => ?_
        rw [rw_ue] at S
        (refine st_m (op_calls S call64 (.cons (.t rfl) (.cons (.t rfl) .nil)) (c64 _ _ _ _ _ _ _ (by exact .old S.wd (by assumption))) rfl ?_); clear S a w; rintro _ _ ⟨A12, r12, A21, r21, rfl, rfl⟩ a w S)
        rw [rw_ue] at S
        rw [rw_d] at S
        refine run S (.mv rfl <| .z) fun a w S => ?_
        rw [rw_ue] at S
        refine run S (.ex rfl rfl <| .z) fun a w S => ?_
        rw [rw_ue] at S
        refine run S (.ex rfl rfl <| .z) fun a w S => ?_
        rw [rw_ue] at S
        refine st_m (op_alloc S zeroValue38 (cs := _) rfl rfl fun g4 a w S => ?_)
        rw [rw_ue] at S
        refine st_m (op_stW S sizeOf38 (.t rfl) (.t rfl) (k := 0) rfl rfl rfl (by simp [Value.oneCell']) fun a w S => ?_)
        rw [rw_ue] at S
        refine run S (.as rfl <| .z) fun a w S => ?_
        rw [rw_ue] at S
        refine st_nil ?_
        rw [rw_ue] at S
        refine then_normal (hK1 _ _ ?_)
        rw [rw_ue] at S
        refine wp_seq_k fun _ hK1 => ?_
        rw [rw_ue] at S
        refine wp_seq_k fun _ hK3 => ?_
        rw [rw_ue] at S
        refine wp_region_lit ?_
        rw [rw_ue] at S
        refine run S (.mv rfl <| .z) fun a w S => ?_
        rw [rw_ue] at S
        refine run S (.yy (ys_F (by omega) (ys_neq (.t rfl) Ev.c)) rfl <| .z) fun a w S => ?_
        rw [rw_ue] at S
        refine st_nil ?_
        rw [rw_ue] at S
        refine then_normal (hK3 _ _ ?_)
        rw [rw_ue] at S
        refine st_else S (.t rfl) ?_
        rw [rw_ue] at S
        refine wp_skip ?_
        rw [rw_ue] at S
        refine then_normal (hK1 _ _ ?_)
        rw [rw_ue] at S
        refine wp_seq_k fun _ hK1 => ?_
        rw [rw_ue] at S
        refine wp_region_lit ?_
        rw [rw_ue] at S
        refine run S (.la gt38 0 rfl rfl rfl <| .z) fun a w S => ?_
        rw [rw_ue] at S
        refine run S (.fa underlying40 sizeOf38 1 rfl rfl rfl <| .z) fun a w S => ?_
        rw [rw_ue] at S
        refine st_m (op_stA S sizeOf38 (.t rfl) (.t rfl) (k := 5) rfl rfl (by simp [Value.oneCell']) (by simp) fun a w S => ?_)
        rw [rw_ue] at S
        refine st_nil ?_
        rw [rw_ue] at S
        refine then_normal (hK1 _ _ ?_)
        rw [rw_ue] at S
        refine wp_seq_k fun _ hK1 => ?_
        rw [rw_ue] at S
        refine wp_region_lit ?_
        rw [rw_ue] at S
        refine run S (.la gt40 5 rfl rfl rfl <| .z) fun a w S => ?_
        rw [rw_ue] at S
        refine run S (.xx (ys_call call63 (.cons (.t rfl) .nil) (fun hp w W => c63 _ _ _ _ _ _ _ _ _ (by exact Sl.of_own W (k := 3) rfl (fun _ => rfl)) (by omega))) rfl <| .z) fun a w S => ?_
        rw [rw_ue] at S
        rw [rw_b] at S
        refine run S (.ex rfl rfl <| .z) fun a w S => ?_
        rw [rw_ue] at S
        refine run S (.ex rfl rfl <| .z) fun a w S => ?_
        rw [rw_ue] at S
        refine st_m (op_stW S sizeOf40 (.t rfl) (.t rfl) (k := 6) rfl rfl rfl (by simp [Value.oneCell']) fun a w S => ?_)
        rw [rw_ue] at S
        refine run S (.as rfl <| .z) fun a w S => ?_
        rw [rw_ue] at S
        refine st_nil ?_
        rw [rw_ue] at S
        refine then_normal (hK1 _ _ ?_)
        rw [rw_ue] at S
        refine wp_ret ?_
        rw [rw_ue] at S
        refine st_ret S (results2 S results25 (Rv.cell (k := 6) ⟨isAgg40, sizeOf40⟩ rfl rfl rfl) (Rv.tmp rfl)) ?_
        rw [rw_ue] at S
        rw [e]
        exact ⟨_, _, rfl, S.wd.pk, _, _, _, _, _, _, rfl, rfl⟩
    · have rw_q : decide (0 < u.qty) = false := decide_eq_false hq
      have hae : otherE u.item u.seen.ents = applyE u := by unfold applyE; rw [if_neg hq]
      rw [hae] at S
      by_cases hd : (addL u.seen.ctx u.dot).2 = 0
      rotate_left
      · have rw_d : decide ((addL u.seen.ctx ⟨u.dot.node, u.dot.life, u.dot.count⟩).2 = 0) = false := decide_eq_false hd
        have e := en hd
        refine sg S (.ge (by omega) rfl rfl <| .z) fun a w S => wp_seq_k fun _ hK2 => st_else S (.t rfl) (wp_exit (then_exit (then_exit (in_here (then_normal (hK1 _ _ (wp_seq_k fun _ hK1 => sg S (.fa underlying64 sizeOf3 5 rfl rfl rfl <| .ld gt3 3 rfl rfl rfl <| .yy (ys_F (by omega) (ys_gtr (.t rfl) Ev.c)) rfl <| .z) fun a w S => st_else S (.t rfl) (wp_skip (then_normal (hK1 _ _ (wp_seq_k fun _ hK1 => wp_region_lit (run S (.fa underlying64 sizeOf40 7 rfl rfl rfl <| .fa underlying40 sizeOf38 8 rfl rfl rfl <| .la gt38 3 rfl rfl rfl <| .fa underlying64 sizeOf62 1 rfl rfl rfl <| .la gt62 3 rfl rfl rfl <| .z) fun a w S => ?_))))))))))))
        (refine st_m (op_calls S call64 (.cons (.t rfl) (.cons (.t rfl) .nil)) (c64 _ _ _ _ _ _ _ (by exact .old S.wd (by assumption))) rfl ?_); clear S a w; rintro _ _ ⟨A11, r11, A21, r21, rfl, rfl⟩ a w S)
        refine run S (.mv rfl <| .ex rfl rfl <| .ex rfl rfl <| .z) fun a w S => st_m (op_alloc S zeroValue38 (cs := _) rfl rfl fun g4 a w S => st_m (op_stW S sizeOf38 (.t rfl) (.t rfl) (k := 0) rfl rfl rfl (by simp [Value.oneCell']) fun a w S => run S (.as rfl <| .z) fun a w S => st_nil (then_normal (hK1 _ _ (wp_seq_k fun _ hK1 => sg S (.mv rfl <| .yy (ys_T (by omega) (ys_neq (.t rfl) Ev.c)) rfl <| .z) fun a w S => st_then S (.t rfl) (wp_seq_k fun _ hK3 => wp_region_lit (run S (.yy (ys_bld (ps := []) (us := [_, _, _]) bld40 .nil rfl) rfl <| .mv rfl <| .z) fun a w S => st_m (op_stW S sizeOf40 (.t rfl) (.t rfl) (k := 5) rfl rfl rfl (by simp [Value.oneCell']) fun a w S => run S (.as rfl <| .z) fun a w S => st_nil (then_normal (hK3 _ _ (wp_ret (then_ret (st_ret S (results2 S results25 (Rv.cell (k := 5) ⟨isAgg40, sizeOf40⟩ rfl rfl rfl) (Rv.tmp rfl)) ?_)))))))))))))
        rw [e]
        exact ⟨_, _, rfl, (((S.nil_ 62 3 Dot.enc none).nil_ 110 3 Dot.enc none).nil_ 74 6 Ent.enc none).wd.sub (by repeat (first | exact List.Sublist.refl _ | exact List.nil_sublist _ | refine .cons_cons _ ?_ | refine .cons _ ?_)), none, 0, none, 0, none, 0, rfl, rfl⟩
      have rw_d : (addL u.seen.ctx ⟨u.dot.node, u.dot.life, u.dot.count⟩).2 = 0 := hd
      by_cases hbig : 64 < (applyE u).length ∨ 32 < itemsN (applyE u)
      · have rw_b : ∀ x y : Value, (if 64 < (applyE u).length ∨ 32 < itemsN (applyE u) then x else y) = x := fun _ _ => if_pos hbig
        have e : applyU u = (Cart.zero, 51) := by rw [ey hd]; unfold sizedC; exact if_pos hbig
        refine sg S (.ge (by omega) rfl rfl <| .z) fun a w S => wp_seq_k fun _ hK2 => st_else S (.t rfl) (wp_exit (then_exit (then_exit (in_here (then_normal (hK1 _ _ (wp_seq_k fun _ hK1 => sg S (.fa underlying64 sizeOf3 5 rfl rfl rfl <| .ld gt3 3 rfl rfl rfl <| .yy (ys_F (by omega) (ys_gtr (.t rfl) Ev.c)) rfl <| .z) fun a w S => st_else S (.t rfl) (wp_skip (then_normal (hK1 _ _ (wp_seq_k fun _ hK1 => wp_region_lit (run S (.fa underlying64 sizeOf40 7 rfl rfl rfl <| .fa underlying40 sizeOf38 8 rfl rfl rfl <| .la gt38 3 rfl rfl rfl <| .fa underlying64 sizeOf62 1 rfl rfl rfl <| .la gt62 3 rfl rfl rfl <| .z) fun a w S => ?_))))))))))))
        (refine st_m (op_calls S call64 (.cons (.t rfl) (.cons (.t rfl) .nil)) (c64 _ _ _ _ _ _ _ (by exact .old S.wd (by assumption))) rfl ?_); clear S a w; rintro _ _ ⟨A11, r11, A21, r21, rfl, rfl⟩ a w S)
        rw [rw_d] at S
        refine run S (.mv rfl <| .ex rfl rfl <| .ex rfl rfl <| .z) fun a w S => st_m (op_alloc S zeroValue38 (cs := _) rfl rfl fun g4 a w S => st_m (op_stW S sizeOf38 (.t rfl) (.t rfl) (k := 0) rfl rfl rfl (by simp [Value.oneCell']) fun a w S => run S (.as rfl <| .z) fun a w S => st_nil (then_normal (hK1 _ _ (wp_seq_k fun _ hK1 => sg S (.mv rfl <| .yy (ys_F (by omega) (ys_neq (.t rfl) Ev.c)) rfl <| .z) fun a w S => st_else S (.t rfl) (wp_skip (then_normal (hK1 _ _ (wp_seq_k fun _ hK1 => wp_region_lit (run S (.la gt38 0 rfl rfl rfl <| .fa underlying40 sizeOf38 1 rfl rfl rfl <| .z) fun a w S => st_m (op_stA S sizeOf38 (.t rfl) (.t rfl) (k := 4) rfl rfl (by simp [Value.oneCell']) (by simp) fun a w S => st_nil (then_normal (hK1 _ _ (wp_seq_k fun _ hK1 => wp_region_lit (run S (.la gt40 4 rfl rfl rfl <| .xx (ys_call call63 (.cons (.t rfl) .nil) (fun hp w W => c63 _ _ _ _ _ _ _ _ _ (by exact Sl.of_own W (k := 3) rfl (fun _ => rfl)) (by omega))) rfl <| .z) fun a w S => ?_)))))))))))))))
        rw [rw_b] at S
        refine run S (.ex rfl rfl <| .ex rfl rfl <| .z) fun a w S => st_m (op_stW S sizeOf40 (.t rfl) (.t rfl) (k := 5) rfl rfl rfl (by simp [Value.oneCell']) fun a w S => run S (.as rfl <| .z) fun a w S => st_nil (then_normal (hK1 _ _ (wp_ret (st_ret S (results2 S results25 (Rv.cell (k := 5) ⟨isAgg40, sizeOf40⟩ rfl rfl rfl) (Rv.tmp rfl)) ?_)))))
        rw [e]
        exact ⟨_, _, rfl, (((S.nil_ 62 3 Dot.enc none).nil_ 110 3 Dot.enc none).nil_ 74 6 Ent.enc none).wd.sub (by repeat (first | exact List.Sublist.refl _ | exact List.nil_sublist _ | refine .cons_cons _ ?_ | refine .cons _ ?_)), none, 0, none, 0, none, 0, rfl, rfl⟩
      · have rw_b : ∀ x y : Value, (if 64 < (applyE u).length ∨ 32 < itemsN (applyE u) then x else y) = y := fun _ _ => if_neg hbig
        have e : applyU u = (⟨applyE u, (addL u.seen.ctx u.dot).1⟩, 0) := by rw [ey hd]; unfold sizedC; exact if_neg hbig
        refine sg S (.ge (by omega) rfl rfl <| .z) fun a w S => wp_seq_k fun _ hK2 => st_else S (.t rfl) (wp_exit (then_exit (then_exit (in_here (then_normal (hK1 _ _ (wp_seq_k fun _ hK1 => sg S (.fa underlying64 sizeOf3 5 rfl rfl rfl <| .ld gt3 3 rfl rfl rfl <| .yy (ys_F (by omega) (ys_gtr (.t rfl) Ev.c)) rfl <| .z) fun a w S => st_else S (.t rfl) (wp_skip (then_normal (hK1 _ _ (wp_seq_k fun _ hK1 => wp_region_lit (run S (.fa underlying64 sizeOf40 7 rfl rfl rfl <| .fa underlying40 sizeOf38 8 rfl rfl rfl <| .la gt38 3 rfl rfl rfl <| .fa underlying64 sizeOf62 1 rfl rfl rfl <| .la gt62 3 rfl rfl rfl <| .z) fun a w S => ?_))))))))))))
        (refine st_m (op_calls S call64 (.cons (.t rfl) (.cons (.t rfl) .nil)) (c64 _ _ _ _ _ _ _ (by exact .old S.wd (by assumption))) rfl ?_); clear S a w; rintro _ _ ⟨A11, r11, A21, r21, rfl, rfl⟩ a w S)
        rw [rw_d] at S
        refine run S (.mv rfl <| .ex rfl rfl <| .ex rfl rfl <| .z) fun a w S => st_m (op_alloc S zeroValue38 (cs := _) rfl rfl fun g4 a w S => st_m (op_stW S sizeOf38 (.t rfl) (.t rfl) (k := 0) rfl rfl rfl (by simp [Value.oneCell']) fun a w S => run S (.as rfl <| .z) fun a w S => st_nil (then_normal (hK1 _ _ (wp_seq_k fun _ hK1 => sg S (.mv rfl <| .yy (ys_F (by omega) (ys_neq (.t rfl) Ev.c)) rfl <| .z) fun a w S => st_else S (.t rfl) (wp_skip (then_normal (hK1 _ _ (wp_seq_k fun _ hK1 => wp_region_lit (run S (.la gt38 0 rfl rfl rfl <| .fa underlying40 sizeOf38 1 rfl rfl rfl <| .z) fun a w S => st_m (op_stA S sizeOf38 (.t rfl) (.t rfl) (k := 4) rfl rfl (by simp [Value.oneCell']) (by simp) fun a w S => st_nil (then_normal (hK1 _ _ (wp_seq_k fun _ hK1 => wp_region_lit (run S (.la gt40 4 rfl rfl rfl <| .xx (ys_call call63 (.cons (.t rfl) .nil) (fun hp w W => c63 _ _ _ _ _ _ _ _ _ (by exact Sl.of_own W (k := 3) rfl (fun _ => rfl)) (by omega))) rfl <| .z) fun a w S => ?_)))))))))))))))
        rw [rw_b] at S
        refine run S (.ex rfl rfl <| .ex rfl rfl <| .z) fun a w S => st_m (op_stW S sizeOf40 (.t rfl) (.t rfl) (k := 5) rfl rfl rfl (by simp [Value.oneCell']) fun a w S => run S (.as rfl <| .z) fun a w S => st_nil (then_normal (hK1 _ _ (wp_ret (st_ret S (results2 S results25 (Rv.cell (k := 5) ⟨isAgg40, sizeOf40⟩ rfl rfl rfl) (Rv.tmp rfl)) ?_)))))
        rw [e]
        exact ⟨_, _, rfl, S.wd.pk, _, _, _, _, _, _, rfl, rfl⟩
end Go.Proofs.Ytfblmkocmnbdcaa
set_option linter.unusedVariables false
set_option linter.unusedSimpArgs false
set_option maxRecDepth 100000
set_option maxHeartbeats 4000000
namespace Go.Fw
theorem filter_yes {α : Type} {p : α → Bool} {l : List α} {k : Nat} {x : α} (h : l[k]? = some x) (hp : p x = true) : (l.take (k + 1)).filter p = (l.take k).filter p ++ [x] := by
  rw [List.take_add_one, h, Option.toList_some]
  simp [hp]
theorem filter_no {α : Type} {p : α → Bool} {l : List α} {k : Nat} {x : α} (h : l[k]? = some x) (hp : p x = false) : (l.take (k + 1)).filter p = (l.take k).filter p := by
  rw [List.take_add_one, h, Option.toList_some]
  simp [hp]
theorem filter_take {α : Type} (p : α → Bool) (l : List α) (k : Nat) : ((l.take k).filter p).length ≤ l.length := by
  have h1 := List.length_filter_le p (l.take k)
  have h2 : (l.take k).length ≤ l.length := by rw [List.length_take]; omega
  omega
def stayB (b : Cart) (x : Ent) : Bool := decide (x ∈ b.ents) || !b.ctx.covers x.dot
def newB (a : Cart) (x : Ent) : Bool := !a.ctx.covers x.dot
theorem stays_filter (a b : Cart) : staysE a b = a.ents.filter (stayB b) := rfl
end Go.Fw
namespace Go.Proofs.Ytfblmkocmnbdcaa
open Go.Fw Go.Proofs Go.RowKit Go.Proofs.Try
end Go.Proofs.Ytfblmkocmnbdcaa
set_option linter.unusedVariables false
set_option linter.unusedSimpArgs false
set_option maxRecDepth 100000
set_option maxHeartbeats 4000000
namespace Go.Fw
def joinF (a b : Cart) (k : Nat) : List Ent := ((b.ents.take k).filter (newB a)).foldl (fun l x => insE x l) (staysE a b)
end Go.Fw
namespace Go.Proofs.Ytfblmkocmnbdcaa
open Go.Fw Go.Proofs Go.RowKit Go.Proofs.Try
theorem c24 (w0 : World) (v1 v2 v3 v4 v5 v6 : Value) (X Y : Cart) (h : Sl Ent.enc 6 w0 w0.heap.size v1 X.ents) (hr : RdCtx w0 w0.heap.size v2 v3 X.ctx) (h' : Sl Ent.enc 6 w0 w0.heap.size v4 Y.ents) (hr' : RdCtx w0 w0.heap.size v5 v6 Y.ctx) :
    Rets Try.prog 24 #[.agg #[v1, v2, v3], .agg #[v4, v5, v6]] w0 fun v L => ∃ A1 r1 A2 r2 A3 r3, v = .tuple #[.agg #[.slice A1 (joinK X Y).1.ents.length r1, .slice A2 (joinK X Y).1.ctx.marks.length r2, .slice A3 (joinK X Y).1.ctx.cloud.length r3], .int .i64 (joinK X Y).2] ∧
      L = [rowOf 74 6 Ent.enc A1 r1 (joinK X Y).1.ents, rowOf 110 3 Dot.enc A2 r2 (joinK X Y).1.ctx.marks, rowOf 62 3 Dot.enc A3 r3 (joinK X Y).1.ctx.cloud] := by
  have hs := h
  have hrr := hr
  have hs' := h'
  have hrr' := hr'
  obtain ⟨A, cap, rfl, hl, hcap, hA⟩ := h
  obtain ⟨⟨A2, cap2, rfl, _⟩, ⟨A3, cap3, rfl, _⟩⟩ := hr
  obtain ⟨B, capB, rfl, hlB, hcapB, hB⟩ := h'
  obtain ⟨⟨B2, capB2, rfl, _⟩, ⟨B3, capB3, rfl, _⟩⟩ := hr'
  by_cases hX : canE X = 0
  rotate_left
  · have rw_x : decide (canE X ≠ 0) = true := decide_eq_true hX
    have e : joinK X Y = (Cart.zero, canE X) := by unfold joinK; rw [if_neg hX]
    unfold Go.Fw.Rets
    refine enter2 func24 rfl ntmps24 rfl fun a S => wp_seq_k fun _ hK1 => wp_region_lit (st_m (op_box S (.t rfl) rfl fun g1 a w S => st_m (op_box S (.t rfl) rfl fun g2 a w S => st_m (op_alloc S zeroValue40 (cs := _) rfl rfl fun g3 a w S => run S (.ac rfl <| .z) fun a w S => st_nil (then_normal (hK1 _ _ (wp_seq_k fun _ hK1 => sg S (.la gt40 2 rfl rfl rfl <| .xx (ys_call call20 (.cons (.t rfl) .nil) (fun hp w W => c20 _ _ _ _ _ (by exact .old W (by assumption)) (by exact .old W (by assumption)))) rfl <| .as rfl <| .z) fun a w S => sg S (.mv rfl <| .yy (ys_T (by omega) (ys_neq (.t rfl) Ev.c)) rfl <| .z) fun a w S => st_then S (.t rfl) (wp_seq_k fun _ hK2 => wp_region_lit (run S (.yy (ys_bld (ps := []) (us := [_, _, _]) bld40 .nil rfl) rfl <| .mv rfl <| .z) fun a w S => st_m (op_stW S sizeOf40 (.t rfl) (.t rfl) (k := 0) rfl rfl rfl (by simp [Value.oneCell']) fun a w S => run S (.as rfl <| .z) fun a w S => st_nil (then_normal (hK2 _ _ (wp_ret (then_ret (st_ret S (results2 S results24 (Rv.cell (k := 0) ⟨isAgg40, sizeOf40⟩ rfl rfl rfl) (Rv.tmp rfl)) ?_)))))))))))))))
    rw [e]
    exact ⟨_, _, rfl, (((S.nil_ 62 3 Dot.enc none).nil_ 110 3 Dot.enc none).nil_ 74 6 Ent.enc none).wd.sub (by repeat (first | exact List.Sublist.refl _ | exact List.nil_sublist _ | refine .cons_cons _ ?_ | refine .cons _ ?_)), none, 0, none, 0, none, 0, rfl, rfl⟩
  have rw_x := hX
  by_cases hY : canE Y = 0
  rotate_left
  · have rw_y : decide (canE Y ≠ 0) = true := decide_eq_true hY
    have e : joinK X Y = (Cart.zero, canE Y) := by unfold joinK; rw [if_pos hX, if_neg hY]
    unfold Go.Fw.Rets
    refine enter2 func24 rfl ntmps24 rfl fun a S => wp_seq_k fun _ hK1 => wp_region_lit (st_m (op_box S (.t rfl) rfl fun g1 a w S => st_m (op_box S (.t rfl) rfl fun g2 a w S => st_m (op_alloc S zeroValue40 (cs := _) rfl rfl fun g3 a w S => run S (.ac rfl <| .z) fun a w S => st_nil (then_normal (hK1 _ _ (wp_seq_k fun _ hK1 => wp_seq_k fun _ hK2 => wp_region_lit (run S (.la gt40 2 rfl rfl rfl <| .xx (ys_call call20 (.cons (.t rfl) .nil) (fun hp w W => c20 _ _ _ _ _ (by exact .old W (by assumption)) (by exact .old W (by assumption)))) rfl <| .z) fun a w S => ?_))))))))
    rw [rw_x] at S
    refine run S (.as rfl <| .z) fun a w S => st_nil (then_normal (hK2 _ _ (sg S (.mv rfl <| .yy (ys_F (by omega) (ys_neq (.t rfl) Ev.c)) rfl <| .z) fun a w S => st_else S (.t rfl) (wp_skip (then_normal (hK1 _ _ (wp_seq_k fun _ hK1 => sg S (.la gt40 1 rfl rfl rfl <| .xx (ys_call call20 (.cons (.t rfl) .nil) (fun hp w W => c20 _ _ _ _ _ (by exact .old W (by assumption)) (by exact .old W (by assumption)))) rfl <| .as rfl <| .z) fun a w S => sg S (.mv rfl <| .yy (ys_T (by omega) (ys_neq (.t rfl) Ev.c)) rfl <| .z) fun a w S => st_then S (.t rfl) (wp_seq_k fun _ hK2 => wp_region_lit (run S (.yy (ys_bld (ps := []) (us := [_, _, _]) bld40 .nil rfl) rfl <| .mv rfl <| .z) fun a w S => st_m (op_stW S sizeOf40 (.t rfl) (.t rfl) (k := 0) rfl rfl rfl (by simp [Value.oneCell']) fun a w S => run S (.as rfl <| .z) fun a w S => st_nil (then_normal (hK2 _ _ (wp_ret (then_ret (st_ret S (results2 S results24 (Rv.cell (k := 0) ⟨isAgg40, sizeOf40⟩ rfl rfl rfl) (Rv.tmp rfl)) ?_)))))))))))))))
    rw [e]
    exact ⟨_, _, rfl, (((S.nil_ 62 3 Dot.enc none).nil_ 110 3 Dot.enc none).nil_ 74 6 Ent.enc none).wd.sub (by repeat (first | exact List.Sublist.refl _ | exact List.nil_sublist _ | refine .cons_cons _ ?_ | refine .cons _ ?_)), none, 0, none, 0, none, 0, rfl, rfl⟩
  have rw_y := hY
  have oX := (canE_ok X).1 hX
  have oY := (canE_ok Y).1 hY
  have lX := oX.len
  have lY := oY.len
  by_cases hj : (joinL X.ctx Y.ctx).2 = 0
  rotate_left
  · have rw_j : decide ((joinL X.ctx Y.ctx).2 ≠ 0) = true := decide_eq_true hj
    have e : joinK X Y = (Cart.zero, (joinL X.ctx Y.ctx).2) := by unfold joinK; rw [if_pos hX, if_pos hY, if_neg hj]
    unfold Go.Fw.Rets
    refine enter2 func24 rfl ntmps24 rfl fun a S => wp_seq_k fun _ hK1 => wp_region_lit (st_m (op_box S (.t rfl) rfl fun g1 a w S => st_m (op_box S (.t rfl) rfl fun g2 a w S => st_m (op_alloc S zeroValue40 (cs := _) rfl rfl fun g3 a w S => run S (.ac rfl <| .z) fun a w S => st_nil (then_normal (hK1 _ _ (wp_seq_k fun _ hK1 => wp_seq_k fun _ hK2 => wp_region_lit (run S (.la gt40 2 rfl rfl rfl <| .xx (ys_call call20 (.cons (.t rfl) .nil) (fun hp w W => c20 _ _ _ _ _ (by exact .old W (by assumption)) (by exact .old W (by assumption)))) rfl <| .z) fun a w S => ?_))))))))
    rw [rw_x] at S
    refine run S (.as rfl <| .z) fun a w S => st_nil (then_normal (hK2 _ _ (sg S (.mv rfl <| .yy (ys_F (by omega) (ys_neq (.t rfl) Ev.c)) rfl <| .z) fun a w S => st_else S (.t rfl) (wp_skip (then_normal (hK1 _ _ (wp_seq_k fun _ hK1 => wp_seq_k fun _ hK2 => wp_region_lit (run S (.la gt40 1 rfl rfl rfl <| .xx (ys_call call20 (.cons (.t rfl) .nil) (fun hp w W => c20 _ _ _ _ _ (by exact .old W (by assumption)) (by exact .old W (by assumption)))) rfl <| .z) fun a w S => ?_))))))))
    rw [rw_y] at S
    refine run S (.as rfl <| .z) fun a w S => st_nil (then_normal (hK2 _ _ (sg S (.mv rfl <| .yy (ys_F (by omega) (ys_neq (.t rfl) Ev.c)) rfl <| .z) fun a w S => st_else S (.t rfl) (wp_skip (then_normal (hK1 _ _ (wp_seq_k fun _ hK1 => wp_region_lit (run S (.fa underlying40 sizeOf38 1 rfl rfl rfl <| .la gt38 2 rfl rfl rfl <| .fa underlying40 sizeOf38 1 rfl rfl rfl <| .la gt38 1 rfl rfl rfl <| .z) fun a w S => ?_))))))))
    (refine st_m (op_calls S call60 (.cons (.t rfl) (.cons (.t rfl) .nil)) (c60 _ _ _ _ _ _ _ (by exact .old S.wd (by assumption)) (by exact .old S.wd (by assumption))) rfl ?_); clear S a w; rintro _ _ ⟨A11, r11, A21, r21, rfl, rfl⟩ a w S)
    refine run S (.mv rfl <| .ex rfl rfl <| .ex rfl rfl <| .z) fun a w S => st_m (op_alloc S zeroValue38 (cs := _) rfl rfl fun g4 a w S => st_m (op_stW S sizeOf38 (.t rfl) (.t rfl) (k := 0) rfl rfl rfl (by simp [Value.oneCell']) fun a w S => run S (.as rfl <| .z) fun a w S => st_nil (then_normal (hK1 _ _ (wp_seq_k fun _ hK1 => sg S (.mv rfl <| .yy (ys_T (by omega) (ys_neq (.t rfl) Ev.c)) rfl <| .z) fun a w S => st_then S (.t rfl) (wp_seq_k fun _ hK2 => wp_region_lit (run S (.yy (ys_bld (ps := []) (us := [_, _, _]) bld40 .nil rfl) rfl <| .mv rfl <| .z) fun a w S => st_m (op_stW S sizeOf40 (.t rfl) (.t rfl) (k := 3) rfl rfl rfl (by simp [Value.oneCell']) fun a w S => run S (.as rfl <| .z) fun a w S => st_nil (then_normal (hK2 _ _ (wp_ret (then_ret (st_ret S (results2 S results24 (Rv.cell (k := 3) ⟨isAgg40, sizeOf40⟩ rfl rfl rfl) (Rv.tmp rfl)) ?_)))))))))))))
    rw [e]
    exact ⟨_, _, rfl, (((S.nil_ 62 3 Dot.enc none).nil_ 110 3 Dot.enc none).nil_ 74 6 Ent.enc none).wd.sub (by repeat (first | exact List.Sublist.refl _ | exact List.nil_sublist _ | refine .cons_cons _ ?_ | refine .cons _ ?_)), none, 0, none, 0, none, 0, rfl, rfl⟩
  have rw_j := hj
  have eJ : joinK X Y = if 64 < (joinE X Y).length ∨ 32 < itemsN (joinE X Y) then (Cart.zero, 51) else if clashE X Y then (Cart.zero, 50) else (⟨joinE X Y, (joinL X.ctx Y.ctx).1⟩, 0) := by
    unfold joinK
    rw [if_pos hX, if_pos hY, if_pos hj]
    unfold sizedC
    by_cases h2 : 64 < (joinE X Y).length ∨ 32 < itemsN (joinE X Y)
    · rw [if_pos h2, if_pos h2, if_neg (by dsimp only; omega)]
    · rw [if_neg h2, if_neg h2, if_pos rfl]
  unfold Go.Fw.Rets
  refine enter2 func24 rfl ntmps24 rfl fun a S => wp_seq_k fun _ hK1 => wp_region_lit (st_m (op_box S (.t rfl) rfl fun g1 a w S => st_m (op_box S (.t rfl) rfl fun g2 a w S => st_m (op_alloc S zeroValue40 (cs := _) rfl rfl fun g3 a w S => run S (.ac rfl <| .z) fun a w S => st_nil (then_normal (hK1 _ _ (wp_seq_k fun _ hK1 => wp_seq_k fun _ hK2 => wp_region_lit (run S (.la gt40 2 rfl rfl rfl <| .xx (ys_call call20 (.cons (.t rfl) .nil) (fun hp w W => c20 _ _ _ _ _ (by exact .old W (by assumption)) (by exact .old W (by assumption)))) rfl <| .z) fun a w S => ?_))))))))
  rw [rw_x] at S
  refine run S (.as rfl <| .z) fun a w S => st_nil (then_normal (hK2 _ _ (sg S (.mv rfl <| .yy (ys_F (by omega) (ys_neq (.t rfl) Ev.c)) rfl <| .z) fun a w S => st_else S (.t rfl) (wp_skip (then_normal (hK1 _ _ (wp_seq_k fun _ hK1 => wp_seq_k fun _ hK2 => wp_region_lit (run S (.la gt40 1 rfl rfl rfl <| .xx (ys_call call20 (.cons (.t rfl) .nil) (fun hp w W => c20 _ _ _ _ _ (by exact .old W (by assumption)) (by exact .old W (by assumption)))) rfl <| .z) fun a w S => ?_))))))))
  rw [rw_y] at S
  refine run S (.as rfl <| .z) fun a w S => st_nil (then_normal (hK2 _ _ (sg S (.mv rfl <| .yy (ys_F (by omega) (ys_neq (.t rfl) Ev.c)) rfl <| .z) fun a w S => st_else S (.t rfl) (wp_skip (then_normal (hK1 _ _ (wp_seq_k fun _ hK1 => wp_region_lit (run S (.fa underlying40 sizeOf38 1 rfl rfl rfl <| .la gt38 2 rfl rfl rfl <| .fa underlying40 sizeOf38 1 rfl rfl rfl <| .la gt38 1 rfl rfl rfl <| .z) fun a w S => ?_))))))))
  (refine st_m (op_calls S call60 (.cons (.t rfl) (.cons (.t rfl) .nil)) (c60 _ _ _ _ _ _ _ (by exact .old S.wd (by assumption)) (by exact .old S.wd (by assumption))) rfl ?_); clear S a w; rintro _ _ ⟨A11, r11, A21, r21, rfl, rfl⟩ a w S)
  rw [rw_j] at S
  refine run S (.mv rfl <| .ex rfl rfl <| .ex rfl rfl <| .z) fun a w S => st_m (op_alloc S zeroValue38 (cs := _) rfl rfl fun g4 a w S => st_m (op_stW S sizeOf38 (.t rfl) (.t rfl) (k := 0) rfl rfl rfl (by simp [Value.oneCell']) fun a w S => run S (.as rfl <| .z) fun a w S => st_nil (then_normal (hK1 _ _ (wp_seq_k fun _ hK1 => sg S (.mv rfl <| .yy (ys_F (by omega) (ys_neq (.t rfl) Ev.c)) rfl <| .z) fun a w S => st_else S (.t rfl) (wp_skip (then_normal (hK1 _ _ (wp_seq_k fun _ hK1 => wp_region_lit (run S (.la gt38 0 rfl rfl rfl <| .yy (ys_bld (ps := [(1, Go.Operand.tmp 45)]) (us := [_, _, _]) bld40 (.cons (.t rfl) .nil) rfl) rfl <| .z) fun a w S => st_m (op_alloc S zeroValue40 (cs := _) rfl rfl fun g5 a w S => st_m (op_stW S sizeOf40 (.t rfl) (.t rfl) (k := 0) rfl rfl rfl (by simp [Value.oneCell']) fun a w S => st_nil (then_normal (hK1 _ _ (wp_seq_k fun _ hK1 => sg S (.fa underlying40 sizeOf34 0 rfl rfl rfl <| .ld gt34 6 rfl rfl rfl <| .ln underlying34 rfl <| .mc rfl <| .z) fun a w S => wp_block ?_)))))))))))))))
  generalize (joinL X.ctx Y.ctx).1 = R at S eJ
  have hcX := can_ctx hX
  have hcY := can_ctx hY
  have rw_covX := can_covers hcX
  have rw_covY := can_covers hcY
  refine st_lpM (S.nil_ 74 6 Ent.enc none) [50] (X := Nat × Option Addr × Nat) (fun q => [(50, true, .int .i64 (q.1 : Int))])
    (fun q => [rowOf 74 6 Ent.enc q.2.1 q.2.2 ((X.ents.take q.1).filter (stayB Y)), .blk g5 (.cells #[.slice q.2.1 ((X.ents.take q.1).filter (stayB Y)).length q.2.2, .slice A11 R.marks.length r11, .slice A21 R.cloud.length r21] 40), rowOf 110 3 Dot.enc A11 r11 R.marks, rowOf 62 3 Dot.enc A21 r21 R.cloud, .blk g3 (.cells #[.slice none 0 0, .slice none 0 0, .slice none 0 0] 40), .blk g2 (.cells #[.slice B Y.ents.length capB, .slice B2 Y.ctx.marks.length capB2, .slice B3 Y.ctx.cloud.length capB3] 40), .blk g1 (.cells #[.slice A X.ents.length cap, .slice A2 X.ctx.marks.length cap2, .slice A3 X.ctx.cloud.length cap3] 40)])
    (fun q => q.1 ≤ X.ents.length) (fun q => X.ents.length - q.1) (0, none, 0) (Nat.zero_le _) ?_
  clear S
  rintro ⟨k, D, cD⟩ a w hk S
  dsimp only at hk S
  have hol := filter_take (stayB Y) X.ents k
  by_cases hlt : k < X.ents.length
  · obtain ⟨g, o, x, rfl, hx, hd, hc⟩ := row_at hA hlt
    cases hp : stayB Y x with
    | false =>
      have rw_p : (decide (x ∈ Y.ents) || !Y.ctx.covers ⟨x.dot.node, x.dot.life, x.dot.count⟩) = false := hp
      have hst := filter_no hx hp
      refine sg S (.lt (by omega) rfl rfl <| .z) fun a w S => wp_seq_k fun _ hK2 => st_then S (.t rfl) (wp_skip (then_normal (hK2 _ _ (wp_seq_k fun _ hK2 => wp_block (wp_seq_k fun _ hK3 => wp_region_lit (run S (.ix underlying34 sizeOf74 (by omega) rfl rfl <| .yy (ys_ldOA ⟨isAgg74, sizeOf74⟩ (.t rfl) (vs := [_, _, _, _, _, _]) rfl (fun _ => hc)) rfl <| .z) fun a w S => st_m (op_alloc S zeroValue74 (cs := _) rfl rfl fun g6 a w S => st_m (op_stW S sizeOf74 (.t rfl) (.t rfl) (k := 0) rfl rfl rfl (by simp [Value.oneCell']) fun a w S => st_nil (then_normal (hK3 _ _ (wp_seq_k fun _ hK3 => wp_region_lit (run S (.la gt40 6 rfl rfl rfl <| .la gt74 0 rfl rfl rfl <| .xx (ys_call call61 (.cons (.t rfl) (.cons (.t rfl) .nil)) (fun hp w W => c61 _ _ _ _ _ _ _ _ _ _ (by exact .old W (by assumption)))) rfl <| .mv rfl <| .z) fun a w S => st_yf S rfl rfl (Yr.ys (ys_fieldN (FieldT.mk underlying40 rfl sizeOf38 rfl) (.t rfl) (i' := 1) rfl)) rfl fun a w S => st_yf S rfl rfl (Yr.ys (ys_ldA ⟨isAgg38, sizeOf38⟩ (Ev.g rfl) (k := 6) rfl rfl)) rfl fun a w S => st_yf S rfl rfl (Yr.ys (ys_fieldN (FieldT.mk underlying74 rfl sizeOf62 rfl) (.t rfl) (i' := 1) rfl)) rfl fun a w S => st_yf S rfl rfl (Yr.ys (ys_ldA ⟨isAgg62, sizeOf62⟩ (Ev.g rfl) (k := 0) rfl rfl)) rfl fun a w S => ?_))))))))))))
      refine st_yf S rfl rfl (ys_call call52 (.cons (Ev.g rfl) (.cons (Ev.g rfl) .nil)) (fun hp w W => c52 _ _ _ _ _ _ _ (by exact .old W (by assumption)))) rfl fun a w S => ?_
      rw [rw_covY] at S
      refine st_yf S rfl rfl (Yr.ys (ys_not (Ev.g rfl))) rfl fun a w S => run S (.yy (ys_or (.t rfl) Ev.c (Ev.g rfl)) rfl <| .z) fun a w S => ?_
      rw [rw_p] at S
      refine st_nil (then_normal (hK3 _ _ (st_else S (.t rfl) (wp_skip (in_normal (then_normal (hK2 _ _ (wp_region_lit (run S (.ad (by unfold I64; omega) rfl <| .mv rfl <| .z) fun a w S => st_nil (then_normal ?_))))))))))
      exact ⟨(k + 1, D, cD), by dsimp only; omega, by dsimp only; omega, by dsimp only; rw [hst]; exact S.pk⟩
    | true =>
      have rw_p : (decide (x ∈ Y.ents) || !Y.ctx.covers ⟨x.dot.node, x.dot.life, x.dot.count⟩) = true := hp
      have hst := filter_yes hx hp
      refine sg S (.lt (by omega) rfl rfl <| .z) fun a w S => wp_seq_k fun _ hK2 => st_then S (.t rfl) (wp_skip (then_normal (hK2 _ _ (wp_seq_k fun _ hK2 => wp_block (wp_seq_k fun _ hK3 => wp_region_lit (run S (.ix underlying34 sizeOf74 (by omega) rfl rfl <| .yy (ys_ldOA ⟨isAgg74, sizeOf74⟩ (.t rfl) (vs := [_, _, _, _, _, _]) rfl (fun _ => hc)) rfl <| .z) fun a w S => st_m (op_alloc S zeroValue74 (cs := _) rfl rfl fun g6 a w S => st_m (op_stW S sizeOf74 (.t rfl) (.t rfl) (k := 0) rfl rfl rfl (by simp [Value.oneCell']) fun a w S => st_nil (then_normal (hK3 _ _ (wp_seq_k fun _ hK3 => wp_region_lit (run S (.la gt40 6 rfl rfl rfl <| .la gt74 0 rfl rfl rfl <| .xx (ys_call call61 (.cons (.t rfl) (.cons (.t rfl) .nil)) (fun hp w W => c61 _ _ _ _ _ _ _ _ _ _ (by exact .old W (by assumption)))) rfl <| .mv rfl <| .z) fun a w S => st_yf S rfl rfl (Yr.ys (ys_fieldN (FieldT.mk underlying40 rfl sizeOf38 rfl) (.t rfl) (i' := 1) rfl)) rfl fun a w S => st_yf S rfl rfl (Yr.ys (ys_ldA ⟨isAgg38, sizeOf38⟩ (Ev.g rfl) (k := 6) rfl rfl)) rfl fun a w S => st_yf S rfl rfl (Yr.ys (ys_fieldN (FieldT.mk underlying74 rfl sizeOf62 rfl) (.t rfl) (i' := 1) rfl)) rfl fun a w S => st_yf S rfl rfl (Yr.ys (ys_ldA ⟨isAgg62, sizeOf62⟩ (Ev.g rfl) (k := 0) rfl rfl)) rfl fun a w S => ?_))))))))))))
      refine st_yf S rfl rfl (ys_call call52 (.cons (Ev.g rfl) (.cons (Ev.g rfl) .nil)) (fun hp w W => c52 _ _ _ _ _ _ _ (by exact .old W (by assumption)))) rfl fun a w S => ?_
      rw [rw_covY] at S
      refine st_yf S rfl rfl (Yr.ys (ys_not (Ev.g rfl))) rfl fun a w S => run S (.yy (ys_or (.t rfl) Ev.c (Ev.g rfl)) rfl <| .z) fun a w S => ?_
      rw [rw_p] at S
      refine st_nil (then_normal (hK3 _ _ (st_then S (.t rfl) (wp_region_lit (run S (.fa underlying40 sizeOf34 0 rfl rfl rfl <| .ld gt34 2 rfl rfl rfl <| .la gt74 0 rfl rfl rfl <| .z) fun a w S => st_m (op_bslice1 S underlying34 inf74 rfl rfl rfl (.t rfl) rfl rfl rfl fun g7 a w S => st_m (op_push S underlying34 inf74 rfl (k := 2) (j := 0) rfl (.t rfl) (.t rfl) rfl rfl rfl rfl (by first | omega | (simp only [List.length_append, List.length_cons, List.length_nil]; omega)) rfl rfl rfl fun A1 cap1 a w S => run S (.fa underlying40 sizeOf34 0 rfl rfl rfl <| .z) fun a w S => st_m (op_st S sizeOf34 (.t rfl) (.t rfl) (k := 3) rfl rfl (by simp) fun a w S => st_nil (in_normal (then_normal (hK2 _ _ (wp_region_lit (run S (.ad (by unfold I64; omega) rfl <| .mv rfl <| .z) fun a w S => st_nil (then_normal ?_))))))))))))))
      exact ⟨(k + 1, A1, cap1), by dsimp only; omega, by dsimp only; omega, by dsimp only; rw [hst]; exact S.pk⟩
  obtain rfl : k = X.ents.length := by omega
  rw [List.take_length, ← stays_filter] at S hol
  refine sg S (.ge (by omega) rfl rfl <| .z) fun a w S => wp_seq_k fun _ hK2 => st_else S (.t rfl) (wp_exit (then_exit (then_exit (in_here (then_normal (hK1 _ _ (wp_seq_k fun _ hK1 => sg S (.fa underlying40 sizeOf34 0 rfl rfl rfl <| .ld gt34 5 rfl rfl rfl <| .ln underlying34 rfl <| .mc rfl <| .z) fun a w S => wp_block ?_)))))))
  have e0 : joinF X Y 0 = staysE X Y := rfl
  rw [← e0] at S
  refine st_lpM S [75] (X := Nat × Option Addr × Nat) (fun q => [(75, true, .int .i64 (q.1 : Int))])
    (fun q => [rowOf 74 6 Ent.enc q.2.1 q.2.2 (joinF X Y q.1), .blk g5 (.cells #[.slice q.2.1 (joinF X Y q.1).length q.2.2, .slice A11 R.marks.length r11, .slice A21 R.cloud.length r21] 40), rowOf 110 3 Dot.enc A11 r11 R.marks, rowOf 62 3 Dot.enc A21 r21 R.cloud, .blk g3 (.cells #[.slice none 0 0, .slice none 0 0, .slice none 0 0] 40), .blk g2 (.cells #[.slice B Y.ents.length capB, .slice B2 Y.ctx.marks.length capB2, .slice B3 Y.ctx.cloud.length capB3] 40), .blk g1 (.cells #[.slice A X.ents.length cap, .slice A2 X.ctx.marks.length cap2, .slice A3 X.ctx.cloud.length cap3] 40)])
    (fun q => q.1 ≤ Y.ents.length) (fun q => Y.ents.length - q.1) (0, D, cD) (Nat.zero_le _) ?_
  clear S
  rintro ⟨k, E, cE⟩ a w hk S
  dsimp only at hk S
  have hol3 : (joinF X Y k).length ≤ 200 := by
    unfold joinF
    have hol2 := filter_take (newB X) Y.ents k
    rw [fold_ins_len]; omega
  by_cases hlt : k < Y.ents.length
  · obtain ⟨g, o, x, rfl, hx, hd, hc⟩ := row_at hB hlt
    cases hp : newB X x with
    | false =>
      have hst : joinF X Y (k + 1) = joinF X Y k := by unfold joinF; rw [filter_no hx hp]
      have rw_c : X.ctx.covers ⟨x.dot.node, x.dot.life, x.dot.count⟩ = true := by simpa [newB] using hp
      refine sg S (.lt (by omega) rfl rfl <| .z) fun a w S => wp_seq_k fun _ hK3 => st_then S (.t rfl) (wp_skip (then_normal (hK3 _ _ (wp_seq_k fun _ hK3 => wp_block (wp_seq_k fun _ hK4 => wp_region_lit (run S (.ix underlying34 sizeOf74 (by omega) rfl rfl <| .yy (ys_ldOA ⟨isAgg74, sizeOf74⟩ (.t rfl) (vs := [_, _, _, _, _, _]) rfl (fun _ => hc)) rfl <| .z) fun a w S => st_m (op_alloc S zeroValue74 (cs := _) rfl rfl fun g6 a w S => st_m (op_stW S sizeOf74 (.t rfl) (.t rfl) (k := 0) rfl rfl rfl (by simp [Value.oneCell']) fun a w S => st_nil (then_normal (hK4 _ _ (wp_seq_k fun _ hK4 => wp_region_lit (run S (.fa underlying40 sizeOf38 1 rfl rfl rfl <| .la gt38 7 rfl rfl rfl <| .fa underlying74 sizeOf62 1 rfl rfl rfl <| .la gt62 0 rfl rfl rfl <| .xx (ys_call call52 (.cons (.t rfl) (.cons (.t rfl) .nil)) (fun hp w W => c52 _ _ _ _ _ _ _ (by exact .old W (by assumption)))) rfl <| .z) fun a w S => ?_))))))))))))
      rw [rw_covX] at S
      rw [rw_c] at S
      refine run S (.nt rfl <| .z) fun a w S => st_nil (then_normal (hK4 _ _ (st_else S (.t rfl) (wp_skip (in_normal (then_normal (hK3 _ _ (wp_region_lit (run S (.ad (by unfold I64; omega) rfl <| .mv rfl <| .z) fun a w S => st_nil (then_normal ?_))))))))))
      exact ⟨(k + 1, E, cE), by dsimp only; omega, by dsimp only; omega, by dsimp only; rw [hst]; exact S.pk⟩
    | true =>
      have hst : joinF X Y (k + 1) = insE x (joinF X Y k) := by unfold joinF; rw [filter_yes hx hp, List.foldl_append]; rfl
      have rw_c : X.ctx.covers ⟨x.dot.node, x.dot.life, x.dot.count⟩ = false := by simpa [newB] using hp
      generalize joinF X Y k = O at S hst hol3
      refine sg S (.lt (by omega) rfl rfl <| .z) fun a w S => wp_seq_k fun _ hK3 => st_then S (.t rfl) (wp_skip (then_normal (hK3 _ _ (wp_seq_k fun _ hK3 => wp_block (wp_seq_k fun _ hK4 => wp_region_lit (run S (.ix underlying34 sizeOf74 (by omega) rfl rfl <| .yy (ys_ldOA ⟨isAgg74, sizeOf74⟩ (.t rfl) (vs := [_, _, _, _, _, _]) rfl (fun _ => hc)) rfl <| .z) fun a w S => st_m (op_alloc S zeroValue74 (cs := _) rfl rfl fun g6 a w S => st_m (op_stW S sizeOf74 (.t rfl) (.t rfl) (k := 0) rfl rfl rfl (by simp [Value.oneCell']) fun a w S => st_nil (then_normal (hK4 _ _ (wp_seq_k fun _ hK4 => wp_region_lit (run S (.fa underlying40 sizeOf38 1 rfl rfl rfl <| .la gt38 7 rfl rfl rfl <| .fa underlying74 sizeOf62 1 rfl rfl rfl <| .la gt62 0 rfl rfl rfl <| .xx (ys_call call52 (.cons (.t rfl) (.cons (.t rfl) .nil)) (fun hp w W => c52 _ _ _ _ _ _ _ (by exact .old W (by assumption)))) rfl <| .z) fun a w S => ?_))))))))))))
      rw [rw_covX] at S
      rw [rw_c] at S
      refine run S (.nt rfl <| .z) fun a w S => st_nil (then_normal (hK4 _ _ (st_then S (.t rfl) (wp_region_lit (run S (.fa underlying40 sizeOf34 0 rfl rfl rfl <| .ld gt34 2 rfl rfl rfl <| .la gt74 0 rfl rfl rfl <| .z) fun a w S => ?_)))))
      (refine st_m (op_calls S call62 (.cons (.t rfl) (.cons (.t rfl) .nil)) (c62 _ _ _ _ (by exact Sl.of_own S.wd (k := 1) rfl (fun _ => rfl)) (by omega)) rfl ?_); clear S a w; rintro _ _ ⟨A12, r12, rfl, rfl⟩ a w S)
      refine run S (.fa underlying40 sizeOf34 0 rfl rfl rfl <| .z) fun a w S => st_m (op_st S sizeOf34 (.t rfl) (.t rfl) (k := 3) rfl rfl (by simp) fun a w S => st_nil (in_normal (then_normal (hK3 _ _ (wp_region_lit (run S (.ad (by unfold I64; omega) rfl <| .mv rfl <| .z) fun a w S => st_nil (then_normal ?_)))))))
      exact ⟨(k + 1, A12, r12), by dsimp only; omega, by dsimp only; omega, by dsimp only; rw [hst]; exact S.pk⟩
  obtain rfl : k = Y.ents.length := by omega
  have e1 : joinF X Y Y.ents.length = joinE X Y := by unfold joinF; rw [List.take_length]; rfl
  rw [e1] at S hol3
  have hjl := joinE_len oX oY
  by_cases hbig : 64 < (joinE X Y).length ∨ 32 < itemsN (joinE X Y)
  · have rw_b : ∀ x y : Value, (if 64 < (joinE X Y).length ∨ 32 < itemsN (joinE X Y) then x else y) = x := fun _ _ => if_pos hbig
    rw [if_pos hbig] at eJ
    refine sg S (.ge (by omega) rfl rfl <| .z) fun a w S => wp_seq_k fun _ hK3 => st_else S (.t rfl) (wp_exit (then_exit (then_exit (in_here (then_normal (hK1 _ _ (wp_seq_k fun _ hK1 => wp_seq_k fun _ hK4 => wp_region_lit (run S (.la gt40 1 rfl rfl rfl <| .xx (ys_call call63 (.cons (.t rfl) .nil) (fun hp w W => c63 _ _ _ _ _ _ _ _ _ (by exact Sl.of_own W (k := 0) rfl (fun _ => rfl)) (by omega))) rfl <| .z) fun a w S => ?_))))))))
    rw [rw_b] at S
    refine run S (.mv rfl <| .ex rfl rfl <| .ex rfl rfl <| .z) fun a w S => st_m (op_alloc S zeroValue40 (cs := _) rfl rfl fun g6 a w S => st_m (op_stW S sizeOf40 (.t rfl) (.t rfl) (k := 0) rfl rfl rfl (by simp [Value.oneCell']) fun a w S => run S (.as rfl <| .z) fun a w S => st_nil (then_normal (hK4 _ _ (sg S (.mv rfl <| .yy (ys_T (by omega) (ys_neq (.t rfl) Ev.c)) rfl <| .z) fun a w S => st_then S (.t rfl) (wp_seq_k fun _ hK4 => wp_region_lit (run S (.yy (ys_bld (ps := []) (us := [_, _, _]) bld40 .nil rfl) rfl <| .mv rfl <| .z) fun a w S => st_m (op_stW S sizeOf40 (.t rfl) (.t rfl) (k := 5) rfl rfl rfl (by simp [Value.oneCell']) fun a w S => run S (.as rfl <| .z) fun a w S => st_nil (then_normal (hK4 _ _ (wp_ret (then_ret (st_ret S (results2 S results24 (Rv.cell (k := 5) ⟨isAgg40, sizeOf40⟩ rfl rfl rfl) (Rv.tmp rfl)) ?_)))))))))))))
    rw [eJ]
    exact ⟨_, _, rfl, (((S.nil_ 62 3 Dot.enc none).nil_ 110 3 Dot.enc none).nil_ 74 6 Ent.enc none).wd.sub (by repeat (first | exact List.Sublist.refl _ | exact List.nil_sublist _ | refine .cons_cons _ ?_ | refine .cons _ ?_)), none, 0, none, 0, none, 0, rfl, rfl⟩
  have rw_b : ∀ x y : Value, (if 64 < (joinE X Y).length ∨ 32 < itemsN (joinE X Y) then x else y) = y := fun _ _ => if_neg hbig
  rw [if_neg hbig] at eJ
  refine sg S (.ge (by omega) rfl rfl <| .z) fun a w S => wp_seq_k fun _ hK3 => st_else S (.t rfl) (wp_exit (then_exit (then_exit (in_here (then_normal (hK1 _ _ (wp_seq_k fun _ hK1 => wp_seq_k fun _ hK4 => wp_region_lit (run S (.la gt40 1 rfl rfl rfl <| .xx (ys_call call63 (.cons (.t rfl) .nil) (fun hp w W => c63 _ _ _ _ _ _ _ _ _ (by exact Sl.of_own W (k := 0) rfl (fun _ => rfl)) (by omega))) rfl <| .z) fun a w S => ?_))))))))
  rw [rw_b] at S
  refine run S (.mv rfl <| .ex rfl rfl <| .ex rfl rfl <| .z) fun a w S => st_m (op_alloc S zeroValue40 (cs := _) rfl rfl fun g6 a w S => st_m (op_stW S sizeOf40 (.t rfl) (.t rfl) (k := 0) rfl rfl rfl (by simp [Value.oneCell']) fun a w S => run S (.as rfl <| .z) fun a w S => st_nil (then_normal (hK4 _ _ (sg S (.mv rfl <| .yy (ys_F (by omega) (ys_neq (.t rfl) Ev.c)) rfl <| .z) fun a w S => st_else S (.t rfl) (wp_skip (then_normal (hK1 _ _ (wp_seq_k fun _ hK1 => sg S (.fa underlying40 sizeOf34 0 rfl rfl rfl <| .ld gt34 7 rfl rfl rfl <| .ln underlying34 rfl <| .mc rfl <| .z) fun a w S => wp_block ?_)))))))))
  refine st_lpM S [103] (X := Nat) (fun k => [(103, true, .int .i64 (k : Int))])
    (fun q => [rowOf 74 6 Ent.enc E cE (joinE X Y), .blk g5 (.cells #[.slice E (joinE X Y).length cE, .slice A11 R.marks.length r11, .slice A21 R.cloud.length r21] 40), rowOf 110 3 Dot.enc A11 r11 R.marks, rowOf 62 3 Dot.enc A21 r21 R.cloud, .blk g3 (.cells #[.slice none 0 0, .slice none 0 0, .slice none 0 0] 40), .blk g2 (.cells #[.slice B Y.ents.length capB, .slice B2 Y.ctx.marks.length capB2, .slice B3 Y.ctx.cloud.length capB3] 40), .blk g1 (.cells #[.slice A X.ents.length cap, .slice A2 X.ctx.marks.length cap2, .slice A3 X.ctx.cloud.length cap3] 40)])
    (fun k => k ≤ X.ents.length ∧ ∀ x ∈ X.ents.take k, ∀ y ∈ Y.ents, x.dot = y.dot → x = y) (fun k => X.ents.length - k) 0 ⟨Nat.zero_le _, by simp⟩ ?_
  clear S
  rintro k a w ⟨hk, hno⟩ S
  by_cases hlt : k < X.ents.length
  · obtain ⟨g, o, x, rfl, hx, hd, hc⟩ := row_at hA hlt
    refine sg S (.lt (by omega) rfl rfl <| .z) fun a w S => wp_seq_k fun _ hK4 => st_then S (.t rfl) (wp_skip (then_normal (hK4 _ _ (wp_seq_k fun _ hK4 => wp_block (wp_seq_k fun _ hK5 => wp_region_lit (run S (.ix underlying34 sizeOf74 (by omega) rfl rfl <| .yy (ys_ldOA ⟨isAgg74, sizeOf74⟩ (.t rfl) (vs := [_, _, _, _, _, _]) rfl (fun _ => hc)) rfl <| .z) fun a w S => st_m (op_alloc S zeroValue74 (cs := _) rfl rfl fun g7 a w S => st_m (op_stW S sizeOf74 (.t rfl) (.t rfl) (k := 0) rfl rfl rfl (by simp [Value.oneCell']) fun a w S => st_nil (then_normal (hK5 _ _ (sg S (.fa underlying40 sizeOf34 0 rfl rfl rfl <| .ld gt34 6 rfl rfl rfl <| .ln underlying34 rfl <| .mc rfl <| .z) fun a w S => wp_block ?_)))))))))))
    refine st_lpM S [110] (X := Nat) (fun k => [(110, true, .int .i64 (k : Int))])
      (fun q => [.blk g7 (.cells (Ent.enc x).toArray 74), rowOf 74 6 Ent.enc E cE (joinE X Y), .blk g5 (.cells #[.slice E (joinE X Y).length cE, .slice A11 R.marks.length r11, .slice A21 R.cloud.length r21] 40), rowOf 110 3 Dot.enc A11 r11 R.marks, rowOf 62 3 Dot.enc A21 r21 R.cloud, .blk g3 (.cells #[.slice none 0 0, .slice none 0 0, .slice none 0 0] 40), .blk g2 (.cells #[.slice B Y.ents.length capB, .slice B2 Y.ctx.marks.length capB2, .slice B3 Y.ctx.cloud.length capB3] 40), .blk g1 (.cells #[.slice (some ⟨g, o, none⟩) X.ents.length cap, .slice A2 X.ctx.marks.length cap2, .slice A3 X.ctx.cloud.length cap3] 40)])
      (fun m => m ≤ Y.ents.length ∧ ∀ y ∈ Y.ents.take m, x.dot = y.dot → x = y) (fun m => Y.ents.length - m) 0 ⟨Nat.zero_le _, by simp⟩ ?_
    clear S
    rintro m a w ⟨hm, hno2⟩ S
    by_cases hlt : m < Y.ents.length
    · obtain ⟨g', o', y, rfl, hy, hd', hc'⟩ := row_at hB hlt
      by_cases h1 : x.dot = y.dot
      · by_cases h2 : x = y
        · have rw_1 := decide_eq_true (dot_iff3.1 h1)
          have rw_2 := decide_eq_true (ent_iff.1 h2)
          refine sg S (.lt (by omega) rfl rfl <| .z) fun a w S => wp_seq_k fun _ hK5 => st_then S (.t rfl) (wp_skip (then_normal (hK5 _ _ (wp_seq_k fun _ hK5 => wp_block (wp_seq_k fun _ hK6 => wp_region_lit (run S (.ix underlying34 sizeOf74 (by omega) rfl rfl <| .yy (ys_ldOA ⟨isAgg74, sizeOf74⟩ (.t rfl) (vs := [_, _, _, _, _, _]) rfl (fun _ => hc')) rfl <| .z) fun a w S => st_m (op_alloc S zeroValue74 (cs := _) rfl rfl fun g8 a w S => st_m (op_stW S sizeOf74 (.t rfl) (.t rfl) (k := 0) rfl rfl rfl (by simp [Value.oneCell']) fun a w S => st_nil (then_normal (hK6 _ _ (wp_seq_k fun _ hK6 => wp_region_lit (run S (.fa underlying74 sizeOf62 1 rfl rfl rfl <| .la gt62 1 rfl rfl rfl <| .fa underlying74 sizeOf62 1 rfl rfl rfl <| .la gt62 0 rfl rfl rfl <| .yy (ys_eqA (.t rfl) (.t rfl) eq62) rfl <| .z) fun a w S => ?_))))))))))))
          rw [rw_1] at S
          refine run S (.mv rfl <| .gy rfl rfl (ys_ldA ⟨isAgg74, sizeOf74⟩ (.t rfl) (k := 1) rfl rfl) <| .gy rfl rfl (ys_ldA ⟨isAgg74, sizeOf74⟩ (.t rfl) (k := 0) rfl rfl) <| .gy rfl rfl (ys_neA (.t rfl) (.t rfl) eq74) <| .z) fun a w S => ?_
          rw [rw_2] at S
          refine run S (.yy (ys_pickT (.t rfl) (.t rfl)) rfl <| .z) fun a w S => st_nil (then_normal (hK6 _ _ (st_else S (.t rfl) (wp_skip (in_normal (then_normal (hK5 _ _ (wp_region_lit (run S (.ad (by unfold I64; omega) rfl <| .mv rfl <| .z) fun a w S => st_nil (then_normal ?_))))))))))
          refine ⟨m + 1, ⟨by omega, fun z hz hzd => ?_⟩, by omega, S.pk⟩
          rw [List.take_add_one, hy, Option.toList_some] at hz
          rcases List.mem_append.1 hz with hz | hz
          · exact hno2 z hz hzd
          · simp at hz; subst hz; exact h2
        · have rw_1 := decide_eq_true (dot_iff3.1 h1)
          have rw_2 := decide_eq_false (fun h => h2 (ent_iff.2 h))
          refine sg S (.lt (by omega) rfl rfl <| .z) fun a w S => wp_seq_k fun _ hK5 => st_then S (.t rfl) (wp_skip (then_normal (hK5 _ _ (wp_seq_k fun _ hK5 => wp_block (wp_seq_k fun _ hK6 => wp_region_lit (run S (.ix underlying34 sizeOf74 (by omega) rfl rfl <| .yy (ys_ldOA ⟨isAgg74, sizeOf74⟩ (.t rfl) (vs := [_, _, _, _, _, _]) rfl (fun _ => hc')) rfl <| .z) fun a w S => st_m (op_alloc S zeroValue74 (cs := _) rfl rfl fun g8 a w S => st_m (op_stW S sizeOf74 (.t rfl) (.t rfl) (k := 0) rfl rfl rfl (by simp [Value.oneCell']) fun a w S => st_nil (then_normal (hK6 _ _ (wp_seq_k fun _ hK6 => wp_region_lit (run S (.fa underlying74 sizeOf62 1 rfl rfl rfl <| .la gt62 1 rfl rfl rfl <| .fa underlying74 sizeOf62 1 rfl rfl rfl <| .la gt62 0 rfl rfl rfl <| .yy (ys_eqA (.t rfl) (.t rfl) eq62) rfl <| .z) fun a w S => ?_))))))))))))
          rw [rw_1] at S
          refine run S (.mv rfl <| .gy rfl rfl (ys_ldA ⟨isAgg74, sizeOf74⟩ (.t rfl) (k := 1) rfl rfl) <| .gy rfl rfl (ys_ldA ⟨isAgg74, sizeOf74⟩ (.t rfl) (k := 0) rfl rfl) <| .gy rfl rfl (ys_neA (.t rfl) (.t rfl) eq74) <| .z) fun a w S => ?_
          rw [rw_2] at S
          refine run S (.yy (ys_pickT (.t rfl) (.t rfl)) rfl <| .z) fun a w S => st_nil (then_normal (hK6 _ _ (st_then S (.t rfl) (wp_seq_k fun _ hK6 => wp_region_lit (run S (.yy (ys_bld (ps := []) (us := [_, _, _]) bld40 .nil rfl) rfl <| .z) fun a w S => st_m (op_stW S sizeOf40 (.t rfl) (.t rfl) (k := 6) rfl rfl rfl (by simp [Value.oneCell']) fun a w S => run S (.ac rfl <| .z) fun a w S => st_nil (then_normal (hK6 _ _ (wp_ret (in_ret (then_ret (then_ret (in_ret (in_ret (then_ret (then_ret (in_ret (then_ret (st_ret S (results2 S results24 (Rv.cell (k := 6) ⟨isAgg40, sizeOf40⟩ rfl rfl rfl) (Rv.tmp rfl)) ?_)))))))))))))))))))
          have hcl : clashE X Y := ⟨x, List.mem_of_getElem? hx, y, List.mem_of_getElem? hy, h1, h2⟩
          rw [if_pos hcl] at eJ
          rw [eJ]
          exact ⟨_, _, rfl, (((S.nil_ 62 3 Dot.enc none).nil_ 110 3 Dot.enc none).nil_ 74 6 Ent.enc none).wd.sub (by repeat (first | exact List.Sublist.refl _ | exact List.nil_sublist _ | refine .cons_cons _ ?_ | refine .cons _ ?_)), none, 0, none, 0, none, 0, rfl, rfl⟩
      · have rw_1 := decide_eq_false (fun h => h1 (dot_iff3.2 h))
        refine sg S (.lt (by omega) rfl rfl <| .z) fun a w S => wp_seq_k fun _ hK5 => st_then S (.t rfl) (wp_skip (then_normal (hK5 _ _ (wp_seq_k fun _ hK5 => wp_block (wp_seq_k fun _ hK6 => wp_region_lit (run S (.ix underlying34 sizeOf74 (by omega) rfl rfl <| .yy (ys_ldOA ⟨isAgg74, sizeOf74⟩ (.t rfl) (vs := [_, _, _, _, _, _]) rfl (fun _ => hc')) rfl <| .z) fun a w S => st_m (op_alloc S zeroValue74 (cs := _) rfl rfl fun g8 a w S => st_m (op_stW S sizeOf74 (.t rfl) (.t rfl) (k := 0) rfl rfl rfl (by simp [Value.oneCell']) fun a w S => st_nil (then_normal (hK6 _ _ (wp_seq_k fun _ hK6 => wp_region_lit (run S (.fa underlying74 sizeOf62 1 rfl rfl rfl <| .la gt62 1 rfl rfl rfl <| .fa underlying74 sizeOf62 1 rfl rfl rfl <| .la gt62 0 rfl rfl rfl <| .yy (ys_eqA (.t rfl) (.t rfl) eq62) rfl <| .z) fun a w S => ?_))))))))))))
        rw [rw_1] at S
        refine run S (.mv rfl <| .sk rfl rfl rfl <| .sk rfl rfl rfl <| .sk rfl rfl rfl <| .yy (ys_pickF (.t rfl) Ev.c) rfl <| .z) fun a w S => st_nil (then_normal (hK6 _ _ (st_else S (.t rfl) (wp_skip (in_normal (then_normal (hK5 _ _ (wp_region_lit (run S (.ad (by unfold I64; omega) rfl <| .mv rfl <| .z) fun a w S => st_nil (then_normal ?_))))))))))
        refine ⟨m + 1, ⟨by omega, fun z hz hzd => ?_⟩, by omega, S.pk⟩
        rw [List.take_add_one, hy, Option.toList_some] at hz
        rcases List.mem_append.1 hz with hz | hz
        · exact hno2 z hz hzd
        · simp at hz; subst hz; exact absurd hzd h1
    · obtain rfl : m = Y.ents.length := by omega
      rw [List.take_length] at hno2
      refine sg S (.ge (by omega) rfl rfl <| .z) fun a w S => wp_seq_k fun _ hK5 => st_else S (.t rfl) (wp_exit (then_exit (then_exit (in_here (in_normal (then_normal (hK4 _ _ (wp_region_lit (run S (.ad (by unfold I64; omega) rfl <| .mv rfl <| .z) fun a w S => st_nil (then_normal ?_))))))))))
      refine ⟨k + 1, ⟨by omega, fun z hz => ?_⟩, by omega, S.pk⟩
      rw [List.take_add_one, hx, Option.toList_some] at hz
      rcases List.mem_append.1 hz with hz | hz
      · exact hno z hz
      · simp at hz; subst hz; exact hno2
  obtain rfl : k = X.ents.length := by omega
  rw [List.take_length] at hno
  have hcl : ¬ clashE X Y := fun ⟨x, hx, y, hy, h1, h2⟩ => h2 (hno x hx y hy h1)
  rw [if_neg hcl] at eJ
  refine sg S (.ge (by omega) rfl rfl <| .z) fun a w S => wp_seq_k fun _ hK4 => st_else S (.t rfl) (wp_exit (then_exit (then_exit (in_here (then_normal (hK1 _ _ (wp_seq_k fun _ hK1 => wp_region_lit (run S (.la gt40 1 rfl rfl rfl <| .z) fun a w S => st_m (op_stW S sizeOf40 (.t rfl) (.t rfl) (k := 4) rfl rfl rfl (by simp [Value.oneCell']) fun a w S => run S (.ac rfl <| .z) fun a w S => st_nil (then_normal (hK1 _ _ (wp_ret (st_ret S (results2 S results24 (Rv.cell (k := 4) ⟨isAgg40, sizeOf40⟩ rfl rfl rfl) (Rv.tmp rfl)) ?_)))))))))))))
  rw [eJ]
  exact ⟨_, _, rfl, S.wd.pk, _, _, _, _, _, _, rfl, rfl⟩
end Go.Proofs.Ytfblmkocmnbdcaa
set_option linter.unusedVariables false
set_option linter.unusedSimpArgs false
set_option maxRecDepth 100000
set_option maxHeartbeats 4000000
namespace Go.Fw
theorem cart_same {X Y : Cart} : (decide (X.ents = Y.ents) && decide (X.ctx = Y.ctx)) = decide (X = Y) := by
  cases X; cases Y; simp
end Go.Fw
namespace Go.Proofs.Ytfblmkocmnbdcaa
open Go.Fw Go.Proofs Go.RowKit Go.Proofs.Try
theorem c8 (w0 : World) (v1 v2 v3 : Value) (X : Cart) (p q : Int) (h : Sl Ent.enc 6 w0 w0.heap.size v1 X.ents) (hr : RdCtx w0 w0.heap.size v2 v3 X.ctx) (hl1 : X.ents.length ≤ 1048576) (hl2 : X.ctx.marks.length ≤ 1048576) (hl3 : X.ctx.cloud.length ≤ 1048576) :
    Rets Try.prog 8 #[.agg #[v1, v2, v3], .agg #[.int .i64 p, .int .i64 q]] w0 fun v L => ∃ A1 r1 A2 r2 A3 r3, v = .agg #[.slice A1 (pruneK X p q).ents.length r1, .slice A2 (pruneK X p q).ctx.marks.length r2, .slice A3 (pruneK X p q).ctx.cloud.length r3] ∧
      L = [rowOf 74 6 Ent.enc A1 r1 (pruneK X p q).ents, rowOf 110 3 Dot.enc A2 r2 (pruneK X p q).ctx.marks, rowOf 62 3 Dot.enc A3 r3 (pruneK X p q).ctx.cloud] := by
  have hs := h
  have hrr := hr
  obtain ⟨A, cap, rfl, hl, hcap, hA⟩ := h
  obtain ⟨⟨A2, cap2, rfl, _⟩, ⟨A3, cap3, rfl, _⟩⟩ := hr
  unfold Go.Fw.Rets
  refine enter2 func8 rfl ntmps8 rfl fun a S => wp_seq_k fun _ hK1 => wp_region_lit (st_m (op_box S (.t rfl) rfl fun g1 a w S => st_m (op_box S (.t rfl) rfl fun g2 a w S => st_m (op_alloc S zeroValue40 (cs := _) rfl rfl fun g3 a w S => st_nil (then_normal (hK1 _ _ (wp_seq_k fun _ hK1 => wp_region_lit (run S (.fa underlying40 sizeOf38 1 rfl rfl rfl <| .la gt38 2 rfl rfl rfl <| .la gt29 1 rfl rfl rfl <| .z) fun a w S => ?_))))))))
  (refine st_m (op_calls S call26 (.cons (.t rfl) (.cons (.t rfl) .nil)) (c26 _ _ _ _ _ _ (by exact .old S.wd (by assumption)) (by assumption) (by assumption)) rfl ?_); clear S a w; rintro _ _ ⟨A11, r11, A21, r21, rfl, rfl⟩ a w S)
  refine run S (.yy (ys_bld (ps := [(1, Go.Operand.tmp 11)]) (us := [_, _, _]) bld40 (.cons (.t rfl) .nil) rfl) rfl <| .z) fun a w S => st_m (op_alloc S zeroValue40 (cs := _) rfl rfl fun g4 a w S => st_m (op_stW S sizeOf40 (.t rfl) (.t rfl) (k := 0) rfl rfl rfl (by simp [Value.oneCell']) fun a w S => st_nil (then_normal (hK1 _ _ (wp_seq_k fun _ hK1 => sg S (.fa underlying40 sizeOf34 0 rfl rfl rfl <| .ld gt34 5 rfl rfl rfl <| .ln underlying34 rfl <| .mc rfl <| .z) fun a w S => wp_block ?_)))))
  refine st_lpM (S.nil_ 74 6 Ent.enc none) [16] (X := Nat × Option Addr × Nat) (fun t => [(16, true, .int .i64 (t.1 : Int))])
    (fun t => [rowOf 74 6 Ent.enc t.2.1 t.2.2 (keepE p q (X.ents.take t.1)), .blk g4 (.cells #[.slice t.2.1 (keepE p q (X.ents.take t.1)).length t.2.2, .slice A11 (keep p q X.ctx.marks).length r11, .slice A21 (keep p q X.ctx.cloud).length r21] 40), rowOf 62 3 Dot.enc A21 r21 (keep p q X.ctx.cloud), rowOf 110 3 Dot.enc A11 r11 (keep p q X.ctx.marks), .blk g3 (.cells #[.slice none 0 0, .slice none 0 0, .slice none 0 0] 40), .blk g2 (.cells #[.int .i64 p, .int .i64 q] 29), .blk g1 (.cells #[.slice A X.ents.length cap, .slice A2 X.ctx.marks.length cap2, .slice A3 X.ctx.cloud.length cap3] 40)])
    (fun t => t.1 ≤ X.ents.length) (fun t => X.ents.length - t.1) (0, none, 0) (Nat.zero_le _) ?_
  clear S
  rintro ⟨k, D, cD⟩ a w hk S
  dsimp only at hk S
  have hol : (keepE p q (X.ents.take k)).length ≤ X.ents.length := filter_take _ X.ents k
  by_cases hlt : k < X.ents.length
  · obtain ⟨g, o, x, rfl, hx, hd, hc⟩ := row_at hA hlt
    refine sg S (.lt (by omega) rfl rfl <| .z) fun a w S => wp_seq_k fun _ hK2 => st_then S (.t rfl) (wp_skip (then_normal (hK2 _ _ (wp_seq_k fun _ hK2 => wp_block (wp_seq_k fun _ hK3 => wp_region_lit (run S (.ix underlying34 sizeOf74 (by omega) rfl rfl <| .yy (ys_ldOA ⟨isAgg74, sizeOf74⟩ (.t rfl) (vs := [_, _, _, _, _, _]) rfl (fun _ => hc)) rfl <| .z) fun a w S => st_m (op_alloc S zeroValue74 (cs := _) rfl rfl fun g5 a w S => st_m (op_stW S sizeOf74 (.t rfl) (.t rfl) (k := 0) rfl rfl rfl (by simp [Value.oneCell']) fun a w S => st_nil (then_normal (hK3 _ _ (wp_seq_k fun _ hK3 => wp_region_lit (run S (.fa underlying74 sizeOf62 1 rfl rfl rfl <| .fa underlying62 sizeOf3 1 rfl rfl rfl <| .ld gt3 0 rfl rfl rfl <| .fa underlying29 sizeOf3 0 rfl rfl rfl <| .ld gt3 6 rfl rfl rfl <| .yy (ys_neq (.t rfl) (.t rfl)) rfl <| .mv rfl <| .z) fun a w S => st_yf S rfl rfl (Yr.ys (ys_fieldN (FieldT.mk underlying74 rfl sizeOf62 rfl) (.t rfl) (i' := 1) rfl)) rfl fun a w S => st_yf S rfl rfl (Yr.ys (ys_fieldN (FieldT.mk underlying62 rfl sizeOf3 rfl) (Ev.g rfl) (i' := 2) rfl)) rfl fun a w S => st_yf S rfl rfl (Yr.ys (ys_ld ⟨isAgg3, sizeOf3⟩ (Ev.g rfl) (k := 0) rfl rfl)) rfl fun a w S => st_yf S rfl rfl (Yr.ys (ys_fieldN (FieldT.mk underlying29 rfl sizeOf3 rfl) (.t rfl) (i' := 1) rfl)) rfl fun a w S => ?_))))))))))))
    refine st_yf S rfl rfl (Yr.ys (ys_ld ⟨isAgg3, sizeOf3⟩ (Ev.g rfl) (k := 6) rfl rfl)) rfl fun a w S => st_yf S rfl rfl (Yr.ys (ys_neq (Ev.g rfl) (Ev.g rfl))) rfl fun a w S => run S (.yy (ys_or (.t rfl) Ev.c (Ev.g rfl)) rfl <| .z) fun a w S => st_nil (then_normal (hK3 _ _ ?_))
    refine st_cond S (.t rfl) (fun h1 => ?_) (fun h1 => ?_)
    refine wp_region_lit (run S (.fa underlying40 sizeOf34 0 rfl rfl rfl <| .ld gt34 2 rfl rfl rfl <| .la gt74 0 rfl rfl rfl <| .z) fun a w S => st_m (op_bslice1 S underlying34 inf74 rfl rfl rfl (.t rfl) rfl rfl rfl fun g6 a w S => st_m (op_push S underlying34 inf74 rfl (k := 2) (j := 0) rfl (.t rfl) (.t rfl) rfl rfl rfl rfl (by first | omega | (simp only [List.length_append, List.length_cons, List.length_nil]; omega)) rfl rfl rfl fun A1 cap1 a w S => run S (.fa underlying40 sizeOf34 0 rfl rfl rfl <| .z) fun a w S => st_m (op_st S sizeOf34 (.t rfl) (.t rfl) (k := 3) rfl rfl (by simp) fun a w S => st_nil (in_normal (then_normal (hK2 _ _ (wp_region_lit (run S (.ad (by unfold I64; omega) rfl <| .mv rfl <| .z) fun a w S => st_nil (then_normal ?_))))))))))
    rotate_left
    refine wp_skip (in_normal (then_normal (hK2 _ _ (wp_region_lit (run S (.ad (by unfold I64; omega) rfl <| .mv rfl <| .z) fun a w S => st_nil (then_normal ?_))))))
    rotate_left
    · have hst : keepE p q (X.ents.take (k + 1)) = keepE p q (X.ents.take k) ++ [x] := filter_yes hx (by simp at h1 ⊢; omega)
      exact ⟨(k + 1, A1, cap1), by dsimp only; omega, by dsimp only; omega, by dsimp only; rw [hst]; exact S.pk⟩
    · have hst : keepE p q (X.ents.take (k + 1)) = keepE p q (X.ents.take k) := filter_no hx (by simp at h1 ⊢; omega)
      exact ⟨(k + 1, D, cD), by dsimp only; omega, by dsimp only; omega, by dsimp only; rw [hst]; exact S.pk⟩
  obtain rfl : k = X.ents.length := by omega
  rw [List.take_length] at S
  refine sg S (.ge (by omega) rfl rfl <| .z) fun a w S => wp_seq_k fun _ hK2 => st_else S (.t rfl) (wp_exit (then_exit (then_exit (in_here (then_normal (hK1 _ _ (wp_seq_k fun _ hK1 => wp_region_lit (run S (.la gt40 1 rfl rfl rfl <| .z) fun a w S => st_m (op_stW S sizeOf40 (.t rfl) (.t rfl) (k := 4) rfl rfl rfl (by simp [Value.oneCell']) fun a w S => st_nil (then_normal (hK1 _ _ (wp_ret (st_ret S (results1 S results8 (Rv.cell (k := 4) ⟨isAgg40, sizeOf40⟩ rfl rfl rfl)) ?_)))))))))))))
  exact ⟨_, _, rfl, S.wd.pk, _, _, _, _, _, _, rfl, rfl⟩
theorem c12 (w0 : World) (v1 v2 v3 : Value) (X : Cart) (p q : Int) (h : Sl Ent.enc 6 w0 w0.heap.size v1 X.ents) (hr : RdCtx w0 w0.heap.size v2 v3 X.ctx) (hl1 : X.ents.length ≤ 1048576) (hl2 : X.ctx.marks.length ≤ 1048576) (hl3 : X.ctx.cloud.length ≤ 1048576) :
    Rets Try.prog 12 #[.agg #[v1, v2, v3], .agg #[.int .i64 p, .int .i64 q]] w0 fun v L => ∃ A1 r1 A2 r2 A3 r3, v = .agg #[.slice A1 (pruneK X p q).ents.length r1, .slice A2 (pruneK X p q).ctx.marks.length r2, .slice A3 (pruneK X p q).ctx.cloud.length r3] ∧
      L = [rowOf 74 6 Ent.enc A1 r1 (pruneK X p q).ents, rowOf 110 3 Dot.enc A2 r2 (pruneK X p q).ctx.marks, rowOf 62 3 Dot.enc A3 r3 (pruneK X p q).ctx.cloud] := by
  have hs := h
  have hrr := hr
  obtain ⟨A, cap, rfl, hl, hcap, hA⟩ := h
  obtain ⟨⟨A2, cap2, rfl, _⟩, ⟨A3, cap3, rfl, _⟩⟩ := hr
  unfold Go.Fw.Rets
  refine enter2 func12 rfl ntmps12 rfl fun a S => wp_seq_k fun _ hK1 => wp_region_lit (st_m (op_box S (.t rfl) rfl fun g1 a w S => st_m (op_box S (.t rfl) rfl fun g2 a w S => st_m (op_alloc S zeroValue40 (cs := _) rfl rfl fun g3 a w S => st_nil (then_normal (hK1 _ _ (wp_seq_k fun _ hK1 => wp_region_lit (run S (.fa underlying40 sizeOf38 1 rfl rfl rfl <| .la gt38 2 rfl rfl rfl <| .la gt29 1 rfl rfl rfl <| .z) fun a w S => ?_))))))))
  (refine st_m (op_calls S call34 (.cons (.t rfl) (.cons (.t rfl) .nil)) (c34 _ _ _ _ _ _ (by exact .old S.wd (by assumption)) (by assumption) (by assumption)) rfl ?_); clear S a w; rintro _ _ ⟨A11, r11, A21, r21, rfl, rfl⟩ a w S)
  refine run S (.yy (ys_bld (ps := [(1, Go.Operand.tmp 11)]) (us := [_, _, _]) bld40 (.cons (.t rfl) .nil) rfl) rfl <| .z) fun a w S => st_m (op_alloc S zeroValue40 (cs := _) rfl rfl fun g4 a w S => st_m (op_stW S sizeOf40 (.t rfl) (.t rfl) (k := 0) rfl rfl rfl (by simp [Value.oneCell']) fun a w S => st_nil (then_normal (hK1 _ _ (wp_seq_k fun _ hK1 => sg S (.fa underlying40 sizeOf34 0 rfl rfl rfl <| .ld gt34 5 rfl rfl rfl <| .ln underlying34 rfl <| .mc rfl <| .z) fun a w S => wp_block ?_)))))
  refine st_lpM (S.nil_ 74 6 Ent.enc none) [16] (X := Nat × Option Addr × Nat) (fun t => [(16, true, .int .i64 (t.1 : Int))])
    (fun t => [rowOf 74 6 Ent.enc t.2.1 t.2.2 (keepE p q (X.ents.take t.1)), .blk g4 (.cells #[.slice t.2.1 (keepE p q (X.ents.take t.1)).length t.2.2, .slice A11 (keep p q X.ctx.marks).length r11, .slice A21 (keep p q X.ctx.cloud).length r21] 40), rowOf 62 3 Dot.enc A21 r21 (keep p q X.ctx.cloud), rowOf 110 3 Dot.enc A11 r11 (keep p q X.ctx.marks), .blk g3 (.cells #[.slice none 0 0, .slice none 0 0, .slice none 0 0] 40), .blk g2 (.cells #[.int .i64 p, .int .i64 q] 29), .blk g1 (.cells #[.slice A X.ents.length cap, .slice A2 X.ctx.marks.length cap2, .slice A3 X.ctx.cloud.length cap3] 40)])
    (fun t => t.1 ≤ X.ents.length) (fun t => X.ents.length - t.1) (0, none, 0) (Nat.zero_le _) ?_
  clear S
  rintro ⟨k, D, cD⟩ a w hk S
  dsimp only at hk S
  have hol : (keepE p q (X.ents.take k)).length ≤ X.ents.length := filter_take _ X.ents k
  by_cases hlt : k < X.ents.length
  · obtain ⟨g, o, x, rfl, hx, hd, hc⟩ := row_at hA hlt
    refine sg S (.lt (by omega) rfl rfl <| .z) fun a w S => wp_seq_k fun _ hK2 => st_then S (.t rfl) (wp_skip (then_normal (hK2 _ _ (wp_seq_k fun _ hK2 => wp_block (wp_seq_k fun _ hK3 => wp_region_lit (run S (.ix underlying34 sizeOf74 (by omega) rfl rfl <| .yy (ys_ldOA ⟨isAgg74, sizeOf74⟩ (.t rfl) (vs := [_, _, _, _, _, _]) rfl (fun _ => hc)) rfl <| .z) fun a w S => st_m (op_alloc S zeroValue74 (cs := _) rfl rfl fun g5 a w S => st_m (op_stW S sizeOf74 (.t rfl) (.t rfl) (k := 0) rfl rfl rfl (by simp [Value.oneCell']) fun a w S => st_nil (then_normal (hK3 _ _ (wp_seq_k fun _ hK3 => wp_region_lit (run S (.fa underlying74 sizeOf62 1 rfl rfl rfl <| .fa underlying62 sizeOf3 1 rfl rfl rfl <| .ld gt3 0 rfl rfl rfl <| .fa underlying29 sizeOf3 0 rfl rfl rfl <| .ld gt3 6 rfl rfl rfl <| .yy (ys_neq (.t rfl) (.t rfl)) rfl <| .mv rfl <| .z) fun a w S => st_yf S rfl rfl (Yr.ys (ys_fieldN (FieldT.mk underlying74 rfl sizeOf62 rfl) (.t rfl) (i' := 1) rfl)) rfl fun a w S => st_yf S rfl rfl (Yr.ys (ys_fieldN (FieldT.mk underlying62 rfl sizeOf3 rfl) (Ev.g rfl) (i' := 2) rfl)) rfl fun a w S => st_yf S rfl rfl (Yr.ys (ys_ld ⟨isAgg3, sizeOf3⟩ (Ev.g rfl) (k := 0) rfl rfl)) rfl fun a w S => st_yf S rfl rfl (Yr.ys (ys_fieldN (FieldT.mk underlying29 rfl sizeOf3 rfl) (.t rfl) (i' := 1) rfl)) rfl fun a w S => ?_))))))))))))
    refine st_yf S rfl rfl (Yr.ys (ys_ld ⟨isAgg3, sizeOf3⟩ (Ev.g rfl) (k := 6) rfl rfl)) rfl fun a w S => st_yf S rfl rfl (Yr.ys (ys_neq (Ev.g rfl) (Ev.g rfl))) rfl fun a w S => run S (.yy (ys_or (.t rfl) Ev.c (Ev.g rfl)) rfl <| .z) fun a w S => st_nil (then_normal (hK3 _ _ ?_))
    refine st_cond S (.t rfl) (fun h1 => ?_) (fun h1 => ?_)
    refine wp_region_lit (run S (.fa underlying40 sizeOf34 0 rfl rfl rfl <| .ld gt34 2 rfl rfl rfl <| .la gt74 0 rfl rfl rfl <| .z) fun a w S => st_m (op_bslice1 S underlying34 inf74 rfl rfl rfl (.t rfl) rfl rfl rfl fun g6 a w S => st_m (op_push S underlying34 inf74 rfl (k := 2) (j := 0) rfl (.t rfl) (.t rfl) rfl rfl rfl rfl (by first | omega | (simp only [List.length_append, List.length_cons, List.length_nil]; omega)) rfl rfl rfl fun A1 cap1 a w S => run S (.fa underlying40 sizeOf34 0 rfl rfl rfl <| .z) fun a w S => st_m (op_st S sizeOf34 (.t rfl) (.t rfl) (k := 3) rfl rfl (by simp) fun a w S => st_nil (in_normal (then_normal (hK2 _ _ (wp_region_lit (run S (.ad (by unfold I64; omega) rfl <| .mv rfl <| .z) fun a w S => st_nil (then_normal ?_))))))))))
    rotate_left
    refine wp_skip (in_normal (then_normal (hK2 _ _ (wp_region_lit (run S (.ad (by unfold I64; omega) rfl <| .mv rfl <| .z) fun a w S => st_nil (then_normal ?_))))))
    rotate_left
    · have hst : keepE p q (X.ents.take (k + 1)) = keepE p q (X.ents.take k) ++ [x] := filter_yes hx (by simp at h1 ⊢; omega)
      exact ⟨(k + 1, A1, cap1), by dsimp only; omega, by dsimp only; omega, by dsimp only; rw [hst]; exact S.pk⟩
    · have hst : keepE p q (X.ents.take (k + 1)) = keepE p q (X.ents.take k) := filter_no hx (by simp at h1 ⊢; omega)
      exact ⟨(k + 1, D, cD), by dsimp only; omega, by dsimp only; omega, by dsimp only; rw [hst]; exact S.pk⟩
  obtain rfl : k = X.ents.length := by omega
  rw [List.take_length] at S
  refine sg S (.ge (by omega) rfl rfl <| .z) fun a w S => wp_seq_k fun _ hK2 => st_else S (.t rfl) (wp_exit (then_exit (then_exit (in_here (then_normal (hK1 _ _ (wp_seq_k fun _ hK1 => wp_region_lit (run S (.la gt40 1 rfl rfl rfl <| .z) fun a w S => st_m (op_stW S sizeOf40 (.t rfl) (.t rfl) (k := 4) rfl rfl rfl (by simp [Value.oneCell']) fun a w S => st_nil (then_normal (hK1 _ _ (wp_ret (st_ret S (results1 S results12 (Rv.cell (k := 4) ⟨isAgg40, sizeOf40⟩ rfl rfl rfl)) ?_)))))))))))))
  exact ⟨_, _, rfl, S.wd.pk, _, _, _, _, _, _, rfl, rfl⟩
theorem c11 (w0 : World) (v1 v2 v3 v4 v5 v6 : Value) (X Y : Cart) (h : Sl Ent.enc 6 w0 w0.heap.size v1 X.ents) (hr : RdCtx w0 w0.heap.size v2 v3 X.ctx) (h' : Sl Ent.enc 6 w0 w0.heap.size v4 Y.ents) (hr' : RdCtx w0 w0.heap.size v5 v6 Y.ctx) :
    Calls Try.prog 11 #[.agg #[v1, v2, v3], .agg #[v4, v5, v6]] w0 fun e w' => e = .returned (.bool (decide (X = Y))) ∧ Bel w0.heap.size w0 w' := by
  have hs := h
  have hrr := hr
  have hs' := h'
  have hrr' := hr'
  obtain ⟨A, cap, rfl, hl, hcap, hA⟩ := h
  obtain ⟨⟨A2, cap2, rfl, _⟩, ⟨A3, cap3, rfl, _⟩⟩ := hr
  obtain ⟨B, capB, rfl, hlB, hcapB, hB⟩ := h'
  obtain ⟨⟨B2, capB2, rfl, _⟩, ⟨B3, capB3, rfl, _⟩⟩ := hr'
  refine enter2 func11 rfl ntmps11 rfl fun a S => wp_seq_k fun _ hK1 => wp_region_lit (st_m (op_box S (.t rfl) rfl fun g1 a w S => st_m (op_box S (.t rfl) rfl fun g2 a w S => run S (.ac rfl <| .z) fun a w S => st_nil (then_normal (hK1 _ _ (wp_seq_k fun _ hK1 => wp_region_lit (run S (.fa underlying40 sizeOf34 0 rfl rfl rfl <| .ld gt34 1 rfl rfl rfl <| .fa underlying40 sizeOf34 0 rfl rfl rfl <| .ld gt34 0 rfl rfl rfl <| .xx (ys_call call32 (.cons (.t rfl) (.cons (.t rfl) .nil)) (fun hp w W => c32 _ _ _ _ _ (by exact .old W (by assumption)) (by exact .old W (by assumption)))) rfl <| .mv rfl <| .z) fun a w S => st_yg S rfl rfl (Yr.ys (ys_fieldN (FieldT.mk underlying40 rfl sizeOf38 rfl) (.t rfl) (i' := 1) rfl)) rfl fun a w S => st_yg S rfl rfl (Yr.ys (ys_ldA ⟨isAgg38, sizeOf38⟩ (Ev.g rfl) (k := 1) rfl rfl)) rfl fun a w S => st_yg S rfl rfl (Yr.ys (ys_fieldN (FieldT.mk underlying40 rfl sizeOf38 rfl) (.t rfl) (i' := 1) rfl)) rfl fun a w S => st_yg S rfl rfl (Yr.ys (ys_ldA ⟨isAgg38, sizeOf38⟩ (Ev.g rfl) (k := 0) rfl rfl)) rfl fun a w S => st_yg S rfl rfl (ys_call call33 (.cons (Ev.g rfl) (.cons (Ev.g rfl) .nil)) (fun hp w W => c33 _ _ _ _ _ _ _ (by exact .old W (by assumption)) (by exact .old W (by assumption)))) rfl fun a w S => run S (.yy (ys_and (.t rfl) (Ev.g rfl) Ev.c) rfl <| .as rfl <| .z) fun a w S => st_nil (then_normal (hK1 _ _ (wp_ret ?_))))))))))
  refine st_ret S (results1 S results11 (Rv.tmp rfl)) ?_
  exact ⟨by rw [cart_same], S.wd.below⟩
end Go.Proofs.Ytfblmkocmnbdcaa
set_option linter.unusedVariables false
set_option linter.unusedSimpArgs false
set_option maxRecDepth 100000
set_option maxHeartbeats 4000000
namespace Go.Fw
theorem cart_lens {c : Cart} (h : CartOk c) : c.ents.length ≤ 64 ∧ c.ctx.marks.length ≤ 64 ∧ c.ctx.cloud.length ≤ 64 := ⟨h.len, (can_len h.ctx).1, (can_len h.ctx).2⟩
theorem join_lens (a b : Cart) : (joinK a b).1.ents.length ≤ 1048576 ∧ (joinK a b).1.ctx.marks.length ≤ 1048576 ∧ (joinK a b).1.ctx.cloud.length ≤ 1048576 := by
  by_cases hA : canE a = 0
  · by_cases hB : canE b = 0
    · have ha := (canE_ok a).1 hA
      have hb := (canE_ok b).1 hB
      by_cases h : (joinK a b).2 = 0
      · have := cart_lens (joinK_cart ha hb h)
        omega
      · have e : (joinK a b).1 = Cart.zero := by
          rw [joinK_eq ha hb] at h ⊢
          split
          · rfl
          · rename_i h1
            rw [if_neg h1] at h
            split
            · rfl
            · rename_i h2
              rw [if_neg h2] at h
              split
              · rfl
              · rename_i h3
                rw [if_neg h3] at h; exact absurd rfl h
        rw [e]
        simp [Cart.zero]
    · have e : (joinK a b).1 = Cart.zero := by unfold joinK; rw [if_pos hA, if_neg hB]
      rw [e]
      simp [Cart.zero]
  · have e : (joinK a b).1 = Cart.zero := by unfold joinK; rw [if_neg hA]
    rw [e]
    simp [Cart.zero]
end Go.Fw
namespace Go.Proofs.Ytfblmkocmnbdcaa
open Go.Fw Go.Proofs Go.RowKit Go.Proofs.Try
end Go.Proofs.Ytfblmkocmnbdcaa
set_option linter.unusedVariables false
set_option linter.unusedSimpArgs false
namespace Go.Fw
open Go.RowKit
def downU (U : List Upd) (c : Cart) (u : Upd) : Prop := c.ctx.covers u.dot = true ∧ (¬ 0 < u.qty ∨ ∃ v ∈ U, c.ctx.covers v.dot = true ∧ v.item = u.item ∧ v.seen.ctx.covers u.dot = true)
structure InH (U : List Upd) (c : Cart) : Prop where
  ok : CartOk c
  ent : ∀ e ∈ c.ents, ∃ u ∈ U, e = u.ent
  cov : ∀ d, c.ctx.covers d = true → ∃ u ∈ U, u.dot = d
  clos : ∀ u ∈ U, c.ctx.covers u.dot = true → ∀ d, u.seen.ctx.covers d = true → c.ctx.covers d = true
  down : ∀ u ∈ U, killsK c u.ent ↔ downU U c u
theorem covers_zero (d : Dot) : Cart.zero.ctx.covers d = false := by
  rw [Bool.eq_false_iff]
  intro h
  rw [covers_iff] at h
  obtain ⟨h1, h2 | h2⟩ := h
  · simp [markOf] at h2; omega
  · simp at h2
theorem inH_zero (U : List Upd) : InH U Cart.zero := by
  refine ⟨cart_zero, fun e h => by simp at h, fun d h => ?_, fun u _ h => ?_, fun u _ => ?_⟩
  · rw [covers_zero] at h; cases h
  · rw [covers_zero] at h; cases h
  · exact ⟨fun h => (by have := h.1; rw [covers_zero] at this; cases this), fun h => (by have := h.1; rw [covers_zero] at this; cases this)⟩
theorem inH_uni {U : List Upd} {a b : Cart} (ha : InH U a) (hb : InH U b) (h : fitK a b) : InH U (uniK a b) := by
  have hc : ∀ d, (uniK a b).ctx.covers d = true ↔ a.ctx.covers d = true ∨ b.ctx.covers d = true := uni_covers (can_nf ha.ok.ctx) (can_nf hb.ok.ctx)
  refine ⟨uni_ok ha.ok hb.ok h, fun e he => ?_, fun d hd => ?_, fun u hu hcv d hd => ?_, fun u hu => ?_⟩
  · rcases ((stays_iff ha.ok hb.ok e).1 he).1 with h | h
    · exact ha.ent e h
    · exact hb.ent e h
  · rcases (hc d).1 hd with h | h
    · exact ha.cov d h
    · exact hb.cov d h
  · rcases (hc _).1 hcv with h | h
    · exact (hc d).2 (.inl (ha.clos u hu h d hd))
    · exact (hc d).2 (.inr (hb.clos u hu h d hd))
  · rw [uni_kills ha.ok hb.ok, ha.down u hu, hb.down u hu]
    unfold downU
    rw [hc]
    constructor
    · rintro (⟨h1, h2⟩ | ⟨h1, h2⟩)
      · refine ⟨.inl h1, h2.imp id ?_⟩
        rintro ⟨v, k1, k2, k3⟩
        exact ⟨v, k1, (hc _).2 (.inl k2), k3⟩
      · refine ⟨.inr h1, h2.imp id ?_⟩
        rintro ⟨v, k1, k2, k3⟩
        exact ⟨v, k1, (hc _).2 (.inr k2), k3⟩
    · rintro ⟨h1, h2 | ⟨v, k1, k2, k3, k4⟩⟩
      · rcases h1 with h1 | h1
        · exact .inl ⟨h1, .inl h2⟩
        · exact .inr ⟨h1, .inl h2⟩
      · rcases (hc _).1 k2 with k2 | k2
        · exact .inl ⟨ha.clos v k1 k2 _ k4, .inr ⟨v, k1, k2, k3, k4⟩⟩
        · exact .inr ⟨hb.clos v k1 k2 _ k4, .inr ⟨v, k1, k2, k3, k4⟩⟩
theorem inH_join {U : List Upd} {a b : Cart} (ha : InH U a) (hb : InH U b) (h : (joinK a b).2 = 0) : InH U (joinK a b).1 := by
  rw [joinK_val ha.ok hb.ok h]
  exact inH_uni ha hb ((joinK_ok ha.ok hb.ok).1 h).1
def oneU (U : List Upd) : Prop := (U.map (·.dot)).Nodup
theorem inH_more {U : List Upd} {c : Cart} {u : Upd} (h : InH U c) (hn : u.dot ∉ U.map (·.dot)) : InH (U ++ [u]) c := by
  have hno : c.ctx.covers u.dot = false := by
    rw [Bool.eq_false_iff]
    intro hc
    obtain ⟨v, hv, e⟩ := h.cov _ hc
    exact hn (List.mem_map.2 ⟨v, hv, e⟩)
  refine ⟨h.ok, fun e he => ?_, fun d hd => ?_, fun v hv hc d hd => ?_, fun v hv => ?_⟩
  · obtain ⟨v, hv, rfl⟩ := h.ent e he
    exact ⟨v, by simp [hv], rfl⟩
  · obtain ⟨v, hv, rfl⟩ := h.cov d hd
    exact ⟨v, by simp [hv], rfl⟩
  · rcases List.mem_append.1 hv with hv | hv
    · exact h.clos v hv hc d hd
    · simp at hv; subst hv; rw [hno] at hc; cases hc
  · rcases List.mem_append.1 hv with hv | hv
    · rw [h.down v hv]
      unfold downU
      constructor
      · rintro ⟨h1, h2⟩
        refine ⟨h1, h2.imp id ?_⟩
        rintro ⟨x, k1, k2⟩
        exact ⟨x, by simp [k1], k2⟩
      · rintro ⟨h1, h2⟩
        refine ⟨h1, h2.imp id ?_⟩
        rintro ⟨x, k1, k2, k3⟩
        rcases List.mem_append.1 k1 with k1 | k1
        · exact ⟨x, k1, k2, k3⟩
        · simp at k1; subst k1; rw [hno] at k2; cases k2
    · simp at hv
      subst hv
      unfold killsK downU
      simp [hno]
theorem inH_apply {U : List Upd} {u : Upd} (hU : ∀ v ∈ U, InH U v.seen) (hs : InH U u.seen) (hn : u.dot ∉ U.map (·.dot)) (ha : (applyU u).2 = 0) : InH (U ++ [u]) (applyU u).1 := by
  obtain ⟨hu, hadd, he, hok⟩ := applyU_ok ha
  obtain ⟨_, hc⟩ := add_covers hu.seen.ctx hu.dot hadd
  rw [he] at hok ⊢
  dsimp only at hok ⊢
  have hnv : ∀ v ∈ U, v.seen.ctx.covers u.dot = false := fun v hv => by
    rw [Bool.eq_false_iff]
    intro h
    obtain ⟨x, hx, e⟩ := (hU v hv).cov _ h
    exact hn (List.mem_map.2 ⟨x, hx, e⟩)
  refine ⟨hok, fun e he => ?_, fun d hd => ?_, fun v hv hcv d hd => ?_, fun v hv => ?_⟩
  · dsimp only at he
    rw [apply_mem] at he
    rcases he with ⟨_, rfl⟩ | ⟨he, _⟩
    · exact ⟨u, by simp, rfl⟩
    · obtain ⟨v, hv, rfl⟩ := hs.ent e he
      exact ⟨v, by simp [hv], rfl⟩
  · rcases (hc d).1 hd with hd | rfl
    · obtain ⟨v, hv, rfl⟩ := hs.cov d hd
      exact ⟨v, by simp [hv], rfl⟩
    · exact ⟨u, by simp, rfl⟩
  · rcases List.mem_append.1 hv with hv | hv
    · rcases (hc v.dot).1 hcv with h | h
      · exact (hc d).2 (.inl (hs.clos v hv h d hd))
      · exact absurd (List.mem_map.2 ⟨v, hv, h⟩) hn
    · simp at hv
      subst hv
      exact (hc d).2 (.inl hd)
  · have hmem : ∀ x : Upd, x ∈ U ++ [u] ↔ x ∈ U ∨ x = u := fun x => by simp
    rw [hmem] at hv
    unfold killsK downU
    dsimp only
    rw [apply_mem]
    rcases hv with hv | rfl
    · have hvu : v.dot ≠ u.dot := fun e => hn (List.mem_map.2 ⟨v, hv, e⟩)
      have hve : v.ent ≠ u.ent := fun e => hvu (congrArg Ent.dot e)
      have hd := hs.down v hv
      unfold killsK downU at hd
      have hcv : (addL u.seen.ctx u.dot).1.covers v.dot = true ↔ u.seen.ctx.covers v.dot = true := by
        rw [hc]; exact ⟨fun h => h.resolve_right hvu, .inl⟩
      show (addL u.seen.ctx u.dot).1.covers v.dot = true ∧ ¬ ((0 < u.qty ∧ v.ent = u.ent) ∨ (v.ent ∈ u.seen.ents ∧ v.item ≠ u.item)) ↔ _
      rw [hcv]
      constructor
      · rintro ⟨h1, h2⟩
        refine ⟨h1, ?_⟩
        by_cases hit : v.item = u.item
        · exact .inr ⟨u, by simp, (hc _).2 (.inr rfl), hit.symm, h1⟩
        · have h3 : v.ent ∉ u.seen.ents := fun h => h2 (.inr ⟨h, hit⟩)
          obtain ⟨_, h4⟩ := hd.1 ⟨h1, h3⟩
          refine h4.imp id ?_
          rintro ⟨x, k1, k2, k3⟩
          exact ⟨x, by simp [k1], (hc _).2 (.inl k2), k3⟩
      · rintro ⟨h1, h2⟩
        refine ⟨h1, ?_⟩
        rintro (⟨_, h3⟩ | ⟨h3, h4⟩)
        · exact hve h3
        · have h5 : ¬ (u.seen.ctx.covers v.dot = true ∧ v.ent ∉ u.seen.ents) := fun h => h.2 h3
          rw [hd] at h5
          refine h5 ⟨h1, h2.imp id ?_⟩
          rintro ⟨x, k1, k2, k3, k4⟩
          rcases (hmem x).1 k1 with k1 | rfl
          · rcases (hc _).1 k2 with k2 | k2
            · exact ⟨x, k1, k2, k3, k4⟩
            · exact absurd (List.mem_map.2 ⟨x, k1, k2⟩) hn
          · exact absurd k3.symm h4
    · have hcv : (addL v.seen.ctx v.dot).1.covers v.dot = true := (hc _).2 (.inr rfl)
      have hni : v.ent ∉ v.seen.ents := fun h => by
        have := ok_cov hu.seen h
        rw [hu.new] at this; cases this
      constructor
      · rintro ⟨h1, h2⟩
        refine ⟨hcv, .inl fun h => h2 (.inl ⟨h, rfl⟩)⟩
      · rintro ⟨h1, h2⟩
        refine ⟨hcv, ?_⟩
        rintro (⟨h3, _⟩ | ⟨h3, _⟩)
        · rcases h2 with h2 | ⟨x, k1, k2, k3, k4⟩
          · exact h2 h3
          · rcases (hmem x).1 k1 with k1 | rfl
            · rw [hnv x k1] at k4; cases k4
            · rw [hu.new] at k4; cases k4
        · exact hni h3
structure Hist where
  items : List (List UInt8)
  qtys : List Int
  prices : List UInt64
  nodes : List Int
  saws : List UInt64
def bitU (w : UInt64) (k : Nat) : Bool := decide (w.toNat / 2 ^ k % 2 = 1)
def pickF (c s : Cart) (b : Bool) : Cart := if b then (if (joinK c s).2 = 0 then (joinK c s).1 else c) else c
def pickTo (sts : List Cart) (w : UInt64) : Nat → Cart
  | 0 => Cart.zero
  | k + 1 => match sts[k]? with
    | some s => pickF (pickTo sts w k) s (bitU w k)
    | none => pickTo sts w k
def pickK (sts : List Cart) (w : UInt64) : Cart := pickTo sts w sts.length
structure Play where
  st : List Cart
  up : List Upd
  ct : List Int
def Play.start : Play := ⟨[], [], List.replicate 8 0⟩
def nodeP (x : Int) : Nat := (x % 8).toNat
def stepU (S : Play) (item : List UInt8) (q : Int) (p : UInt64) (n : Int) (w : UInt64) : Upd :=
  ⟨[107], ⟨(nodeP n : Int), 1 + ((nodeP n % 2 : Nat) : Int), S.ct.getD (nodeP n) 0 + 1⟩, item, if q ≤ 0 then 0 else q, if q ≤ 0 then 0 else p, pickK S.st w⟩
def stepP (S : Play) (u : Upd) (n : Int) : Play := if (applyU u).2 = 0 then ⟨S.st ++ [(applyU u).1], S.up ++ [u], S.ct.set (nodeP n) (S.ct.getD (nodeP n) 0 + 1)⟩ else S
def Hist.many (h : Hist) : Nat := min (min (min (min (min h.items.length 12) h.qtys.length) h.prices.length) h.nodes.length) h.saws.length
def playTo (h : Hist) : Nat → Play
  | 0 => Play.start
  | i + 1 => stepP (playTo h i) (stepU (playTo h i) (h.items.getD i []) (h.qtys.getD i 0) (h.prices.getD i 0) (h.nodes.getD i 0) (h.saws.getD i 0)) (h.nodes.getD i 0)
def playK (h : Hist) : Play := playTo h h.many
theorem pick_inH {U : List Upd} {sts : List Cart} (hs : ∀ s ∈ sts, InH U s) (w : UInt64) : ∀ k, InH U (pickTo sts w k)
  | 0 => inH_zero U
  | k + 1 => by
    have ih := pick_inH hs w k
    unfold pickTo
    split
    · rename_i s hk
      unfold pickF
      split
      · split
        · rename_i h; exact inH_join ih (hs s (List.mem_of_getElem? hk)) h
        · exact ih
      · exact ih
    · exact ih
structure PlayOk (S : Play) : Prop where
  len : S.st.length = S.up.length
  ct : S.ct.length = 8
  one : oneU S.up
  cnt : ∀ u ∈ S.up, ∃ n : Nat, n < 8 ∧ u.dot.node = n ∧ u.dot.life = 1 + ((n % 2 : Nat) : Int) ∧ u.dot.count ≤ S.ct.getD n 0
  pos : ∀ n : Nat, 0 ≤ S.ct.getD n 0
  seen : ∀ u ∈ S.up, InH S.up u.seen
  st : ∀ s ∈ S.st, InH S.up s
  app : ∀ (i : Nat) (u : Upd), S.up[i]? = some u → S.st[i]? = some (applyU u).1 ∧ (applyU u).2 = 0
theorem play_start : PlayOk Play.start := by
  refine ⟨rfl, rfl, List.nodup_nil, fun u h => by simp [Play.start] at h, fun n => ?_, fun u h => by simp [Play.start] at h, fun u h => by simp [Play.start] at h, fun i u h => by simp [Play.start] at h⟩
  unfold Play.start
  dsimp only
  rw [List.getD_eq_getElem?_getD, List.getElem?_replicate]
  split <;> simp
theorem nodeP_lt (x : Int) : nodeP x < 8 := by unfold nodeP; omega
theorem getD_set {l : List Int} {n m : Nat} {x : Int} (h : n < l.length) : (l.set n x).getD m 0 = if n = m then x else l.getD m 0 := by
  rw [List.getD_eq_getElem?_getD, List.getD_eq_getElem?_getD, List.getElem?_set]
  by_cases e : n = m
  · subst e; rw [if_pos rfl, if_pos h, if_pos rfl]; rfl
  · rw [if_neg e, if_neg e]
theorem play_step {S : Play} (h : PlayOk S) (item : List UInt8) (q : Int) (p : UInt64) (n : Int) (w : UInt64) : PlayOk (stepP S (stepU S item q p n w) n) := by
  unfold stepP
  split
  · rename_i ha
    have hn8 := nodeP_lt n
    have hseen : InH S.up (pickK S.st w) := pick_inH h.st w _
    generalize hu : stepU S item q p n w = u at *
    have hd : u.dot = ⟨(nodeP n : Int), 1 + ((nodeP n % 2 : Nat) : Int), S.ct.getD (nodeP n) 0 + 1⟩ := by rw [← hu]; rfl
    have hs : u.seen = pickK S.st w := by rw [← hu]; rfl
    rw [← hs] at hseen
    have hnew : u.dot ∉ S.up.map (·.dot) := fun hm => by
      obtain ⟨v, hv, e⟩ := List.mem_map.1 hm
      obtain ⟨m, h1, h2, h3, h4⟩ := h.cnt v hv
      rw [e, hd] at h2 h4
      dsimp only at h2 h4
      have : nodeP n = m := by omega
      rw [this] at h4
      omega
    refine ⟨by dsimp only; rw [List.length_append, List.length_append, h.len]; rfl, by dsimp only; rw [List.length_set]; exact h.ct, ?_, fun v hv => ?_, fun m => ?_, fun v hv => ?_, fun s hsm => ?_, fun i v hv => ?_⟩
    · show ((S.up ++ [u]).map (·.dot)).Nodup
      rw [List.map_append, List.nodup_append]
      refine ⟨h.one, by simp, fun a ha b hb e => ?_⟩
      simp at hb
      subst hb
      exact hnew (e ▸ ha)
    · dsimp only at hv ⊢
      rcases List.mem_append.1 hv with hv | hv
      · obtain ⟨m, h1, h2, h3, h4⟩ := h.cnt v hv
        refine ⟨m, h1, h2, h3, ?_⟩
        rw [getD_set (by rw [h.ct]; exact hn8)]
        split
        · rename_i e; subst e; omega
        · exact h4
      · simp at hv
        subst hv
        refine ⟨nodeP n, hn8, by rw [hd], by rw [hd], ?_⟩
        rw [getD_set (by rw [h.ct]; exact hn8), if_pos rfl, hd]
        exact Int.le_refl _
    · dsimp only
      rw [getD_set (by rw [h.ct]; exact hn8)]
      have := h.pos m
      have := h.pos (nodeP n)
      split <;> omega
    · dsimp only at hv ⊢
      rcases List.mem_append.1 hv with hv | hv
      · exact inH_more (h.seen v hv) hnew
      · simp at hv
        subst hv
        exact inH_more hseen hnew
    · dsimp only at hsm ⊢
      rcases List.mem_append.1 hsm with hsm | hsm
      · exact inH_more (h.st s hsm) hnew
      · simp at hsm
        subst hsm
        exact inH_apply h.seen hseen hnew ha
    · dsimp only at hv ⊢
      rw [List.getElem?_append] at hv ⊢
      rw [h.len]
      split at hv
      · rename_i hi
        rw [if_pos hi]
        exact h.app i v hv
      · rename_i hi
        rw [if_neg hi]
        obtain ⟨h1, h2⟩ := List.getElem?_eq_some_iff.1 hv
        have h0 : i - S.up.length = 0 := by simp at h1; omega
        rw [h0] at hv ⊢
        simp at hv
        subst hv
        exact ⟨rfl, ha⟩
  · exact h
theorem play_ok (h : Hist) : ∀ i, PlayOk (playTo h i)
  | 0 => play_start
  | i + 1 => play_step (play_ok h i) _ _ _ _ _
theorem step_len (S : Play) (u : Upd) (n : Int) : (stepP S u n).st.length ≤ S.st.length + 1 := by
  unfold stepP
  split
  · simp
  · omega
theorem play_len (h : Hist) : ∀ i, (playTo h i).st.length ≤ i
  | 0 => Nat.le_refl _
  | i + 1 => by rw [playTo]; have := step_len (playTo h i) (stepU (playTo h i) (h.items.getD i []) (h.qtys.getD i 0) (h.prices.getD i 0) (h.nodes.getD i 0) (h.saws.getD i 0)) (h.nodes.getD i 0); have := play_len h i; omega
theorem many_le (h : Hist) : h.many ≤ 12 := by unfold Hist.many; omega
theorem play_states (h : Hist) : (playK h).st.length ≤ 12 := Nat.le_trans (play_len h _) (many_le h)
end Go.Fw
set_option linter.unusedVariables false
set_option linter.unusedSimpArgs false
set_option maxRecDepth 100000
set_option maxHeartbeats 4000000
namespace Go.Fw
theorem andK_u1 (n : Nat) (h : n < 18446744073709551616) : andK .u64 (n : Int) 1 = ((n % 2 : Nat) : Int) := by
  unfold andK
  rw [show (1 : Int) = ((1 : Nat) : Int) from rfl, ofInt_nat, ofInt_nat]
  rw [BitVec.toNat_and, BitVec.toNat_ofNat, BitVec.toNat_ofNat]
  rw [show IntKind.u64.bits = 64 from rfl, Nat.mod_eq_of_lt (show n < 2 ^ 64 by simpa using h), show (1 : Nat) % 2 ^ 64 = 1 from rfl, Nat.and_one_is_mod]
  simp only [IntKind.wrap, IntKind.signed, IntKind.bits]
  simp
  omega
theorem bit_and (p : UInt64) (k : Nat) : decide (andK .u64 (Int.fdiv (p.toNat : Int) (2 ^ k)) 1 = 1) = bitU p k := by
  have e : Int.fdiv (p.toNat : Int) (2 ^ k) = ((p.toNat / 2 ^ k : Nat) : Int) := by
    rw [Int.fdiv_eq_ediv_of_nonneg _ (by exact_mod_cast Nat.zero_le _)]
    simp
  have hp := p.toNat_lt
  have hl : p.toNat / 2 ^ k ≤ p.toNat := Nat.div_le_self _ _
  rw [e, andK_u1 _ (by omega)]
  unfold bitU
  exact decide_eq_decide.2 (by omega)
theorem pick_next {sts : List Cart} {p : UInt64} {k : Nat} {s : Cart} (h : sts[k]? = some s) : pickTo sts p (k + 1) = pickF (pickTo sts p k) s (bitU p k) := by
  rw [pickTo, h]
theorem pick_len (sts : List Cart) (p : UInt64) : ∀ k, (pickTo sts p k).ents.length ≤ 1048576 ∧ (pickTo sts p k).ctx.marks.length ≤ 1048576 ∧ (pickTo sts p k).ctx.cloud.length ≤ 1048576
  | 0 => by simp [pickTo, Cart.zero]
  | k + 1 => by
    have ih := pick_len sts p k
    rw [pickTo]
    split
    · unfold pickF
      split
      · split
        · exact join_lens _ _
        · exact ih
      · exact ih
    · exact ih
end Go.Fw
namespace Go.Proofs.Ytfblmkocmnbdcaa
open Go.Fw Go.Proofs Go.RowKit Go.Proofs.Try
theorem c7 (w0 : World) (v1 : Value) (st : List SCart) (p : UInt64) (h : Sl SCart.enc 3 w0 w0.heap.size v1 st) (hc : ∀ q ∈ st, CartRd w0 q.1 q.2) (hn : st.length ≤ 64) :
    Rets Try.prog 7 #[v1, .int .u64 (p.toNat : Int)] w0 fun v L => ∃ A1 r1 A2 r2 A3 r3, v = .agg #[.slice A1 (pickK (st.map (·.1)) p).ents.length r1, .slice A2 (pickK (st.map (·.1)) p).ctx.marks.length r2, .slice A3 (pickK (st.map (·.1)) p).ctx.cloud.length r3] ∧
      L = [rowOf 74 6 Ent.enc A1 r1 (pickK (st.map (·.1)) p).ents, rowOf 110 3 Dot.enc A2 r2 (pickK (st.map (·.1)) p).ctx.marks, rowOf 62 3 Dot.enc A3 r3 (pickK (st.map (·.1)) p).ctx.cloud] := by
  obtain ⟨A, cap, rfl, hl, hcap, hA⟩ := h
  unfold Go.Fw.Rets
  refine enter2 func7 rfl ntmps7 rfl fun a S => wp_seq_k fun _ hK1 => wp_region_lit (st_m (op_alloc S zeroValue40 (cs := _) rfl rfl fun g1 a w S => st_nil (then_normal (hK1 _ _ (wp_seq_k fun _ hK1 => wp_region_lit (st_m (op_alloc S zeroValue40 (cs := _) rfl rfl fun g2 a w S => st_nil (then_normal (hK1 _ _ (wp_seq_k fun _ hK1 => sg S (.mv rfl <| .ln underlying30 rfl <| .mc rfl <| .z) fun a w S => wp_block ?_))))))))))
  have hz : pickTo (st.map (·.1)) p 0 = Cart.zero := rfl
  refine st_lpM (((S.nil_ 62 3 Dot.enc none).nil_ 110 3 Dot.enc none).nil_ 74 6 Ent.enc none) [12] (X := Nat × Option Addr × Nat × Option Addr × Nat × Option Addr × Nat) (fun q => [(12, true, .int .i64 (q.1 : Int))])
    (fun q => [rowOf 74 6 Ent.enc q.2.1 q.2.2.1 (pickTo (st.map (·.1)) p q.1).ents, rowOf 110 3 Dot.enc q.2.2.2.1 q.2.2.2.2.1 (pickTo (st.map (·.1)) p q.1).ctx.marks, rowOf 62 3 Dot.enc q.2.2.2.2.2.1 q.2.2.2.2.2.2 (pickTo (st.map (·.1)) p q.1).ctx.cloud, .blk g2 (.cells #[.slice q.2.1 (pickTo (st.map (·.1)) p q.1).ents.length q.2.2.1, .slice q.2.2.2.1 (pickTo (st.map (·.1)) p q.1).ctx.marks.length q.2.2.2.2.1, .slice q.2.2.2.2.2.1 (pickTo (st.map (·.1)) p q.1).ctx.cloud.length q.2.2.2.2.2.2] 40), .blk g1 (.cells #[.slice none 0 0, .slice none 0 0, .slice none 0 0] 40)])
    (fun q => q.1 ≤ st.length) (fun q => st.length - q.1) (0, none, 0, none, 0, none, 0) (Nat.zero_le _) ?_
  clear S
  rintro ⟨k, A1, r1, A2, r2, A3, r3⟩ a w hk S
  dsimp only at hk S
  by_cases hlt : k < st.length
  · obtain ⟨g, o, q, rfl, hq, hd, hcc⟩ := row_at hA hlt
    have hqr := hc q (List.mem_of_getElem? hq)
    obtain ⟨hq1, hq2, hq3⟩ := hqr
    have hnx : pickTo (st.map (·.1)) p (k + 1) = pickF (pickTo (st.map (·.1)) p k) q.1 (bitU p k) := pick_next (by rw [List.getElem?_map, hq]; rfl)
    have hb0 := bit_and p k
    cases hb : bitU p k with
    | false =>
      have rw_b := hb0.trans hb
      have e : pickTo (st.map (·.1)) p (k + 1) = pickTo (st.map (·.1)) p k := by rw [hnx, hb]; rfl
      refine sg S (.lt (by omega) rfl rfl <| .z) fun a w S => wp_seq_k fun _ hK2 => st_then S (.t rfl) (wp_skip (then_normal (hK2 _ _ (wp_seq_k fun _ hK2 => wp_block (wp_seq_k fun _ hK3 => wp_region_lit (run S (.mv rfl <| .ix underlying30 sizeOf40 (by omega) rfl rfl <| .yy (ys_ldOA ⟨isAgg40, sizeOf40⟩ (.t rfl) (vs := [_, _, _]) rfl (fun _ => hcc)) rfl <| .z) fun a w S => st_m (op_alloc S zeroValue40 (cs := _) rfl rfl fun g3 a w S => run S (.as rfl <| .z) fun a w S => st_m (op_stW S sizeOf40 (.t rfl) (.t rfl) (k := 0) rfl rfl rfl (by simp [Value.oneCell']) fun a w S => st_nil (then_normal (hK3 _ _ (wp_seq_k fun _ hK3 => wp_region_lit (run S (.mv rfl <| .mv rfl <| .yy (ys_shr (.t rfl) (.t rfl) (Nat.ble_eq_true_of_le (by show _ ≤ 64; omega))) rfl <| .yy (ys_band (.t rfl) Ev.c) rfl <| .yy (ys_eql (.t rfl) Ev.c) rfl <| .z) fun a w S => ?_))))))))))))
      rw [rw_b] at S
      refine st_nil (then_normal (hK3 _ _ (st_else S (.t rfl) (wp_skip (in_normal (then_normal (hK2 _ _ (wp_region_lit (run S (.ad (by unfold I64; omega) rfl <| .mv rfl <| .z) fun a w S => st_nil (then_normal ?_))))))))))
      exact ⟨(k + 1, A1, r1, A2, r2, A3, r3), by dsimp only; omega, by dsimp only; omega, by dsimp only; rw [e]; exact S.pk⟩
    | true =>
      have rw_b := hb0.trans hb
      by_cases hj : (joinK (pickTo (st.map (·.1)) p k) q.1).2 = 0
      · have e : pickTo (st.map (·.1)) p (k + 1) = (joinK (pickTo (st.map (·.1)) p k) q.1).1 := by rw [hnx, hb]; unfold pickF; rw [if_pos rfl, if_pos hj]
        have rw_j := decide_eq_true hj
        refine sg S (.lt (by omega) rfl rfl <| .z) fun a w S => wp_seq_k fun _ hK2 => st_then S (.t rfl) (wp_skip (then_normal (hK2 _ _ (wp_seq_k fun _ hK2 => wp_block (wp_seq_k fun _ hK3 => wp_region_lit (run S (.mv rfl <| .ix underlying30 sizeOf40 (by omega) rfl rfl <| .yy (ys_ldOA ⟨isAgg40, sizeOf40⟩ (.t rfl) (vs := [_, _, _]) rfl (fun _ => hcc)) rfl <| .z) fun a w S => st_m (op_alloc S zeroValue40 (cs := _) rfl rfl fun g3 a w S => run S (.as rfl <| .z) fun a w S => st_m (op_stW S sizeOf40 (.t rfl) (.t rfl) (k := 0) rfl rfl rfl (by simp [Value.oneCell']) fun a w S => st_nil (then_normal (hK3 _ _ (wp_seq_k fun _ hK3 => wp_region_lit (run S (.mv rfl <| .mv rfl <| .yy (ys_shr (.t rfl) (.t rfl) (Nat.ble_eq_true_of_le (by show _ ≤ 64; omega))) rfl <| .yy (ys_band (.t rfl) Ev.c) rfl <| .yy (ys_eql (.t rfl) Ev.c) rfl <| .z) fun a w S => ?_))))))))))))
        rw [rw_b] at S
        refine st_nil (then_normal (hK3 _ _ (st_then S (.t rfl) (wp_seq_k fun _ hK3 => wp_region_lit (run S (.la gt40 4 rfl rfl rfl <| .la gt40 0 rfl rfl rfl <| .z) fun a w S => ?_)))))
        (refine st_m (op_calls S call24 (.cons (.t rfl) (.cons (.t rfl) .nil)) (c24 _ _ _ _ _ _ _ _ _ (by exact Sl.of_own S.wd (k := 1) rfl (fun _ => rfl)) (by exact ⟨(by exact Sl.of_own S.wd (k := 2) rfl (fun _ => rfl)), (by exact Sl.of_own S.wd (k := 3) rfl (fun _ => rfl))⟩) (by exact .old S.wd (by assumption)) (by exact ⟨(by exact .old S.wd (by assumption)), (by exact .old S.wd (by assumption))⟩)) rfl ?_); clear S a w; rintro _ _ ⟨A11, r11, A21, r21, A31, r31, rfl, rfl⟩ a w S)
        simp only [List.nil_append] at S
        refine run S (.mv rfl <| .ex rfl rfl <| .ex rfl rfl <| .z) fun a w S => st_m (op_alloc S zeroValue40 (cs := _) rfl rfl fun g4 a w S => st_m (op_stW S sizeOf40 (.t rfl) (.t rfl) (k := 0) rfl rfl rfl (by simp [Value.oneCell']) fun a w S => run S (.as rfl <| .z) fun a w S => st_nil (then_normal (hK3 _ _ (sg S (.mv rfl <| .yy (ys_T (by omega) (ys_eql (.t rfl) Ev.c)) rfl <| .z) fun a w S => st_then S (.t rfl) (wp_region_lit (run S (.la gt40 0 rfl rfl rfl <| .z) fun a w S => st_m (op_stW S sizeOf40 (.t rfl) (.t rfl) (k := 8) rfl rfl rfl (by simp [Value.oneCell']) fun a w S => st_nil (in_normal (then_normal (hK2 _ _ (wp_region_lit (run S (.ad (by unfold I64; omega) rfl <| .mv rfl <| .z) fun a w S => st_nil (then_normal ?_))))))))))))))
        exact ⟨(k + 1, A11, r11, A21, r21, A31, r31), by dsimp only; omega, by dsimp only; omega, by dsimp only; rw [e]; exact S.pk⟩
      · have e : pickTo (st.map (·.1)) p (k + 1) = pickTo (st.map (·.1)) p k := by rw [hnx, hb]; unfold pickF; rw [if_pos rfl, if_neg hj]
        have rw_j := decide_eq_false hj
        refine sg S (.lt (by omega) rfl rfl <| .z) fun a w S => wp_seq_k fun _ hK2 => st_then S (.t rfl) (wp_skip (then_normal (hK2 _ _ (wp_seq_k fun _ hK2 => wp_block (wp_seq_k fun _ hK3 => wp_region_lit (run S (.mv rfl <| .ix underlying30 sizeOf40 (by omega) rfl rfl <| .yy (ys_ldOA ⟨isAgg40, sizeOf40⟩ (.t rfl) (vs := [_, _, _]) rfl (fun _ => hcc)) rfl <| .z) fun a w S => st_m (op_alloc S zeroValue40 (cs := _) rfl rfl fun g3 a w S => run S (.as rfl <| .z) fun a w S => st_m (op_stW S sizeOf40 (.t rfl) (.t rfl) (k := 0) rfl rfl rfl (by simp [Value.oneCell']) fun a w S => st_nil (then_normal (hK3 _ _ (wp_seq_k fun _ hK3 => wp_region_lit (run S (.mv rfl <| .mv rfl <| .yy (ys_shr (.t rfl) (.t rfl) (Nat.ble_eq_true_of_le (by show _ ≤ 64; omega))) rfl <| .yy (ys_band (.t rfl) Ev.c) rfl <| .yy (ys_eql (.t rfl) Ev.c) rfl <| .z) fun a w S => ?_))))))))))))
        rw [rw_b] at S
        refine st_nil (then_normal (hK3 _ _ (st_then S (.t rfl) (wp_seq_k fun _ hK3 => wp_region_lit (run S (.la gt40 4 rfl rfl rfl <| .la gt40 0 rfl rfl rfl <| .z) fun a w S => ?_)))))
        (refine st_m (op_calls S call24 (.cons (.t rfl) (.cons (.t rfl) .nil)) (c24 _ _ _ _ _ _ _ _ _ (by exact Sl.of_own S.wd (k := 1) rfl (fun _ => rfl)) (by exact ⟨(by exact Sl.of_own S.wd (k := 2) rfl (fun _ => rfl)), (by exact Sl.of_own S.wd (k := 3) rfl (fun _ => rfl))⟩) (by exact .old S.wd (by assumption)) (by exact ⟨(by exact .old S.wd (by assumption)), (by exact .old S.wd (by assumption))⟩)) rfl ?_); clear S a w; rintro _ _ ⟨A11, r11, A21, r21, A31, r31, rfl, rfl⟩ a w S)
        simp only [List.nil_append] at S
        refine run S (.mv rfl <| .ex rfl rfl <| .ex rfl rfl <| .z) fun a w S => st_m (op_alloc S zeroValue40 (cs := _) rfl rfl fun g4 a w S => st_m (op_stW S sizeOf40 (.t rfl) (.t rfl) (k := 0) rfl rfl rfl (by simp [Value.oneCell']) fun a w S => run S (.as rfl <| .z) fun a w S => st_nil (then_normal (hK3 _ _ (sg S (.mv rfl <| .yy (ys_F (by omega) (ys_eql (.t rfl) Ev.c)) rfl <| .z) fun a w S => st_else S (.t rfl) (wp_skip (in_normal (then_normal (hK2 _ _ (wp_region_lit (run S (.ad (by unfold I64; omega) rfl <| .mv rfl <| .z) fun a w S => st_nil (then_normal ?_))))))))))))
        exact ⟨(k + 1, A1, r1, A2, r2, A3, r3), by dsimp only; omega, by dsimp only; omega, by dsimp only; rw [e]; exact S.pk⟩
  obtain rfl : k = st.length := by omega
  have e : pickTo (st.map (·.1)) p st.length = pickK (st.map (·.1)) p := by unfold pickK; rw [List.length_map]
  rw [e] at S
  refine sg S (.ge (by omega) rfl rfl <| .z) fun a w S => wp_seq_k fun _ hK2 => st_else S (.t rfl) (wp_exit (then_exit (then_exit (in_here (then_normal (hK1 _ _ (wp_seq_k fun _ hK1 => wp_region_lit (run S (.la gt40 3 rfl rfl rfl <| .z) fun a w S => st_m (op_stW S sizeOf40 (.t rfl) (.t rfl) (k := 4) rfl rfl rfl (by simp [Value.oneCell']) fun a w S => st_nil (then_normal (hK1 _ _ (wp_ret (st_ret S (results1 S results7 (Rv.cell (k := 4) ⟨isAgg40, sizeOf40⟩ rfl rfl rfl)) ?_)))))))))))))
  exact ⟨_, _, rfl, S.wd.pk, _, _, _, _, _, _, rfl, rfl⟩
end Go.Proofs.Ytfblmkocmnbdcaa
set_option linter.unusedVariables false
set_option linter.unusedSimpArgs false
set_option maxRecDepth 100000
set_option maxHeartbeats 4000000
namespace Go.Fw
def encU (x : UInt64) : List Value := [.int .u64 (x.toNat : Int)]
def ctL (l : List Int) : List Value := l.map (Value.int .i64)
theorem ctL_len (l : List Int) : (ctL l).length = l.length := List.length_map ..
theorem ctL_get {l : List Int} {n : Nat} (h : n < l.length) : (ctL l)[0 + n * 1]? = some (.int .i64 (l.getD n 0)) := by
  unfold ctL
  rw [Nat.zero_add, Nat.mul_one, List.getElem?_map, List.getD_eq_getElem?_getD, List.getElem?_eq_getElem h]
  rfl
theorem ctL_set (l : List Int) (n : Nat) (x : Int) : (ctL l).set (0 + n * 1) (.int .i64 x) = ctL (l.set n x) := by
  unfold ctL
  rw [Nat.zero_add, Nat.mul_one, List.map_set]
theorem play_ct (h : Hist) : ∀ i (n : Nat), 0 ≤ (playTo h i).ct.getD n 0 ∧ (playTo h i).ct.getD n 0 ≤ i
  | 0, n => by
    show 0 ≤ (List.replicate 8 (0 : Int)).getD n 0 ∧ (List.replicate 8 (0 : Int)).getD n 0 ≤ (0 : Nat)
    rw [List.getD_eq_getElem?_getD, List.getElem?_replicate]
    split <;> simp
  | i + 1, n => by
    have ih := play_ct h i
    have hn := ih n
    rw [playTo]
    unfold stepP
    split
    · have hm := ih (nodeP (h.nodes.getD i 0))
      rw [List.getD_eq_getElem?_getD, List.getElem?_set]
      rw [List.getD_eq_getElem?_getD] at hn
      split
      · split
        · simp only [Option.getD_some]; omega
        · simp; omega
      · omega
    · omega
theorem node_val (x : Int) : IntKind.i64.wrap ((IntKind.u64.wrap x).tmod 8) = (nodeP x : Int) := by
  have h1 : IntKind.u64.wrap x = x % 18446744073709551616 := by
    simp only [IntKind.wrap, IntKind.signed, IntKind.bits]
    simp
  have h2 : (x % 18446744073709551616).tmod 8 = x % 8 := by
    rw [Int.tmod_eq_emod_of_nonneg (by omega)]
    omega
  rw [h1, h2, IntKind.wrap_i64]
  unfold nodeP
  omega
theorem many_lt (h : Hist) (i : Nat) : i < h.many ↔ i < h.items.length ∧ i < 12 ∧ i < h.qtys.length ∧ i < h.prices.length ∧ i < h.nodes.length ∧ i < h.saws.length := by
  unfold Hist.many
  simp only [Nat.lt_min]
  constructor
  · rintro ⟨⟨⟨⟨⟨h1, h2⟩, h3⟩, h4⟩, h5⟩, h6⟩
    exact ⟨h1, h2, h3, h4, h5, h6⟩
  · rintro ⟨h1, h2, h3, h4, h5, h6⟩
    exact ⟨⟨⟨⟨⟨h1, h2⟩, h3⟩, h4⟩, h5⟩, h6⟩
theorem play_cts (h : Hist) : ∀ i, (playTo h i).ct.length = 8
  | 0 => by simp [playTo, Play.start]
  | i + 1 => by
    rw [playTo]
    unfold stepP
    split
    · rw [List.length_set]; exact play_cts h i
    · exact play_cts h i
theorem play_ups (h : Hist) : ∀ i, (playTo h i).up.length ≤ i
  | 0 => by simp [playTo, Play.start]
  | i + 1 => by
    have ih := play_ups h i
    rw [playTo]
    unfold stepP
    split
    · rw [List.length_append, List.length_singleton]; omega
    · omega
end Go.Fw
namespace Go.Proofs.Ytfblmkocmnbdcaa
open Go.Fw Go.Proofs Go.RowKit Go.Proofs.Try
theorem c6 (w0 : World) (v1 v2 v3 v4 v5 : Value) (h : Hist) (h1 : Sl encS 1 w0 w0.heap.size v1 h.items) (h2 : Sl encI 1 w0 w0.heap.size v2 h.qtys) (h3 : Sl encU 1 w0 w0.heap.size v3 h.prices) (h4 : Sl encI 1 w0 w0.heap.size v4 h.nodes) (h5 : Sl encU 1 w0 w0.heap.size v5 h.saws) :
    Rets Try.prog 6 #[.agg #[v1, v2, v3, v4, v5]] w0 fun v L => ∃ A r A' r' st up w1 bs, v = .tuple #[.slice A st.length r, .slice A' up.length r'] ∧
      L = [rowOf 40 3 SCart.enc A r st, rowOf 64 10 SUpd.enc A' r' up, .ice w1 bs] ∧ st.map (·.1) = (playK h).st ∧ up.map (·.1) = (playK h).up ∧ (∀ p ∈ st, CartIn w1 bs p.1 p.2) ∧ ∀ p ∈ up, CartIn w1 bs p.1.seen p.2 := by
  obtain ⟨A, cap, rfl, hl, hcap, hA⟩ := h1
  obtain ⟨B, capB, rfl, hlB, hcapB, hB⟩ := h2
  obtain ⟨C, capC, rfl, hlC, hcapC, hC⟩ := h3
  obtain ⟨D, capD, rfl, hlD, hcapD, hD⟩ := h4
  obtain ⟨E, capE, rfl, hlE, hcapE, hE⟩ := h5
  unfold Go.Fw.Rets
  refine enter1 func6 rfl ntmps6 rfl fun a S => wp_seq_k fun _ hK1 => wp_region_lit (st_m (op_box S (.t rfl) rfl fun g1 a w S => run S (.ac rfl <| .ac rfl <| .z) fun a w S => st_nil (then_normal (hK1 _ _ (sg S (.ac rfl <| .z) fun a w S => sg S (.ac rfl <| .z) fun a w S => wp_seq_k fun _ hK1 => wp_region_lit (st_m (op_alloc S zeroValue69 (cs := _) rfl rfl fun g2 a w S => st_nil (then_normal (hK1 _ _ (wp_seq_k fun _ hK1 => sg S (.fa underlying26 sizeOf22 0 rfl rfl rfl <| .ld gt22 1 rfl rfl rfl <| .ln underlying22 rfl <| .mc rfl <| .z) fun a w S => wp_block ?_))))))))))
  have e0 : #[Value.int .i64 0, .int .i64 0, .int .i64 0, .int .i64 0, .int .i64 0, .int .i64 0, .int .i64 0, .int .i64 0] = (ctL (playTo h 0).ct).toArray := rfl
  rw [e0] at S
  replace S : St _ _ _ (.ice w0 [] :: _) _ _ := ⟨S.kn, S.wd.bare (fun b hb => by cases hb) (fun b hb => by cases hb)⟩
  replace S := (S.nil_ 64 10 SUpd.enc none).nil_ 40 3 SCart.enc none
  refine st_lpM S [4, 5, 21] (X := Nat × Option Addr × Nat × List SCart × Option Addr × Nat × List SUpd × World × List Nat) (fun q => [(4, true, .slice q.2.1 q.2.2.2.1.length q.2.2.1), (5, true, .slice q.2.2.2.2.1 q.2.2.2.2.2.2.1.length q.2.2.2.2.2.1), (21, true, .int .i64 (q.1 : Int))])
    (fun q => [rowOf 40 3 SCart.enc q.2.1 q.2.2.1 q.2.2.2.1, rowOf 64 10 SUpd.enc q.2.2.2.2.1 q.2.2.2.2.2.1 q.2.2.2.2.2.2.1, .ice q.2.2.2.2.2.2.2.1 q.2.2.2.2.2.2.2.2, .blk g2 (.cells (ctL (playTo h q.1).ct).toArray 69), .blk g1 (.cells #[.slice A h.items.length cap, .slice B h.qtys.length capB, .slice C h.prices.length capC, .slice D h.nodes.length capD, .slice E h.saws.length capE] 26)])
    (fun q => q.1 ≤ h.many ∧ q.2.2.2.1.map (·.1) = (playTo h q.1).st ∧ q.2.2.2.2.2.2.1.map (·.1) = (playTo h q.1).up ∧ (∀ p ∈ q.2.2.2.1, CartIn q.2.2.2.2.2.2.2.1 q.2.2.2.2.2.2.2.2 p.1 p.2) ∧ ∀ p ∈ q.2.2.2.2.2.2.1, CartIn q.2.2.2.2.2.2.2.1 q.2.2.2.2.2.2.2.2 p.1.seen p.2)
    (fun q => h.many - q.1) (0, none, 0, [], none, 0, [], w0, []) ⟨Nat.zero_le _, rfl, rfl, (fun p hp => by cases hp), (fun p hp => by cases hp)⟩ ?_
  clear S
  rintro ⟨i, F, cF, st, G, cG, up, w1, bs⟩ a w ⟨hi, hst, hup, hcs, hcu⟩ S
  dsimp only at hi hst hup hcs hcu S
  have hmany := many_lt h i
  have hct := play_cts h i
  have hsl : st.length ≤ i := by
    have := play_len h i
    rw [← hst, List.length_map] at this
    exact this
  have hul : up.length ≤ i := by
    have := play_ups h i
    rw [← hup, List.length_map] at this
    exact this
  by_cases hlt : i < h.many
  rotate_left
  · have hend : i = h.many := by omega
    have done : playTo h i = playK h := by rw [hend]; rfl
    by_cases c1 : i < h.items.length
    · by_cases c2 : i < 12
      · by_cases c3 : i < h.qtys.length
        · by_cases c4 : i < h.prices.length
          · by_cases c5 : i < h.nodes.length
            · by_cases c6 : i < h.saws.length
              · exact absurd (hmany.2 ⟨c1, c2, c3, c4, c5, c6⟩) hlt
              · obtain ⟨g, o, x, rfl, hx, hd, hc⟩ := row_at hA c1
                refine sg S (.lt (by omega) rfl rfl <| .z) fun a w S => wp_seq_k fun _ hK2 => st_then S (.t rfl) (wp_skip (then_normal (hK2 _ _ (wp_seq_k fun _ hK2 => wp_block (sg S (.mv rfl <| .ix underlying22 sizeOf9 (by omega) rfl rfl <| .yy (ys_ldO ⟨isAgg9, sizeOf9⟩ (.t rfl) (fun _ => hc 0 _ rfl)) rfl <| .as rfl <| .as rfl <| .z) fun a w S => wp_seq_k fun _ hK3 => wp_seq_k fun _ hK4 => wp_region_lit ?_)))))
                refine run S (.mv rfl <| .yy (ys_F (by omega) (ys_geq (.t rfl) Ev.c)) rfl <| .mv rfl <| .gy rfl rfl (ys_move (.t rfl)) <| .gy rfl rfl (ys_fieldN (FieldT.mk underlying26 rfl sizeOf23 rfl) (.t rfl) (i' := 1) rfl) <| .gy rfl rfl (ys_ld ⟨isAgg23, sizeOf23⟩ (.t rfl) (k := 4) rfl rfl) <| .gy rfl rfl (ys_lenS underlying23 (.t rfl)) <| .gy rfl rfl (ys_F (by omega) (ys_geq (.t rfl) (.t rfl))) <| .yy (ys_pickF (.t rfl) (.t rfl)) rfl <| .mv rfl <| .gy rfl rfl (ys_move (.t rfl)) <| .gy rfl rfl (ys_fieldN (FieldT.mk underlying26 rfl sizeOf24 rfl) (.t rfl) (i' := 2) rfl) <| .gy rfl rfl (ys_ld ⟨isAgg24, sizeOf24⟩ (.t rfl) (k := 4) rfl rfl) <| .gy rfl rfl (ys_lenS underlying24 (.t rfl)) <| .gy rfl rfl (ys_F (by omega) (ys_geq (.t rfl) (.t rfl))) <| .yy (ys_pickF (.t rfl) (.t rfl)) rfl <| .mv rfl <| .gy rfl rfl (ys_move (.t rfl)) <| .gy rfl rfl (ys_fieldN (FieldT.mk underlying26 rfl sizeOf23 rfl) (.t rfl) (i' := 3) rfl) <| .gy rfl rfl (ys_ld ⟨isAgg23, sizeOf23⟩ (.t rfl) (k := 4) rfl rfl) <| .gy rfl rfl (ys_lenS underlying23 (.t rfl)) <| .gy rfl rfl (ys_F (by omega) (ys_geq (.t rfl) (.t rfl))) <| .yy (ys_pickF (.t rfl) (.t rfl)) rfl <| .mv rfl <| .gy rfl rfl (ys_move (.t rfl)) <| .gy rfl rfl (ys_fieldN (FieldT.mk underlying26 rfl sizeOf24 rfl) (.t rfl) (i' := 4) rfl) <| .gy rfl rfl (ys_ld ⟨isAgg24, sizeOf24⟩ (.t rfl) (k := 4) rfl rfl) <| .gy rfl rfl (ys_lenS underlying24 (.t rfl)) <| .gy rfl rfl (ys_T (by omega) (ys_geq (.t rfl) (.t rfl))) <| .yy (ys_pickF (.t rfl) (.t rfl)) rfl <| .z) fun a w S => ?_
                refine st_nil (then_normal (hK4 _ _ (st_then S (.t rfl) (wp_exit (then_exit (in_past rfl (then_exit (then_exit (in_here (then_normal (hK1 _ _ (sg S (.mv rfl <| .mv rfl <| .as rfl <| .as rfl <| .z) fun a w S => wp_ret (st_ret S (results2 S results6 (Rv.tmp rfl) (Rv.tmp rfl)) ?_)))))))))))))
                exact ⟨_, _, rfl, S.wd.pk, _, _, _, _, st, up, _, _, rfl, rfl, by rw [hst, done], by rw [hup, done], hcs, hcu⟩
            · obtain ⟨g, o, x, rfl, hx, hd, hc⟩ := row_at hA c1
              refine sg S (.lt (by omega) rfl rfl <| .z) fun a w S => wp_seq_k fun _ hK2 => st_then S (.t rfl) (wp_skip (then_normal (hK2 _ _ (wp_seq_k fun _ hK2 => wp_block (sg S (.mv rfl <| .ix underlying22 sizeOf9 (by omega) rfl rfl <| .yy (ys_ldO ⟨isAgg9, sizeOf9⟩ (.t rfl) (fun _ => hc 0 _ rfl)) rfl <| .as rfl <| .as rfl <| .z) fun a w S => wp_seq_k fun _ hK3 => wp_seq_k fun _ hK4 => wp_region_lit ?_)))))
              refine run S (.mv rfl <| .yy (ys_F (by omega) (ys_geq (.t rfl) Ev.c)) rfl <| .mv rfl <| .gy rfl rfl (ys_move (.t rfl)) <| .gy rfl rfl (ys_fieldN (FieldT.mk underlying26 rfl sizeOf23 rfl) (.t rfl) (i' := 1) rfl) <| .gy rfl rfl (ys_ld ⟨isAgg23, sizeOf23⟩ (.t rfl) (k := 4) rfl rfl) <| .gy rfl rfl (ys_lenS underlying23 (.t rfl)) <| .gy rfl rfl (ys_F (by omega) (ys_geq (.t rfl) (.t rfl))) <| .yy (ys_pickF (.t rfl) (.t rfl)) rfl <| .mv rfl <| .gy rfl rfl (ys_move (.t rfl)) <| .gy rfl rfl (ys_fieldN (FieldT.mk underlying26 rfl sizeOf24 rfl) (.t rfl) (i' := 2) rfl) <| .gy rfl rfl (ys_ld ⟨isAgg24, sizeOf24⟩ (.t rfl) (k := 4) rfl rfl) <| .gy rfl rfl (ys_lenS underlying24 (.t rfl)) <| .gy rfl rfl (ys_F (by omega) (ys_geq (.t rfl) (.t rfl))) <| .yy (ys_pickF (.t rfl) (.t rfl)) rfl <| .mv rfl <| .gy rfl rfl (ys_move (.t rfl)) <| .gy rfl rfl (ys_fieldN (FieldT.mk underlying26 rfl sizeOf23 rfl) (.t rfl) (i' := 3) rfl) <| .gy rfl rfl (ys_ld ⟨isAgg23, sizeOf23⟩ (.t rfl) (k := 4) rfl rfl) <| .gy rfl rfl (ys_lenS underlying23 (.t rfl)) <| .gy rfl rfl (ys_T (by omega) (ys_geq (.t rfl) (.t rfl))) <| .yy (ys_pickF (.t rfl) (.t rfl)) rfl <| .mv rfl <| .sk rfl rfl rfl <| .sk rfl rfl rfl <| .sk rfl rfl rfl <| .sk rfl rfl rfl <| .sk rfl rfl rfl <| .yy (ys_pickT (.t rfl) Ev.c) rfl <| .z) fun a w S => st_nil (then_normal (hK4 _ _ (st_then S (.t rfl) (wp_exit ?_))))
              refine then_exit (in_past rfl (then_exit (then_exit (in_here (then_normal (hK1 _ _ (sg S (.mv rfl <| .mv rfl <| .as rfl <| .as rfl <| .z) fun a w S => wp_ret (st_ret S (results2 S results6 (Rv.tmp rfl) (Rv.tmp rfl)) ?_))))))))
              exact ⟨_, _, rfl, S.wd.pk, _, _, _, _, st, up, _, _, rfl, rfl, by rw [hst, done], by rw [hup, done], hcs, hcu⟩
          · obtain ⟨g, o, x, rfl, hx, hd, hc⟩ := row_at hA c1
            refine sg S (.lt (by omega) rfl rfl <| .z) fun a w S => wp_seq_k fun _ hK2 => st_then S (.t rfl) (wp_skip (then_normal (hK2 _ _ (wp_seq_k fun _ hK2 => wp_block (sg S (.mv rfl <| .ix underlying22 sizeOf9 (by omega) rfl rfl <| .yy (ys_ldO ⟨isAgg9, sizeOf9⟩ (.t rfl) (fun _ => hc 0 _ rfl)) rfl <| .as rfl <| .as rfl <| .z) fun a w S => wp_seq_k fun _ hK3 => wp_seq_k fun _ hK4 => wp_region_lit ?_)))))
            refine run S (.mv rfl <| .yy (ys_F (by omega) (ys_geq (.t rfl) Ev.c)) rfl <| .mv rfl <| .gy rfl rfl (ys_move (.t rfl)) <| .gy rfl rfl (ys_fieldN (FieldT.mk underlying26 rfl sizeOf23 rfl) (.t rfl) (i' := 1) rfl) <| .gy rfl rfl (ys_ld ⟨isAgg23, sizeOf23⟩ (.t rfl) (k := 4) rfl rfl) <| .gy rfl rfl (ys_lenS underlying23 (.t rfl)) <| .gy rfl rfl (ys_F (by omega) (ys_geq (.t rfl) (.t rfl))) <| .yy (ys_pickF (.t rfl) (.t rfl)) rfl <| .mv rfl <| .gy rfl rfl (ys_move (.t rfl)) <| .gy rfl rfl (ys_fieldN (FieldT.mk underlying26 rfl sizeOf24 rfl) (.t rfl) (i' := 2) rfl) <| .gy rfl rfl (ys_ld ⟨isAgg24, sizeOf24⟩ (.t rfl) (k := 4) rfl rfl) <| .gy rfl rfl (ys_lenS underlying24 (.t rfl)) <| .gy rfl rfl (ys_T (by omega) (ys_geq (.t rfl) (.t rfl))) <| .yy (ys_pickF (.t rfl) (.t rfl)) rfl <| .mv rfl <| .sk rfl rfl rfl <| .sk rfl rfl rfl <| .sk rfl rfl rfl <| .sk rfl rfl rfl <| .sk rfl rfl rfl <| .yy (ys_pickT (.t rfl) Ev.c) rfl <| .mv rfl <| .sk rfl rfl rfl <| .sk rfl rfl rfl <| .sk rfl rfl rfl <| .sk rfl rfl rfl <| .sk rfl rfl rfl <| .yy (ys_pickT (.t rfl) Ev.c) rfl <| .z) fun a w S => st_nil (then_normal (hK4 _ _ (st_then S (.t rfl) (wp_exit (then_exit (in_past rfl (then_exit (then_exit (in_here (then_normal (hK1 _ _ (sg S (.mv rfl <| .mv rfl <| .as rfl <| .as rfl <| .z) fun a w S => wp_ret ?_))))))))))))
            refine st_ret S (results2 S results6 (Rv.tmp rfl) (Rv.tmp rfl)) ?_
            exact ⟨_, _, rfl, S.wd.pk, _, _, _, _, st, up, _, _, rfl, rfl, by rw [hst, done], by rw [hup, done], hcs, hcu⟩
        · obtain ⟨g, o, x, rfl, hx, hd, hc⟩ := row_at hA c1
          refine sg S (.lt (by omega) rfl rfl <| .z) fun a w S => wp_seq_k fun _ hK2 => st_then S (.t rfl) (wp_skip (then_normal (hK2 _ _ (wp_seq_k fun _ hK2 => wp_block (sg S (.mv rfl <| .ix underlying22 sizeOf9 (by omega) rfl rfl <| .yy (ys_ldO ⟨isAgg9, sizeOf9⟩ (.t rfl) (fun _ => hc 0 _ rfl)) rfl <| .as rfl <| .as rfl <| .z) fun a w S => wp_seq_k fun _ hK3 => sg S (.mv rfl <| .yy (ys_F (by omega) (ys_geq (.t rfl) Ev.c)) rfl <| .mv rfl <| .gy rfl rfl (ys_move (.t rfl)) <| .gy rfl rfl (ys_fieldN (FieldT.mk underlying26 rfl sizeOf23 rfl) (.t rfl) (i' := 1) rfl) <| .gy rfl rfl (ys_ld ⟨isAgg23, sizeOf23⟩ (.t rfl) (k := 4) rfl rfl) <| .gy rfl rfl (ys_lenS underlying23 (.t rfl)) <| .gy rfl rfl (ys_T (by omega) (ys_geq (.t rfl) (.t rfl))) <| .yy (ys_pickF (.t rfl) (.t rfl)) rfl <| .mv rfl <| .sk rfl rfl rfl <| .sk rfl rfl rfl <| .sk rfl rfl rfl <| .sk rfl rfl rfl <| .sk rfl rfl rfl <| .yy (ys_pickT (.t rfl) Ev.c) rfl <| .mv rfl <| .sk rfl rfl rfl <| .sk rfl rfl rfl <| .sk rfl rfl rfl <| .sk rfl rfl rfl <| .sk rfl rfl rfl <| .yy (ys_pickT (.t rfl) Ev.c) rfl <| .mv rfl <| .sk rfl rfl rfl <| .sk rfl rfl rfl <| .sk rfl rfl rfl <| .sk rfl rfl rfl <| .sk rfl rfl rfl <| .yy (ys_pickT (.t rfl) Ev.c) rfl <| .z) fun a w S => ?_)))))
          refine st_then S (.t rfl) (wp_exit (then_exit (in_past rfl (then_exit (then_exit (in_here (then_normal (hK1 _ _ (sg S (.mv rfl <| .mv rfl <| .as rfl <| .as rfl <| .z) fun a w S => wp_ret (st_ret S (results2 S results6 (Rv.tmp rfl) (Rv.tmp rfl)) ?_))))))))))
          exact ⟨_, _, rfl, S.wd.pk, _, _, _, _, st, up, _, _, rfl, rfl, by rw [hst, done], by rw [hup, done], hcs, hcu⟩
      · obtain ⟨g, o, x, rfl, hx, hd, hc⟩ := row_at hA c1
        refine sg S (.lt (by omega) rfl rfl <| .z) fun a w S => wp_seq_k fun _ hK2 => st_then S (.t rfl) (wp_skip (then_normal (hK2 _ _ (wp_seq_k fun _ hK2 => wp_block (sg S (.mv rfl <| .ix underlying22 sizeOf9 (by omega) rfl rfl <| .yy (ys_ldO ⟨isAgg9, sizeOf9⟩ (.t rfl) (fun _ => hc 0 _ rfl)) rfl <| .as rfl <| .as rfl <| .z) fun a w S => wp_seq_k fun _ hK3 => sg S (.mv rfl <| .yy (ys_T (by omega) (ys_geq (.t rfl) Ev.c)) rfl <| .mv rfl <| .sk rfl rfl rfl <| .sk rfl rfl rfl <| .sk rfl rfl rfl <| .sk rfl rfl rfl <| .sk rfl rfl rfl <| .yy (ys_pickT (.t rfl) Ev.c) rfl <| .mv rfl <| .sk rfl rfl rfl <| .sk rfl rfl rfl <| .sk rfl rfl rfl <| .sk rfl rfl rfl <| .sk rfl rfl rfl <| .yy (ys_pickT (.t rfl) Ev.c) rfl <| .mv rfl <| .sk rfl rfl rfl <| .sk rfl rfl rfl <| .sk rfl rfl rfl <| .sk rfl rfl rfl <| .sk rfl rfl rfl <| .yy (ys_pickT (.t rfl) Ev.c) rfl <| .mv rfl <| .sk rfl rfl rfl <| .sk rfl rfl rfl <| .sk rfl rfl rfl <| .sk rfl rfl rfl <| .sk rfl rfl rfl <| .yy (ys_pickT (.t rfl) Ev.c) rfl <| .z) fun a w S => st_then S (.t rfl) (wp_exit (then_exit (in_past rfl (then_exit (then_exit (in_here (then_normal (hK1 _ _ (wp_seq_k fun _ hK1 => wp_region_lit (run S (.mv rfl <| .mv rfl <| .as rfl <| .as rfl <| .z) fun a w S => st_nil ?_)))))))))))))))
        refine then_normal (hK1 _ _ (wp_ret (st_ret S (results2 S results6 (Rv.tmp rfl) (Rv.tmp rfl)) ?_)))
        exact ⟨_, _, rfl, S.wd.pk, _, _, _, _, st, up, _, _, rfl, rfl, by rw [hst, done], by rw [hup, done], hcs, hcu⟩
    · refine sg S (.ge (by omega) rfl rfl <| .z) fun a w S => wp_seq_k fun _ hK2 => st_else S (.t rfl) (wp_exit (then_exit (then_exit (in_here (then_normal (hK1 _ _ (sg S (.mv rfl <| .mv rfl <| .as rfl <| .as rfl <| .z) fun a w S => wp_ret (st_ret S (results2 S results6 (Rv.tmp rfl) (Rv.tmp rfl)) ?_))))))))
      exact ⟨_, _, rfl, S.wd.pk, _, _, _, _, st, up, _, _, rfl, rfl, by rw [hst, done], by rw [hup, done], hcs, hcu⟩
  obtain ⟨m1, m2, m3, m4, m5, m6⟩ := hmany.1 hlt
  obtain ⟨gA, oA, item, rfl, hitem, hdA, hcA⟩ := row_at hA m1
  obtain ⟨gB, oB, qv, rfl, hqv, hdB, hcB⟩ := row_at hB m3
  obtain ⟨gC, oC, pv, rfl, hpv, hdC, hcC⟩ := row_at hC m4
  obtain ⟨gD, oD, nv, rfl, hnv, hdD, hcD⟩ := row_at hD m5
  obtain ⟨gE, oE, sw, rfl, hsw, hdE, hcE⟩ := row_at hE m6
  refine sg S (.lt (by omega) rfl rfl <| .z) fun a w S => wp_seq_k fun _ hK2 => st_then S (.t rfl) (wp_skip (then_normal (hK2 _ _ (wp_seq_k fun _ hK2 => wp_block (sg S (.mv rfl <| .ix underlying22 sizeOf9 (by omega) rfl rfl <| .yy (ys_ldO ⟨isAgg9, sizeOf9⟩ (.t rfl) (fun _ => hcA 0 _ rfl)) rfl <| .as rfl <| .as rfl <| .z) fun a w S => wp_seq_k fun _ hK3 => wp_seq_k fun _ hK4 => wp_region_lit ?_)))))
  refine run S (.mv rfl <| .yy (ys_F (by omega) (ys_geq (.t rfl) Ev.c)) rfl <| .mv rfl <| .gy rfl rfl (ys_move (.t rfl)) <| .gy rfl rfl (ys_fieldN (FieldT.mk underlying26 rfl sizeOf23 rfl) (.t rfl) (i' := 1) rfl) <| .gy rfl rfl (ys_ld ⟨isAgg23, sizeOf23⟩ (.t rfl) (k := 4) rfl rfl) <| .gy rfl rfl (ys_lenS underlying23 (.t rfl)) <| .gy rfl rfl (ys_F (by omega) (ys_geq (.t rfl) (.t rfl))) <| .yy (ys_pickF (.t rfl) (.t rfl)) rfl <| .mv rfl <| .gy rfl rfl (ys_move (.t rfl)) <| .gy rfl rfl (ys_fieldN (FieldT.mk underlying26 rfl sizeOf24 rfl) (.t rfl) (i' := 2) rfl) <| .gy rfl rfl (ys_ld ⟨isAgg24, sizeOf24⟩ (.t rfl) (k := 4) rfl rfl) <| .gy rfl rfl (ys_lenS underlying24 (.t rfl)) <| .gy rfl rfl (ys_F (by omega) (ys_geq (.t rfl) (.t rfl))) <| .yy (ys_pickF (.t rfl) (.t rfl)) rfl <| .mv rfl <| .gy rfl rfl (ys_move (.t rfl)) <| .gy rfl rfl (ys_fieldN (FieldT.mk underlying26 rfl sizeOf23 rfl) (.t rfl) (i' := 3) rfl) <| .gy rfl rfl (ys_ld ⟨isAgg23, sizeOf23⟩ (.t rfl) (k := 4) rfl rfl) <| .gy rfl rfl (ys_lenS underlying23 (.t rfl)) <| .gy rfl rfl (ys_F (by omega) (ys_geq (.t rfl) (.t rfl))) <| .yy (ys_pickF (.t rfl) (.t rfl)) rfl <| .mv rfl <| .gy rfl rfl (ys_move (.t rfl)) <| .gy rfl rfl (ys_fieldN (FieldT.mk underlying26 rfl sizeOf24 rfl) (.t rfl) (i' := 4) rfl) <| .gy rfl rfl (ys_ld ⟨isAgg24, sizeOf24⟩ (.t rfl) (k := 4) rfl rfl) <| .gy rfl rfl (ys_lenS underlying24 (.t rfl)) <| .gy rfl rfl (ys_F (by omega) (ys_geq (.t rfl) (.t rfl))) <| .yy (ys_pickF (.t rfl) (.t rfl)) rfl <| .z) fun a w S => ?_
  refine st_nil (then_normal (hK4 _ _ (st_else S (.t rfl) (wp_skip (then_normal (hK3 _ _ (wp_seq_k fun _ hK3 => wp_region_lit (st_m (op_alloc S zeroValue40 (cs := _) rfl rfl fun g3 a w S => st_nil (then_normal (hK3 _ _ (wp_seq_k fun _ hK3 => sg S (.mv rfl <| .ln underlying30 rfl <| .mc rfl <| .z) fun a w S => wp_block ?_))))))))))))
  refine st_lpM (((S.nil_ 62 3 Dot.enc none).nil_ 110 3 Dot.enc none).nil_ 74 6 Ent.enc none) [58] (X := Nat × Option Addr × Nat × Option Addr × Nat × Option Addr × Nat) (fun q => [(58, true, .int .i64 (q.1 : Int))])
    (fun q => [rowOf 74 6 Ent.enc q.2.1 q.2.2.1 (pickTo (st.map (·.1)) sw q.1).ents, rowOf 110 3 Dot.enc q.2.2.2.1 q.2.2.2.2.1 (pickTo (st.map (·.1)) sw q.1).ctx.marks, rowOf 62 3 Dot.enc q.2.2.2.2.2.1 q.2.2.2.2.2.2 (pickTo (st.map (·.1)) sw q.1).ctx.cloud, .blk g3 (.cells #[.slice q.2.1 (pickTo (st.map (·.1)) sw q.1).ents.length q.2.2.1, .slice q.2.2.2.1 (pickTo (st.map (·.1)) sw q.1).ctx.marks.length q.2.2.2.2.1, .slice q.2.2.2.2.2.1 (pickTo (st.map (·.1)) sw q.1).ctx.cloud.length q.2.2.2.2.2.2] 40), rowOf 40 3 SCart.enc F cF st, rowOf 64 10 SUpd.enc G cG up, .ice w1 bs, .blk g2 (.cells (ctL (playTo h i).ct).toArray 69), .blk g1 (.cells #[.slice (some ⟨gA, oA, none⟩) h.items.length cap, .slice (some ⟨gB, oB, none⟩) h.qtys.length capB, .slice (some ⟨gC, oC, none⟩) h.prices.length capC, .slice (some ⟨gD, oD, none⟩) h.nodes.length capD, .slice (some ⟨gE, oE, none⟩) h.saws.length capE] 26)])
    (fun q => q.1 ≤ st.length) (fun q => st.length - q.1) (0, none, 0, none, 0, none, 0) (Nat.zero_le _) ?_
  clear S
  rintro ⟨k, A1, r1, A2, r2, A3, r3⟩ a w hk S
  dsimp only at hk S
  by_cases hkl : k < st.length
  · obtain ⟨q, hq⟩ : ∃ q, st[k]? = some q := ⟨st[k], List.getElem?_eq_getElem hkl⟩
    have hF := (S.wd.room (k := 4) rfl).1
    obtain ⟨gF, rfl⟩ := S.wd.row_at (k := 4) rfl (by omega)
    obtain ⟨hq1, hq2, hq3⟩ := hcs q (List.mem_of_getElem? hq)
    have hnx : pickTo (st.map (·.1)) sw (k + 1) = pickF (pickTo (st.map (·.1)) sw k) q.1 (bitU sw k) := pick_next (by rw [List.getElem?_map, hq]; rfl)
    have hb0 := bit_and sw k
    cases hb : bitU sw k with
    | false =>
      have rw_b := hb0.trans hb
      have e : pickTo (st.map (·.1)) sw (k + 1) = pickTo (st.map (·.1)) sw k := by rw [hnx, hb]; rfl
      refine sg S (.lt (by omega) rfl rfl <| .z) fun a w S => wp_seq_k fun _ hK4 => st_then S (.t rfl) (wp_skip (then_normal (hK4 _ _ (wp_seq_k fun _ hK4 => wp_block (wp_seq_k fun _ hK5 => wp_region_lit (run S (.mv rfl <| .ix underlying30 sizeOf40 (by omega) rfl rfl <| .yy (ys_ldWA ⟨isAgg40, sizeOf40⟩ (.t rfl) (k := 4) rfl hq (fun _ => rfl)) rfl <| .z) fun a w S => st_m (op_alloc S zeroValue40 (cs := _) rfl rfl fun g4 a w S => run S (.as rfl <| .z) fun a w S => st_m (op_stW S sizeOf40 (.t rfl) (.t rfl) (k := 0) rfl rfl rfl (by simp [Value.oneCell']) fun a w S => st_nil (then_normal (hK5 _ _ (wp_seq_k fun _ hK5 => wp_region_lit (run S (.fa underlying26 sizeOf24 4 rfl rfl rfl <| .ld gt24 9 rfl rfl rfl <| .mv rfl <| .ix underlying24 sizeOf27 (by omega) rfl rfl <| .yy (ys_ldO ⟨isAgg27, sizeOf27⟩ (.t rfl) (fun _ => hcE 0 _ rfl)) rfl <| .mv rfl <| .yy (ys_shr (.t rfl) (.t rfl) (Nat.ble_eq_true_of_le (by show _ ≤ 64; omega))) rfl <| .yy (ys_band (.t rfl) Ev.c) rfl <| .yy (ys_eql (.t rfl) Ev.c) rfl <| .z) fun a w S => ?_))))))))))))
      rw [rw_b] at S
      refine st_nil (then_normal (hK5 _ _ (st_else S (.t rfl) (wp_skip (in_normal (then_normal (hK4 _ _ (wp_region_lit (run S (.ad (by unfold I64; omega) rfl <| .mv rfl <| .z) fun a w S => st_nil (then_normal ?_))))))))))
      exact ⟨(k + 1, A1, r1, A2, r2, A3, r3), by dsimp only; omega, by dsimp only; omega, by dsimp only; rw [e]; exact S.pk⟩
    | true =>
      have rw_b := hb0.trans hb
      by_cases hj : (joinK (pickTo (st.map (·.1)) sw k) q.1).2 = 0
      · have e : pickTo (st.map (·.1)) sw (k + 1) = (joinK (pickTo (st.map (·.1)) sw k) q.1).1 := by rw [hnx, hb]; unfold pickF; rw [if_pos rfl, if_pos hj]
        have rw_j := decide_eq_true hj
        refine sg S (.lt (by omega) rfl rfl <| .z) fun a w S => wp_seq_k fun _ hK4 => st_then S (.t rfl) (wp_skip (then_normal (hK4 _ _ (wp_seq_k fun _ hK4 => wp_block (wp_seq_k fun _ hK5 => wp_region_lit (run S (.mv rfl <| .ix underlying30 sizeOf40 (by omega) rfl rfl <| .yy (ys_ldWA ⟨isAgg40, sizeOf40⟩ (.t rfl) (k := 4) rfl hq (fun _ => rfl)) rfl <| .z) fun a w S => st_m (op_alloc S zeroValue40 (cs := _) rfl rfl fun g4 a w S => run S (.as rfl <| .z) fun a w S => st_m (op_stW S sizeOf40 (.t rfl) (.t rfl) (k := 0) rfl rfl rfl (by simp [Value.oneCell']) fun a w S => st_nil (then_normal (hK5 _ _ (wp_seq_k fun _ hK5 => wp_region_lit (run S (.fa underlying26 sizeOf24 4 rfl rfl rfl <| .ld gt24 9 rfl rfl rfl <| .mv rfl <| .ix underlying24 sizeOf27 (by omega) rfl rfl <| .yy (ys_ldO ⟨isAgg27, sizeOf27⟩ (.t rfl) (fun _ => hcE 0 _ rfl)) rfl <| .mv rfl <| .yy (ys_shr (.t rfl) (.t rfl) (Nat.ble_eq_true_of_le (by show _ ≤ 64; omega))) rfl <| .yy (ys_band (.t rfl) Ev.c) rfl <| .yy (ys_eql (.t rfl) Ev.c) rfl <| .z) fun a w S => ?_))))))))))))
        rw [rw_b] at S
        refine st_nil (then_normal (hK5 _ _ (st_then S (.t rfl) (wp_seq_k fun _ hK5 => wp_region_lit (run S (.la gt40 4 rfl rfl rfl <| .la gt40 0 rfl rfl rfl <| .z) fun a w S => ?_)))))
        (refine st_m (op_calls S call24 (.cons (.t rfl) (.cons (.t rfl) .nil)) (c24 _ _ _ _ _ _ _ _ _ (by exact Sl.of_own S.wd (k := 1) rfl (fun _ => rfl)) (by exact ⟨(by exact Sl.of_own S.wd (k := 2) rfl (fun _ => rfl)), (by exact Sl.of_own S.wd (k := 3) rfl (fun _ => rfl))⟩) (by exact SlIn.sl (by assumption) S.wd (k := 7) rfl) (by exact ⟨(by exact SlIn.sl (by assumption) S.wd (k := 7) rfl), (by exact SlIn.sl (by assumption) S.wd (k := 7) rfl)⟩)) rfl ?_); clear S a w; rintro _ _ ⟨A11, r11, A21, r21, A31, r31, rfl, rfl⟩ a w S)
        simp only [List.nil_append] at S
        refine run S (.mv rfl <| .ex rfl rfl <| .ex rfl rfl <| .z) fun a w S => st_m (op_alloc S zeroValue40 (cs := _) rfl rfl fun g5 a w S => st_m (op_stW S sizeOf40 (.t rfl) (.t rfl) (k := 0) rfl rfl rfl (by simp [Value.oneCell']) fun a w S => run S (.as rfl <| .z) fun a w S => st_nil (then_normal (hK5 _ _ (sg S (.mv rfl <| .yy (ys_T (by omega) (ys_eql (.t rfl) Ev.c)) rfl <| .z) fun a w S => st_then S (.t rfl) (wp_region_lit (run S (.la gt40 0 rfl rfl rfl <| .z) fun a w S => st_m (op_stW S sizeOf40 (.t rfl) (.t rfl) (k := 8) rfl rfl rfl (by simp [Value.oneCell']) fun a w S => st_nil (in_normal (then_normal (hK4 _ _ (wp_region_lit (run S (.ad (by unfold I64; omega) rfl <| .mv rfl <| .z) fun a w S => st_nil (then_normal ?_))))))))))))))
        exact ⟨(k + 1, A11, r11, A21, r21, A31, r31), by dsimp only; omega, by dsimp only; omega, by dsimp only; rw [e]; exact S.pk⟩
      · have e : pickTo (st.map (·.1)) sw (k + 1) = pickTo (st.map (·.1)) sw k := by rw [hnx, hb]; unfold pickF; rw [if_pos rfl, if_neg hj]
        have rw_j := decide_eq_false hj
        refine sg S (.lt (by omega) rfl rfl <| .z) fun a w S => wp_seq_k fun _ hK4 => st_then S (.t rfl) (wp_skip (then_normal (hK4 _ _ (wp_seq_k fun _ hK4 => wp_block (wp_seq_k fun _ hK5 => wp_region_lit (run S (.mv rfl <| .ix underlying30 sizeOf40 (by omega) rfl rfl <| .yy (ys_ldWA ⟨isAgg40, sizeOf40⟩ (.t rfl) (k := 4) rfl hq (fun _ => rfl)) rfl <| .z) fun a w S => st_m (op_alloc S zeroValue40 (cs := _) rfl rfl fun g4 a w S => run S (.as rfl <| .z) fun a w S => st_m (op_stW S sizeOf40 (.t rfl) (.t rfl) (k := 0) rfl rfl rfl (by simp [Value.oneCell']) fun a w S => st_nil (then_normal (hK5 _ _ (wp_seq_k fun _ hK5 => wp_region_lit (run S (.fa underlying26 sizeOf24 4 rfl rfl rfl <| .ld gt24 9 rfl rfl rfl <| .mv rfl <| .ix underlying24 sizeOf27 (by omega) rfl rfl <| .yy (ys_ldO ⟨isAgg27, sizeOf27⟩ (.t rfl) (fun _ => hcE 0 _ rfl)) rfl <| .mv rfl <| .yy (ys_shr (.t rfl) (.t rfl) (Nat.ble_eq_true_of_le (by show _ ≤ 64; omega))) rfl <| .yy (ys_band (.t rfl) Ev.c) rfl <| .yy (ys_eql (.t rfl) Ev.c) rfl <| .z) fun a w S => ?_))))))))))))
        rw [rw_b] at S
        refine st_nil (then_normal (hK5 _ _ (st_then S (.t rfl) (wp_seq_k fun _ hK5 => wp_region_lit (run S (.la gt40 4 rfl rfl rfl <| .la gt40 0 rfl rfl rfl <| .z) fun a w S => ?_)))))
        (refine st_m (op_calls S call24 (.cons (.t rfl) (.cons (.t rfl) .nil)) (c24 _ _ _ _ _ _ _ _ _ (by exact Sl.of_own S.wd (k := 1) rfl (fun _ => rfl)) (by exact ⟨(by exact Sl.of_own S.wd (k := 2) rfl (fun _ => rfl)), (by exact Sl.of_own S.wd (k := 3) rfl (fun _ => rfl))⟩) (by exact SlIn.sl (by assumption) S.wd (k := 7) rfl) (by exact ⟨(by exact SlIn.sl (by assumption) S.wd (k := 7) rfl), (by exact SlIn.sl (by assumption) S.wd (k := 7) rfl)⟩)) rfl ?_); clear S a w; rintro _ _ ⟨A11, r11, A21, r21, A31, r31, rfl, rfl⟩ a w S)
        simp only [List.nil_append] at S
        refine run S (.mv rfl <| .ex rfl rfl <| .ex rfl rfl <| .z) fun a w S => st_m (op_alloc S zeroValue40 (cs := _) rfl rfl fun g5 a w S => st_m (op_stW S sizeOf40 (.t rfl) (.t rfl) (k := 0) rfl rfl rfl (by simp [Value.oneCell']) fun a w S => run S (.as rfl <| .z) fun a w S => st_nil (then_normal (hK5 _ _ (sg S (.mv rfl <| .yy (ys_F (by omega) (ys_eql (.t rfl) Ev.c)) rfl <| .z) fun a w S => st_else S (.t rfl) (wp_skip (in_normal (then_normal (hK4 _ _ (wp_region_lit (run S (.ad (by unfold I64; omega) rfl <| .mv rfl <| .z) fun a w S => st_nil (then_normal ?_))))))))))))
        exact ⟨(k + 1, A1, r1, A2, r2, A3, r3), by dsimp only; omega, by dsimp only; omega, by dsimp only; rw [e]; exact S.pk⟩
  obtain rfl : k = st.length := by omega
  have ep : pickTo (st.map (·.1)) sw st.length = pickK (playTo h i).st sw := by rw [← hst]; unfold pickK; rw [List.length_map]
  rw [ep] at S
  clear hkl hk
  have hpl : (pickK (playTo h i).st sw).ents.length ≤ 1048576 ∧ (pickK (playTo h i).st sw).ctx.marks.length ≤ 1048576 ∧ (pickK (playTo h i).st sw).ctx.cloud.length ≤ 1048576 := pick_len (playTo h i).st sw (playTo h i).st.length
  have rw_n := node_val nv
  have hnp := nodeP_lt nv
  generalize hCT : (playTo h i).ct = ct at S hct
  have hcx := ctL_get (l := ct) (n := nodeP nv) (by omega)
  have hcb := play_ct h i (nodeP nv)
  rw [hCT] at hcb
  generalize hX : ct.getD (nodeP nv) 0 = x at hcx hcb
  have rw_s := ctL_set ct (nodeP nv) (x + 1)
  have hcy := ctL_get (l := ct.set (nodeP nv) (x + 1)) (n := nodeP nv) (by rw [List.length_set]; omega)
  have ey : (ct.set (nodeP nv) (x + 1)).getD (nodeP nv) 0 = x + 1 := by rw [List.getD_eq_getElem?_getD, List.getElem?_set_self (by omega)]; rfl
  rw [ey] at hcy
  have hcl2 : (ct.set (nodeP nv) (x + 1)).length = 8 := by rw [List.length_set]; exact hct
  have rw_n2 : IntKind.i64.wrap ((nodeP nv : Int).tmod 2) = ((nodeP nv % 2 : Nat) : Int) := by
    rw [Int.tmod_eq_emod_of_nonneg (by omega), IntKind.wrap_i64]; omega
  refine sg S (.ge (by omega) rfl rfl <| .z) fun a w S => wp_seq_k fun _ hK4 => st_else S (.t rfl) (wp_exit (then_exit (then_exit (in_here (then_normal (hK3 _ _ (wp_seq_k fun _ hK3 => wp_region_lit (run S (.fa underlying26 sizeOf23 3 rfl rfl rfl <| .ld gt23 8 rfl rfl rfl <| .mv rfl <| .ix underlying23 sizeOf3 (by omega) rfl rfl <| .yy (ys_ldO ⟨isAgg3, sizeOf3⟩ (.t rfl) (fun _ => hcD 0 _ rfl)) rfl <| .yy (ys_cv underlying3 underlying56 (.t rfl)) rfl <| .yy (ys_rem (.t rfl) Ev.c (fun _ => by omega)) rfl <| .yy (ys_cv underlying56 underlying3 (.t rfl)) rfl <| .z) fun a w S => ?_))))))))
  rw [rw_n] at S
  refine run S (.as rfl <| .z) fun a w S => st_nil (then_normal (hK3 _ _ (wp_seq_k fun _ hK3 => wp_region_lit (run S (.mv rfl <| .yy (ys_ixA underlying69 sizeOf3 (.t rfl) (.t rfl) (fun _ => by omega)) rfl <| .yy (ys_ldN ⟨isAgg3, sizeOf3⟩ (.t rfl) (k := 7) rfl (fun _ => by assumption)) rfl <| .ad (by unfold I64; omega) rfl <| .yy (ys_ixA underlying69 sizeOf3 (.t rfl) (.t rfl) (fun _ => by omega)) rfl <| .z) fun a w S => st_m (op_st S sizeOf3 (.t rfl) (.t rfl) (k := 7) rfl rfl (by rw [Go.Fw.ctL_len]; omega) fun a w S => ?_)))))
  rw [rw_s] at S
  refine st_nil (then_normal (hK3 _ _ (wp_seq_k fun _ hK3 => h_begin0 S (by kernel_rfl) fun a w S => hy 0 S rfl (ys_move (.t rfl)) rfl fun a w S => hy 1 S rfl (ys_move (.t rfl)) rfl fun a w S => hy 2 S rfl (ys_remE (.t rfl) Ev.c (fun _ => by omega)) rfl fun a w S => hy 3 S rfl (ys_addI Ev.c (.t rfl) (fun _ => by unfold I64; omega)) rfl fun a w S => hy 4 S rfl (ys_move (.t rfl)) rfl fun a w S => ?_)))
  refine hy 5 S rfl (ys_ixA underlying69 sizeOf3 (.t rfl) (.t rfl) (fun _ => by omega)) rfl fun a w S => hy 6 S rfl (ys_ldN ⟨isAgg3, sizeOf3⟩ (.t rfl) (k := 7) rfl (fun _ => by assumption)) rfl fun a w S => hy 7 S rfl (ys_bld (ps := [(0, Go.Operand.tmp 95), (1, Go.Operand.tmp 98), (2, Go.Operand.tmp 101)]) (us := [_, _, _]) bld62 (.cons (.t rfl) (.cons (.t rfl) (.cons (.t rfl) .nil))) rfl) rfl fun a w S => hy 8 S rfl (ys_move (.t rfl)) rfl fun a w S => ?_
  refine hy 9 S rfl (ys_fieldN (FieldT.mk underlying26 rfl sizeOf23 rfl) (.t rfl) (i' := 1) rfl) rfl fun a w S => hy 10 S rfl (ys_ld ⟨isAgg23, sizeOf23⟩ (.t rfl) (k := 8) rfl rfl) rfl fun a w S => hy 11 S rfl (ys_move (.t rfl)) rfl fun a w S => hy 12 S rfl (ys_ixS underlying23 sizeOf3 (.t rfl) (.t rfl) (fun _ => by omega)) rfl fun a w S => hy 13 S rfl (ys_ldO ⟨isAgg3, sizeOf3⟩ (.t rfl) (fun _ => hcB 0 _ rfl)) rfl fun a w S => ?_
  refine hy 14 S rfl (ys_fieldN (FieldT.mk underlying26 rfl sizeOf24 rfl) (.t rfl) (i' := 2) rfl) rfl fun a w S => hy 15 S rfl (ys_ld ⟨isAgg24, sizeOf24⟩ (.t rfl) (k := 8) rfl rfl) rfl fun a w S => hy 16 S rfl (ys_move (.t rfl)) rfl fun a w S => hy 17 S rfl (ys_ixS underlying24 sizeOf27 (.t rfl) (.t rfl) (fun _ => by omega)) rfl fun a w S => hy 18 S rfl (ys_ldO ⟨isAgg27, sizeOf27⟩ (.t rfl) (fun _ => hcC 0 _ rfl)) rfl fun a w S => ?_
  refine hy 19 S rfl (ys_ldA ⟨isAgg40, sizeOf40⟩ (.t rfl) (k := 3) rfl rfl) rfl fun a w S => hy 20 S rfl (ys_bld (ps := [(0, _), (1, Go.Operand.tmp 102), (2, Go.Operand.tmp 103), (3, Go.Operand.tmp 108), (4, Go.Operand.tmp 113), (5, Go.Operand.tmp 114)]) (us := [_, _, _, _, _, _, _, _, _, _]) bld64 (.cons Ev.c (.cons (.t rfl) (.cons (.t rfl) (.cons (.t rfl) (.cons (.t rfl) (.cons (.t rfl) .nil)))))) rfl) rfl fun a w S => ?_
  (refine h_m (i := 21) rfl (by kernel_rfl) (op_alloc S zeroValue64 (cs := _) rfl rfl ?_); clear S a w; intro g4 a w S; refine h_n1 S ?_)
  (refine h_m0 (i := 22) rfl (by kernel_rfl) (op_stW S sizeOf64 (.t rfl) (.t rfl) (k := 0) rfl rfl rfl (by simp [Value.oneCell']) ?_); clear S a w; intro a w S; refine h_n1 S ?_)
  refine h_done (by kernel_rfl) (then_normal (hK3 _ _ (wp_seq_k fun _ hK3 => wp_seq_k fun _ hK5 => wp_region_lit ?_)))
  by_cases hq : qv ≤ 0
  · have rw_q : decide (qv ≤ 0) = true := decide_eq_true hq
    generalize hU : (⟨[107], ⟨(nodeP nv : Int), 1 + (nodeP nv : Int) % 2, x + 1⟩, item, 0, 0, pickK (playTo h i).st sw⟩ : Upd) = U
    have hst2 : stepU (playTo h i) item qv pv nv sw = U := by
      rw [← hU]
      unfold stepU
      rw [if_pos hq, if_pos hq, hCT, hX]
      congr 2
    refine run S (.fa underlying64 sizeOf3 5 rfl rfl rfl <| .ld gt3 0 rfl rfl rfl <| .yy (ys_T (by omega) (ys_leq (.t rfl) Ev.c)) rfl <| .z) fun a w S => st_nil (then_normal (hK5 _ _ (st_then S (.t rfl) (wp_region_lit (run S (.fa underlying64 sizeOf3 5 rfl rfl rfl <| .z) fun a w S => st_m (op_st S sizeOf3 (.t rfl) Ev.c (k := 0) rfl rfl (by simp) fun a w S => run S (.fa underlying64 sizeOf27 6 rfl rfl rfl <| .z) fun a w S => st_m (op_st S sizeOf27 (.t rfl) Ev.c (k := 0) rfl rfl (by simp) fun a w S => st_nil (then_normal (hK3 _ _ (wp_seq_k fun _ hK3 => wp_region_lit (run S (.la gt64 0 rfl rfl rfl <| .z) fun a w S => ?_)))))))))))
    simp only [List.set_cons_succ, List.set_cons_zero] at S
    have hse : pickK (playTo h i).st sw = U.seen := by rw [← hU]
    rw [hse] at S hpl
    have huu : #[Value.string ⟨#[107]⟩, .int .i64 (nodeP nv : Int), .int .i64 (1 + (nodeP nv : Int) % 2), .int .i64 (x + 1), .string (Fw.bs item), .int .i64 0, .int .u64 0, .slice A1 U.seen.ents.length r1, .slice A2 U.seen.ctx.marks.length r2, .slice A3 U.seen.ctx.cloud.length r3] = (Upd.enc U (.slice A1 U.seen.ents.length r1) (.slice A2 U.seen.ctx.marks.length r2) (.slice A3 U.seen.ctx.cloud.length r3)).toArray := by subst hU; rfl
    rw [huu] at S
    have hnx : playTo h (i + 1) = stepP (playTo h i) U nv := by
      rw [playTo, List.getD_eq_getElem?_getD, hitem, List.getD_eq_getElem?_getD, hqv, List.getD_eq_getElem?_getD, hpv, List.getD_eq_getElem?_getD, hnv, List.getD_eq_getElem?_getD, hsw]
      show stepP (playTo h i) (stepU (playTo h i) item qv pv nv sw) nv = _
      rw [hst2]
    by_cases ha : (applyU U).2 = 0
    · have rw_a := ha
      (refine st_m (op_calls S call25 (.cons (.t rfl) .nil) (c25 _ _ _ _ _ (by exact Sl.of_own S.wd (k := 1) rfl (fun _ => rfl)) (by exact ⟨(by exact Sl.of_own S.wd (k := 2) rfl (fun _ => rfl)), (by exact Sl.of_own S.wd (k := 3) rfl (fun _ => rfl))⟩)) rfl ?_); clear S a w; rintro _ _ ⟨A11, r11, A21, r21, A31, r31, rfl, rfl⟩ a w S)
      rw [rw_a] at S
      refine run S (.mv rfl <| .ex rfl rfl <| .ex rfl rfl <| .z) fun a w S => st_m (op_alloc S zeroValue40 (cs := _) rfl rfl fun g5 a w S => st_m (op_stW S sizeOf40 (.t rfl) (.t rfl) (k := 0) rfl rfl rfl (by simp [Value.oneCell']) fun a w S => run S (.as rfl <| .z) fun a w S => st_nil (then_normal (hK3 _ _ (wp_seq_k fun _ hK3 => wp_seq_k fun _ hK5 => wp_region_lit ?_)))))
      have rw_c : #[Value.slice A11 (applyU U).1.ents.length r11, .slice A21 (applyU U).1.ctx.marks.length r21, .slice A31 (applyU U).1.ctx.cloud.length r31] = (SCart.enc ((applyU U).1, ⟨A11, (applyU U).1.ents.length, r11, A21, (applyU U).1.ctx.marks.length, r21, A31, (applyU U).1.ctx.cloud.length, r31⟩)).toArray := rfl
      have rw_v : (Upd.enc U (.slice A1 U.seen.ents.length r1) (.slice A2 U.seen.ctx.marks.length r2) (.slice A3 U.seen.ctx.cloud.length r3)).toArray = (SUpd.enc (U, ⟨A1, U.seen.ents.length, r1, A2, U.seen.ctx.marks.length, r2, A3, U.seen.ctx.cloud.length, r3⟩)).toArray := rfl
      refine run S (.mv rfl <| .z) fun a w S => ?_
      rw [rw_c] at S
      rw [rw_v] at S
      refine run S (.yy (ys_F (by omega) (ys_neq (.t rfl) Ev.c)) rfl <| .z) fun a w S => ?_
      rw [rw_c] at S
      rw [rw_v] at S
      refine st_nil ?_
      rw [rw_c] at S
      rw [rw_v] at S
      refine then_normal (hK5 _ _ ?_)
      rw [rw_c] at S
      rw [rw_v] at S
      refine st_else S (.t rfl) ?_
      rw [rw_c] at S
      rw [rw_v] at S
      refine wp_skip ?_
      rw [rw_c] at S
      rw [rw_v] at S
      refine then_normal (hK3 _ _ ?_)
      rw [rw_c] at S
      rw [rw_v] at S
      refine wp_seq_k fun _ hK3 => ?_
      rw [rw_c] at S
      rw [rw_v] at S
      refine wp_region_lit ?_
      rw [rw_c] at S
      rw [rw_v] at S
      refine run S (.mv rfl <| .z) fun a w S => ?_
      rw [rw_c] at S
      rw [rw_v] at S
      refine run S (.la gt40 0 rfl rfl rfl <| .z) fun a w S => ?_
      rw [rw_c] at S
      rw [rw_v] at S
      refine st_m (op_bslice1 S underlying30 inf40 rfl rfl rfl (.t rfl) rfl rfl rfl fun g6 a w S => ?_)
      rw [rw_c] at S
      rw [rw_v] at S
      refine st_m (op_push S underlying30 inf40 rfl (k := 10) (j := 0) rfl (.t rfl) (.t rfl) rfl rfl rfl rfl (by first | omega | (simp only [List.length_append, List.length_cons, List.length_nil]; omega)) rfl rfl rfl fun A4 cap1 a w S => ?_)
      rw [rw_c] at S
      rw [rw_v] at S
      refine run S (.as rfl <| .z) fun a w S => ?_
      rw [rw_c] at S
      rw [rw_v] at S
      refine st_nil ?_
      rw [rw_c] at S
      rw [rw_v] at S
      refine then_normal (hK3 _ _ ?_)
      rw [rw_c] at S
      rw [rw_v] at S
      refine wp_region_lit ?_
      rw [rw_c] at S
      rw [rw_v] at S
      refine run S (.mv rfl <| .z) fun a w S => ?_
      rw [rw_c] at S
      rw [rw_v] at S
      refine run S (.la gt64 5 rfl rfl rfl <| .z) fun a w S => ?_
      rw [rw_c] at S
      rw [rw_v] at S
      refine st_m (op_bslice1 S underlying31 inf64 rfl rfl rfl (.t rfl) rfl rfl rfl fun g7 a w S => ?_)
      rw [rw_c] at S
      rw [rw_v] at S
      refine st_m (op_push S underlying31 inf64 rfl (k := 12) (j := 0) rfl (.t rfl) (.t rfl) rfl rfl rfl rfl (by first | omega | (simp only [List.length_append, List.length_cons, List.length_nil]; omega)) rfl rfl rfl fun A5 cap2 a w S => ?_)
      rw [rw_c] at S
      rw [rw_v] at S
      refine run S (.as rfl <| .z) fun a w S => ?_
      rw [rw_c] at S
      rw [rw_v] at S
      refine st_nil ?_
      rw [rw_c] at S
      rw [rw_v] at S
      refine in_normal (then_normal (hK2 _ _ ?_))
      rw [rw_c] at S
      rw [rw_v] at S
      refine wp_region_lit ?_
      rw [rw_c] at S
      rw [rw_v] at S
      refine run S (.ad (by unfold I64; omega) rfl <| .z) fun a w S => ?_
      rw [rw_c] at S
      rw [rw_v] at S
      refine run S (.mv rfl <| .z) fun a w S => ?_
      rw [rw_c] at S
      rw [rw_v] at S
      refine st_nil ?_
      rw [rw_c] at S
      rw [rw_v] at S
      refine then_normal ?_
      rw [rw_c] at S
      rw [rw_v] at S
      have hok := applyU_ok ha
      have hns : (playTo h (i + 1)).st = (playTo h i).st ++ [(applyU U).1] ∧ (playTo h (i + 1)).up = (playTo h i).up ++ [U] ∧ (playTo h (i + 1)).ct = ct.set (nodeP nv) (x + 1) := by
        rw [hnx]; unfold stepP; rw [if_pos ha]
        refine ⟨rfl, rfl, ?_⟩
        show (playTo h i).ct.set (nodeP nv) ((playTo h i).ct.getD (nodeP nv) 0 + 1) = _
        rw [hCT, hX]
      generalize hs1 : (⟨A11, (applyU U).1.ents.length, r11, A21, (applyU U).1.ctx.marks.length, r21, A31, (applyU U).1.ctx.cloud.length, r31⟩ : Sls3) = s1 at S
      generalize hs2 : (⟨A1, U.seen.ents.length, r1, A2, U.seen.ctx.marks.length, r2, A3, U.seen.ctx.cloud.length, r3⟩ : Sls3) = s2 at S
      have W0 := S.wd.picks (L' := [rowOf 74 6 Ent.enc A11 r11 (applyU U).1.ents, rowOf 110 3 Dot.enc A21 r21 (applyU U).1.ctx.marks, rowOf 62 3 Dot.enc A31 r31 (applyU U).1.ctx.cloud, rowOf 74 6 Ent.enc A1 r1 U.seen.ents, rowOf 110 3 Dot.enc A2 r2 U.seen.ctx.marks, rowOf 62 3 Dot.enc A3 r3 U.seen.ctx.cloud, .ice w1 bs,
        rowOf 40 3 SCart.enc A4 cap1 (st ++ [((applyU U).1, s1)]), rowOf 64 10 SUpd.enc A5 cap2 (up ++ [(U, s2)]), .blk g2 (.cells (ctL (ct.set (nodeP nv) (x + 1))).toArray 69), .blk g1 (.cells #[.slice (some ⟨gA, oA, none⟩) h.items.length cap, .slice (some ⟨gB, oB, none⟩) h.qtys.length capB, .slice (some ⟨gC, oC, none⟩) h.prices.length capC, .slice (some ⟨gD, oD, none⟩) h.nodes.length capD, .slice (some ⟨gE, oE, none⟩) h.saws.length capE] 26)]) (by repeat (first | exact Picks.nil | (refine Picks.rest ?_; (repeat (first | exact List.Sublist.refl _ | refine List.Sublist.cons_cons _ ?_ | refine List.Sublist.cons _ ?_)); done) | refine Picks.take 0 rfl ?_ | refine Picks.take 1 rfl ?_ | refine Picks.take 2 rfl ?_ | refine Picks.take 3 rfl ?_ | refine Picks.take 4 rfl ?_ | refine Picks.take 5 rfl ?_ | refine Picks.take 6 rfl ?_ | refine Picks.take 7 rfl ?_ | refine Picks.take 8 rfl ?_ | refine Picks.take 9 rfl ?_ | refine Picks.take 10 rfl ?_ | refine Picks.take 11 rfl ?_))
      have W1 := Wd.freeze (cs := [rowOf 74 6 Ent.enc A11 r11 (applyU U).1.ents, rowOf 110 3 Dot.enc A21 r21 (applyU U).1.ctx.marks, rowOf 62 3 Dot.enc A31 r31 (applyU U).1.ctx.cloud, rowOf 74 6 Ent.enc A1 r1 U.seen.ents, rowOf 110 3 Dot.enc A2 r2 U.seen.ctx.marks, rowOf 62 3 Dot.enc A3 r3 U.seen.ctx.cloud, .ice w1 bs]) W0
      generalize hcs0 : [rowOf 74 6 Ent.enc A11 r11 (applyU U).1.ents, rowOf 110 3 Dot.enc A21 r21 (applyU U).1.ctx.marks, rowOf 62 3 Dot.enc A31 r31 (applyU U).1.ctx.cloud, rowOf 74 6 Ent.enc A1 r1 U.seen.ents, rowOf 110 3 Dot.enc A2 r2 U.seen.ctx.marks, rowOf 62 3 Dot.enc A3 r3 U.seen.ctx.cloud, .ice w1 bs] = cs0 at W1
      have hblk : ∀ (k : Nat) (c : Chunk), cs0[k]? = some c → ∀ b ∈ c.blocks, b ∈ cs0.flatMap Chunk.blocks := fun k c hk b hb => List.mem_flatMap.2 ⟨c, List.mem_of_getElem? hk, hb⟩
      have n1 : CartIn w (cs0.flatMap Chunk.blocks) (applyU U).1 s1 := by
        rw [← hs1]
        exact ⟨SlIn.row W0 (k := 0) rfl (fun _ => rfl) (hblk 0 _ (by rw [← hcs0]; rfl)), SlIn.row W0 (k := 1) rfl (fun _ => rfl) (hblk 1 _ (by rw [← hcs0]; rfl)), SlIn.row W0 (k := 2) rfl (fun _ => rfl) (hblk 2 _ (by rw [← hcs0]; rfl))⟩
      have n2 : CartIn w (cs0.flatMap Chunk.blocks) U.seen s2 := by
        rw [← hs2]
        exact ⟨SlIn.row W0 (k := 3) rfl (fun _ => rfl) (hblk 3 _ (by rw [← hcs0]; rfl)), SlIn.row W0 (k := 4) rfl (fun _ => rfl) (hblk 4 _ (by rw [← hcs0]; rfl)), SlIn.row W0 (k := 5) rfl (fun _ => rfl) (hblk 5 _ (by rw [← hcs0]; rfl))⟩
      have hold := hblk 6 (.ice w1 bs) (by rw [← hcs0]; rfl)
      replace S := St.mk S.kn W1
      refine ⟨(i + 1, A4, cap1, st ++ [((applyU U).1, s1)], A5, cap2, up ++ [(U, s2)], w, cs0.flatMap Chunk.blocks), ⟨by dsimp only; omega, by dsimp only; rw [hns.1, List.map_append, hst]; rfl, by dsimp only; rw [hns.2.1, List.map_append, hup]; rfl, fun p hp => ?_, fun p hp => ?_⟩, by dsimp only; omega, by dsimp only; rw [hns.2.2]; exact S.pk⟩
      · rcases List.mem_append.1 hp with hp | hp
        · exact (hcs p hp).anew W0 (k := 6) rfl hold
        · rw [List.mem_singleton.1 hp]; exact n1
      · rcases List.mem_append.1 hp with hp | hp
        · exact (hcu p hp).anew W0 (k := 6) rfl hold
        · rw [List.mem_singleton.1 hp]; exact n2
    · have rw_a : decide ((applyU U).2 ≠ 0) = true := decide_eq_true ha
      have rw_s2 := ctL_set (ct.set (nodeP nv) (x + 1)) (nodeP nv) (x + 1 - 1)
      have hnz : playTo h (i + 1) = playTo h i := by rw [hnx]; unfold stepP; rw [if_neg ha]
      have ect : (ct.set (nodeP nv) (x + 1)).set (nodeP nv) (x + 1 - 1) = ct := by
        rw [List.set_set, show x + 1 - 1 = x by omega, ← hX, List.getD_eq_getElem?_getD, List.getElem?_eq_getElem (by omega)]
        exact List.set_getElem_self (by omega)
      (refine st_m (op_calls S call25 (.cons (.t rfl) .nil) (c25 _ _ _ _ _ (by exact Sl.of_own S.wd (k := 1) rfl (fun _ => rfl)) (by exact ⟨(by exact Sl.of_own S.wd (k := 2) rfl (fun _ => rfl)), (by exact Sl.of_own S.wd (k := 3) rfl (fun _ => rfl))⟩)) rfl ?_); clear S a w; rintro _ _ ⟨A11, r11, A21, r21, A31, r31, rfl, rfl⟩ a w S)
      refine run S (.mv rfl <| .ex rfl rfl <| .ex rfl rfl <| .z) fun a w S => st_m (op_alloc S zeroValue40 (cs := _) rfl rfl fun g5 a w S => st_m (op_stW S sizeOf40 (.t rfl) (.t rfl) (k := 0) rfl rfl rfl (by simp [Value.oneCell']) fun a w S => run S (.as rfl <| .z) fun a w S => st_nil (then_normal (hK3 _ _ (wp_seq_k fun _ hK3 => sg S (.mv rfl <| .yy (ys_T (by omega) (ys_neq (.t rfl) Ev.c)) rfl <| .z) fun a w S => st_then S (.t rfl) (wp_seq_k fun _ hK5 => wp_region_lit (run S (.mv rfl <| .yy (ys_ixA underlying69 sizeOf3 (.t rfl) (.t rfl) (fun _ => by omega)) rfl <| .yy (ys_ldN ⟨isAgg3, sizeOf3⟩ (.t rfl) (k := 12) rfl (fun _ => by assumption)) rfl <| .yy (ys_subI (.t rfl) Ev.c (fun _ => by unfold I64; omega)) rfl <| .yy (ys_ixA underlying69 sizeOf3 (.t rfl) (.t rfl) (fun _ => by omega)) rfl <| .z) fun a w S => st_m (op_st S sizeOf3 (.t rfl) (.t rfl) (k := 12) rfl rfl (by rw [Go.Fw.ctL_len]; omega) fun a w S => ?_))))))))
      rw [rw_s2] at S
      refine st_nil (then_normal (hK5 _ _ (wp_exit (then_exit (in_here (then_normal (hK2 _ _ (wp_region_lit (run S (.ad (by unfold I64; omega) rfl <| .mv rfl <| .z) fun a w S => st_nil (then_normal ?_))))))))))
      rw [ect] at S
      exact ⟨(i + 1, F, cF, st, G, cG, up, w1, bs), ⟨by dsimp only; omega, by dsimp only; rw [hnz]; exact hst, by dsimp only; rw [hnz]; exact hup, hcs, hcu⟩, by dsimp only; omega, by dsimp only; rw [hnz, hCT]; exact S.pk⟩
  · have rw_q : decide (qv ≤ 0) = false := decide_eq_false hq
    generalize hU : (⟨[107], ⟨(nodeP nv : Int), 1 + (nodeP nv : Int) % 2, x + 1⟩, item, qv, pv, pickK (playTo h i).st sw⟩ : Upd) = U
    have hst2 : stepU (playTo h i) item qv pv nv sw = U := by
      rw [← hU]
      unfold stepU
      rw [if_neg hq, if_neg hq, hCT, hX]
      congr 2
    refine run S (.fa underlying64 sizeOf3 5 rfl rfl rfl <| .ld gt3 0 rfl rfl rfl <| .yy (ys_F (by omega) (ys_leq (.t rfl) Ev.c)) rfl <| .z) fun a w S => st_nil (then_normal (hK5 _ _ (st_else S (.t rfl) (wp_skip (then_normal (hK3 _ _ (wp_seq_k fun _ hK3 => ?_)))))))
    have hse : pickK (playTo h i).st sw = U.seen := by rw [← hU]
    rw [hse] at S hpl
    have huu : #[Value.string ⟨#[107]⟩, .int .i64 (nodeP nv : Int), .int .i64 (1 + (nodeP nv : Int) % 2), .int .i64 (x + 1), .string (Fw.bs item), .int .i64 qv, .int .u64 (pv.toNat : Int), .slice A1 U.seen.ents.length r1, .slice A2 U.seen.ctx.marks.length r2, .slice A3 U.seen.ctx.cloud.length r3] = (Upd.enc U (.slice A1 U.seen.ents.length r1) (.slice A2 U.seen.ctx.marks.length r2) (.slice A3 U.seen.ctx.cloud.length r3)).toArray := by subst hU; rfl
    rw [huu] at S
    have hnx : playTo h (i + 1) = stepP (playTo h i) U nv := by
      rw [playTo, List.getD_eq_getElem?_getD, hitem, List.getD_eq_getElem?_getD, hqv, List.getD_eq_getElem?_getD, hpv, List.getD_eq_getElem?_getD, hnv, List.getD_eq_getElem?_getD, hsw]
      show stepP (playTo h i) (stepU (playTo h i) item qv pv nv sw) nv = _
      rw [hst2]
    by_cases ha : (applyU U).2 = 0
    · have rw_a := ha
      refine wp_region_lit (run S (.la gt64 0 rfl rfl rfl <| .z) fun a w S => ?_)
      (refine st_m (op_calls S call25 (.cons (.t rfl) .nil) (c25 _ _ _ _ _ (by exact Sl.of_own S.wd (k := 1) rfl (fun _ => rfl)) (by exact ⟨(by exact Sl.of_own S.wd (k := 2) rfl (fun _ => rfl)), (by exact Sl.of_own S.wd (k := 3) rfl (fun _ => rfl))⟩)) rfl ?_); clear S a w; rintro _ _ ⟨A11, r11, A21, r21, A31, r31, rfl, rfl⟩ a w S)
      rw [rw_a] at S
      refine run S (.mv rfl <| .ex rfl rfl <| .ex rfl rfl <| .z) fun a w S => st_m (op_alloc S zeroValue40 (cs := _) rfl rfl fun g5 a w S => st_m (op_stW S sizeOf40 (.t rfl) (.t rfl) (k := 0) rfl rfl rfl (by simp [Value.oneCell']) fun a w S => run S (.as rfl <| .z) fun a w S => st_nil (then_normal (hK3 _ _ (wp_seq_k fun _ hK3 => ?_)))))
      have rw_c : #[Value.slice A11 (applyU U).1.ents.length r11, .slice A21 (applyU U).1.ctx.marks.length r21, .slice A31 (applyU U).1.ctx.cloud.length r31] = (SCart.enc ((applyU U).1, ⟨A11, (applyU U).1.ents.length, r11, A21, (applyU U).1.ctx.marks.length, r21, A31, (applyU U).1.ctx.cloud.length, r31⟩)).toArray := rfl
      have rw_v : (Upd.enc U (.slice A1 U.seen.ents.length r1) (.slice A2 U.seen.ctx.marks.length r2) (.slice A3 U.seen.ctx.cloud.length r3)).toArray = (SUpd.enc (U, ⟨A1, U.seen.ents.length, r1, A2, U.seen.ctx.marks.length, r2, A3, U.seen.ctx.cloud.length, r3⟩)).toArray := rfl
      refine wp_seq_k fun _ hK5 => ?_
      rw [rw_c] at S
      rw [rw_v] at S
      refine wp_region_lit ?_
      rw [rw_c] at S
      rw [rw_v] at S
      refine run S (.mv rfl <| .z) fun a w S => ?_
      rw [rw_c] at S
      rw [rw_v] at S
      refine run S (.yy (ys_F (by omega) (ys_neq (.t rfl) Ev.c)) rfl <| .z) fun a w S => ?_
      rw [rw_c] at S
      rw [rw_v] at S
      refine st_nil ?_
      rw [rw_c] at S
      rw [rw_v] at S
      refine then_normal (hK5 _ _ ?_)
      rw [rw_c] at S
      rw [rw_v] at S
      refine st_else S (.t rfl) ?_
      rw [rw_c] at S
      rw [rw_v] at S
      refine wp_skip ?_
      rw [rw_c] at S
      rw [rw_v] at S
      refine then_normal (hK3 _ _ ?_)
      rw [rw_c] at S
      rw [rw_v] at S
      refine wp_seq_k fun _ hK3 => ?_
      rw [rw_c] at S
      rw [rw_v] at S
      refine wp_region_lit ?_
      rw [rw_c] at S
      rw [rw_v] at S
      refine run S (.mv rfl <| .z) fun a w S => ?_
      rw [rw_c] at S
      rw [rw_v] at S
      refine run S (.la gt40 0 rfl rfl rfl <| .z) fun a w S => ?_
      rw [rw_c] at S
      rw [rw_v] at S
      refine st_m (op_bslice1 S underlying30 inf40 rfl rfl rfl (.t rfl) rfl rfl rfl fun g6 a w S => ?_)
      rw [rw_c] at S
      rw [rw_v] at S
      refine st_m (op_push S underlying30 inf40 rfl (k := 10) (j := 0) rfl (.t rfl) (.t rfl) rfl rfl rfl rfl (by first | omega | (simp only [List.length_append, List.length_cons, List.length_nil]; omega)) rfl rfl rfl fun A4 cap1 a w S => ?_)
      rw [rw_c] at S
      rw [rw_v] at S
      refine run S (.as rfl <| .z) fun a w S => ?_
      rw [rw_c] at S
      rw [rw_v] at S
      refine st_nil ?_
      rw [rw_c] at S
      rw [rw_v] at S
      refine then_normal (hK3 _ _ ?_)
      rw [rw_c] at S
      rw [rw_v] at S
      refine wp_region_lit ?_
      rw [rw_c] at S
      rw [rw_v] at S
      refine run S (.mv rfl <| .z) fun a w S => ?_
      rw [rw_c] at S
      rw [rw_v] at S
      refine run S (.la gt64 5 rfl rfl rfl <| .z) fun a w S => ?_
      rw [rw_c] at S
      rw [rw_v] at S
      refine st_m (op_bslice1 S underlying31 inf64 rfl rfl rfl (.t rfl) rfl rfl rfl fun g7 a w S => ?_)
      rw [rw_c] at S
      rw [rw_v] at S
      refine st_m (op_push S underlying31 inf64 rfl (k := 12) (j := 0) rfl (.t rfl) (.t rfl) rfl rfl rfl rfl (by first | omega | (simp only [List.length_append, List.length_cons, List.length_nil]; omega)) rfl rfl rfl fun A5 cap2 a w S => ?_)
      rw [rw_c] at S
      rw [rw_v] at S
      refine run S (.as rfl <| .z) fun a w S => ?_
      rw [rw_c] at S
      rw [rw_v] at S
      refine st_nil ?_
      rw [rw_c] at S
      rw [rw_v] at S
      refine in_normal (then_normal (hK2 _ _ ?_))
      rw [rw_c] at S
      rw [rw_v] at S
      refine wp_region_lit ?_
      rw [rw_c] at S
      rw [rw_v] at S
      refine run S (.ad (by unfold I64; omega) rfl <| .z) fun a w S => ?_
      rw [rw_c] at S
      rw [rw_v] at S
      refine run S (.mv rfl <| .z) fun a w S => ?_
      rw [rw_c] at S
      rw [rw_v] at S
      refine st_nil ?_
      rw [rw_c] at S
      rw [rw_v] at S
      refine then_normal ?_
      rw [rw_c] at S
      rw [rw_v] at S
      have hok := applyU_ok ha
      have hns : (playTo h (i + 1)).st = (playTo h i).st ++ [(applyU U).1] ∧ (playTo h (i + 1)).up = (playTo h i).up ++ [U] ∧ (playTo h (i + 1)).ct = ct.set (nodeP nv) (x + 1) := by
        rw [hnx]; unfold stepP; rw [if_pos ha]
        refine ⟨rfl, rfl, ?_⟩
        show (playTo h i).ct.set (nodeP nv) ((playTo h i).ct.getD (nodeP nv) 0 + 1) = _
        rw [hCT, hX]
      generalize hs1 : (⟨A11, (applyU U).1.ents.length, r11, A21, (applyU U).1.ctx.marks.length, r21, A31, (applyU U).1.ctx.cloud.length, r31⟩ : Sls3) = s1 at S
      generalize hs2 : (⟨A1, U.seen.ents.length, r1, A2, U.seen.ctx.marks.length, r2, A3, U.seen.ctx.cloud.length, r3⟩ : Sls3) = s2 at S
      have W0 := S.wd.picks (L' := [rowOf 74 6 Ent.enc A11 r11 (applyU U).1.ents, rowOf 110 3 Dot.enc A21 r21 (applyU U).1.ctx.marks, rowOf 62 3 Dot.enc A31 r31 (applyU U).1.ctx.cloud, rowOf 74 6 Ent.enc A1 r1 U.seen.ents, rowOf 110 3 Dot.enc A2 r2 U.seen.ctx.marks, rowOf 62 3 Dot.enc A3 r3 U.seen.ctx.cloud, .ice w1 bs,
        rowOf 40 3 SCart.enc A4 cap1 (st ++ [((applyU U).1, s1)]), rowOf 64 10 SUpd.enc A5 cap2 (up ++ [(U, s2)]), .blk g2 (.cells (ctL (ct.set (nodeP nv) (x + 1))).toArray 69), .blk g1 (.cells #[.slice (some ⟨gA, oA, none⟩) h.items.length cap, .slice (some ⟨gB, oB, none⟩) h.qtys.length capB, .slice (some ⟨gC, oC, none⟩) h.prices.length capC, .slice (some ⟨gD, oD, none⟩) h.nodes.length capD, .slice (some ⟨gE, oE, none⟩) h.saws.length capE] 26)]) (by repeat (first | exact Picks.nil | (refine Picks.rest ?_; (repeat (first | exact List.Sublist.refl _ | refine List.Sublist.cons_cons _ ?_ | refine List.Sublist.cons _ ?_)); done) | refine Picks.take 0 rfl ?_ | refine Picks.take 1 rfl ?_ | refine Picks.take 2 rfl ?_ | refine Picks.take 3 rfl ?_ | refine Picks.take 4 rfl ?_ | refine Picks.take 5 rfl ?_ | refine Picks.take 6 rfl ?_ | refine Picks.take 7 rfl ?_ | refine Picks.take 8 rfl ?_ | refine Picks.take 9 rfl ?_ | refine Picks.take 10 rfl ?_ | refine Picks.take 11 rfl ?_))
      have W1 := Wd.freeze (cs := [rowOf 74 6 Ent.enc A11 r11 (applyU U).1.ents, rowOf 110 3 Dot.enc A21 r21 (applyU U).1.ctx.marks, rowOf 62 3 Dot.enc A31 r31 (applyU U).1.ctx.cloud, rowOf 74 6 Ent.enc A1 r1 U.seen.ents, rowOf 110 3 Dot.enc A2 r2 U.seen.ctx.marks, rowOf 62 3 Dot.enc A3 r3 U.seen.ctx.cloud, .ice w1 bs]) W0
      generalize hcs0 : [rowOf 74 6 Ent.enc A11 r11 (applyU U).1.ents, rowOf 110 3 Dot.enc A21 r21 (applyU U).1.ctx.marks, rowOf 62 3 Dot.enc A31 r31 (applyU U).1.ctx.cloud, rowOf 74 6 Ent.enc A1 r1 U.seen.ents, rowOf 110 3 Dot.enc A2 r2 U.seen.ctx.marks, rowOf 62 3 Dot.enc A3 r3 U.seen.ctx.cloud, .ice w1 bs] = cs0 at W1
      have hblk : ∀ (k : Nat) (c : Chunk), cs0[k]? = some c → ∀ b ∈ c.blocks, b ∈ cs0.flatMap Chunk.blocks := fun k c hk b hb => List.mem_flatMap.2 ⟨c, List.mem_of_getElem? hk, hb⟩
      have n1 : CartIn w (cs0.flatMap Chunk.blocks) (applyU U).1 s1 := by
        rw [← hs1]
        exact ⟨SlIn.row W0 (k := 0) rfl (fun _ => rfl) (hblk 0 _ (by rw [← hcs0]; rfl)), SlIn.row W0 (k := 1) rfl (fun _ => rfl) (hblk 1 _ (by rw [← hcs0]; rfl)), SlIn.row W0 (k := 2) rfl (fun _ => rfl) (hblk 2 _ (by rw [← hcs0]; rfl))⟩
      have n2 : CartIn w (cs0.flatMap Chunk.blocks) U.seen s2 := by
        rw [← hs2]
        exact ⟨SlIn.row W0 (k := 3) rfl (fun _ => rfl) (hblk 3 _ (by rw [← hcs0]; rfl)), SlIn.row W0 (k := 4) rfl (fun _ => rfl) (hblk 4 _ (by rw [← hcs0]; rfl)), SlIn.row W0 (k := 5) rfl (fun _ => rfl) (hblk 5 _ (by rw [← hcs0]; rfl))⟩
      have hold := hblk 6 (.ice w1 bs) (by rw [← hcs0]; rfl)
      replace S := St.mk S.kn W1
      refine ⟨(i + 1, A4, cap1, st ++ [((applyU U).1, s1)], A5, cap2, up ++ [(U, s2)], w, cs0.flatMap Chunk.blocks), ⟨by dsimp only; omega, by dsimp only; rw [hns.1, List.map_append, hst]; rfl, by dsimp only; rw [hns.2.1, List.map_append, hup]; rfl, fun p hp => ?_, fun p hp => ?_⟩, by dsimp only; omega, by dsimp only; rw [hns.2.2]; exact S.pk⟩
      · rcases List.mem_append.1 hp with hp | hp
        · exact (hcs p hp).anew W0 (k := 6) rfl hold
        · rw [List.mem_singleton.1 hp]; exact n1
      · rcases List.mem_append.1 hp with hp | hp
        · exact (hcu p hp).anew W0 (k := 6) rfl hold
        · rw [List.mem_singleton.1 hp]; exact n2
    · have rw_a : decide ((applyU U).2 ≠ 0) = true := decide_eq_true ha
      have rw_s2 := ctL_set (ct.set (nodeP nv) (x + 1)) (nodeP nv) (x + 1 - 1)
      have hnz : playTo h (i + 1) = playTo h i := by rw [hnx]; unfold stepP; rw [if_neg ha]
      have ect : (ct.set (nodeP nv) (x + 1)).set (nodeP nv) (x + 1 - 1) = ct := by
        rw [List.set_set, show x + 1 - 1 = x by omega, ← hX, List.getD_eq_getElem?_getD, List.getElem?_eq_getElem (by omega)]
        exact List.set_getElem_self (by omega)
      refine wp_region_lit (run S (.la gt64 0 rfl rfl rfl <| .z) fun a w S => ?_)
      (refine st_m (op_calls S call25 (.cons (.t rfl) .nil) (c25 _ _ _ _ _ (by exact Sl.of_own S.wd (k := 1) rfl (fun _ => rfl)) (by exact ⟨(by exact Sl.of_own S.wd (k := 2) rfl (fun _ => rfl)), (by exact Sl.of_own S.wd (k := 3) rfl (fun _ => rfl))⟩)) rfl ?_); clear S a w; rintro _ _ ⟨A11, r11, A21, r21, A31, r31, rfl, rfl⟩ a w S)
      refine run S (.mv rfl <| .ex rfl rfl <| .ex rfl rfl <| .z) fun a w S => st_m (op_alloc S zeroValue40 (cs := _) rfl rfl fun g5 a w S => st_m (op_stW S sizeOf40 (.t rfl) (.t rfl) (k := 0) rfl rfl rfl (by simp [Value.oneCell']) fun a w S => run S (.as rfl <| .z) fun a w S => st_nil (then_normal (hK3 _ _ (wp_seq_k fun _ hK3 => sg S (.mv rfl <| .yy (ys_T (by omega) (ys_neq (.t rfl) Ev.c)) rfl <| .z) fun a w S => st_then S (.t rfl) (wp_seq_k fun _ hK5 => wp_region_lit (run S (.mv rfl <| .yy (ys_ixA underlying69 sizeOf3 (.t rfl) (.t rfl) (fun _ => by omega)) rfl <| .yy (ys_ldN ⟨isAgg3, sizeOf3⟩ (.t rfl) (k := 12) rfl (fun _ => by assumption)) rfl <| .yy (ys_subI (.t rfl) Ev.c (fun _ => by unfold I64; omega)) rfl <| .yy (ys_ixA underlying69 sizeOf3 (.t rfl) (.t rfl) (fun _ => by omega)) rfl <| .z) fun a w S => st_m (op_st S sizeOf3 (.t rfl) (.t rfl) (k := 12) rfl rfl (by rw [Go.Fw.ctL_len]; omega) fun a w S => ?_))))))))
      rw [rw_s2] at S
      refine st_nil (then_normal (hK5 _ _ (wp_exit (then_exit (in_here (then_normal (hK2 _ _ (wp_region_lit (run S (.ad (by unfold I64; omega) rfl <| .mv rfl <| .z) fun a w S => st_nil (then_normal ?_))))))))))
      rw [ect] at S
      exact ⟨(i + 1, F, cF, st, G, cG, up, w1, bs), ⟨by dsimp only; omega, by dsimp only; rw [hnz]; exact hst, by dsimp only; rw [hnz]; exact hup, hcs, hcu⟩, by dsimp only; omega, by dsimp only; rw [hnz, hCT]; exact S.pk⟩
end Go.Proofs.Ytfblmkocmnbdcaa
set_option linter.unusedVariables false
set_option linter.unusedSimpArgs false
set_option maxRecDepth 100000
namespace Go.Proofs.Ytfblmkocmnbdcaa
open Go.Fw Go.Proofs Go.RowKit Go.ChangeShapes Go.WideShapes Go.ChangeAt Go.Deep Go.Joins Go.Proofs.Try
section
variable {H : Type} {enc : TypeId × Value → H} {w : World}
theorem rdI : Rdr enc Try.prog w 3 fun cs _ => ∃ x : Int, cs = encI x ∧ True := (Rdr.int underlying3).mono fun cs b ⟨n, e, _⟩ => ⟨n, e, trivial⟩
theorem rdU : Rdr enc Try.prog w 27 fun cs _ => ∃ x : UInt64, cs = encU x ∧ True := (Rdr.int underlying27).mono fun cs b ⟨n, e, h⟩ => by
  obtain ⟨p, rfl⟩ := u64_wf h
  exact ⟨p, e, trivial⟩
theorem rdS : Rdr enc Try.prog w 9 fun cs b => ∃ s : List UInt8, cs = encS s ∧ s.length ≤ b := (Rdr.str underlying9).mono fun cs b ⟨s, e, h⟩ => ⟨s, e, by omega⟩
structure HistRd (w : World) (v1 v2 v3 v4 v5 : Value) (h : Hist) (b : Nat) : Prop where
  items : Sl encS 1 w w.heap.size v1 h.items
  qtys : Sl encI 1 w w.heap.size v2 h.qtys
  prices : Sl encU 1 w w.heap.size v3 h.prices
  nodes : Sl encI 1 w w.heap.size v4 h.nodes
  saws : Sl encU 1 w w.heap.size v5 h.saws
theorem rdHist : Rdr enc Try.prog w 26 fun cs b => ∃ v1 v2 v3 v4 v5 h, cs = [v1, v2, v3, v4, v5] ∧ HistRd w v1 v2 v3 v4 v5 h b := by
  refine (Rdr.struct underlying26 (by kernel_rfl) (.cons (Rdr.slice (k := 1) underlying22 (by kernel_rfl) rfl (fun _ => rfl) rdS) (.cons (Rdr.slice (k := 1) underlying23 (by kernel_rfl) rfl (fun _ => rfl) rdI) (.cons (Rdr.slice (k := 1) underlying24 (by kernel_rfl) rfl (fun _ => rfl) rdU) (.cons (Rdr.slice (k := 1) underlying23 (by kernel_rfl) rfl (fun _ => rfl) rdI) (.cons (Rdr.slice (k := 1) underlying24 (by kernel_rfl) rfl (fun _ => rfl) rdU) .nil)))))).mono ?_
  rintro cs b ⟨_, _, rfl, ⟨_, _, v1, l1, rfl, h1, _⟩, _, _, rfl, ⟨_, _, v2, l2, rfl, h2, _⟩, _, _, rfl, ⟨_, _, v3, l3, rfl, h3, _⟩, _, _, rfl, ⟨_, _, v4, l4, rfl, h4, _⟩, _, _, rfl, ⟨_, _, v5, l5, rfl, h5, _⟩, rfl⟩
  exact ⟨v1, v2, v3, v4, v5, ⟨l1, l2, l3, l4, l5⟩, rfl, h1, h2, h3, h4, h5⟩
theorem read_hist {t : TypeId} (e : t = 26) {r : Reach} {b0 : Nat} {v : Value} {d : DataW H} {p : List MemPlace} (hv : Value.okWide Try.prog w r b0 t v) (h : DataW.Trod enc Try.prog w 0 (fun _ => true) true t v d p) :
    ∃ v1 v2 v3 v4 v5 x, v = .agg #[v1, v2, v3, v4, v5] ∧ HistRd w v1 v2 v3 v4 v5 x (Rows.uptoBulk d) := by
  subst e
  obtain ⟨v1, v2, v3, v4, v5, x, hc, hX⟩ := Rdr.top rdHist h
  exact ⟨v1, v2, v3, v4, v5, x, top_agg underlying26 hv hc, hX⟩
end
end Go.Proofs.Ytfblmkocmnbdcaa
