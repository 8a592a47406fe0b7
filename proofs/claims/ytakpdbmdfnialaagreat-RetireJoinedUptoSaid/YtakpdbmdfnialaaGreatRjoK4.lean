/- Contracts and laws that the statement Rjo leans on, part 4. -/
import Derived.Test.YtakpdbmdfnialaaGreatRjoK3
set_option linter.unusedVariables false
set_option linter.unusedSimpArgs false
set_option maxRecDepth 100000
set_option maxHeartbeats 4000000
namespace Go.Fw
theorem insE_none {e : Ent} : ∀ {l : List Ent}, (∀ y ∈ l, ¬ ltE e y) → insE e l = l ++ [e]
  | [], _ => rfl
  | x :: r, h => by
    rw [insE, if_neg (h x (by simp)), insE_none fun y hy => h y (by simp [hy])]
    rfl
theorem insE_put {e x : Ent} : ∀ {l : List Ent}, (∃ y ∈ l, ltE e y) → insE e (l ++ [x]) = insE e l ++ [x]
  | [], h => by obtain ⟨y, hy, _⟩ := h; simp at hy
  | z :: r, h => by
    rw [List.cons_append, insE, insE]
    by_cases hz : ltE e z
    · rw [if_pos hz, if_pos hz]; rfl
    · rw [if_neg hz, if_neg hz, insE_put (l := r)]
      · rfl
      · obtain ⟨y, hy, hy2⟩ := h
        rcases List.mem_cons.1 hy with rfl | hy
        · exact absurd hy2 hz
        · exact ⟨y, hy, hy2⟩
theorem insE_new {e x : Ent} : ∀ {l : List Ent}, (∀ y ∈ l, ¬ ltE e y) → ltE e x → insE e (l ++ [x]) = l ++ [e, x]
  | [], _, h => by simp [insE, h]
  | z :: r, h, hx => by
    rw [List.cons_append, insE, if_neg (h z (by simp)), insE_new (fun y hy => h y (by simp [hy])) hx]
    rfl
end Go.Fw
namespace Go.Proofs.YtakpdbmdfnialaaGreat
open Go.Fw Go.Proofs Go.RowKit Go.Sort Go.Proofs.Tryz
theorem c79 (w0 : World) (v1 : Value) (A2 A3 : Option Addr) (n2 c2 n3 c3 : Nat) (l : List Ent) (h : Sl Ent.enc 6 w0 w0.heap.size v1 l) (hn : l.length ≤ 4194304) :
    Calls Tryz.prog 79 #[.agg #[v1, .slice A2 n2 c2, .slice A3 n3 c3]] w0 fun e w' => e = .returned (if 64 < l.length ∨ 32 < itemsN l then .tuple #[.agg #[.slice none 0 0, .slice none 0 0, .slice none 0 0], .int .i64 51] else .tuple #[.agg #[v1, .slice A2 n2 c2, .slice A3 n3 c3], .int .i64 0]) ∧ Bel w0.heap.size w0 w' := by
  have hs := h
  obtain ⟨A, cap, rfl, hl, hcap, hA⟩ := h
  by_cases h1 : 64 < l.length
  · refine enter1 func79 rfl ntmps79 rfl fun a S => wp_seq_k fun _ hK1 => wp_region_lit (st_m (op_box S (.t rfl) rfl fun g1 a w S => st_m (op_alloc S zeroValue37 (cs := _) rfl rfl fun g2 a w S => run S (.ac rfl <| .z) fun a w S => st_nil (then_normal (hK1 _ _ (wp_seq_k fun _ hK1 => sg S (.fa underlying37 sizeOf31 0 rfl rfl rfl <| .ld gt31 1 rfl rfl rfl <| .ln underlying31 rfl <| .yy (ys_T (by omega) (ys_gtr (.t rfl) Ev.c)) rfl <| .mv rfl <| .sk rfl rfl rfl <| .sk rfl rfl rfl <| .sk rfl rfl rfl <| .sk rfl rfl rfl <| .yy (ys_pickT (.t rfl) Ev.c) rfl <| .z) fun a w S => st_then S (.t rfl) (wp_seq_k fun _ hK2 => wp_region_lit (run S (.yy (ys_bld (ps := []) (us := [_, _, _]) bld37 .nil rfl) rfl <| .z) fun a w S => st_m (op_stW S sizeOf37 (.t rfl) (.t rfl) (k := 0) rfl rfl rfl (by simp [Value.oneCell']) fun a w S => run S (.ac rfl <| .z) fun a w S => st_nil (then_normal (hK2 _ _ (wp_ret (then_ret (st_ret S (results2 S results79 (Rv.cell (k := 0) ⟨isAgg37, sizeOf37⟩ rfl rfl rfl) (Rv.tmp rfl)) ?_))))))))))))))
    exact ⟨by rw [if_pos (.inl h1)], S.wd.below⟩
  by_cases h2 : 32 < itemsN l
  · refine enter1 func79 rfl ntmps79 rfl fun a S => wp_seq_k fun _ hK1 => wp_region_lit (st_m (op_box S (.t rfl) rfl fun g1 a w S => st_m (op_alloc S zeroValue37 (cs := _) rfl rfl fun g2 a w S => run S (.ac rfl <| .z) fun a w S => st_nil (then_normal (hK1 _ _ (wp_seq_k fun _ hK1 => sg S (.fa underlying37 sizeOf31 0 rfl rfl rfl <| .ld gt31 1 rfl rfl rfl <| .ln underlying31 rfl <| .yy (ys_F (by omega) (ys_gtr (.t rfl) Ev.c)) rfl <| .mv rfl <| .gy rfl rfl (ys_fieldN (FieldT.mk underlying37 rfl sizeOf31 rfl) (.t rfl) (i' := 0) rfl) <| .gy rfl rfl (ys_ld ⟨isAgg31, sizeOf31⟩ (.t rfl) (k := 1) rfl rfl) <| .gx rfl rfl (ys_call call86 (.cons (.t rfl) .nil) (fun hp w W => c86 _ _ _ (by exact .old W (by assumption)) (by assumption))) <| .gy rfl rfl (ys_T (by omega) (ys_gtr (.t rfl) Ev.c)) <| .yy (ys_pickF (.t rfl) (.t rfl)) rfl <| .z) fun a w S => st_then S (.t rfl) (wp_seq_k fun _ hK2 => wp_region_lit (run S (.yy (ys_bld (ps := []) (us := [_, _, _]) bld37 .nil rfl) rfl <| .z) fun a w S => st_m (op_stW S sizeOf37 (.t rfl) (.t rfl) (k := 0) rfl rfl rfl (by simp [Value.oneCell']) fun a w S => run S (.ac rfl <| .z) fun a w S => st_nil (then_normal (hK2 _ _ (wp_ret (then_ret (st_ret S (results2 S results79 (Rv.cell (k := 0) ⟨isAgg37, sizeOf37⟩ rfl rfl rfl) (Rv.tmp rfl)) ?_))))))))))))))
    exact ⟨by rw [if_pos (.inr h2)], S.wd.below⟩
  · refine enter1 func79 rfl ntmps79 rfl fun a S => wp_seq_k fun _ hK1 => wp_region_lit (st_m (op_box S (.t rfl) rfl fun g1 a w S => st_m (op_alloc S zeroValue37 (cs := _) rfl rfl fun g2 a w S => run S (.ac rfl <| .z) fun a w S => st_nil (then_normal (hK1 _ _ (wp_seq_k fun _ hK1 => sg S (.fa underlying37 sizeOf31 0 rfl rfl rfl <| .ld gt31 1 rfl rfl rfl <| .ln underlying31 rfl <| .yy (ys_F (by omega) (ys_gtr (.t rfl) Ev.c)) rfl <| .mv rfl <| .gy rfl rfl (ys_fieldN (FieldT.mk underlying37 rfl sizeOf31 rfl) (.t rfl) (i' := 0) rfl) <| .gy rfl rfl (ys_ld ⟨isAgg31, sizeOf31⟩ (.t rfl) (k := 1) rfl rfl) <| .gx rfl rfl (ys_call call86 (.cons (.t rfl) .nil) (fun hp w W => c86 _ _ _ (by exact .old W (by assumption)) (by assumption))) <| .gy rfl rfl (ys_F (by omega) (ys_gtr (.t rfl) Ev.c)) <| .yy (ys_pickF (.t rfl) (.t rfl)) rfl <| .z) fun a w S => st_else S (.t rfl) (wp_skip (then_normal (hK1 _ _ (wp_seq_k fun _ hK1 => wp_region_lit (run S (.la gt37 1 rfl rfl rfl <| .z) fun a w S => st_m (op_stW S sizeOf37 (.t rfl) (.t rfl) (k := 0) rfl rfl rfl (by simp [Value.oneCell']) fun a w S => run S (.ac rfl <| .z) fun a w S => st_nil (then_normal (hK1 _ _ (wp_ret (st_ret S (results2 S results79 (Rv.cell (k := 0) ⟨isAgg37, sizeOf37⟩ rfl rfl rfl) (Rv.tmp rfl)) ?_))))))))))))))))
    exact ⟨by rw [if_neg (by omega)], S.wd.below⟩
theorem c76 (w0 : World) (v1 : Value) (A2 A3 : Option Addr) (n2 c2 n3 c3 : Nat) (l : List Ent) (x : Ent) (h : Sl Ent.enc 6 w0 w0.heap.size v1 l) :
    Calls Tryz.prog 76 #[.agg #[v1, .slice A2 n2 c2, .slice A3 n3 c3], .agg (Ent.enc x).toArray] w0 fun e w' => e = .returned (.bool (decide (x ∈ l))) ∧ Bel w0.heap.size w0 w' := by
  obtain ⟨A, cap, rfl, hl, hcap, hA⟩ := h
  refine enter2 func76 rfl ntmps76 rfl fun a S => wp_seq_k fun _ hK1 => wp_region_lit (st_m (op_box S (.t rfl) rfl fun g1 a w S => st_m (op_box S (.t rfl) rfl fun g2 a w S => run S (.ac rfl <| .z) fun a w S => st_nil (then_normal (hK1 _ _ (wp_seq_k fun _ hK1 => sg S (.fa underlying37 sizeOf31 0 rfl rfl rfl <| .ld gt31 1 rfl rfl rfl <| .ln underlying31 rfl <| .mc rfl <| .z) fun a w S => wp_block ?_))))))
  refine st_lpM S [6, 10] (X := Nat) (fun k => [(10, true, .int .i64 (k : Int))]) (fun _ => [.blk g2 (.cells (Ent.enc x).toArray 100), .blk g1 (.cells #[.slice A l.length cap, .slice A2 n2 c2, .slice A3 n3 c3] 37)]) (fun k => k ≤ l.length ∧ x ∉ l.take k) (fun k => l.length - k) 0 ⟨Nat.zero_le _, by simp⟩ ?_
  clear S
  intro k a w ⟨hk, hno⟩ S
  by_cases hlt : k < l.length
  · obtain ⟨g, o, m, rfl, hm, hd, hc⟩ := row_at hA hlt
    by_cases he : m = x
    · have rw_e := decide_eq_true (ent_iff.1 he)
      refine sg S (.lt (by omega) rfl rfl <| .z) fun a w S => wp_seq_k fun _ hK2 => st_then S (.t rfl) (wp_skip (then_normal (hK2 _ _ (wp_seq_k fun _ hK2 => wp_block (wp_seq_k fun _ hK3 => wp_region_lit (run S (.ix underlying31 sizeOf100 (by omega) rfl rfl <| .yy (ys_ldOA ⟨isAgg100, sizeOf100⟩ (.t rfl) (vs := [_, _, _, _, _, _]) rfl (fun _ => hc)) rfl <| .z) fun a w S => st_m (op_alloc S zeroValue100 (cs := _) rfl rfl fun g3 a w S => st_m (op_stW S sizeOf100 (.t rfl) (.t rfl) (k := 0) rfl rfl rfl (by simp [Value.oneCell']) fun a w S => st_nil (then_normal (hK3 _ _ (wp_seq_k fun _ hK3 => wp_region_lit (run S (.la gt100 0 rfl rfl rfl <| .la gt100 1 rfl rfl rfl <| .yy (ys_eqA (.t rfl) (.t rfl) eq100) rfl <| .z) fun a w S => ?_))))))))))))
      rw [rw_e] at S
      refine st_nil (then_normal (hK3 _ _ (st_then S (.t rfl) (sg S (.ac rfl <| .z) fun a w S => wp_ret (in_ret (then_ret (then_ret (in_ret (then_ret (st_ret S (results1 S results76 (Rv.tmp rfl)) ?_))))))))))
      exact ⟨by rw [decide_eq_true (he ▸ List.mem_of_getElem? hm)], S.wd.below⟩
    · have rw_e := decide_eq_false (fun h => he (ent_iff.2 h))
      refine sg S (.lt (by omega) rfl rfl <| .z) fun a w S => wp_seq_k fun _ hK2 => st_then S (.t rfl) (wp_skip (then_normal (hK2 _ _ (wp_seq_k fun _ hK2 => wp_block (wp_seq_k fun _ hK3 => wp_region_lit (run S (.ix underlying31 sizeOf100 (by omega) rfl rfl <| .yy (ys_ldOA ⟨isAgg100, sizeOf100⟩ (.t rfl) (vs := [_, _, _, _, _, _]) rfl (fun _ => hc)) rfl <| .z) fun a w S => st_m (op_alloc S zeroValue100 (cs := _) rfl rfl fun g3 a w S => st_m (op_stW S sizeOf100 (.t rfl) (.t rfl) (k := 0) rfl rfl rfl (by simp [Value.oneCell']) fun a w S => st_nil (then_normal (hK3 _ _ (wp_seq_k fun _ hK3 => wp_region_lit (run S (.la gt100 0 rfl rfl rfl <| .la gt100 1 rfl rfl rfl <| .yy (ys_eqA (.t rfl) (.t rfl) eq100) rfl <| .z) fun a w S => ?_))))))))))))
      rw [rw_e] at S
      refine st_nil (then_normal (hK3 _ _ (st_else S (.t rfl) (wp_skip (in_normal (then_normal (hK2 _ _ (wp_region_lit (run S (.ad (by unfold I64; omega) rfl <| .mv rfl <| .z) fun a w S => st_nil (then_normal ?_))))))))))
      refine ⟨k + 1, ⟨by omega, ?_⟩, by omega, S.pk⟩
      rw [List.take_add_one, hm, Option.toList_some]
      intro h
      rcases List.mem_append.1 h with h | h
      · exact hno h
      · simp at h; exact he h.symm
  · obtain rfl : k = l.length := by omega
    rw [List.take_length] at hno
    refine sg S (.ge (by omega) rfl rfl <| .z) fun a w S => wp_seq_k fun _ hK2 => st_else S (.t rfl) (wp_exit (then_exit (then_exit (in_here (then_normal (hK1 _ _ (sg S (.ac rfl <| .z) fun a w S => wp_ret (st_ret S (results1 S results76 (Rv.tmp rfl)) ?_))))))))
    exact ⟨by rw [decide_eq_false hno], S.wd.below⟩
def outE (e : Ent) (l : List Ent) (put : Bool) : List Ent := if put then insE e l else l
theorem c78 (w0 : World) (v : Value) (l : List Ent) (e : Ent) (h : Sl Ent.enc 6 w0 w0.heap.size v l) (hn : l.length ≤ 1048576) :
    Rets Tryz.prog 78 #[v, .agg (Ent.enc e).toArray] w0 fun u L => ∃ A1 r1, u = .slice A1 (insE e l).length r1 ∧ L = [rowOf 100 6 Ent.enc A1 r1 (insE e l)] := by
  obtain ⟨A, cap, rfl, hl, hcap, hA⟩ := h
  have hil : ∀ m, (insE e m).length = m.length + 1 := fun m => insE_len e m
  unfold Go.Fw.Rets
  refine enter2 func78 rfl ntmps78 rfl fun a S => wp_seq_k fun _ hK1 => wp_region_lit (st_m (op_box S (.t rfl) rfl fun g1 a w S => run S (.ac rfl <| .z) fun a w S => st_nil (then_normal (hK1 _ _ (sg S (.ac rfl <| .z) fun a w S => sg S (.ac rfl <| .z) fun a w S => wp_seq_k fun _ hK1 => sg S (.mv rfl <| .ln underlying31 rfl <| .mc rfl <| .z) fun a w S => wp_block ?_)))))
  replace S := S.nil_ 100 6 Ent.enc none
  refine st_lpM S [5, 6, 8, 11] (X := Nat × Bool × Option Addr × Nat) (fun q => [(5, true, .slice q.2.2.1 (outE e (l.take q.1) q.2.1).length q.2.2.2), (6, true, .bool q.2.1), (11, true, .int .i64 (q.1 : Int))])
    (fun q => [rowOf 100 6 Ent.enc q.2.2.1 q.2.2.2 (outE e (l.take q.1) q.2.1), .blk g1 (.cells (Ent.enc e).toArray 100)])
    (fun q => q.1 ≤ l.length ∧ (q.2.1 = true → ∃ y ∈ l.take q.1, ltE e y) ∧ (q.2.1 = false → ∀ y ∈ l.take q.1, ¬ ltE e y)) (fun q => l.length - q.1) (0, false, none, 0) ⟨Nat.zero_le _, by simp, by simp⟩ ?_
  clear S
  rintro ⟨k, put, B, cB⟩ a w ⟨hk, hp1, hp2⟩ S
  dsimp only at hk hp1 hp2 S
  have hol : (outE e (l.take k) put).length ≤ k + 1 := by
    unfold outE
    split
    · rw [hil, List.length_take]; omega
    · rw [List.length_take]; omega
  by_cases hlt : k < l.length
  · obtain ⟨g, o, x, rfl, hx, hd, hc⟩ := row_at hA hlt
    have ht : l.take (k + 1) = l.take k ++ [x] := by rw [List.take_add_one, hx, Option.toList_some]
    cases put with
    | true =>
      have hst : outE e (l.take (k + 1)) true = outE e (l.take k) true ++ [x] := by unfold outE; rw [ht, if_pos rfl, if_pos rfl, insE_put (hp1 rfl)]
      generalize outE e (l.take k) true = O at *
      refine sg S (.lt (by omega) rfl rfl <| .z) fun a w S => wp_seq_k fun _ hK2 => st_then S (.t rfl) (wp_skip (then_normal (hK2 _ _ (wp_seq_k fun _ hK2 => wp_block (wp_seq_k fun _ hK3 => wp_region_lit (run S (.ix underlying31 sizeOf100 (by omega) rfl rfl <| .yy (ys_ldOA ⟨isAgg100, sizeOf100⟩ (.t rfl) (vs := [_, _, _, _, _, _]) rfl (fun _ => hc)) rfl <| .z) fun a w S => st_m (op_alloc S zeroValue100 (cs := _) rfl rfl fun g2 a w S => st_m (op_stW S sizeOf100 (.t rfl) (.t rfl) (k := 0) rfl rfl rfl (by simp [Value.oneCell']) fun a w S => st_nil (then_normal (hK3 _ _ (wp_seq_k fun _ hK3 => sg S (.mv rfl <| .nt rfl <| .mv rfl <| .sk rfl rfl rfl <| .sk rfl rfl rfl <| .sk rfl rfl rfl <| .yy (ys_pickF (.t rfl) Ev.c) rfl <| .z) fun a w S => st_else S (.t rfl) (wp_skip (then_normal (hK3 _ _ (wp_region_lit (run S (.mv rfl <| .la gt100 0 rfl rfl rfl <| .z) fun a w S => st_m (op_bslice1 S underlying31 inf100 rfl rfl rfl (.t rfl) rfl rfl rfl fun g3 a w S => st_m (op_push S underlying31 inf100 rfl (k := 2) (j := 0) rfl (.t rfl) (.t rfl) rfl rfl rfl rfl (by first | omega | (simp only [List.length_append, List.length_cons, List.length_nil]; omega)) rfl rfl rfl fun A1 cap1 a w S => run S (.as rfl <| .z) fun a w S => st_nil (in_normal (then_normal (hK2 _ _ (wp_region_lit ?_))))))))))))))))))))))
      refine run S (.ad (by unfold I64; omega) rfl <| .mv rfl <| .z) fun a w S => st_nil (then_normal ?_)
      refine ⟨(k + 1, true, A1, cap1), ⟨by dsimp only; omega, fun _ => ?_, fun h => by cases h⟩, by dsimp only; omega, ?_⟩
      · obtain ⟨y, hy, hy2⟩ := hp1 rfl
        exact ⟨y, by rw [ht]; exact List.mem_append_left _ hy, hy2⟩
      · dsimp only; rw [hst]; exact S.pk
    | false =>
      by_cases hex : ltE e x
      · have hst : outE e (l.take (k + 1)) true = outE e (l.take k) false ++ [e] ++ [x] := by unfold outE; rw [ht, if_pos rfl, if_neg (by simp), insE_new (hp2 rfl) hex]; simp
        have rw_l : decide (ltE e x) = true := decide_eq_true hex
        generalize outE e (l.take k) false = O at *
        refine sg S (.lt (by omega) rfl rfl <| .z) fun a w S => wp_seq_k fun _ hK2 => st_then S (.t rfl) (wp_skip (then_normal (hK2 _ _ (wp_seq_k fun _ hK2 => wp_block (wp_seq_k fun _ hK3 => wp_region_lit (run S (.ix underlying31 sizeOf100 (by omega) rfl rfl <| .yy (ys_ldOA ⟨isAgg100, sizeOf100⟩ (.t rfl) (vs := [_, _, _, _, _, _]) rfl (fun _ => hc)) rfl <| .z) fun a w S => st_m (op_alloc S zeroValue100 (cs := _) rfl rfl fun g2 a w S => st_m (op_stW S sizeOf100 (.t rfl) (.t rfl) (k := 0) rfl rfl rfl (by simp [Value.oneCell']) fun a w S => st_nil (then_normal (hK3 _ _ (wp_seq_k fun _ hK3 => wp_seq_k fun _ hK4 => wp_region_lit (run S (.mv rfl <| .nt rfl <| .mv rfl <| .gy rfl rfl (ys_ldA ⟨isAgg100, sizeOf100⟩ (.t rfl) (k := 0) rfl rfl) <| .gy rfl rfl (ys_ldA ⟨isAgg100, sizeOf100⟩ (.t rfl) (k := 2) rfl rfl) <| .gx rfl rfl (ys_call call85 (.cons (.t rfl) (.cons (.t rfl) .nil)) (fun hp w W => c85 _ _ _)) <| .z) fun a w S => ?_))))))))))))
        rw [rw_l] at S
        refine run S (.yy (ys_pickT (.t rfl) (.t rfl)) rfl <| .z) fun a w S => st_nil (then_normal (hK4 _ _ (st_then S (.t rfl) (wp_seq_k fun _ hK4 => wp_region_lit (run S (.mv rfl <| .la gt100 2 rfl rfl rfl <| .z) fun a w S => st_m (op_bslice1 S underlying31 inf100 rfl rfl rfl (.t rfl) rfl rfl rfl fun g3 a w S => st_m (op_push S underlying31 inf100 rfl (k := 2) (j := 0) rfl (.t rfl) (.t rfl) rfl rfl rfl rfl (by first | omega | (simp only [List.length_append, List.length_cons, List.length_nil]; omega)) rfl rfl rfl fun A1 cap1 a w S => run S (.as rfl <| .z) fun a w S => st_nil (then_normal (hK4 _ _ (rg S (.ac rfl <| .z) hK3 fun a w S => wp_region_lit (run S (.mv rfl <| .la gt100 1 rfl rfl rfl <| .z) fun a w S => st_m (op_bslice1 S underlying31 inf100 rfl rfl rfl (.t rfl) rfl rfl rfl fun g4 a w S => st_m (op_push S underlying31 inf100 rfl (k := 3) (j := 0) rfl (.t rfl) (.t rfl) rfl rfl rfl rfl (by first | omega | (simp only [List.length_append, List.length_cons, List.length_nil]; omega)) rfl rfl rfl fun A2 cap2 a w S => run S (.as rfl <| .z) fun a w S => st_nil (in_normal (then_normal (hK2 _ _ (wp_region_lit (run S (.ad (by unfold I64; omega) rfl <| .mv rfl <| .z) fun a w S => st_nil (then_normal ?_)))))))))))))))))))
        refine ⟨(k + 1, true, A2, cap2), ⟨by dsimp only; omega, fun _ => ⟨x, by rw [ht]; simp, hex⟩, fun h => by cases h⟩, by dsimp only; omega, ?_⟩
        dsimp only; rw [hst]; exact S.pk
      · have hst : outE e (l.take (k + 1)) false = outE e (l.take k) false ++ [x] := by unfold outE; rw [ht, if_neg (by simp), if_neg (by simp)]
        have rw_l : decide (ltE e x) = false := decide_eq_false hex
        generalize outE e (l.take k) false = O at *
        refine sg S (.lt (by omega) rfl rfl <| .z) fun a w S => wp_seq_k fun _ hK2 => st_then S (.t rfl) (wp_skip (then_normal (hK2 _ _ (wp_seq_k fun _ hK2 => wp_block (wp_seq_k fun _ hK3 => wp_region_lit (run S (.ix underlying31 sizeOf100 (by omega) rfl rfl <| .yy (ys_ldOA ⟨isAgg100, sizeOf100⟩ (.t rfl) (vs := [_, _, _, _, _, _]) rfl (fun _ => hc)) rfl <| .z) fun a w S => st_m (op_alloc S zeroValue100 (cs := _) rfl rfl fun g2 a w S => st_m (op_stW S sizeOf100 (.t rfl) (.t rfl) (k := 0) rfl rfl rfl (by simp [Value.oneCell']) fun a w S => st_nil (then_normal (hK3 _ _ (wp_seq_k fun _ hK3 => wp_seq_k fun _ hK4 => wp_region_lit (run S (.mv rfl <| .nt rfl <| .mv rfl <| .gy rfl rfl (ys_ldA ⟨isAgg100, sizeOf100⟩ (.t rfl) (k := 0) rfl rfl) <| .gy rfl rfl (ys_ldA ⟨isAgg100, sizeOf100⟩ (.t rfl) (k := 2) rfl rfl) <| .gx rfl rfl (ys_call call85 (.cons (.t rfl) (.cons (.t rfl) .nil)) (fun hp w W => c85 _ _ _)) <| .z) fun a w S => ?_))))))))))))
        rw [rw_l] at S
        refine run S (.yy (ys_pickT (.t rfl) (.t rfl)) rfl <| .z) fun a w S => st_nil (then_normal (hK4 _ _ (st_else S (.t rfl) (wp_skip (then_normal (hK3 _ _ (wp_region_lit (run S (.mv rfl <| .la gt100 0 rfl rfl rfl <| .z) fun a w S => st_m (op_bslice1 S underlying31 inf100 rfl rfl rfl (.t rfl) rfl rfl rfl fun g3 a w S => st_m (op_push S underlying31 inf100 rfl (k := 2) (j := 0) rfl (.t rfl) (.t rfl) rfl rfl rfl rfl (by first | omega | (simp only [List.length_append, List.length_cons, List.length_nil]; omega)) rfl rfl rfl fun A1 cap1 a w S => run S (.as rfl <| .z) fun a w S => st_nil (in_normal (then_normal (hK2 _ _ (wp_region_lit (run S (.ad (by unfold I64; omega) rfl <| .mv rfl <| .z) fun a w S => st_nil (then_normal ?_))))))))))))))))
        refine ⟨(k + 1, false, A1, cap1), ⟨by dsimp only; omega, (fun h => by cases h), fun _ y hy => ?_⟩, by dsimp only; omega, ?_⟩
        · rw [ht] at hy
          rcases List.mem_append.1 hy with hy | hy
          · exact hp2 rfl y hy
          · simp at hy; exact hy ▸ hex
        · dsimp only; rw [hst]; exact S.pk
  · obtain rfl : k = l.length := by omega
    rw [List.take_length] at S hp1 hp2 hol
    cases put with
    | true =>
      have hst : outE e l true = insE e l := by unfold outE; rw [if_pos rfl]
      rw [hst] at S
      refine sg S (.ge (by omega) rfl rfl <| .z) fun a w S => wp_seq_k fun _ hK2 => st_else S (.t rfl) (wp_exit (then_exit (then_exit (in_here (then_normal (hK1 _ _ (wp_seq_k fun _ hK1 => sg S (.mv rfl <| .nt rfl <| .z) fun a w S => st_else S (.t rfl) (wp_skip (then_normal (hK1 _ _ (sg S (.mv rfl <| .as rfl <| .z) fun a w S => wp_ret (st_ret S (results1 S results78 (Rv.tmp rfl)) ?_))))))))))))
      exact ⟨_, _, rfl, S.wd.picks (L' := [rowOf 100 6 Ent.enc B cB (insE e l)]) (by repeat (first | exact Picks.nil | (refine Picks.rest ?_; (repeat (first | exact List.Sublist.refl _ | refine List.Sublist.cons_cons _ ?_ | refine List.Sublist.cons _ ?_)); done) | refine Picks.take 0 rfl ?_ | refine Picks.take 1 rfl ?_ | refine Picks.take 2 rfl ?_ | refine Picks.take 3 rfl ?_ | refine Picks.take 4 rfl ?_ | refine Picks.take 5 rfl ?_ | refine Picks.take 6 rfl ?_ | refine Picks.take 7 rfl ?_ | refine Picks.take 8 rfl ?_ | refine Picks.take 9 rfl ?_ | refine Picks.take 10 rfl ?_ | refine Picks.take 11 rfl ?_)), _, _, rfl, rfl⟩
    | false =>
      have hst : insE e l = outE e l false ++ [e] := by unfold outE; rw [if_neg (by simp), insE_none (hp2 rfl)]
      generalize outE e l false = O at *
      refine sg S (.ge (by omega) rfl rfl <| .z) fun a w S => wp_seq_k fun _ hK2 => st_else S (.t rfl) (wp_exit (then_exit (then_exit (in_here (then_normal (hK1 _ _ (wp_seq_k fun _ hK1 => sg S (.mv rfl <| .nt rfl <| .z) fun a w S => st_then S (.t rfl) (wp_region_lit (run S (.mv rfl <| .la gt100 1 rfl rfl rfl <| .z) fun a w S => st_m (op_bslice1 S underlying31 inf100 rfl rfl rfl (.t rfl) rfl rfl rfl fun g2 a w S => st_m (op_push S underlying31 inf100 rfl (k := 1) (j := 0) rfl (.t rfl) (.t rfl) rfl rfl rfl rfl (by first | omega | (simp only [List.length_append, List.length_cons, List.length_nil]; omega)) rfl rfl rfl fun A1 cap1 a w S => run S (.as rfl <| .z) fun a w S => st_nil (then_normal (hK1 _ _ (sg S (.mv rfl <| .as rfl <| .z) fun a w S => wp_ret (st_ret S (results1 S results78 (Rv.tmp rfl)) ?_)))))))))))))))
      exact ⟨_, _, rfl, S.wd.picks (L' := [rowOf 100 6 Ent.enc A1 cap1 (O ++ [e])]) (by repeat (first | exact Picks.nil | (refine Picks.rest ?_; (repeat (first | exact List.Sublist.refl _ | refine List.Sublist.cons_cons _ ?_ | refine List.Sublist.cons _ ?_)); done) | refine Picks.take 0 rfl ?_ | refine Picks.take 1 rfl ?_ | refine Picks.take 2 rfl ?_ | refine Picks.take 3 rfl ?_ | refine Picks.take 4 rfl ?_ | refine Picks.take 5 rfl ?_ | refine Picks.take 6 rfl ?_ | refine Picks.take 7 rfl ?_ | refine Picks.take 8 rfl ?_ | refine Picks.take 9 rfl ?_ | refine Picks.take 10 rfl ?_ | refine Picks.take 11 rfl ?_)), A1, cap1, by rw [hst], by rw [hst]⟩
end Go.Proofs.YtakpdbmdfnialaaGreat
set_option linter.unusedVariables false
set_option linter.unusedSimpArgs false
set_option maxRecDepth 100000
namespace Go.Proofs.YtakpdbmdfnialaaGreat
open Go.Fw Go.Proofs Go.RowKit Go.Proofs.Tryz
theorem c135 (w0 : World) (v1 : Value) (l : List Dot) (h : Sl Dot.enc 3 w0 w0.heap.size v1 l) (hn : l.length ≤ 4194304) :
    Rets Tryz.prog 135 #[v1] w0 fun v L => ∃ A c, v = .slice A l.length c ∧ L = [rowOf 30 3 Dot.enc A c l] := by
  have h0 := h
  obtain ⟨A, cap, rfl, hl, hcap, hA⟩ := h
  unfold Go.Fw.Rets
  refine enter1 func135 rfl ntmps135 rfl fun a S => sg S (.ac rfl <| .z) fun a w S => wp_seq_k fun _ hK1 => sg S (.mv rfl <| .yy (ys_sNil underlying32 (.t rfl) Ev.c) rfl <| .z) fun a w S => ?_
  refine st_cond S (.t rfl) (fun h1 => ?_) (fun h1 => ?_)
  refine sg S (.ac rfl <| .z) fun a w S => wp_ret (then_ret (st_ret S (results1 S results135 (Rv.tmp rfl)) ?_))
  rotate_left
  refine wp_skip (then_normal (hK1 _ _ (wp_seq_k fun _ hK1 => wp_region_lit (st_m (op_bslice0 S underlying32 sizeOf30 rfl fun g1 a w S => run S (.mv rfl <| .z) fun a w S => st_m (op_extend _ (S.nil_ 30 _ Go.Fw.Dot.enc _) underlying32 underlying32 (.inr ⟨_, rfl⟩) inf30 rfl (k := 0) rfl (.t rfl) (.t rfl) (Src.sl (Sl.old S.wd h0) (by decide) Go.Fw.Dot.enc_len Go.Fw.Dot.enc_one) (by first | omega | (simp only [List.length_append, List.length_cons, List.length_nil]; omega) | (simp; omega)) rfl rfl rfl fun A1 cap1 a w S => ?_))))))
  simp only [List.nil_append] at S
  refine run S (.as rfl <| .z) fun a w S => st_nil (then_normal (hK1 _ _ (wp_ret (st_ret S (results1 S results135 (Rv.tmp rfl)) ?_))))
  rotate_left
  · have hnil : l = [] := by
      refine List.eq_nil_of_length_eq_zero (Decidable.byContradiction fun hne => ?_)
      obtain ⟨g, o, rfl, _⟩ := hA (by omega)
      cases h1
    subst hnil
    exact ⟨_, _, rfl, (S.nil_ 30 3 Dot.enc none).wd.sub (by repeat (first | exact List.Sublist.refl _ | exact List.nil_sublist _ | refine .cons_cons _ ?_ | refine .cons _ ?_)), none, 0, rfl, rfl⟩
  · try simp only [List.nil_append] at S ⊢
    exact ⟨_, _, rfl, S.wd.sub (by repeat (first | exact List.Sublist.refl _ | exact List.nil_sublist _ | refine .cons_cons _ ?_ | refine .cons _ ?_)), _, _, rfl, rfl⟩
end Go.Proofs.YtakpdbmdfnialaaGreat
set_option linter.unusedVariables false
set_option linter.unusedSimpArgs false
set_option maxRecDepth 100000
set_option maxHeartbeats 4000000
namespace Go.Proofs.YtakpdbmdfnialaaGreat
open Go.Fw Go.Proofs Go.RowKit Go.Proofs.Tryz
theorem c65 (w0 : World) (v1 v2 : Value) (C : Ctx) (h : RdCtx w0 w0.heap.size v1 v2 C) (hn : C.marks.length ≤ 1048576) (hn' : C.cloud.length ≤ 1048576) :
    Rets Tryz.prog 65 #[.agg #[v1, v2]] w0 fun v L => ∃ A1 r1 A2 r2, v = .agg #[.slice A1 C.marks.length r1, .slice A2 C.cloud.length r2] ∧
      L = [rowOf 30 3 Dot.enc A1 r1 C.marks, rowOf 74 3 Dot.enc A2 r2 C.cloud] := by
  obtain ⟨h1, h2⟩ := id h
  obtain ⟨B1, q1, rfl, _⟩ := id h1
  obtain ⟨B2, q2, rfl, _⟩ := id h2
  unfold Go.Fw.Rets
  refine enter1 func65 rfl ntmps65 rfl fun a S => wp_seq_k fun _ hK1 => wp_region_lit (st_m (op_box S (.t rfl) rfl fun g1 a w S => st_m (op_alloc S zeroValue35 (cs := _) rfl rfl fun g2 a w S => st_nil (then_normal (hK1 _ _ (wp_seq_k fun _ hK1 => h_beginE S (by kernel_rfl) 0 fun a w S => hy 0 S rfl (ys_fieldN (FieldT.mk underlying35 rfl sizeOf32 rfl) (.t rfl) (i' := 0) rfl) rfl fun a w S => hy 1 S rfl (ys_ld ⟨isAgg32, sizeOf32⟩ (.t rfl) (k := 0) rfl rfl) rfl fun a w S => hy 3 S rfl (ys_fieldN (FieldT.mk underlying35 rfl sizeOf33 rfl) (.t rfl) (i' := 1) rfl) rfl fun a w S => ?_))))))
  refine hy 4 S rfl (ys_ld ⟨isAgg33, sizeOf33⟩ (.t rfl) (k := 0) rfl rfl) rfl fun a w S => ?_
  (refine h_m (i := 2) rfl (by kernel_rfl) (op_calls S call135 (.cons (.t rfl) .nil) (c135 _ _ _ (by exact .old S.wd (by assumption)) (by omega)) rfl ?_); clear S a w; rintro _ _ ⟨A1, c1, rfl, rfl⟩ a w S; refine h_n1 S ?_)
  (refine h_m (i := 5) rfl (by kernel_rfl) (op_calls S call136 (.cons (.t rfl) .nil) (c136 _ _ _ (by exact .old S.wd (by assumption)) (by omega)) rfl ?_); clear S a w; rintro _ _ ⟨A2, c2, rfl, rfl⟩ a w S; refine h_n1 S ?_)
  refine hy 6 S rfl (ys_bld (ps := [(0, Go.Operand.tmp 5), (1, Go.Operand.tmp 8)]) (us := [_, _]) bld35 (.cons (.t rfl) (.cons (.t rfl) .nil)) rfl) rfl fun a w S => ?_
  (refine h_m0 (i := 7) rfl (by kernel_rfl) (op_stW S sizeOf35 (.t rfl) (.t rfl) (k := 2) rfl rfl rfl (by simp [Value.oneCell']) ?_); clear S a w; intro a w S; refine h_n1 S ?_)
  refine h_done (by kernel_rfl) (then_normal (hK1 _ _ (wp_ret (st_ret S (results1 S results65 (Rv.cell (k := 2) ⟨isAgg35, sizeOf35⟩ rfl rfl rfl)) ?_))))
  (replace S := S.pull 1 rfl; try simp only [List.set_cons_zero, List.set_cons_succ, List.eraseIdx_cons_succ, List.eraseIdx_cons_zero] at S)
  exact ⟨_, _, rfl, S.wd.sub (by repeat (first | exact List.Sublist.refl _ | exact List.nil_sublist _ | refine .cons_cons _ ?_ | refine .cons _ ?_)), _, _, _, _, rfl, rfl⟩
theorem c75 (w0 : World) (v1 v2 v3 v4 : Value) (C D : Ctx) (h : RdCtx w0 w0.heap.size v1 v2 C) (h' : RdCtx w0 w0.heap.size v3 v4 D) :
    Rets Tryz.prog 75 #[.agg #[v1, v2], .agg #[v3, v4]] w0 fun v L => ∃ A1 r1 A2 r2, v = .tuple #[.agg #[.slice A1 (joinL C D).1.marks.length r1, .slice A2 (joinL C D).1.cloud.length r2], .int .i64 (joinL C D).2] ∧
      L = [rowOf 30 3 Dot.enc A1 r1 (joinL C D).1.marks, rowOf 74 3 Dot.enc A2 r2 (joinL C D).1.cloud] := by
  obtain ⟨h1, h2⟩ := id h
  obtain ⟨h3, h4⟩ := id h'
  obtain ⟨B1, q1, rfl, _⟩ := id h1
  obtain ⟨B2, q2, rfl, _⟩ := id h2
  obtain ⟨B3, q3, rfl, _⟩ := id h3
  obtain ⟨B4, q4, rfl, _⟩ := id h4
  by_cases hC : canL C = true
  · by_cases hD : canL D = true
    · have hc1 := can_len hC
      have hd1 := can_len hD
      have hj1 : (C.marks ++ D.marks).length ≤ 1900000 := by rw [List.length_append]; omega
      have hj2 : (C.cloud ++ D.cloud).length ≤ 1900000 := by rw [List.length_append]; omega
      have rw_c := hC
      have rw_d := hD
      have e : joinL C D = normalL (C.marks ++ D.marks) (C.cloud ++ D.cloud) := by unfold joinL; rw [hC, hD]; rfl
      unfold Go.Fw.Rets
      refine enter2 func75 rfl ntmps75 rfl fun a S => wp_seq_k fun _ hK1 => wp_region_lit (st_m (op_box S (.t rfl) rfl fun g1 a w S => st_m (op_box S (.t rfl) rfl fun g2 a w S => st_m (op_alloc S zeroValue35 (cs := _) rfl rfl fun g3 a w S => run S (.ac rfl <| .z) fun a w S => st_nil (then_normal (hK1 _ _ (wp_seq_k fun _ hK1 => wp_seq_k fun _ hK2 => wp_region_lit (run S (.la gt35 2 rfl rfl rfl <| .xx (ys_call call81 (.cons (.t rfl) .nil) (fun hp w W => c81 _ _ _ _ (by exact .old W (by assumption)))) rfl <| .z) fun a w S => ?_))))))))
      rw [rw_c] at S
      refine run S (.nt rfl <| .mv rfl <| .gy rfl rfl (ys_ldA ⟨isAgg35, sizeOf35⟩ (.t rfl) (k := 1) rfl rfl) <| .gx rfl rfl (ys_call call81 (.cons (.t rfl) .nil) (fun hp w W => c81 _ _ _ _ (by exact .old W (by assumption)))) <| .z) fun a w S => ?_
      rw [rw_d] at S
      refine run S (.gy rfl rfl (ys_not (.t rfl)) <| .yy (ys_pickF (.t rfl) (.t rfl)) rfl <| .z) fun a w S => st_nil (then_normal (hK2 _ _ (st_else S (.t rfl) (wp_skip (then_normal (hK1 _ _ (wp_seq_k fun _ hK1 => h_beginE S (by kernel_rfl) 0 fun a w S => hy 1 S rfl (ys_fieldN (FieldT.mk underlying35 rfl sizeOf32 rfl) (.t rfl) (i' := 0) rfl) rfl fun a w S => hy 2 S rfl (ys_ld ⟨isAgg32, sizeOf32⟩ (.t rfl) (k := 1) rfl rfl) rfl fun a w S => hy 4 S rfl (ys_fieldN (FieldT.mk underlying35 rfl sizeOf32 rfl) (.t rfl) (i' := 0) rfl) rfl fun a w S => hy 5 S rfl (ys_ld ⟨isAgg32, sizeOf32⟩ (.t rfl) (k := 0) rfl rfl) rfl fun a w S => ?_)))))))
      refine hy 8 S rfl (ys_fieldN (FieldT.mk underlying35 rfl sizeOf33 rfl) (.t rfl) (i' := 1) rfl) rfl fun a w S => hy 9 S rfl (ys_ld ⟨isAgg33, sizeOf33⟩ (.t rfl) (k := 1) rfl rfl) rfl fun a w S => hy 11 S rfl (ys_fieldN (FieldT.mk underlying35 rfl sizeOf33 rfl) (.t rfl) (i' := 1) rfl) rfl fun a w S => hy 12 S rfl (ys_ld ⟨isAgg33, sizeOf33⟩ (.t rfl) (k := 0) rfl rfl) rfl fun a w S => ?_
      refine h_split (i := 0) (j := 7) (by kernel_rfl) rfl rfl ?_ ?_
      (refine op_bslice0 S underlying32 sizeOf30 rfl ?_; clear S a w; intro g4 a w S; refine h_n1 S ?_)
      refine h_split (i := 3) (j := 7) (by kernel_rfl) rfl rfl ?_ ?_
      (refine op_extend _ (S.nil_ 30 _ Go.Fw.Dot.enc _) underlying32 underlying32 (.inr ⟨_, rfl⟩) inf30 rfl (k := 0) rfl (.t rfl) (.t rfl) (Src.sl (Sl.old S.wd h1) (by decide) Go.Fw.Dot.enc_len Go.Fw.Dot.enc_one) (by first | omega | (simp only [List.length_append, List.length_cons, List.length_nil]; omega) | (simp; omega)) rfl rfl rfl ?_; clear S a w; intro A1 cap1 a w S; refine h_n1 S ?_)
      simp only [List.nil_append] at S
      refine h_split (i := 6) (j := 7) (by kernel_rfl) rfl rfl ?_ ?_
      (refine op_extend _ S underlying32 underlying32 (.inr ⟨_, rfl⟩) inf30 rfl (k := 0) rfl (.t rfl) (.t rfl) (Src.sl (Sl.old S.wd h3) (by decide) Go.Fw.Dot.enc_len Go.Fw.Dot.enc_one) (by first | omega | (simp only [List.length_append, List.length_cons, List.length_nil]; omega) | (simp; omega)) rfl rfl rfl ?_; clear S a w; intro A2 cap2 a w S; refine h_n1 S ?_)
      (refine h_m (i := 7) rfl (by kernel_rfl) (op_bslice0 S underlying33 sizeOf74 rfl ?_); clear S a w; intro g5 a w S; refine h_n1 S ?_)
      (refine h_m (i := 10) rfl (by kernel_rfl) (op_extend _ (S.nil_ 74 _ Go.Fw.Dot.enc _) underlying33 underlying33 (.inr ⟨_, rfl⟩) inf74 rfl (k := 0) rfl (.t rfl) (.t rfl) (Src.sl (Sl.old S.wd h2) (by decide) Go.Fw.Dot.enc_len Go.Fw.Dot.enc_one) (by first | omega | (simp only [List.length_append, List.length_cons, List.length_nil]; omega) | (simp; omega)) rfl rfl rfl ?_); clear S a w; intro A3 cap3 a w S; refine h_n1 S ?_)
      simp only [List.nil_append] at S
      (refine h_m (i := 13) rfl (by kernel_rfl) (op_extend _ S underlying33 underlying33 (.inr ⟨_, rfl⟩) inf74 rfl (k := 0) rfl (.t rfl) (.t rfl) (Src.sl (Sl.old S.wd h4) (by decide) Go.Fw.Dot.enc_len Go.Fw.Dot.enc_one) (by first | omega | (simp only [List.length_append, List.length_cons, List.length_nil]; omega) | (simp; omega)) rfl rfl rfl ?_); clear S a w; intro A4 cap4 a w S; refine h_n1 S ?_)
      (refine h_m (i := 14) rfl (by kernel_rfl) (op_calls S call145 (.cons (.t rfl) (.cons (.t rfl) .nil)) (c145 _ _ _ _ _ (by exact Sl.of_own S.wd (k := 1) rfl (fun _ => rfl)) (by exact Sl.of_own S.wd (k := 0) rfl (fun _ => rfl)) (by assumption) (by assumption)) rfl ?_); clear S a w; rintro _ _ ⟨A11, c11, A21, c21, rfl, rfl⟩ a w S; refine h_n1 S ?_)
      refine hy 15 S rfl (ys_ext (.t rfl) rfl) rfl fun a w S => hy 16 S rfl (ys_ext (.t rfl) rfl) rfl fun a w S => ?_
      (refine h_m0 (i := 17) rfl (by kernel_rfl) (op_stW S sizeOf35 (.t rfl) (.t rfl) (k := 4) rfl rfl rfl (by simp [Value.oneCell']) ?_); clear S a w; intro a w S; refine h_n1 S ?_)
      refine hy 18 S rfl (ys_assign (.t rfl)) rfl fun a w S => h_done (by kernel_rfl) (then_normal (hK1 _ _ (wp_ret (st_ret S (results2 S results75 (Rv.cell (k := 4) ⟨isAgg35, sizeOf35⟩ rfl rfl rfl) (Rv.tmp rfl)) ?_))))
      rotate_left
      (refine op_bslice0 S underlying33 sizeOf74 rfl ?_; clear S a w; intro g5 a w S; refine h_n1 S ?_)
      (refine h_m (i := 6) rfl (by kernel_rfl) (op_extend _ S underlying32 underlying32 (.inr ⟨_, rfl⟩) inf30 rfl (k := 0) rfl (.t rfl) (.t rfl) (Src.sl (Sl.old S.wd h3) (by decide) Go.Fw.Dot.enc_len Go.Fw.Dot.enc_one) (by first | omega | (simp only [List.length_append, List.length_cons, List.length_nil]; omega) | (simp; omega)) rfl rfl rfl ?_); clear S a w; intro A2 cap2 a w S; refine h_n1 S ?_)
      (refine h_m (i := 10) rfl (by kernel_rfl) (op_extend _ (S.nil_ 74 _ Go.Fw.Dot.enc _) underlying33 underlying33 (.inr ⟨_, rfl⟩) inf74 rfl (k := 0) rfl (.t rfl) (.t rfl) (Src.sl (Sl.old S.wd h2) (by decide) Go.Fw.Dot.enc_len Go.Fw.Dot.enc_one) (by first | omega | (simp only [List.length_append, List.length_cons, List.length_nil]; omega) | (simp; omega)) rfl rfl rfl ?_); clear S a w; intro A3 cap3 a w S; refine h_n1 S ?_)
      simp only [List.nil_append] at S
      (refine h_m (i := 13) rfl (by kernel_rfl) (op_extend _ S underlying33 underlying33 (.inr ⟨_, rfl⟩) inf74 rfl (k := 0) rfl (.t rfl) (.t rfl) (Src.sl (Sl.old S.wd h4) (by decide) Go.Fw.Dot.enc_len Go.Fw.Dot.enc_one) (by first | omega | (simp only [List.length_append, List.length_cons, List.length_nil]; omega) | (simp; omega)) rfl rfl rfl ?_); clear S a w; intro A4 cap4 a w S; refine h_n1 S ?_)
      (refine h_m (i := 14) rfl (by kernel_rfl) (op_calls S call145 (.cons (.t rfl) (.cons (.t rfl) .nil)) (c145 _ _ _ _ _ (by exact Sl.of_own S.wd (k := 1) rfl (fun _ => rfl)) (by exact Sl.of_own S.wd (k := 0) rfl (fun _ => rfl)) (by assumption) (by assumption)) rfl ?_); clear S a w; rintro _ _ ⟨A11, c11, A21, c21, rfl, rfl⟩ a w S; refine h_n1 S ?_)
      refine hy 15 S rfl (ys_ext (.t rfl) rfl) rfl fun a w S => hy 16 S rfl (ys_ext (.t rfl) rfl) rfl fun a w S => ?_
      (refine h_m0 (i := 17) rfl (by kernel_rfl) (op_stW S sizeOf35 (.t rfl) (.t rfl) (k := 4) rfl rfl rfl (by simp [Value.oneCell']) ?_); clear S a w; intro a w S; refine h_n1 S ?_)
      refine hy 18 S rfl (ys_assign (.t rfl)) rfl fun a w S => h_done (by kernel_rfl) (then_normal (hK1 _ _ (wp_ret (st_ret S (results2 S results75 (Rv.cell (k := 4) ⟨isAgg35, sizeOf35⟩ rfl rfl rfl) (Rv.tmp rfl)) ?_))))
      rotate_left
      (refine op_bslice0 S underlying33 sizeOf74 rfl ?_; clear S a w; intro g5 a w S; refine h_n1 S ?_)
      (refine h_m (i := 3) rfl (by kernel_rfl) (op_extend _ (S.nil_ 30 _ Go.Fw.Dot.enc _) underlying32 underlying32 (.inr ⟨_, rfl⟩) inf30 rfl (k := 0) rfl (.t rfl) (.t rfl) (Src.sl (Sl.old S.wd h1) (by decide) Go.Fw.Dot.enc_len Go.Fw.Dot.enc_one) (by first | omega | (simp only [List.length_append, List.length_cons, List.length_nil]; omega) | (simp; omega)) rfl rfl rfl ?_); clear S a w; intro A1 cap1 a w S; refine h_n1 S ?_)
      simp only [List.nil_append] at S
      (refine h_m (i := 6) rfl (by kernel_rfl) (op_extend _ S underlying32 underlying32 (.inr ⟨_, rfl⟩) inf30 rfl (k := 0) rfl (.t rfl) (.t rfl) (Src.sl (Sl.old S.wd h3) (by decide) Go.Fw.Dot.enc_len Go.Fw.Dot.enc_one) (by first | omega | (simp only [List.length_append, List.length_cons, List.length_nil]; omega) | (simp; omega)) rfl rfl rfl ?_); clear S a w; intro A2 cap2 a w S; refine h_n1 S ?_)
      (refine h_m (i := 10) rfl (by kernel_rfl) (op_extend _ (S.nil_ 74 _ Go.Fw.Dot.enc _) underlying33 underlying33 (.inr ⟨_, rfl⟩) inf74 rfl (k := 0) rfl (.t rfl) (.t rfl) (Src.sl (Sl.old S.wd h2) (by decide) Go.Fw.Dot.enc_len Go.Fw.Dot.enc_one) (by first | omega | (simp only [List.length_append, List.length_cons, List.length_nil]; omega) | (simp; omega)) rfl rfl rfl ?_); clear S a w; intro A3 cap3 a w S; refine h_n1 S ?_)
      simp only [List.nil_append] at S
      (refine h_m (i := 13) rfl (by kernel_rfl) (op_extend _ S underlying33 underlying33 (.inr ⟨_, rfl⟩) inf74 rfl (k := 0) rfl (.t rfl) (.t rfl) (Src.sl (Sl.old S.wd h4) (by decide) Go.Fw.Dot.enc_len Go.Fw.Dot.enc_one) (by first | omega | (simp only [List.length_append, List.length_cons, List.length_nil]; omega) | (simp; omega)) rfl rfl rfl ?_); clear S a w; intro A4 cap4 a w S; refine h_n1 S ?_)
      (refine h_m (i := 14) rfl (by kernel_rfl) (op_calls S call145 (.cons (.t rfl) (.cons (.t rfl) .nil)) (c145 _ _ _ _ _ (by exact Sl.of_own S.wd (k := 1) rfl (fun _ => rfl)) (by exact Sl.of_own S.wd (k := 0) rfl (fun _ => rfl)) (by assumption) (by assumption)) rfl ?_); clear S a w; rintro _ _ ⟨A11, c11, A21, c21, rfl, rfl⟩ a w S; refine h_n1 S ?_)
      refine hy 15 S rfl (ys_ext (.t rfl) rfl) rfl fun a w S => hy 16 S rfl (ys_ext (.t rfl) rfl) rfl fun a w S => ?_
      (refine h_m0 (i := 17) rfl (by kernel_rfl) (op_stW S sizeOf35 (.t rfl) (.t rfl) (k := 4) rfl rfl rfl (by simp [Value.oneCell']) ?_); clear S a w; intro a w S; refine h_n1 S ?_)
      refine hy 18 S rfl (ys_assign (.t rfl)) rfl fun a w S => h_done (by kernel_rfl) (then_normal (hK1 _ _ (wp_ret (st_ret S (results2 S results75 (Rv.cell (k := 4) ⟨isAgg35, sizeOf35⟩ rfl rfl rfl) (Rv.tmp rfl)) ?_))))
      rotate_left
      (refine op_bslice0 S underlying33 sizeOf74 rfl ?_; clear S a w; intro g4 a w S; refine h_n1 S ?_)
      (refine h_m (i := 0) rfl (by kernel_rfl) (op_bslice0 S underlying32 sizeOf30 rfl ?_); clear S a w; intro g5 a w S; refine h_n1 S ?_)
      (refine h_m (i := 3) rfl (by kernel_rfl) (op_extend _ (S.nil_ 30 _ Go.Fw.Dot.enc _) underlying32 underlying32 (.inr ⟨_, rfl⟩) inf30 rfl (k := 0) rfl (.t rfl) (.t rfl) (Src.sl (Sl.old S.wd h1) (by decide) Go.Fw.Dot.enc_len Go.Fw.Dot.enc_one) (by first | omega | (simp only [List.length_append, List.length_cons, List.length_nil]; omega) | (simp; omega)) rfl rfl rfl ?_); clear S a w; intro A1 cap1 a w S; refine h_n1 S ?_)
      simp only [List.nil_append] at S
      (refine h_m (i := 6) rfl (by kernel_rfl) (op_extend _ S underlying32 underlying32 (.inr ⟨_, rfl⟩) inf30 rfl (k := 0) rfl (.t rfl) (.t rfl) (Src.sl (Sl.old S.wd h3) (by decide) Go.Fw.Dot.enc_len Go.Fw.Dot.enc_one) (by first | omega | (simp only [List.length_append, List.length_cons, List.length_nil]; omega) | (simp; omega)) rfl rfl rfl ?_); clear S a w; intro A2 cap2 a w S; refine h_n1 S ?_)
      (refine h_m (i := 10) rfl (by kernel_rfl) (op_extend _ (S.nil_ 74 _ Go.Fw.Dot.enc _) underlying33 underlying33 (.inr ⟨_, rfl⟩) inf74 rfl (k := 0) rfl (.t rfl) (.t rfl) (Src.sl (Sl.old S.wd h2) (by decide) Go.Fw.Dot.enc_len Go.Fw.Dot.enc_one) (by first | omega | (simp only [List.length_append, List.length_cons, List.length_nil]; omega) | (simp; omega)) rfl rfl rfl ?_); clear S a w; intro A3 cap3 a w S; refine h_n1 S ?_)
      simp only [List.nil_append] at S
      (refine h_m (i := 13) rfl (by kernel_rfl) (op_extend _ S underlying33 underlying33 (.inr ⟨_, rfl⟩) inf74 rfl (k := 0) rfl (.t rfl) (.t rfl) (Src.sl (Sl.old S.wd h4) (by decide) Go.Fw.Dot.enc_len Go.Fw.Dot.enc_one) (by first | omega | (simp only [List.length_append, List.length_cons, List.length_nil]; omega) | (simp; omega)) rfl rfl rfl ?_); clear S a w; intro A4 cap4 a w S; refine h_n1 S ?_)
      (refine h_m (i := 14) rfl (by kernel_rfl) (op_calls S call145 (.cons (.t rfl) (.cons (.t rfl) .nil)) (c145 _ _ _ _ _ (by exact Sl.of_own S.wd (k := 1) rfl (fun _ => rfl)) (by exact Sl.of_own S.wd (k := 0) rfl (fun _ => rfl)) (by assumption) (by assumption)) rfl ?_); clear S a w; rintro _ _ ⟨A11, c11, A21, c21, rfl, rfl⟩ a w S; refine h_n1 S ?_)
      refine hy 15 S rfl (ys_ext (.t rfl) rfl) rfl fun a w S => hy 16 S rfl (ys_ext (.t rfl) rfl) rfl fun a w S => ?_
      (refine h_m0 (i := 17) rfl (by kernel_rfl) (op_stW S sizeOf35 (.t rfl) (.t rfl) (k := 4) rfl rfl rfl (by simp [Value.oneCell']) ?_); clear S a w; intro a w S; refine h_n1 S ?_)
      refine hy 18 S rfl (ys_assign (.t rfl)) rfl fun a w S => h_done (by kernel_rfl) (then_normal (hK1 _ _ (wp_ret (st_ret S (results2 S results75 (Rv.cell (k := 4) ⟨isAgg35, sizeOf35⟩ rfl rfl rfl) (Rv.tmp rfl)) ?_))))
      rotate_left
      all_goals rw [e]
      all_goals exact ⟨_, _, rfl, S.wd.sub (by repeat (first | exact List.Sublist.refl _ | exact List.nil_sublist _ | refine .cons_cons _ ?_ | refine .cons _ ?_)), _, _, _, _, rfl, rfl⟩
    · have hD : canL D = false := by simpa using hD
      have rw_c := hC
      have rw_d := hD
      unfold Go.Fw.Rets
      refine enter2 func75 rfl ntmps75 rfl fun a S => wp_seq_k fun _ hK1 => wp_region_lit (st_m (op_box S (.t rfl) rfl fun g1 a w S => st_m (op_box S (.t rfl) rfl fun g2 a w S => st_m (op_alloc S zeroValue35 (cs := _) rfl rfl fun g3 a w S => run S (.ac rfl <| .z) fun a w S => st_nil (then_normal (hK1 _ _ (wp_seq_k fun _ hK1 => wp_seq_k fun _ hK2 => wp_region_lit (run S (.la gt35 2 rfl rfl rfl <| .xx (ys_call call81 (.cons (.t rfl) .nil) (fun hp w W => c81 _ _ _ _ (by exact .old W (by assumption)))) rfl <| .z) fun a w S => ?_))))))))
      rw [rw_c] at S
      refine run S (.nt rfl <| .mv rfl <| .gy rfl rfl (ys_ldA ⟨isAgg35, sizeOf35⟩ (.t rfl) (k := 1) rfl rfl) <| .gx rfl rfl (ys_call call81 (.cons (.t rfl) .nil) (fun hp w W => c81 _ _ _ _ (by exact .old W (by assumption)))) <| .z) fun a w S => ?_
      rw [rw_d] at S
      refine run S (.gy rfl rfl (ys_not (.t rfl)) <| .yy (ys_pickF (.t rfl) (.t rfl)) rfl <| .z) fun a w S => st_nil (then_normal (hK2 _ _ (st_then S (.t rfl) (wp_seq_k fun _ hK2 => wp_region_lit (run S (.yy (ys_bld (ps := []) (us := [_, _]) bld35 .nil rfl) rfl <| .z) fun a w S => st_m (op_stW S sizeOf35 (.t rfl) (.t rfl) (k := 0) rfl rfl rfl (by simp [Value.oneCell']) fun a w S => run S (.ac rfl <| .z) fun a w S => st_nil (then_normal (hK2 _ _ (wp_ret (then_ret (st_ret S (results2 S results75 (Rv.cell (k := 0) ⟨isAgg35, sizeOf35⟩ rfl rfl rfl) (Rv.tmp rfl)) ?_)))))))))))
      have e : joinL C D = (⟨[], []⟩, 30) := by unfold joinL; rw [hC, hD]; rfl
      rw [e]
      exact ⟨_, _, rfl, ((S.nil_ 74 3 Dot.enc none).nil_ 30 3 Dot.enc none).wd.sub (by repeat (first | exact List.Sublist.refl _ | exact List.nil_sublist _ | refine .cons_cons _ ?_ | refine .cons _ ?_)), none, 0, none, 0, rfl, rfl⟩
  · have hC : canL C = false := by simpa using hC
    have rw_c := hC
    unfold Go.Fw.Rets
    refine enter2 func75 rfl ntmps75 rfl fun a S => wp_seq_k fun _ hK1 => wp_region_lit (st_m (op_box S (.t rfl) rfl fun g1 a w S => st_m (op_box S (.t rfl) rfl fun g2 a w S => st_m (op_alloc S zeroValue35 (cs := _) rfl rfl fun g3 a w S => run S (.ac rfl <| .z) fun a w S => st_nil (then_normal (hK1 _ _ (wp_seq_k fun _ hK1 => wp_seq_k fun _ hK2 => wp_region_lit (run S (.la gt35 2 rfl rfl rfl <| .xx (ys_call call81 (.cons (.t rfl) .nil) (fun hp w W => c81 _ _ _ _ (by exact .old W (by assumption)))) rfl <| .z) fun a w S => ?_))))))))
    rw [rw_c] at S
    refine run S (.nt rfl <| .mv rfl <| .sk rfl rfl rfl <| .sk rfl rfl rfl <| .sk rfl rfl rfl <| .yy (ys_pickT (.t rfl) Ev.c) rfl <| .z) fun a w S => st_nil (then_normal (hK2 _ _ (st_then S (.t rfl) (wp_seq_k fun _ hK2 => wp_region_lit (run S (.yy (ys_bld (ps := []) (us := [_, _]) bld35 .nil rfl) rfl <| .z) fun a w S => st_m (op_stW S sizeOf35 (.t rfl) (.t rfl) (k := 0) rfl rfl rfl (by simp [Value.oneCell']) fun a w S => run S (.ac rfl <| .z) fun a w S => st_nil (then_normal (hK2 _ _ (wp_ret (then_ret (st_ret S (results2 S results75 (Rv.cell (k := 0) ⟨isAgg35, sizeOf35⟩ rfl rfl rfl) (Rv.tmp rfl)) ?_)))))))))))
    have e : joinL C D = (⟨[], []⟩, 30) := by unfold joinL; rw [hC]; rfl
    rw [e]
    exact ⟨_, _, rfl, ((S.nil_ 74 3 Dot.enc none).nil_ 30 3 Dot.enc none).wd.sub (by repeat (first | exact List.Sublist.refl _ | exact List.nil_sublist _ | refine .cons_cons _ ?_ | refine .cons _ ?_)), none, 0, none, 0, rfl, rfl⟩
end Go.Proofs.YtakpdbmdfnialaaGreat
set_option linter.unusedVariables false
set_option linter.unusedSimpArgs false
set_option maxRecDepth 100000
set_option maxHeartbeats 4000000
namespace Go.Fw
theorem filter_yes {α : Type} {p : α → Bool} {l : List α} {k : Nat} {x : α} (h : l[k]? = some x) (hp : p x = true) : (l.take (k + 1)).filter p = (l.take k).filter p ++ [x] := by
  rw [List.take_add_one, h, Option.toList_some]
  simp [hp]
theorem filter_no {α : Type} {p : α → Bool} {l : List α} {k : Nat} {x : α} (h : l[k]? = some x) (hp : p x = false) : (l.take (k + 1)).filter p = (l.take k).filter p := by
  rw [List.take_add_one, h, Option.toList_some]
  simp [hp]
theorem filter_take {α : Type} (p : α → Bool) (l : List α) (k : Nat) : ((l.take k).filter p).length ≤ l.length := by
  have h1 := List.length_filter_le p (l.take k)
  have h2 : (l.take k).length ≤ l.length := by rw [List.length_take]; omega
  omega
def stayB (b : Cart) (x : Ent) : Bool := decide (x ∈ b.ents) || !b.ctx.covers x.dot
def newB (a : Cart) (x : Ent) : Bool := !a.ctx.covers x.dot
theorem stays_filter (a b : Cart) : staysE a b = a.ents.filter (stayB b) := rfl
end Go.Fw
namespace Go.Proofs.YtakpdbmdfnialaaGreat
open Go.Fw Go.Proofs Go.RowKit Go.Proofs.Tryz
end Go.Proofs.YtakpdbmdfnialaaGreat
set_option linter.unusedVariables false
set_option linter.unusedSimpArgs false
set_option maxRecDepth 100000
set_option maxHeartbeats 4000000
namespace Go.Fw
theorem cart_same {X Y : Cart} : (decide (X.ents = Y.ents) && decide (X.ctx = Y.ctx)) = decide (X = Y) := by
  cases X; cases Y; simp
theorem any_no {α : Type} {p : α → Bool} {l : List α} {k : Nat} {x : α} (h : l[k]? = some x) (hn : (l.take k).any p = false) (hp : p x = false) : (l.take (k + 1)).any p = false := by
  rw [List.take_add_one, h, Option.toList_some, List.any_append, hn]
  simp [hp]
theorem any_yes {α : Type} {p : α → Bool} {l : List α} {k : Nat} {x : α} (h : l[k]? = some x) (hp : p x = true) : l.any p = true := List.any_eq_true.2 ⟨x, List.mem_of_getElem? h, hp⟩
end Go.Fw
namespace Go.Proofs.YtakpdbmdfnialaaGreat
open Go.Fw Go.Proofs Go.RowKit Go.Proofs.Tryz
theorem c68 (w0 : World) (v1 v2 v3 : Value) (X : Cart) (p q : Int) (h : Sl Ent.enc 6 w0 w0.heap.size v1 X.ents) (hr : RdCtx w0 w0.heap.size v2 v3 X.ctx) (hl1 : X.ents.length ≤ 1048576) (hl2 : X.ctx.marks.length ≤ 1048576) (hl3 : X.ctx.cloud.length ≤ 1048576) :
    Rets Tryz.prog 68 #[.agg #[v1, v2, v3], .agg #[.int .i64 p, .int .i64 q]] w0 fun v L => ∃ A1 r1 A2 r2 A3 r3, v = .agg #[.slice A1 (pruneK X p q).ents.length r1, .slice A2 (pruneK X p q).ctx.marks.length r2, .slice A3 (pruneK X p q).ctx.cloud.length r3] ∧
      L = [rowOf 100 6 Ent.enc A1 r1 (pruneK X p q).ents, rowOf 30 3 Dot.enc A2 r2 (pruneK X p q).ctx.marks, rowOf 74 3 Dot.enc A3 r3 (pruneK X p q).ctx.cloud] := by
  have hs := h
  have hrr := hr
  obtain ⟨A, cap, rfl, hl, hcap, hA⟩ := h
  obtain ⟨⟨A2, cap2, rfl, _⟩, ⟨A3, cap3, rfl, _⟩⟩ := hr
  unfold Go.Fw.Rets
  refine enter2 func68 rfl ntmps68 rfl fun a S => wp_seq_k fun _ hK1 => wp_region_lit (st_m (op_box S (.t rfl) rfl fun g1 a w S => st_m (op_box S (.t rfl) rfl fun g2 a w S => st_m (op_alloc S zeroValue37 (cs := _) rfl rfl fun g3 a w S => st_nil (then_normal (hK1 _ _ (wp_seq_k fun _ hK1 => wp_region_lit (run S (.fa underlying37 sizeOf35 1 rfl rfl rfl <| .la gt35 2 rfl rfl rfl <| .la gt66 1 rfl rfl rfl <| .z) fun a w S => ?_))))))))
  (refine st_m (op_calls S call142 (.cons (.t rfl) (.cons (.t rfl) .nil)) (c142 _ _ _ _ _ _ (by exact .old S.wd (by assumption)) (by assumption) (by assumption)) rfl ?_); clear S a w; rintro _ _ ⟨A11, r11, A21, r21, rfl, rfl⟩ a w S)
  refine run S (.yy (ys_bld (ps := [(1, Go.Operand.tmp 11)]) (us := [_, _, _]) bld37 (.cons (.t rfl) .nil) rfl) rfl <| .z) fun a w S => st_m (op_alloc S zeroValue37 (cs := _) rfl rfl fun g4 a w S => st_m (op_stW S sizeOf37 (.t rfl) (.t rfl) (k := 0) rfl rfl rfl (by simp [Value.oneCell']) fun a w S => st_nil (then_normal (hK1 _ _ (wp_seq_k fun _ hK1 => sg S (.fa underlying37 sizeOf31 0 rfl rfl rfl <| .ld gt31 5 rfl rfl rfl <| .ln underlying31 rfl <| .mc rfl <| .z) fun a w S => wp_block ?_)))))
  refine st_lpM (S.nil_ 100 6 Ent.enc none) [16] (X := Nat × Option Addr × Nat) (fun t => [(16, true, .int .i64 (t.1 : Int))])
    (fun t => [rowOf 100 6 Ent.enc t.2.1 t.2.2 (keepE p q (X.ents.take t.1)), .blk g4 (.cells #[.slice t.2.1 (keepE p q (X.ents.take t.1)).length t.2.2, .slice A11 (keep p q X.ctx.marks).length r11, .slice A21 (keep p q X.ctx.cloud).length r21] 37), rowOf 74 3 Dot.enc A21 r21 (keep p q X.ctx.cloud), rowOf 30 3 Dot.enc A11 r11 (keep p q X.ctx.marks), .blk g3 (.cells #[.slice none 0 0, .slice none 0 0, .slice none 0 0] 37), .blk g2 (.cells #[.int .i64 p, .int .i64 q] 66), .blk g1 (.cells #[.slice A X.ents.length cap, .slice A2 X.ctx.marks.length cap2, .slice A3 X.ctx.cloud.length cap3] 37)])
    (fun t => t.1 ≤ X.ents.length) (fun t => X.ents.length - t.1) (0, none, 0) (Nat.zero_le _) ?_
  clear S
  rintro ⟨k, D, cD⟩ a w hk S
  dsimp only at hk S
  have hol : (keepE p q (X.ents.take k)).length ≤ X.ents.length := filter_take _ X.ents k
  by_cases hlt : k < X.ents.length
  · obtain ⟨g, o, x, rfl, hx, hd, hc⟩ := row_at hA hlt
    refine sg S (.lt (by omega) rfl rfl <| .z) fun a w S => wp_seq_k fun _ hK2 => st_then S (.t rfl) (wp_skip (then_normal (hK2 _ _ (wp_seq_k fun _ hK2 => wp_block (wp_seq_k fun _ hK3 => wp_region_lit (run S (.ix underlying31 sizeOf100 (by omega) rfl rfl <| .yy (ys_ldOA ⟨isAgg100, sizeOf100⟩ (.t rfl) (vs := [_, _, _, _, _, _]) rfl (fun _ => hc)) rfl <| .z) fun a w S => st_m (op_alloc S zeroValue100 (cs := _) rfl rfl fun g5 a w S => st_m (op_stW S sizeOf100 (.t rfl) (.t rfl) (k := 0) rfl rfl rfl (by simp [Value.oneCell']) fun a w S => st_nil (then_normal (hK3 _ _ (wp_seq_k fun _ hK3 => wp_region_lit (run S (.fa underlying100 sizeOf74 1 rfl rfl rfl <| .fa underlying74 sizeOf3 1 rfl rfl rfl <| .ld gt3 0 rfl rfl rfl <| .fa underlying66 sizeOf3 0 rfl rfl rfl <| .ld gt3 6 rfl rfl rfl <| .yy (ys_neq (.t rfl) (.t rfl)) rfl <| .mv rfl <| .z) fun a w S => st_yf S rfl rfl (Yr.ys (ys_fieldN (FieldT.mk underlying100 rfl sizeOf74 rfl) (.t rfl) (i' := 1) rfl)) rfl fun a w S => st_yf S rfl rfl (Yr.ys (ys_fieldN (FieldT.mk underlying74 rfl sizeOf3 rfl) (Ev.g rfl) (i' := 2) rfl)) rfl fun a w S => st_yf S rfl rfl (Yr.ys (ys_ld ⟨isAgg3, sizeOf3⟩ (Ev.g rfl) (k := 0) rfl rfl)) rfl fun a w S => ?_))))))))))))
    refine st_yf S rfl rfl (Yr.ys (ys_fieldN (FieldT.mk underlying66 rfl sizeOf3 rfl) (.t rfl) (i' := 1) rfl)) rfl fun a w S => st_yf S rfl rfl (Yr.ys (ys_ld ⟨isAgg3, sizeOf3⟩ (Ev.g rfl) (k := 6) rfl rfl)) rfl fun a w S => st_yf S rfl rfl (Yr.ys (ys_neq (Ev.g rfl) (Ev.g rfl))) rfl fun a w S => run S (.yy (ys_or (.t rfl) Ev.c (Ev.g rfl)) rfl <| .z) fun a w S => st_nil (then_normal (hK3 _ _ ?_))
    refine st_cond S (.t rfl) (fun h1 => ?_) (fun h1 => ?_)
    refine wp_region_lit (run S (.fa underlying37 sizeOf31 0 rfl rfl rfl <| .ld gt31 2 rfl rfl rfl <| .la gt100 0 rfl rfl rfl <| .z) fun a w S => st_m (op_bslice1 S underlying31 inf100 rfl rfl rfl (.t rfl) rfl rfl rfl fun g6 a w S => st_m (op_push S underlying31 inf100 rfl (k := 2) (j := 0) rfl (.t rfl) (.t rfl) rfl rfl rfl rfl (by first | omega | (simp only [List.length_append, List.length_cons, List.length_nil]; omega)) rfl rfl rfl fun A1 cap1 a w S => run S (.fa underlying37 sizeOf31 0 rfl rfl rfl <| .z) fun a w S => st_m (op_st S sizeOf31 (.t rfl) (.t rfl) (k := 3) rfl rfl (by simp) fun a w S => st_nil (in_normal (then_normal (hK2 _ _ (wp_region_lit (run S (.ad (by unfold I64; omega) rfl <| .mv rfl <| .z) fun a w S => st_nil (then_normal ?_))))))))))
    rotate_left
    refine wp_skip (in_normal (then_normal (hK2 _ _ (wp_region_lit (run S (.ad (by unfold I64; omega) rfl <| .mv rfl <| .z) fun a w S => st_nil (then_normal ?_))))))
    rotate_left
    · have hst : keepE p q (X.ents.take (k + 1)) = keepE p q (X.ents.take k) ++ [x] := filter_yes hx (by simp at h1 ⊢; omega)
      exact ⟨(k + 1, A1, cap1), by dsimp only; omega, by dsimp only; omega, by dsimp only; rw [hst]; exact S.pk⟩
    · have hst : keepE p q (X.ents.take (k + 1)) = keepE p q (X.ents.take k) := filter_no hx (by simp at h1 ⊢; omega)
      exact ⟨(k + 1, D, cD), by dsimp only; omega, by dsimp only; omega, by dsimp only; rw [hst]; exact S.pk⟩
  obtain rfl : k = X.ents.length := by omega
  rw [List.take_length] at S
  refine sg S (.ge (by omega) rfl rfl <| .z) fun a w S => wp_seq_k fun _ hK2 => st_else S (.t rfl) (wp_exit (then_exit (then_exit (in_here (then_normal (hK1 _ _ (wp_seq_k fun _ hK1 => wp_region_lit (run S (.la gt37 1 rfl rfl rfl <| .z) fun a w S => st_m (op_stW S sizeOf37 (.t rfl) (.t rfl) (k := 4) rfl rfl rfl (by simp [Value.oneCell']) fun a w S => st_nil (then_normal (hK1 _ _ (wp_ret (st_ret S (results1 S results68 (Rv.cell (k := 4) ⟨isAgg37, sizeOf37⟩ rfl rfl rfl)) ?_)))))))))))))
  exact ⟨_, _, rfl, S.wd.pk, _, _, _, _, _, _, rfl, rfl⟩
theorem c16 (w0 : World) (v1 v2 v3 : Value) (X : Cart) (h : Sl Ent.enc 6 w0 w0.heap.size v1 X.ents) (hr : RdCtx w0 w0.heap.size v2 v3 X.ctx) (hl1 : X.ents.length ≤ 1048576) (hl2 : X.ctx.marks.length ≤ 1048576) (hl3 : X.ctx.cloud.length ≤ 1048576) :
    Rets Tryz.prog 16 #[.agg #[v1, v2, v3]] w0 fun v L => ∃ A1 r1 A2 r2 A3 r3, v = .agg #[.slice A1 X.ents.length r1, .slice A2 X.ctx.marks.length r2, .slice A3 X.ctx.cloud.length r3] ∧
      L = [rowOf 100 6 Ent.enc A1 r1 X.ents, rowOf 30 3 Dot.enc A2 r2 X.ctx.marks, rowOf 74 3 Dot.enc A3 r3 X.ctx.cloud] := by
  have hs := h
  have hrr := hr
  obtain ⟨A, cap, rfl, hl, hcap, hA⟩ := h
  obtain ⟨⟨A2, cap2, rfl, _⟩, ⟨A3, cap3, rfl, _⟩⟩ := hr
  unfold Go.Fw.Rets
  refine enter1 func16 rfl ntmps16 rfl fun a S => wp_seq_k fun _ hK1 => wp_region_lit (st_m (op_box S (.t rfl) rfl fun g1 a w S => st_m (op_alloc S zeroValue37 (cs := _) rfl rfl fun g2 a w S => st_nil (then_normal (hK1 _ _ (wp_seq_k fun _ hK1 => h_beginE S (by kernel_rfl) 0 fun a w S => hy 0 S rfl (ys_fieldN (FieldT.mk underlying37 rfl sizeOf31 rfl) (.t rfl) (i' := 0) rfl) rfl fun a w S => hy 1 S rfl (ys_ld ⟨isAgg31, sizeOf31⟩ (.t rfl) (k := 0) rfl rfl) rfl fun a w S => hy 3 S rfl (ys_fieldN (FieldT.mk underlying37 rfl sizeOf35 rfl) (.t rfl) (i' := 1) rfl) rfl fun a w S => ?_))))))
  refine hy 4 S rfl (ys_ldA ⟨isAgg35, sizeOf35⟩ (.t rfl) (k := 0) rfl rfl) rfl fun a w S => ?_
  (refine h_m (i := 2) rfl (by kernel_rfl) (op_calls S call64 (.cons (.t rfl) .nil) (c64 _ _ _ (by exact .old S.wd (by assumption)) (by omega)) rfl ?_); clear S a w; rintro _ _ ⟨A1, c1, rfl, rfl⟩ a w S; refine h_n1 S ?_)
  (refine h_m (i := 5) rfl (by kernel_rfl) (op_calls S call65 (.cons (.t rfl) .nil) (c65 _ _ _ _ (by exact .old S.wd (by assumption)) (by assumption) (by assumption)) rfl ?_); clear S a w; rintro _ _ ⟨A11, r11, A21, r21, rfl, rfl⟩ a w S; refine h_n1 S ?_)
  refine hy 6 S rfl (ys_bld (ps := [(0, Go.Operand.tmp 5), (1, Go.Operand.tmp 8)]) (us := [_, _, _]) bld37 (.cons (.t rfl) (.cons (.t rfl) .nil)) rfl) rfl fun a w S => ?_
  (refine h_m0 (i := 7) rfl (by kernel_rfl) (op_stW S sizeOf37 (.t rfl) (.t rfl) (k := 3) rfl rfl rfl (by simp [Value.oneCell']) ?_); clear S a w; intro a w S; refine h_n1 S ?_)
  refine h_done (by kernel_rfl) (then_normal (hK1 _ _ (wp_ret (st_ret S (results1 S results16 (Rv.cell (k := 3) ⟨isAgg37, sizeOf37⟩ rfl rfl rfl)) ?_))))
  exact ⟨_, _, rfl, S.wd.pk, _, _, _, _, _, _, rfl, rfl⟩
theorem c19 (w0 : World) (v1 v2 v3 v4 v5 v6 : Value) (X Y : Cart) (h : Sl Ent.enc 6 w0 w0.heap.size v1 X.ents) (hr : RdCtx w0 w0.heap.size v2 v3 X.ctx) (h' : Sl Ent.enc 6 w0 w0.heap.size v4 Y.ents) (hr' : RdCtx w0 w0.heap.size v5 v6 Y.ctx) :
    Calls Tryz.prog 19 #[.agg #[v1, v2, v3], .agg #[v4, v5, v6]] w0 fun e w' => e = .returned (.bool (decide (X = Y))) ∧ Bel w0.heap.size w0 w' := by
  have hs := h
  have hrr := hr
  have hs' := h'
  have hrr' := hr'
  obtain ⟨A, cap, rfl, hl, hcap, hA⟩ := h
  obtain ⟨⟨A2, cap2, rfl, _⟩, ⟨A3, cap3, rfl, _⟩⟩ := hr
  obtain ⟨B, capB, rfl, hlB, hcapB, hB⟩ := h'
  obtain ⟨⟨B2, capB2, rfl, _⟩, ⟨B3, capB3, rfl, _⟩⟩ := hr'
  refine enter2 func19 rfl ntmps19 rfl fun a S => wp_seq_k fun _ hK1 => wp_region_lit (st_m (op_box S (.t rfl) rfl fun g1 a w S => st_m (op_box S (.t rfl) rfl fun g2 a w S => run S (.ac rfl <| .z) fun a w S => st_nil (then_normal (hK1 _ _ (wp_seq_k fun _ hK1 => wp_region_lit (run S (.fa underlying37 sizeOf31 0 rfl rfl rfl <| .ld gt31 1 rfl rfl rfl <| .fa underlying37 sizeOf31 0 rfl rfl rfl <| .ld gt31 0 rfl rfl rfl <| .xx (ys_call call71 (.cons (.t rfl) (.cons (.t rfl) .nil)) (fun hp w W => c71 _ _ _ _ _ (by exact .old W (by assumption)) (by exact .old W (by assumption)))) rfl <| .mv rfl <| .z) fun a w S => st_yg S rfl rfl (Yr.ys (ys_fieldN (FieldT.mk underlying37 rfl sizeOf35 rfl) (.t rfl) (i' := 1) rfl)) rfl fun a w S => st_yg S rfl rfl (Yr.ys (ys_ldA ⟨isAgg35, sizeOf35⟩ (Ev.g rfl) (k := 1) rfl rfl)) rfl fun a w S => st_yg S rfl rfl (Yr.ys (ys_fieldN (FieldT.mk underlying37 rfl sizeOf35 rfl) (.t rfl) (i' := 1) rfl)) rfl fun a w S => st_yg S rfl rfl (Yr.ys (ys_ldA ⟨isAgg35, sizeOf35⟩ (Ev.g rfl) (k := 0) rfl rfl)) rfl fun a w S => st_yg S rfl rfl (ys_call call72 (.cons (Ev.g rfl) (.cons (Ev.g rfl) .nil)) (fun hp w W => c72 _ _ _ _ _ _ _ (by exact .old W (by assumption)) (by exact .old W (by assumption)))) rfl fun a w S => run S (.yy (ys_and (.t rfl) (Ev.g rfl) Ev.c) rfl <| .as rfl <| .z) fun a w S => st_nil (then_normal (hK1 _ _ (wp_ret ?_))))))))))
  refine st_ret S (results1 S results19 (Rv.tmp rfl)) ?_
  exact ⟨by rw [cart_same], S.wd.below⟩
theorem c95 (w0 : World) (v1 v2 v3 v4 v5 v6 : Value) (X Y : Cart) (h : Sl Ent.enc 6 w0 w0.heap.size v1 X.ents) (hr : RdCtx w0 w0.heap.size v2 v3 X.ctx) (h' : Sl Ent.enc 6 w0 w0.heap.size v4 Y.ents) (hr' : RdCtx w0 w0.heap.size v5 v6 Y.ctx) :
    Calls Tryz.prog 95 #[.agg #[v1, v2, v3], .agg #[v4, v5, v6]] w0 fun e w' => e = .returned (.bool (decide (X = Y))) ∧ Bel w0.heap.size w0 w' := by
  have hs := h
  have hrr := hr
  have hs' := h'
  have hrr' := hr'
  obtain ⟨A, cap, rfl, hl, hcap, hA⟩ := h
  obtain ⟨⟨A2, cap2, rfl, _⟩, ⟨A3, cap3, rfl, _⟩⟩ := hr
  obtain ⟨B, capB, rfl, hlB, hcapB, hB⟩ := h'
  obtain ⟨⟨B2, capB2, rfl, _⟩, ⟨B3, capB3, rfl, _⟩⟩ := hr'
  obtain ⟨q1, q2⟩ := hrr
  obtain ⟨q3, q4⟩ := hrr'
  by_cases h1 : X.ents = Y.ents
  · have rw_1 := decide_eq_true h1
    by_cases h2 : X.ctx.marks = Y.ctx.marks
    · have rw_2 := decide_eq_true h2
      refine enter2 func95 rfl ntmps95 rfl fun a S => wp_seq_k fun _ hK1 => wp_region_lit (st_m (op_box S (.t rfl) rfl fun g1 a w S => st_m (op_box S (.t rfl) rfl fun g2 a w S => run S (.ac rfl <| .z) fun a w S => st_nil (then_normal (hK1 _ _ (wp_seq_k fun _ hK1 => wp_region_lit (run S (.fa underlying37 sizeOf31 0 rfl rfl rfl <| .ld gt31 1 rfl rfl rfl <| .fa underlying37 sizeOf31 0 rfl rfl rfl <| .ld gt31 0 rfl rfl rfl <| .xx (ys_call call71 (.cons (.t rfl) (.cons (.t rfl) .nil)) (fun hp w W => c71 _ _ _ _ _ (by exact .old W (by assumption)) (by exact .old W (by assumption)))) rfl <| .z) fun a w S => ?_)))))))
      rw [rw_1] at S
      refine run S (.mv rfl <| .gy rfl rfl (ys_fieldN (FieldT.mk underlying37 rfl sizeOf35 rfl) (.t rfl) (i' := 1) rfl) <| .gy rfl rfl (ys_fieldN (FieldT.mk underlying35 rfl sizeOf32 rfl) (.t rfl) (i' := 1) rfl) <| .gy rfl rfl (ys_ld ⟨isAgg32, sizeOf32⟩ (.t rfl) (k := 1) rfl rfl) <| .gy rfl rfl (ys_fieldN (FieldT.mk underlying37 rfl sizeOf35 rfl) (.t rfl) (i' := 1) rfl) <| .gy rfl rfl (ys_fieldN (FieldT.mk underlying35 rfl sizeOf32 rfl) (.t rfl) (i' := 1) rfl) <| .gy rfl rfl (ys_ld ⟨isAgg32, sizeOf32⟩ (.t rfl) (k := 0) rfl rfl) <| .gx rfl rfl (ys_call call23 (.cons (.t rfl) (.cons (.t rfl) .nil)) (fun hp w W => c23 _ _ _ _ _ (by exact .old W (by assumption)) (by exact .old W (by assumption)))) <| .z) fun a w S => ?_
      rw [rw_2] at S
      refine run S (.yy (ys_pickT (.t rfl) (.t rfl)) rfl <| .mv rfl <| .gy rfl rfl (ys_fieldN (FieldT.mk underlying37 rfl sizeOf35 rfl) (.t rfl) (i' := 1) rfl) <| .gy rfl rfl (ys_fieldN (FieldT.mk underlying35 rfl sizeOf33 rfl) (.t rfl) (i' := 2) rfl) <| .gy rfl rfl (ys_ld ⟨isAgg33, sizeOf33⟩ (.t rfl) (k := 1) rfl rfl) <| .gy rfl rfl (ys_fieldN (FieldT.mk underlying37 rfl sizeOf35 rfl) (.t rfl) (i' := 1) rfl) <| .gy rfl rfl (ys_fieldN (FieldT.mk underlying35 rfl sizeOf33 rfl) (.t rfl) (i' := 2) rfl) <| .gy rfl rfl (ys_ld ⟨isAgg33, sizeOf33⟩ (.t rfl) (k := 0) rfl rfl) <| .gx rfl rfl (ys_call call46 (.cons (.t rfl) (.cons (.t rfl) .nil)) (fun hp w W => c46 _ _ _ _ _ (by exact .old W (by assumption)) (by exact .old W (by assumption)))) <| .yy (ys_pickT (.t rfl) (.t rfl)) rfl <| .as rfl <| .z) fun a w S => st_nil (then_normal (hK1 _ _ (wp_ret (st_ret S (results1 S results95 (Rv.tmp rfl)) ?_))))
      refine ⟨?_, S.wd.below⟩
      have e : decide (X.ctx.cloud = Y.ctx.cloud) = decide (X = Y) := by
        obtain ⟨l, ⟨m, c⟩⟩ := X
        obtain ⟨l', ⟨m', c'⟩⟩ := Y
        dsimp only at h1 h2
        subst h1 h2
        simp
      rw [e]
    · have rw_2 := decide_eq_false h2
      refine enter2 func95 rfl ntmps95 rfl fun a S => wp_seq_k fun _ hK1 => wp_region_lit (st_m (op_box S (.t rfl) rfl fun g1 a w S => st_m (op_box S (.t rfl) rfl fun g2 a w S => run S (.ac rfl <| .z) fun a w S => st_nil (then_normal (hK1 _ _ (wp_seq_k fun _ hK1 => wp_region_lit (run S (.fa underlying37 sizeOf31 0 rfl rfl rfl <| .ld gt31 1 rfl rfl rfl <| .fa underlying37 sizeOf31 0 rfl rfl rfl <| .ld gt31 0 rfl rfl rfl <| .xx (ys_call call71 (.cons (.t rfl) (.cons (.t rfl) .nil)) (fun hp w W => c71 _ _ _ _ _ (by exact .old W (by assumption)) (by exact .old W (by assumption)))) rfl <| .z) fun a w S => ?_)))))))
      rw [rw_1] at S
      refine run S (.mv rfl <| .gy rfl rfl (ys_fieldN (FieldT.mk underlying37 rfl sizeOf35 rfl) (.t rfl) (i' := 1) rfl) <| .gy rfl rfl (ys_fieldN (FieldT.mk underlying35 rfl sizeOf32 rfl) (.t rfl) (i' := 1) rfl) <| .gy rfl rfl (ys_ld ⟨isAgg32, sizeOf32⟩ (.t rfl) (k := 1) rfl rfl) <| .gy rfl rfl (ys_fieldN (FieldT.mk underlying37 rfl sizeOf35 rfl) (.t rfl) (i' := 1) rfl) <| .gy rfl rfl (ys_fieldN (FieldT.mk underlying35 rfl sizeOf32 rfl) (.t rfl) (i' := 1) rfl) <| .gy rfl rfl (ys_ld ⟨isAgg32, sizeOf32⟩ (.t rfl) (k := 0) rfl rfl) <| .gx rfl rfl (ys_call call23 (.cons (.t rfl) (.cons (.t rfl) .nil)) (fun hp w W => c23 _ _ _ _ _ (by exact .old W (by assumption)) (by exact .old W (by assumption)))) <| .z) fun a w S => ?_
      rw [rw_2] at S
      refine run S (.yy (ys_pickT (.t rfl) (.t rfl)) rfl <| .mv rfl <| .sk rfl rfl rfl <| .sk rfl rfl rfl <| .sk rfl rfl rfl <| .sk rfl rfl rfl <| .sk rfl rfl rfl <| .sk rfl rfl rfl <| .sk rfl rfl rfl <| .yy (ys_pickF (.t rfl) Ev.c) rfl <| .as rfl <| .z) fun a w S => st_nil (then_normal (hK1 _ _ (wp_ret (st_ret S (results1 S results95 (Rv.tmp rfl)) ?_))))
      exact ⟨by rw [decide_eq_false (fun h => h2 (by rw [h]))], S.wd.below⟩
  · have rw_1 := decide_eq_false h1
    refine enter2 func95 rfl ntmps95 rfl fun a S => wp_seq_k fun _ hK1 => wp_region_lit (st_m (op_box S (.t rfl) rfl fun g1 a w S => st_m (op_box S (.t rfl) rfl fun g2 a w S => run S (.ac rfl <| .z) fun a w S => st_nil (then_normal (hK1 _ _ (wp_seq_k fun _ hK1 => wp_region_lit (run S (.fa underlying37 sizeOf31 0 rfl rfl rfl <| .ld gt31 1 rfl rfl rfl <| .fa underlying37 sizeOf31 0 rfl rfl rfl <| .ld gt31 0 rfl rfl rfl <| .xx (ys_call call71 (.cons (.t rfl) (.cons (.t rfl) .nil)) (fun hp w W => c71 _ _ _ _ _ (by exact .old W (by assumption)) (by exact .old W (by assumption)))) rfl <| .z) fun a w S => ?_)))))))
    rw [rw_1] at S
    refine run S (.mv rfl <| .sk rfl rfl rfl <| .sk rfl rfl rfl <| .sk rfl rfl rfl <| .sk rfl rfl rfl <| .sk rfl rfl rfl <| .sk rfl rfl rfl <| .sk rfl rfl rfl <| .yy (ys_pickF (.t rfl) Ev.c) rfl <| .mv rfl <| .sk rfl rfl rfl <| .sk rfl rfl rfl <| .sk rfl rfl rfl <| .sk rfl rfl rfl <| .sk rfl rfl rfl <| .sk rfl rfl rfl <| .sk rfl rfl rfl <| .yy (ys_pickF (.t rfl) Ev.c) rfl <| .as rfl <| .z) fun a w S => st_nil (then_normal (hK1 _ _ (wp_ret (st_ret S (results1 S results95 (Rv.tmp rfl)) ?_))))
    exact ⟨by rw [decide_eq_false (fun h => h1 (by rw [h]))], S.wd.below⟩
end Go.Proofs.YtakpdbmdfnialaaGreat
set_option linter.unusedVariables false
set_option linter.unusedSimpArgs false
set_option maxRecDepth 100000
set_option maxHeartbeats 4000000
namespace Go.Fw
theorem over_no {ms : List Dot} {C : Ctx} {i : Nat} {m : Dot} (h : ms[i]? = some m) (hn : (ms.take i).any (overG C) = false) (hm : ¬ m.count < C.top m.node m.life) : (ms.take (i + 1)).any (overG C) = false :=
  any_no h hn (decide_eq_false hm)
theorem over_yes {ms : List Dot} {C : Ctx} {i : Nat} {m : Dot} (h : ms[i]? = some m) (hm : m.count < C.top m.node m.life) : ms.any (overG C) = true := any_yes h (decide_eq_true hm)
theorem pruneL_snoc {ms : List Dot} {c : Cart} {i : Nat} {m : Dot} (h : ms[i]? = some m) : pruneL (ms.take (i + 1)) c = pruneK (pruneL (ms.take i) c) m.node m.life := by
  unfold pruneL
  rw [List.take_add_one, h, Option.toList_some, List.foldl_append]
  rfl
theorem cart_len3 {c : Cart} (h : CartOk c) : c.ents.length ≤ 64 ∧ c.ctx.marks.length ≤ 64 ∧ c.ctx.cloud.length ≤ 64 := ⟨h.len, (can_len h.ctx).1, (can_len h.ctx).2⟩
end Go.Fw
namespace Go.Proofs.YtakpdbmdfnialaaGreat
open Go.Fw Go.Proofs Go.RowKit Go.Proofs.Tryz
theorem c17 (w0 : World) (g : Nat) (v : Value) (l : List Gon) (k : List UInt8) (v1 v2 v3 : Value) (X : Cart) (h0 : w0.cell? ⟨g, 0, none⟩ = some (.bool true)) (h1 : w0.cell? ⟨g, 1, none⟩ = some v) (h : Sl Gon.enc 4 w0 w0.heap.size v l) (hn : l.length ≤ 4194304)
    (hs : Sl Ent.enc 6 w0 w0.heap.size v1 X.ents) (hr : RdCtx w0 w0.heap.size v2 v3 X.ctx) :
    Rets Tryz.prog 17 #[.pointer (some ⟨g, 0, none⟩), .string (bs k), .agg #[v1, v2, v3]] w0 fun v L => ∃ A1 r1 A2 r2 A3 r3, v = .tuple #[.agg #[.slice A1 (cleanG (marksG l k) X).1.ents.length r1, .slice A2 (cleanG (marksG l k) X).1.ctx.marks.length r2, .slice A3 (cleanG (marksG l k) X).1.ctx.cloud.length r3], .int .i64 (cleanG (marksG l k) X).2] ∧
      L = [rowOf 100 6 Ent.enc A1 r1 (cleanG (marksG l k) X).1.ents, rowOf 30 3 Dot.enc A2 r2 (cleanG (marksG l k) X).1.ctx.marks, rowOf 74 3 Dot.enc A3 r3 (cleanG (marksG l k) X).1.ctx.cloud] := by
  have hss := hs
  have hrr := hr
  obtain ⟨A, cap, rfl, hl, hcap, hA⟩ := hs
  obtain ⟨⟨A2, cap2, rfl, _⟩, ⟨A3, cap3, rfl, _⟩⟩ := hr
  have hml := marksG_len l k
  by_cases hc : canE X = 0
  rotate_left
  · have rw_c : decide (canE X = 0) = false := decide_eq_false hc
    have e : cleanG (marksG l k) X = (Cart.zero, canE X) := by unfold cleanG; rw [if_neg hc]
    unfold Go.Fw.Rets
    refine enter3 func17 rfl ntmps17 rfl fun a S => wp_seq_k fun _ hK1 => wp_region_lit (st_m (op_box S (.t rfl) rfl fun g1 a w S => st_m (op_alloc S zeroValue37 (cs := _) rfl rfl fun g2 a w S => run S (.ac rfl <| .z) fun a w S => st_nil (then_normal (hK1 _ _ (wp_seq_k fun _ hK1 => sg S (.mv rfl <| .xx (ys_call call55 (.cons (.t rfl) .nil) (fun hp w W => c55 _ _ _ (by exact Wd.cellOld W (by assumption)))) rfl <| .nt rfl <| .z) fun a w S => st_else S (.t rfl) (wp_skip (then_normal (hK1 _ _ (wp_seq_k fun _ hK1 => sg S (.la gt37 1 rfl rfl rfl <| .xx (ys_call call66 (.cons (.t rfl) .nil) (fun hp w W => c66 _ _ _ _ _ (by exact .old W (by assumption)) (by exact .old W (by assumption)))) rfl <| .as rfl <| .z) fun a w S => sg S (.mv rfl <| .yy (ys_T (by omega) (ys_neq (.t rfl) Ev.c)) rfl <| .z) fun a w S => st_then S (.t rfl) (wp_seq_k fun _ hK2 => wp_region_lit (run S (.yy (ys_bld (ps := []) (us := [_, _, _]) bld37 .nil rfl) rfl <| .mv rfl <| .z) fun a w S => st_m (op_stW S sizeOf37 (.t rfl) (.t rfl) (k := 0) rfl rfl rfl (by simp [Value.oneCell']) fun a w S => run S (.as rfl <| .z) fun a w S => st_nil (then_normal (hK2 _ _ (wp_ret (then_ret ?_)))))))))))))))))
    refine st_ret S (results2 S results17 (Rv.cell (k := 0) ⟨isAgg37, sizeOf37⟩ rfl rfl rfl) (Rv.tmp rfl)) ?_
    rw [e]
    exact ⟨_, _, rfl, (((S.nil_ 74 3 Dot.enc none).nil_ 30 3 Dot.enc none).nil_ 100 6 Ent.enc none).wd.sub (by repeat (first | exact List.Sublist.refl _ | exact List.nil_sublist _ | refine .cons_cons _ ?_ | refine .cons _ ?_)), none, 0, none, 0, none, 0, rfl, rfl⟩
  have hX := (canE_ok X).1 hc
  have rw_c := hc
  unfold Go.Fw.Rets
  refine enter3 func17 rfl ntmps17 rfl fun a S => wp_seq_k fun _ hK1 => wp_region_lit (st_m (op_box S (.t rfl) rfl fun g1 a w S => st_m (op_alloc S zeroValue37 (cs := _) rfl rfl fun g2 a w S => run S (.ac rfl <| .z) fun a w S => st_nil (then_normal (hK1 _ _ (wp_seq_k fun _ hK1 => sg S (.mv rfl <| .xx (ys_call call55 (.cons (.t rfl) .nil) (fun hp w W => c55 _ _ _ (by exact Wd.cellOld W (by assumption)))) rfl <| .nt rfl <| .z) fun a w S => st_else S (.t rfl) (wp_skip (then_normal (hK1 _ _ (wp_seq_k fun _ hK1 => wp_seq_k fun _ hK2 => wp_region_lit (run S (.la gt37 1 rfl rfl rfl <| .xx (ys_call call66 (.cons (.t rfl) .nil) (fun hp w W => c66 _ _ _ _ _ (by exact .old W (by assumption)) (by exact .old W (by assumption)))) rfl <| .z) fun a w S => ?_)))))))))))
  rw [rw_c] at S
  refine run S (.as rfl <| .z) fun a w S => st_nil (then_normal (hK2 _ _ (sg S (.mv rfl <| .yy (ys_F (by omega) (ys_neq (.t rfl) Ev.c)) rfl <| .z) fun a w S => st_else S (.t rfl) (wp_skip (then_normal (hK1 _ _ (wp_seq_k fun _ hK1 => wp_region_lit (run S (.mv rfl <| .mv rfl <| .z) fun a w S => ?_))))))))
  (refine st_m (op_calls S call21 (.cons (.t rfl) (.cons (.t rfl) .nil)) (c21 _ _ _ _ _ (by exact Wd.cellOld S.wd (by assumption)) (by exact Wd.cellOld S.wd (by assumption)) (by exact .old S.wd (by assumption)) (by assumption)) rfl ?_); clear S a w; rintro _ _ ⟨A1, c1, rfl, rfl⟩ a w S)
  refine run S (.as rfl <| .z) fun a w S => st_nil (then_normal (hK1 _ _ (wp_seq_k fun _ hK1 => sg S (.mv rfl <| .ln underlying32 rfl <| .mc rfl <| .z) fun a w S => wp_block ?_)))
  generalize marksG l k = ms at *
  refine st_lpM S [7, 29] (X := Nat) (fun i => [(7, true, .int .i64 0), (29, true, .int .i64 (i : Int))]) (fun _ => [rowOf 30 3 Dot.enc A1 c1 ms, .blk g2 (.cells #[.slice none 0 0, .slice none 0 0, .slice none 0 0] 37), .blk g1 (.cells #[.slice A X.ents.length cap, .slice A2 X.ctx.marks.length cap2, .slice A3 X.ctx.cloud.length cap3] 37)]) (fun i => i ≤ ms.length ∧ (ms.take i).any (overG X.ctx) = false) (fun i => ms.length - i) 0 ⟨Nat.zero_le _, by simp⟩ ?_
  clear S
  rintro i a w ⟨hi, hno⟩ S
  by_cases hlt : i < ms.length
  · obtain ⟨ga, rfl⟩ := S.wd.row_at (k := 0) rfl (by have := (S.wd.room (k := 0) rfl).1; omega)
    obtain ⟨m, hm⟩ : ∃ m, ms[i]? = some m := ⟨ms[i], List.getElem?_eq_getElem hlt⟩
    by_cases ho : m.count < X.ctx.top m.node m.life
    · have e : cleanG ms X = (Cart.zero, 50) := by unfold cleanG; rw [if_pos hc, if_pos (over_yes hm ho)]
      have rw_o := decide_eq_true ho
      refine sg S (.lt (by omega) rfl rfl <| .z) fun a w S => wp_seq_k fun _ hK2 => st_then S (.t rfl) (wp_skip (then_normal (hK2 _ _ (wp_seq_k fun _ hK2 => wp_block (wp_seq_k fun _ hK3 => wp_region_lit (run S (.ix underlying32 sizeOf30 (by omega) rfl rfl <| .yy (ys_ldWA ⟨isAgg30, sizeOf30⟩ (.t rfl) (k := 0) rfl hm (fun _ => rfl)) rfl <| .z) fun a w S => st_m (op_alloc S zeroValue30 (cs := _) rfl rfl fun g3 a w S => st_m (op_stW S sizeOf30 (.t rfl) (.t rfl) (k := 0) rfl rfl rfl (by simp [Value.oneCell']) fun a w S => st_nil (then_normal (hK3 _ _ (wp_seq_k fun _ hK3 => st_quiet S (by kernel_rfl) (by kernel_rfl) fun a S => qrun S (.fa underlying37 sizeOf35 1 rfl rfl rfl <| .la gt35 3 rfl rfl rfl <| .fa underlying30 sizeOf3 0 rfl rfl rfl <| .ld gt3 0 rfl rfl rfl <| .fa underlying30 sizeOf3 1 rfl rfl rfl <| .ld gt3 0 rfl rfl rfl <| .yy (ys_bld (ps := [(0, Go.Operand.tmp 36), (1, Go.Operand.tmp 38)]) (us := [_, _]) bld66 (.cons (.t rfl) (.cons (.t rfl) .nil)) rfl) rfl <| .xx (ys_call call67 (.cons (.t rfl) (.cons (.t rfl) .nil)) (fun hp w W => c67 _ _ _ _ _ _ (by exact .old W (by assumption)))) rfl <| .fa underlying30 sizeOf3 2 rfl rfl rfl <| .ld gt3 0 rfl rfl rfl <| .yy (ys_T (by omega) (ys_gtr (.t rfl) (.t rfl))) rfl <| .z) fun a S => ?_)))))))))))
      (refine q_nil ?_; intro w W; replace S := St.mk S W; clear W)
      refine then_normal (hK3 _ _ (st_then S (.t rfl) (wp_seq_k fun _ hK3 => wp_region_lit (run S (.yy (ys_bld (ps := []) (us := [_, _, _]) bld37 .nil rfl) rfl <| .z) fun a w S => st_m (op_stW S sizeOf37 (.t rfl) (.t rfl) (k := 2) rfl rfl rfl (by simp [Value.oneCell']) fun a w S => run S (.ac rfl <| .z) fun a w S => st_nil (then_normal (hK3 _ _ (wp_ret (in_ret (then_ret (then_ret (in_ret (then_ret (st_ret S (results2 S results17 (Rv.cell (k := 2) ⟨isAgg37, sizeOf37⟩ rfl rfl rfl) (Rv.tmp rfl)) ?_))))))))))))))
      rw [e]
      exact ⟨_, _, rfl, (((S.nil_ 74 3 Dot.enc none).nil_ 30 3 Dot.enc none).nil_ 100 6 Ent.enc none).wd.sub (by repeat (first | exact List.Sublist.refl _ | exact List.nil_sublist _ | refine .cons_cons _ ?_ | refine .cons _ ?_)), none, 0, none, 0, none, 0, rfl, rfl⟩
    · have rw_o := decide_eq_false ho
      refine sg S (.lt (by omega) rfl rfl <| .z) fun a w S => wp_seq_k fun _ hK2 => st_then S (.t rfl) (wp_skip (then_normal (hK2 _ _ (wp_seq_k fun _ hK2 => wp_block (wp_seq_k fun _ hK3 => wp_region_lit (run S (.ix underlying32 sizeOf30 (by omega) rfl rfl <| .yy (ys_ldWA ⟨isAgg30, sizeOf30⟩ (.t rfl) (k := 0) rfl hm (fun _ => rfl)) rfl <| .z) fun a w S => st_m (op_alloc S zeroValue30 (cs := _) rfl rfl fun g3 a w S => st_m (op_stW S sizeOf30 (.t rfl) (.t rfl) (k := 0) rfl rfl rfl (by simp [Value.oneCell']) fun a w S => st_nil (then_normal (hK3 _ _ (wp_seq_k fun _ hK3 => st_quiet S (by kernel_rfl) (by kernel_rfl) fun a S => qrun S (.fa underlying37 sizeOf35 1 rfl rfl rfl <| .la gt35 3 rfl rfl rfl <| .fa underlying30 sizeOf3 0 rfl rfl rfl <| .ld gt3 0 rfl rfl rfl <| .fa underlying30 sizeOf3 1 rfl rfl rfl <| .ld gt3 0 rfl rfl rfl <| .yy (ys_bld (ps := [(0, Go.Operand.tmp 36), (1, Go.Operand.tmp 38)]) (us := [_, _]) bld66 (.cons (.t rfl) (.cons (.t rfl) .nil)) rfl) rfl <| .xx (ys_call call67 (.cons (.t rfl) (.cons (.t rfl) .nil)) (fun hp w W => c67 _ _ _ _ _ _ (by exact .old W (by assumption)))) rfl <| .fa underlying30 sizeOf3 2 rfl rfl rfl <| .ld gt3 0 rfl rfl rfl <| .yy (ys_F (by omega) (ys_gtr (.t rfl) (.t rfl))) rfl <| .z) fun a S => ?_)))))))))))
      (refine q_nil ?_; intro w W; replace S := St.mk S W; clear W)
      refine then_normal (hK3 _ _ (st_else S (.t rfl) (wp_skip (in_normal (then_normal (hK2 _ _ (wp_region_lit (run S (.ad (by unfold I64; omega) rfl <| .mv rfl <| .z) fun a w S => st_nil (then_normal ?_)))))))))
      exact ⟨i + 1, ⟨by omega, over_no hm hno ho⟩, by omega, S.pk⟩
  obtain rfl : i = ms.length := by omega
  rw [List.take_length] at hno
  have e := clean_of hX hno
  have hl1 := cart_len3 hX
  have rw_p := prune_none hX 0
  refine sg S (.ge (by omega) rfl rfl <| .z) fun a w S => wp_seq_k fun _ hK2 => st_else S (.t rfl) (wp_exit (then_exit (then_exit (in_here (then_normal (hK1 _ _ (wp_seq_k fun _ hK1 => wp_region_lit (run S (.la gt37 2 rfl rfl rfl <| .yy (ys_bld (ps := [(0, _)]) (us := [_, _]) bld66 (.cons Ev.c .nil) rfl) rfl <| .z) fun a w S => ?_))))))))
  (refine st_m (op_calls S call68 (.cons (.t rfl) (.cons (.t rfl) .nil)) (c68 _ _ _ _ _ _ _ (by exact .old S.wd (by assumption)) (by exact .old S.wd (by assumption)) (by omega) (by omega) (by omega)) rfl ?_); clear S a w; rintro _ _ ⟨A11, r11, A21, r21, A31, r31, rfl, rfl⟩ a w S)
  rw [rw_p] at S
  refine st_m (op_stW S sizeOf37 (.t rfl) (.t rfl) (k := 5) rfl rfl rfl (by simp [Value.oneCell']) fun a w S => st_nil (then_normal (hK1 _ _ (wp_seq_k fun _ hK1 => sg S (.mv rfl <| .ln underlying32 rfl <| .mc rfl <| .z) fun a w S => wp_block ?_))))
  refine st_lpM S [51] (X := Nat × Option Addr × Nat × Option Addr × Nat × Option Addr × Nat) (fun q => [(51, true, .int .i64 (q.1 : Int))]) (fun q => [rowOf 100 6 Ent.enc q.2.1 q.2.2.1 (pruneL (ms.take q.1) X).ents, rowOf 30 3 Dot.enc q.2.2.2.1 q.2.2.2.2.1 (pruneL (ms.take q.1) X).ctx.marks, rowOf 74 3 Dot.enc q.2.2.2.2.2.1 q.2.2.2.2.2.2 (pruneL (ms.take q.1) X).ctx.cloud, rowOf 30 3 Dot.enc A1 c1 ms, .blk g2 (.cells #[.slice none 0 0, .slice none 0 0, .slice none 0 0] 37), .blk g1 (.cells #[.slice q.2.1 (pruneL (ms.take q.1) X).ents.length q.2.2.1, .slice q.2.2.2.1 (pruneL (ms.take q.1) X).ctx.marks.length q.2.2.2.2.1, .slice q.2.2.2.2.2.1 (pruneL (ms.take q.1) X).ctx.cloud.length q.2.2.2.2.2.2] 37)]) (fun q => q.1 ≤ ms.length) (fun q => ms.length - q.1) (0, A11, r11, A21, r21, A31, r31) (Nat.zero_le _) ?_
  clear S
  rintro ⟨i, q1, r1, q2, r2, q3, r3⟩ a w hi S
  dsimp only at hi S
  have hpl := pruneL_ok (ms.take i) hX
  have hpn := cart_len3 hpl
  by_cases hlt : i < ms.length
  · obtain ⟨ga, rfl⟩ := S.wd.row_at (k := 3) rfl (by have := (S.wd.room (k := 3) rfl).1; omega)
    obtain ⟨m, hm⟩ : ∃ m, ms[i]? = some m := ⟨ms[i], List.getElem?_eq_getElem hlt⟩
    have hst := pruneL_snoc (c := X) hm
    generalize pruneL (ms.take i) X = Y at *
    refine sg S (.lt (by omega) rfl rfl <| .z) fun a w S => wp_seq_k fun _ hK3 => st_then S (.t rfl) (wp_skip (then_normal (hK3 _ _ (wp_seq_k fun _ hK3 => wp_block (wp_seq_k fun _ hK4 => wp_region_lit (run S (.ix underlying32 sizeOf30 (by omega) rfl rfl <| .yy (ys_ldWA ⟨isAgg30, sizeOf30⟩ (.t rfl) (k := 3) rfl hm (fun _ => rfl)) rfl <| .z) fun a w S => st_m (op_alloc S zeroValue30 (cs := _) rfl rfl fun g3 a w S => st_m (op_stW S sizeOf30 (.t rfl) (.t rfl) (k := 0) rfl rfl rfl (by simp [Value.oneCell']) fun a w S => st_nil (then_normal (hK4 _ _ (wp_region_lit (run S (.la gt37 6 rfl rfl rfl <| .fa underlying30 sizeOf3 0 rfl rfl rfl <| .ld gt3 0 rfl rfl rfl <| .fa underlying30 sizeOf3 1 rfl rfl rfl <| .ld gt3 0 rfl rfl rfl <| .yy (ys_bld (ps := [(0, Go.Operand.tmp 57), (1, Go.Operand.tmp 59)]) (us := [_, _]) bld66 (.cons (.t rfl) (.cons (.t rfl) .nil)) rfl) rfl <| .z) fun a w S => ?_))))))))))))
    (refine st_m (op_calls S call68 (.cons (.t rfl) (.cons (.t rfl) .nil)) (c68 _ _ _ _ _ _ _ (by exact Sl.of_own S.wd (k := 1) rfl (fun _ => rfl)) (by exact ⟨(by exact Sl.of_own S.wd (k := 2) rfl (fun _ => rfl)), (by exact Sl.of_own S.wd (k := 3) rfl (fun _ => rfl))⟩) (by omega) (by omega) (by omega)) rfl ?_); clear S a w; rintro _ _ ⟨A12, r12, A22, r22, A32, r32, rfl, rfl⟩ a w S)
    refine st_m (op_stW S sizeOf37 (.t rfl) (.t rfl) (k := 9) rfl rfl rfl (by simp [Value.oneCell']) fun a w S => st_nil (in_normal (then_normal (hK3 _ _ (wp_region_lit (run S (.ad (by unfold I64; omega) rfl <| .mv rfl <| .z) fun a w S => st_nil (then_normal ?_)))))))
    exact ⟨(i + 1, A12, r12, A22, r22, A32, r32), by dsimp only; omega, by dsimp only; omega, by dsimp only; rw [hst]; exact S.pk⟩
  obtain rfl : i = ms.length := by omega
  rw [List.take_length] at S
  refine sg S (.ge (by omega) rfl rfl <| .z) fun a w S => wp_seq_k fun _ hK3 => st_else S (.t rfl) (wp_exit (then_exit (then_exit (in_here (then_normal (hK1 _ _ (wp_seq_k fun _ hK1 => wp_region_lit (run S (.la gt37 5 rfl rfl rfl <| .z) fun a w S => st_m (op_stW S sizeOf37 (.t rfl) (.t rfl) (k := 4) rfl rfl rfl (by simp [Value.oneCell']) fun a w S => run S (.ac rfl <| .z) fun a w S => st_nil (then_normal (hK1 _ _ (wp_ret (st_ret S (results2 S results17 (Rv.cell (k := 4) ⟨isAgg37, sizeOf37⟩ rfl rfl rfl) (Rv.tmp rfl)) ?_)))))))))))))
  rw [e]
  exact ⟨_, _, rfl, S.wd.pk, _, _, _, _, _, _, rfl, rfl⟩
end Go.Proofs.YtakpdbmdfnialaaGreat
set_option linter.unusedVariables false
set_option linter.unusedSimpArgs false
set_option maxRecDepth 100000
set_option maxHeartbeats 4000000
namespace Go.Fw
def idxW {α : Type} (p : α → Bool) : Nat → List α → Int
  | _, [] => -1
  | k, y :: r => if p y then (k : Int) else idxW p (k + 1) r
theorem idxW_any {α : Type} (p : α → Bool) : ∀ (l : List α) (k : Nat), decide (0 ≤ idxW p k l) = l.any p
  | [], k => rfl
  | y :: r, k => by
    unfold idxW
    by_cases h : p y = true
    · rw [if_pos h, List.any_cons, h, Bool.true_or]
      exact decide_eq_true (by omega)
    · rw [if_neg h, idxW_any p r (k + 1), List.any_cons, Bool.eq_false_iff.2 h, Bool.false_or]
end Go.Fw
namespace Go.Proofs.YtakpdbmdfnialaaGreat
open Go.Fw Go.Proofs Go.RowKit Go.Proofs.Tryz
def ReadsV {α : Type} (enc : α → List Value) (w0 : World) (f : FuncId) (cs : List Value) (l : List α) (p : α → Bool) : Prop := ∀ w', Wd w0 [] w' → ∀ x ∈ l, Calls Tryz.prog f ([Value.agg (enc x).toArray] ++ cs).toArray w' fun e w'' => e = .returned (.bool (p x)) ∧ Bel w'.heap.size w' w''
theorem x184 (w0 : World) (v : Value) (l : List Ent) (f : FuncId) (cs : List Value) (p : Ent → Bool) (hf : ∀ args w, (callFunc f args).run Tryz.prog w = .ok (.enter f args) w) (hr : ReadsV Ent.enc w0 f cs l p) (h : Sl Ent.enc 6 w0 w0.heap.size v l) :
    Calls Tryz.prog 184 #[v, .func (.func f) #[] cs.toArray] w0 fun e w' => e = .returned (.int .i64 (idxW p 0 l)) ∧ Bel w0.heap.size w0 w' := by
  obtain ⟨A, cap, rfl, hl, hcap, hA⟩ := h
  refine enter2 func184 rfl ntmps184 rfl fun a S => sg S (.ac rfl <| .z) fun a w S => wp_seq_k fun _ hK1 => sg S (.mv rfl <| .ln underlying31 rfl <| .mc rfl <| .z) fun a w S => wp_block ?_
  refine st_lpM S [4, 5, 8] (X := Nat) (fun k => [(8, true, .int .i64 (k : Int))]) (fun _ => []) (fun k => k ≤ l.length ∧ idxW p k (l.drop k) = idxW p 0 l) (fun k => l.length - k) 0 ⟨Nat.zero_le _, rfl⟩ ?_
  clear S
  intro k a w ⟨hk, hno⟩ S
  by_cases hlt : k < l.length
  · obtain ⟨gq, oq, x, rfl, hx, hd, hcc⟩ := row_at hA hlt
    rw [hd] at hno
    have hrx := fun w' W' => hr w' W' x (List.mem_of_getElem? hx)
    refine sg S (.lt (by omega) rfl rfl <| .z) fun a w S => wp_seq_k fun _ hK2 => st_then S (.t rfl) (wp_skip (then_normal (hK2 _ _ (wp_seq_k fun _ hK2 => wp_block (sg S (.mv rfl <| .as rfl <| .z) fun a w S => wp_seq_k fun _ hK3 => wp_region_lit (run S (.mv rfl <| .mv rfl <| .mv rfl <| .ix underlying31 sizeOf100 (by omega) rfl rfl <| .yy (ys_ldOA ⟨isAgg100, sizeOf100⟩ (.t rfl) (vs := [_, _, _, _, _, _]) rfl (fun _ => hcc)) rfl <| .z) fun a w S => st_y S (ys_callVC (cs := cs) (vs := [.agg (Ent.enc x).toArray]) (v := .bool (p x)) (.t rfl) hf (.cons (.t rfl) .nil) (fun _ w' W' => hrx w' (W'.sub (List.nil_sublist _)))) rfl ?_))))))
    clear S a w
    intro a w S
    cases hp : p x with
    | true =>
      rw [hp] at S
      refine st_nil (then_normal (hK3 _ _ (st_then S (.t rfl) (sg S (.mv rfl <| .as rfl <| .z) fun a w S => wp_ret (in_ret (then_ret (then_ret (in_ret (then_ret (st_ret S (results1 S results184 (Rv.tmp rfl)) ?_))))))))))
      refine ⟨?_, S.wd.below⟩
      rw [← hno, idxW, if_pos hp]
    | false =>
      rw [hp] at S
      refine st_nil (then_normal (hK3 _ _ (st_else S (.t rfl) (wp_skip (in_normal (then_normal (hK2 _ _ (wp_region_lit (run S (.ad (by unfold I64; omega) rfl <| .mv rfl <| .z) fun a w S => st_nil (then_normal ?_))))))))))
      rw [idxW, if_neg (by rw [hp]; decide)] at hno
      exact ⟨k + 1, ⟨by omega, hno⟩, by omega, S.pk⟩
  · obtain rfl : k = l.length := by omega
    rw [List.drop_length] at hno
    refine sg S (.ge (by omega) rfl rfl <| .z) fun a w S => wp_seq_k fun _ hK2 => st_else S (.t rfl) (wp_exit (then_exit (then_exit (in_here (then_normal (hK1 _ _ (sg S (.ac rfl <| .z) fun a w S => wp_ret (st_ret S (results1 S results184 (Rv.tmp rfl)) ?_))))))))
    exact ⟨by rw [← hno]; rfl, S.wd.below⟩
theorem x151 (w0 : World) (v : Value) (l : List Ent) (f : FuncId) (cs : List Value) (p : Ent → Bool) (hf : ∀ args w, (callFunc f args).run Tryz.prog w = .ok (.enter f args) w) (hr : ReadsV Ent.enc w0 f cs l p) (h : Sl Ent.enc 6 w0 w0.heap.size v l) :
    Calls Tryz.prog 151 #[v, .func (.func f) #[] cs.toArray] w0 fun e w' => e = .returned (.bool (l.any p)) ∧ Bel w0.heap.size w0 w' := by
  have hs := h
  obtain ⟨A, cap, rfl, hl, hcap, hA⟩ := h
  refine enter2 func151 rfl ntmps151 rfl fun a S => sg S (.ac rfl <| .z) fun a w S => wp_seq_k fun _ hK1 => wp_region_lit (run S (.mv rfl <| .mv rfl <| .z) fun a w S => st_y S (ys_call call184 (.cons (.t rfl) (.cons (.t rfl) .nil)) (fun _ w' W' => x184 w' _ l f cs p hf (fun w'' W'' => hr w'' ((W'.sub (List.nil_sublist _)).step W''.below)) (Sl.old W' hs))) rfl ?_)
  clear S a w
  intro a w S
  refine run S (.yy (ys_geq (.t rfl) Ev.c) rfl <| .as rfl <| .z) fun a w S => st_nil (then_normal (hK1 _ _ (wp_ret (st_ret S (results1 S results151 (Rv.tmp rfl)) ?_))))
  exact ⟨by rw [← idxW_any p l 0], S.wd.below⟩
end Go.Proofs.YtakpdbmdfnialaaGreat
set_option linter.unusedVariables false
set_option linter.unusedSimpArgs false
set_option maxRecDepth 100000
set_option maxHeartbeats 4000000
namespace Go.Fw
theorem Line.mkEnc {s : List UInt8} {q : Int} {p : UInt64} : [Value.string (bs s), .int .i64 q, .int .u64 (p.toNat : Int)] = Line.enc ⟨s, q, p⟩ := rfl
theorem CartRd.old {w0 w : World} {L : List Chunk} {X : Cart} {s : Sls3} (W : Wd w0 L w) (h : CartRd w0 X s) : CartRd w X s := ⟨.old W h.1, .old W h.2, .old W h.3⟩
end Go.Fw
namespace Go.Proofs.YtakpdbmdfnialaaGreat
open Go.Fw Go.Proofs Go.RowKit Go.Proofs.Tryz
theorem c152 (w0 : World) (x : Ent) (p q : Int) (g : Nat) (h0 : w0.cell? ⟨g, 0, none⟩ = some (.int .i64 p)) (h1 : w0.cell? ⟨g, 1, none⟩ = some (.int .i64 q)) :
    Calls Tryz.prog 152 #[.agg (Ent.enc x).toArray, .pointer (some ⟨g, 0, none⟩)] w0 fun e w' => e = .returned (.bool (decide (x.dot.node = p ∧ x.dot.life = q))) ∧ Bel w0.heap.size w0 w' := by
  refine enter2 func152 rfl ntmps152 rfl fun a S => wp_seq_k fun _ hK1 => wp_region_lit (st_m (op_box S (.t rfl) rfl fun g1 a w S => run S (.ac rfl <| .z) fun a w S => st_nil (then_normal (hK1 _ _ (wp_seq_k fun _ hK1 => wp_region_lit (run S (.fa underlying100 sizeOf74 1 rfl rfl rfl <| .fa underlying74 sizeOf3 1 rfl rfl rfl <| .ld gt3 0 rfl rfl rfl <| .fa underlying66 sizeOf3 0 rfl rfl rfl <| .yy (ys_ldO ⟨isAgg3, sizeOf3⟩ (.t rfl) (fun _ => h0)) rfl <| .yy (ys_eql (.t rfl) (.t rfl)) rfl <| .mv rfl <| .z) fun a w S => st_yg S rfl rfl (Yr.ys (ys_fieldN (FieldT.mk underlying100 rfl sizeOf74 rfl) (.t rfl) (i' := 1) rfl)) rfl fun a w S => st_yg S rfl rfl (Yr.ys (ys_fieldN (FieldT.mk underlying74 rfl sizeOf3 rfl) (Ev.g rfl) (i' := 2) rfl)) rfl fun a w S => st_yg S rfl rfl (Yr.ys (ys_ld ⟨isAgg3, sizeOf3⟩ (Ev.g rfl) (k := 0) rfl rfl)) rfl fun a w S => st_yg S rfl rfl (Yr.ys (ys_fieldN (FieldT.mk underlying66 rfl sizeOf3 rfl) (.t rfl) (i' := 1) rfl)) rfl fun a w S => st_yg S rfl rfl (Yr.ys (ys_ldO ⟨isAgg3, sizeOf3⟩ (Ev.g rfl) (fun _ => h1))) rfl fun a w S => st_yg S rfl rfl (Yr.ys (ys_eql (Ev.g rfl) (Ev.g rfl))) rfl fun a w S => run S (.yy (ys_and (.t rfl) (Ev.g rfl) Ev.c) rfl <| .as rfl <| .z) fun a w S => st_nil (then_normal (hK1 _ _ (wp_ret (st_ret S (results1 S results152 (Rv.tmp rfl)) ?_))))))))))
  exact ⟨by simp, S.wd.below⟩
theorem c151 (w0 : World) (v : Value) (l : List Ent) (p q : Int) (g : Nat) (h : Sl Ent.enc 6 w0 w0.heap.size v l) (h0 : w0.cell? ⟨g, 0, none⟩ = some (.int .i64 p)) (h1 : w0.cell? ⟨g, 1, none⟩ = some (.int .i64 q)) :
    Calls Tryz.prog 151 #[v, .func (.func 152) #[] #[.pointer (some ⟨g, 0, none⟩)]] w0 fun e w' => e = .returned (.bool (l.any fun x => decide (x.dot.node = p ∧ x.dot.life = q))) ∧ Bel w0.heap.size w0 w' :=
  x151 w0 v l _ [.pointer (some ⟨g, 0, none⟩)] _ call152 (fun w' W' x _ => c152 w' x p q g (Wd.cellOld W' h0) (Wd.cellOld W' h1)) h
theorem c97 (w0 : World) (v1 : Value) (A2 A3 : Option Addr) (n2 c2 n3 c3 : Nat) (l : List Ent) (p q : Int) (h : Sl Ent.enc 6 w0 w0.heap.size v1 l) :
    Calls Tryz.prog 97 #[.agg #[v1, .slice A2 n2 c2, .slice A3 n3 c3], .agg #[.int .i64 p, .int .i64 q]] w0 fun e w' => e = .returned (.bool (l.any fun x => decide (x.dot.node = p ∧ x.dot.life = q))) ∧ Bel w0.heap.size w0 w' := by
  have hs := h
  obtain ⟨A, cap, rfl, hl, hcap, hA⟩ := h
  refine enter2 func97 rfl ntmps97 rfl fun a S => wp_seq_k fun _ hK1 => wp_region_lit (st_m (op_box S (.t rfl) rfl fun g1 a w S => st_m (op_box S (.t rfl) rfl fun g2 a w S => run S (.ac rfl <| .z) fun a w S => st_nil (then_normal (hK1 _ _ (sg S (.fa underlying37 sizeOf31 0 rfl rfl rfl <| .ld gt31 1 rfl rfl rfl <| .yy (ys_mkFunc (.cons (.t rfl) .nil)) rfl <| .xx (ys_call call151 (.cons (.t rfl) (.cons (.t rfl) .nil)) (fun hp w W => c151 _ _ _ _ _ _ (by exact .old W (by assumption)) (by exact Wd.cell W (k := 0) rfl rfl) (by exact Wd.cell W (k := 0) rfl rfl))) rfl <| .as rfl <| .z) fun a w S => wp_ret (st_ret S (results1 S results97 (Rv.tmp rfl)) ?_)))))))
  exact ⟨rfl, S.wd.below⟩
end Go.Proofs.YtakpdbmdfnialaaGreat
set_option linter.unusedVariables false
set_option linter.unusedSimpArgs false
set_option maxRecDepth 100000
set_option maxHeartbeats 4000000
namespace Go.Fw
def CartsRd (w : World) (l : List SCart) : Prop := ∀ x ∈ l, CartRd w x.1 x.2
theorem CartsRd.old {w0 w : World} {L : List Chunk} {l : List SCart} (W : Wd w0 L w) (h : CartsRd w0 l) : CartsRd w l := fun x hx => (h x hx).old W
theorem CartRd.wd {w0 w : World} {X : Cart} {s : Sls3} (h : CartRd w0 X s) (W : Wd w0 [] w) : CartRd w X s := h.old W
end Go.Fw
namespace Go.Proofs.YtakpdbmdfnialaaGreat
open Go.Fw Go.Proofs Go.RowKit Go.Proofs.Tryz
theorem c153 (w0 : World) (v1 : Value) (l : List Dot) (x y z : Int) (h : Sl Dot.enc 3 w0 w0.heap.size v1 l) :
    Calls Tryz.prog 153 #[v1, .agg #[.int .i64 x, .int .i64 y, .int .i64 z]] w0 fun e w' => e = .returned (.int .i64 (idxFrom ⟨x, y, z⟩ 0 l)) ∧ Bel w0.heap.size w0 w' := by
  obtain ⟨A, cap, rfl, hl, hcap, hA⟩ := h
  refine enter2 func153 rfl ntmps153 rfl fun a S => wp_seq_k fun _ hK1 => wp_region_lit (st_m (op_box S (.t rfl) rfl fun g1 a w S => run S (.ac rfl <| .z) fun a w S => st_nil (then_normal (hK1 _ _ (wp_seq_k fun _ hK1 => sg S (.mv rfl <| .ln underlying32 rfl <| .mc rfl <| .z) fun a w S => wp_block ?_)))))
  refine st_lpK S (X := Nat) (fun k => [(8, true, .int .i64 (k : Int))]) (fun _ L => L) (fun k => k ≤ l.length ∧ idxFrom ⟨x, y, z⟩ k (l.drop k) = idxFrom ⟨x, y, z⟩ 0 l) (fun k => l.length - k) 0 ⟨Nat.zero_le _, rfl⟩ ?_
  clear S
  intro k a w ⟨hk, hno⟩ S
  by_cases hlt : k < l.length
  · obtain ⟨g, o, m, rfl, hm, hd, hc⟩ := row_at hA hlt
    clear hA
    refine sg S (.lt (by omega) rfl rfl <| .z) fun a w S => wp_seq_k fun _ hK2 => st_then S (.t rfl) (wp_skip (then_normal (hK2 _ _ (wp_seq_k fun _ hK2 => wp_block (sg S (.mv rfl <| .as rfl <| .z) fun a w S => wp_seq_k fun _ hK3 => st_quiet S (by kernel_rfl) (by kernel_rfl) fun a S => qrun S (.la gt30 0 rfl rfl rfl <| .mv rfl <| .mv rfl <| .ix underlying32 sizeOf30 (by omega) rfl rfl <| .yy (ys_ldOA ⟨isAgg30, sizeOf30⟩ (.t rfl) (vs := [_, _, _]) rfl (fun _ => hc)) rfl <| .yy (ys_eqA (.t rfl) (.t rfl) eq30) rfl <| .z) fun a S => ?_)))))
    (refine q_nil ?_; intro w W; replace S := St.mk S W; clear W)
    refine then_normal (hK3 _ _ ?_)
    refine st_if S (.t rfl) (fun h1 => ?_) (fun h1 => ?_)
    refine sg S (.mv rfl <| .as rfl <| .z) fun a w S => wp_ret (in_ret (then_ret (then_ret (in_ret (then_ret (st_ret S (results1 S results153 (Rv.tmp rfl)) ?_))))))
    rotate_left
    refine wp_skip (in_normal (then_normal (hK2 _ _ (wp_region_lit (run S (.ad (by unfold I64; omega) rfl <| .mv rfl <| .z) fun a w S => st_nil (then_normal ?_))))))
    rotate_left
    · refine ⟨?_, S.wd.below⟩
      obtain ⟨rfl, rfl, rfl⟩ := h1
      rw [← hno, hd, idxFrom, if_pos rfl]
    · rw [hd, idxFrom, if_neg (fun e => h1 (by cases e; exact ⟨rfl, rfl, rfl⟩))] at hno
      exact ⟨k + 1, ⟨by omega, hno⟩, by omega, S.wk⟩
  · refine sg S (.ge (by omega) rfl rfl <| .z) fun a w S => wp_seq_k fun _ hK2 => st_else S (.t rfl) (wp_exit (then_exit (then_exit (in_here (then_normal (hK1 _ _ (sg S (.ac rfl <| .z) fun a w S => wp_ret (st_ret S (results1 S results153 (Rv.tmp rfl)) ?_))))))))
    refine ⟨?_, S.wd.below⟩
    rw [← hno, List.drop_eq_nil_of_le (by omega)]; rfl
theorem c100 (w0 : World) (v1 : Value) (l : List Dot) (x y z : Int) (h : Sl Dot.enc 3 w0 w0.heap.size v1 l) :
    Calls Tryz.prog 100 #[v1, .agg #[.int .i64 x, .int .i64 y, .int .i64 z]] w0 fun e w' => e = .returned (.bool (decide ((⟨x, y, z⟩ : Dot) ∈ l))) ∧ Bel w0.heap.size w0 w' := by
  refine enter2 func100 rfl ntmps100 rfl fun a S => wp_seq_k fun _ hK1 => wp_region_lit (st_m (op_box S (.t rfl) rfl fun g1 a w S => run S (.ac rfl <| .z) fun a w S => st_nil (then_normal (hK1 _ _ (sg S (.mv rfl <| .la gt30 0 rfl rfl rfl <| .xx (ys_call call153 (.cons (.t rfl) (.cons (.t rfl) .nil)) (fun hp w W => c153 _ _ _ _ _ _ (by exact .old W (by assumption)))) rfl <| .yy (ys_geq (.t rfl) Ev.c) rfl <| .as rfl <| .z) fun a w S => wp_ret (st_ret S (results1 S results100 (Rv.tmp rfl)) ?_))))))
  refine ⟨?_, S.wd.below⟩
  rw [idx_mem]
theorem x150 (w0 : World) (v : Value) (l : List SCart) (f : FuncId) (cs : List Value) (p : SCart → Bool) (hf : ∀ args w, (callFunc f args).run Tryz.prog w = .ok (.enter f args) w) (hr : ReadsV SCart.enc w0 f cs l p) (h : Sl SCart.enc 3 w0 w0.heap.size v l) :
    Calls Tryz.prog 150 #[v, .func (.func f) #[] cs.toArray] w0 fun e w' => e = .returned (.int .i64 (idxW p 0 l)) ∧ Bel w0.heap.size w0 w' := by
  obtain ⟨A, cap, rfl, hl, hcap, hA⟩ := h
  refine enter2 func150 rfl ntmps150 rfl fun a S => sg S (.ac rfl <| .z) fun a w S => wp_seq_k fun _ hK1 => sg S (.mv rfl <| .ln underlying64 rfl <| .mc rfl <| .z) fun a w S => wp_block ?_
  refine st_lpM S [4, 5, 8] (X := Nat) (fun k => [(8, true, .int .i64 (k : Int))]) (fun _ => []) (fun k => k ≤ l.length ∧ idxW p k (l.drop k) = idxW p 0 l) (fun k => l.length - k) 0 ⟨Nat.zero_le _, rfl⟩ ?_
  clear S
  intro k a w ⟨hk, hno⟩ S
  by_cases hlt : k < l.length
  · obtain ⟨gq, oq, x, rfl, hx, hd, hcc⟩ := row_at hA hlt
    rw [hd] at hno
    have hrx := fun w' W' => hr w' W' x (List.mem_of_getElem? hx)
    refine sg S (.lt (by omega) rfl rfl <| .z) fun a w S => wp_seq_k fun _ hK2 => st_then S (.t rfl) (wp_skip (then_normal (hK2 _ _ (wp_seq_k fun _ hK2 => wp_block (sg S (.mv rfl <| .as rfl <| .z) fun a w S => wp_seq_k fun _ hK3 => wp_region_lit (run S (.mv rfl <| .mv rfl <| .mv rfl <| .ix underlying64 sizeOf37 (by omega) rfl rfl <| .yy (ys_ldOA ⟨isAgg37, sizeOf37⟩ (.t rfl) (vs := [_, _, _]) rfl (fun _ => hcc)) rfl <| .z) fun a w S => st_y S (ys_callVC (cs := cs) (vs := [.agg (SCart.enc x).toArray]) (v := .bool (p x)) (.t rfl) hf (.cons (.t rfl) .nil) (fun _ w' W' => hrx w' (W'.sub (List.nil_sublist _)))) rfl ?_))))))
    clear S a w
    intro a w S
    cases hp : p x with
    | true =>
      rw [hp] at S
      refine st_nil (then_normal (hK3 _ _ (st_then S (.t rfl) (sg S (.mv rfl <| .as rfl <| .z) fun a w S => wp_ret (in_ret (then_ret (then_ret (in_ret (then_ret (st_ret S (results1 S results150 (Rv.tmp rfl)) ?_))))))))))
      refine ⟨?_, S.wd.below⟩
      rw [← hno, idxW, if_pos hp]
    | false =>
      rw [hp] at S
      refine st_nil (then_normal (hK3 _ _ (st_else S (.t rfl) (wp_skip (in_normal (then_normal (hK2 _ _ (wp_region_lit (run S (.ad (by unfold I64; omega) rfl <| .mv rfl <| .z) fun a w S => st_nil (then_normal ?_))))))))))
      rw [idxW, if_neg (by rw [hp]; decide)] at hno
      exact ⟨k + 1, ⟨by omega, hno⟩, by omega, S.pk⟩
  · obtain rfl : k = l.length := by omega
    rw [List.drop_length] at hno
    refine sg S (.ge (by omega) rfl rfl <| .z) fun a w S => wp_seq_k fun _ hK2 => st_else S (.t rfl) (wp_exit (then_exit (then_exit (in_here (then_normal (hK1 _ _ (sg S (.ac rfl <| .z) fun a w S => wp_ret (st_ret S (results1 S results150 (Rv.tmp rfl)) ?_))))))))
    exact ⟨by rw [← hno]; rfl, S.wd.below⟩
theorem x93 (w0 : World) (v : Value) (l : List SCart) (f : FuncId) (cs : List Value) (p : SCart → Bool) (hf : ∀ args w, (callFunc f args).run Tryz.prog w = .ok (.enter f args) w) (hr : ReadsV SCart.enc w0 f cs l p) (h : Sl SCart.enc 3 w0 w0.heap.size v l) :
    Calls Tryz.prog 93 #[v, .func (.func f) #[] cs.toArray] w0 fun e w' => e = .returned (.bool (l.any p)) ∧ Bel w0.heap.size w0 w' := by
  have hs := h
  obtain ⟨A, cap, rfl, hl, hcap, hA⟩ := h
  refine enter2 func93 rfl ntmps93 rfl fun a S => sg S (.ac rfl <| .z) fun a w S => wp_seq_k fun _ hK1 => wp_region_lit (run S (.mv rfl <| .mv rfl <| .z) fun a w S => st_y S (ys_call call150 (.cons (.t rfl) (.cons (.t rfl) .nil)) (fun _ w' W' => x150 w' _ l f cs p hf (fun w'' W'' => hr w'' ((W'.sub (List.nil_sublist _)).step W''.below)) (Sl.old W' hs))) rfl ?_)
  clear S a w
  intro a w S
  refine run S (.yy (ys_geq (.t rfl) Ev.c) rfl <| .as rfl <| .z) fun a w S => st_nil (then_normal (hK1 _ _ (wp_ret (st_ret S (results1 S results93 (Rv.tmp rfl)) ?_))))
  exact ⟨by rw [← idxW_any p l 0], S.wd.below⟩
end Go.Proofs.YtakpdbmdfnialaaGreat
set_option linter.unusedVariables false
set_option linter.unusedSimpArgs false
set_option maxRecDepth 100000
set_option maxHeartbeats 4000000
namespace Go.Fw
def badG (l : List Cart) : Int := match l.find? (fun c => decide (canE c ≠ 0)) with
  | some c => canE c
  | none => 0
theorem bad_none {l : List Cart} (h : ∀ c ∈ l, canE c = 0) : badG l = 0 := by
  unfold badG
  rw [List.find?_eq_none.2 fun x hx => by rw [h x hx]; simp]
theorem bad_at : ∀ {l : List Cart} {i : Nat} {c : Cart}, (∀ x ∈ l.take i, canE x = 0) → l[i]? = some c → canE c ≠ 0 → badG l = canE c
  | [], i, c, _, h, _ => by simp at h
  | y :: r, 0, c, _, h, hc => by
    simp at h
    subst h
    unfold badG
    rw [List.find?_cons_of_pos (by simpa using hc)]
  | y :: r, i + 1, c, hn, h, hc => by
    have hy := hn y (by simp)
    have ih := bad_at (l := r) (i := i) (c := c) (fun x hx => hn x (by simp [hx])) (by simpa using h) hc
    unfold badG at ih ⊢
    rw [List.find?_cons_of_neg (by simp [hy])]
    exact ih
theorem ready_def (l : List Cart) (p q : Int) : readyG l p q = if mayD ⟨p, q, 1⟩ = false then (⟨0, 0, 0⟩, 1) else if badG l ≠ 0 then (⟨0, 0, 0⟩, badG l) else match l with
    | [] => (⟨0, 0, 0⟩, 200)
    | c :: r => if (r.all fun x => decide (c = x)) = false then (⟨0, 0, 0⟩, 200) else if livesK c p q = true then (⟨0, 0, 0⟩, 201) else if c.ctx.top p q = 0 then (⟨0, 0, 0⟩, 62)
      else if (c.ctx.cloud.any fun d => decide (d.node = p ∧ d.life = q)) = true then (⟨0, 0, 0⟩, 202) else (⟨p, q, c.ctx.top p q⟩, 0) := by
  unfold readyG badG
  by_cases h1 : mayD ⟨p, q, 1⟩ = false
  · rw [if_pos h1, if_pos h1]
  · rw [if_neg h1, if_neg h1]
    cases hf : l.find? (fun c => decide (canE c ≠ 0)) with
    | some c =>
      have := List.find?_some hf
      simp at this
      simp [this]
    | none =>
      dsimp only
      rw [if_neg (fun h => h rfl)]
      cases l <;> rfl
end Go.Fw
namespace Go.Proofs.YtakpdbmdfnialaaGreat
open Go.Fw Go.Proofs Go.RowKit Go.Proofs.Tryz
theorem c88 (w0 : World) (f : Nat) (cs : Array Value) (e : Int) : Rets Tryz.prog 88 #[.func (.func f) #[] cs, .int .i64 e] w0 fun u L => ∃ g, u = .agg #[.func (.func f) #[] cs, .func (.func 149) #[] #[.pointer (some ⟨g, 0, none⟩)]] ∧ L = [.blk g (.cells #[.int .i64 e] 40)] := by
  unfold Go.Fw.Rets
  refine enter2 func88 rfl ntmps88 rfl fun a S => wp_seq_k fun _ hK1 => wp_region_lit (st_m (op_box1 S (.t rfl) rfl rfl fun g1 a w S => st_m (op_alloc S zeroValue134 (cs := _) rfl rfl fun g2 a w S => st_nil (then_normal (hK1 _ _ (wp_seq_k fun _ hK1 => wp_region_lit (run S (.mv rfl <| .yy (ys_mkFunc (.cons (.t rfl) .nil)) rfl <| .yy (ys_bld (ps := [(0, Go.Operand.tmp 5), (1, Go.Operand.tmp 6)]) (us := [_, _]) bld134 (.cons (.t rfl) (.cons (.t rfl) .nil)) rfl) rfl <| .z) fun a w S => st_m (op_stW S sizeOf134 (.t rfl) (.t rfl) (k := 0) rfl rfl rfl (by simp [Value.oneCell']) fun a w S => st_nil (then_normal (hK1 _ _ (wp_ret (st_ret S (results1 S results88 (Rv.cell (k := 0) ⟨isAgg134, sizeOf134⟩ rfl rfl rfl)) ?_))))))))))))
  exact ⟨_, _, rfl, S.wd.pk, _, rfl, rfl⟩
theorem c149 (w0 : World) (g : Nat) (e : Int) (h : w0.cell? ⟨g, 0, none⟩ = some (.int .i64 e)) : Calls Tryz.prog 149 #[.pointer (some ⟨g, 0, none⟩)] w0 fun u w' => u = .returned (.int .i64 e) ∧ Bel w0.heap.size w0 w' := by
  refine enter1 func149 rfl ntmps149 rfl fun a S => sg S (.ac rfl <| .z) fun a w S => sg S (.yy (ys_ldO ⟨isAgg40, sizeOf40⟩ (.t rfl) (fun _ => h)) rfl <| .as rfl <| .z) fun a w S => wp_ret (st_ret S (results1 S results149 (Rv.tmp rfl)) ?_)
  exact ⟨rfl, S.wd.below⟩
theorem c89 (w0 : World) (g : Nat) (p q : Int) (h0 : w0.cell? ⟨g, 0, none⟩ = some (.int .i64 p)) (h1 : w0.cell? ⟨g, 1, none⟩ = some (.int .i64 q)) :
    Calls Tryz.prog 89 #[.pointer (some ⟨g, 0, none⟩)] w0 fun u w' => u = .returned (.bool (mayD ⟨p, q, 1⟩)) ∧ Bel w0.heap.size w0 w' := by
  refine enter1 func89 rfl ntmps89 rfl fun a S => sg S (.ac rfl <| .z) fun a w S => sg S (.fa underlying66 sizeOf3 0 rfl rfl rfl <| .yy (ys_ldO ⟨isAgg3, sizeOf3⟩ (.t rfl) (fun _ => h0)) rfl <| .fa underlying66 sizeOf3 1 rfl rfl rfl <| .yy (ys_ldO ⟨isAgg3, sizeOf3⟩ (.t rfl) (fun _ => h1)) rfl <| .yy (ys_bld (ps := [(0, Go.Operand.tmp 3), (1, Go.Operand.tmp 5), (2, _)]) (us := [_, _, _]) bld30 (.cons (.t rfl) (.cons (.t rfl) (.cons Ev.c .nil))) rfl) rfl <| .xx (ys_call call56 (.cons (.t rfl) .nil) (fun hp w W => c56 _ _ _ _)) rfl <| .as rfl <| .z) fun a w S => wp_ret (st_ret S (results1 S results89 (Rv.tmp rfl)) ?_)
  exact ⟨rfl, S.wd.below⟩
theorem c91 (w0 : World) (g : Nat) (e : Int) (h : w0.cell? ⟨g, 0, none⟩ = some (.int .i64 e)) : Calls Tryz.prog 91 #[.pointer (some ⟨g, 0, none⟩)] w0 fun u w' => u = .returned (.int .i64 e) ∧ Bel w0.heap.size w0 w' := by
  refine enter1 func91 rfl ntmps91 rfl fun a S => sg S (.ac rfl <| .z) fun a w S => sg S (.yy (ys_ldO ⟨isAgg40, sizeOf40⟩ (.t rfl) (fun _ => h)) rfl <| .as rfl <| .z) fun a w S => wp_ret (st_ret S (results1 S results91 (Rv.tmp rfl)) ?_)
  exact ⟨rfl, S.wd.below⟩
theorem c90 {w0 w : World} {L : List Chunk} {g1 g4 : Nat} {v : Value} {l : List SCart} (W : Wd w0 (.blk g1 (.cells #[v] 64) :: .blk g4 (.cells #[.int .i64 0] 40) :: L) w) (h : Sl SCart.enc 3 w0 w0.heap.size v l) (hc : CartsRd w0 l) :
    RetsO Tryz.prog 90 #[.pointer (some ⟨g1, 0, none⟩), .pointer (some ⟨g4, 0, none⟩)] w0 w fun u L' => u = .bool (decide (badG (l.map (·.1)) = 0)) ∧ L' = .blk g1 (.cells #[v] 64) :: .blk g4 (.cells #[.int .i64 (badG (l.map (·.1)))] 40) :: L := by
  obtain ⟨A, cap, rfl, hl, hcap, hA⟩ := id h
  unfold Go.Fw.RetsO
  refine enterW2 W func90 rfl ntmps90 rfl fun a S => sg S (.ac rfl <| .z) fun a w S => wp_seq_k fun _ hK1 => sg S (.ld gt64 0 rfl rfl rfl <| .ln underlying64 rfl <| .mc rfl <| .z) fun a w S => wp_block ?_
  refine st_lpM S [2, 7] (X := Nat) (fun i => [(2, true, .bool false), (7, true, .int .i64 (i : Int))]) (fun _ => .blk g1 (.cells #[.slice A l.length cap] 64) :: .blk g4 (.cells #[.int .i64 0] 40) :: L) (fun i => i ≤ l.length ∧ ∀ x ∈ (l.map (·.1)).take i, canE x = 0) (fun i => l.length - i) 0 ⟨Nat.zero_le _, by simp⟩ ?_
  clear S
  rintro i a w ⟨hi, hno⟩ S
  by_cases hlt : i < l.length
  · obtain ⟨gq, oq, x, rfl, hx, hd, hcx⟩ := row_at hA hlt
    have r1 := (hc x (List.mem_of_getElem? hx)).ents
    have r2 := (hc x (List.mem_of_getElem? hx)).ctx
    have e1 : (l.map (·.1))[i]? = some x.1 := by rw [List.getElem?_map, hx]; rfl
    by_cases he : canE x.1 = 0
    · have rw_e := he
      refine sg S (.lt (by omega) rfl rfl <| .z) fun a w S => wp_seq_k fun _ hK2 => st_then S (.t rfl) (wp_skip (then_normal (hK2 _ _ (wp_seq_k fun _ hK2 => wp_block (wp_seq_k fun _ hK3 => wp_region_lit (run S (.ix underlying64 sizeOf37 (by omega) rfl rfl <| .yy (ys_ldOA ⟨isAgg37, sizeOf37⟩ (.t rfl) (vs := [_, _, _]) rfl (fun _ => hcx)) rfl <| .z) fun a w S => st_m (op_alloc S zeroValue37 (cs := _) rfl rfl fun g2 a w S => st_m (op_stW S sizeOf37 (.t rfl) (.t rfl) (k := 0) rfl rfl rfl (by simp [Value.oneCell']) fun a w S => st_nil (then_normal (hK3 _ _ (wp_seq_k fun _ hK3 => wp_region_lit (run S (.la gt37 0 rfl rfl rfl <| .xx (ys_call call66 (.cons (.t rfl) .nil) (fun hp w W => c66 _ _ _ _ _ (by exact .old W (by assumption)) (by exact .old W (by assumption)))) rfl <| .z) fun a w S => ?_))))))))))))
      rw [rw_e] at S
      refine st_m (op_st S sizeOf40 (.t rfl) (.t rfl) (k := 2) rfl rfl (by simp) fun a w S => st_nil (then_normal (hK3 _ _ (sg S (.ld gt40 2 rfl rfl rfl <| .yy (ys_F (by omega) (ys_neq (.t rfl) Ev.c)) rfl <| .z) fun a w S => st_else S (.t rfl) (wp_skip (in_normal (then_normal (hK2 _ _ (wp_region_lit (run S (.ad (by unfold I64; omega) rfl <| .mv rfl <| .z) fun a w S => st_nil (then_normal ?_)))))))))))
      refine ⟨i + 1, ⟨by omega, fun y hy => ?_⟩, by omega, S.pk⟩
      rw [List.take_add_one, e1, Option.toList_some, List.mem_append, List.mem_singleton] at hy
      rcases hy with hy | rfl
      · exact hno y hy
      · exact he
    · have rw_e : decide (canE x.1 = 0) = false := decide_eq_false he
      have eb := bad_at hno e1 he
      refine sg S (.lt (by omega) rfl rfl <| .z) fun a w S => wp_seq_k fun _ hK2 => st_then S (.t rfl) (wp_skip (then_normal (hK2 _ _ (wp_seq_k fun _ hK2 => wp_block (wp_seq_k fun _ hK3 => wp_region_lit (run S (.ix underlying64 sizeOf37 (by omega) rfl rfl <| .yy (ys_ldOA ⟨isAgg37, sizeOf37⟩ (.t rfl) (vs := [_, _, _]) rfl (fun _ => hcx)) rfl <| .z) fun a w S => st_m (op_alloc S zeroValue37 (cs := _) rfl rfl fun g2 a w S => st_m (op_stW S sizeOf37 (.t rfl) (.t rfl) (k := 0) rfl rfl rfl (by simp [Value.oneCell']) fun a w S => st_nil (then_normal (hK3 _ _ (wp_seq_k fun _ hK3 => wp_region_lit (run S (.la gt37 0 rfl rfl rfl <| .xx (ys_call call66 (.cons (.t rfl) .nil) (fun hp w W => c66 _ _ _ _ _ (by exact .old W (by assumption)) (by exact .old W (by assumption)))) rfl <| .z) fun a w S => st_m (op_st S sizeOf40 (.t rfl) (.t rfl) (k := 2) rfl rfl (by simp) fun a w S => st_nil (then_normal (hK3 _ _ (sg S (.ld gt40 2 rfl rfl rfl <| .yy (ys_T (by omega) (ys_neq (.t rfl) Ev.c)) rfl <| .z) fun a w S => st_then S (.t rfl) (sg S (.ac rfl <| .z) fun a w S => wp_ret (in_ret (then_ret (then_ret (in_ret (then_ret (st_ret S (results1 S results90 (Rv.tmp rfl)) ?_)))))))))))))))))))))))
      rw [eb, decide_eq_false he]
      exact ⟨_, _, rfl, S.wd.pk, rfl, rfl⟩
  obtain rfl : i = l.length := by omega
  have eb : badG (l.map (·.1)) = 0 := bad_none fun c hc' => hno c (by rw [List.take_of_length_le (by simp)]; exact hc')
  refine sg S (.ge (by omega) rfl rfl <| .z) fun a w S => wp_seq_k fun _ hK2 => st_else S (.t rfl) (wp_exit (then_exit (then_exit (in_here (then_normal (hK1 _ _ (sg S (.ac rfl <| .z) fun a w S => wp_ret (st_ret S (results1 S results90 (Rv.tmp rfl)) ?_))))))))
  rw [eb]
  exact ⟨_, _, rfl, S.wd.pk, rfl, rfl⟩
theorem c94 (w0 : World) (g : Nat) (v : Value) (c x : SCart) (r : List SCart) (h0 : w0.cell? ⟨g, 0, none⟩ = some v) (h : Sl SCart.enc 3 w0 w0.heap.size v (c :: r)) (hc : CartRd w0 c.1 c.2) (hx : CartRd w0 x.1 x.2) :
    Calls Tryz.prog 94 #[.agg (SCart.enc x).toArray, .pointer (some ⟨g, 0, none⟩)] w0 fun u w' => u = .returned (.bool (!decide (x.1 = c.1))) ∧ Bel w0.heap.size w0 w' := by
  obtain ⟨A, cap, rfl, hl, hcap, hA⟩ := id h
  have r1 := hc.ents
  have r2 := hc.ctx
  have r3 := hx.ents
  have r4 := hx.ctx
  obtain ⟨gq, oq, y, rfl, hy, hd, hcc⟩ := row_at hA (show 0 < (c :: r).length by simp)
  obtain rfl : c = y := by simpa using hy
  have hlen : 0 < (c :: r).length := by simp
  refine enter2 func94 rfl ntmps94 rfl fun a S => wp_seq_k fun _ hK1 => wp_region_lit (st_m (op_box S (.t rfl) rfl fun g1 a w S => run S (.ac rfl <| .z) fun a w S => st_nil (then_normal (hK1 _ _ (wp_seq_k fun _ hK1 => st_quiet S (by kernel_rfl) (by kernel_rfl) fun a S => qrun S (.la gt37 0 rfl rfl rfl <| .yy (ys_ldO ⟨isAgg64, sizeOf64⟩ (.t rfl) (fun _ => h0)) rfl <| .yy (ys_ixS (j := 0) underlying64 sizeOf37 (.t rfl) Ev.c (fun _ => by omega)) rfl <| .yy (ys_ldOA ⟨isAgg37, sizeOf37⟩ (.t rfl) (vs := [_, _, _]) rfl (fun _ => hcc)) rfl <| .xx (ys_call call95 (.cons (.t rfl) (.cons (.t rfl) .nil)) (fun hp w W => c95 _ _ _ _ _ _ _ _ _ (by exact .old W (by assumption)) (by exact .old W (by assumption)) (by exact .old W (by assumption)) (by exact .old W (by assumption)))) rfl <| .nt rfl <| .as rfl <| .z) fun a S => ?_)))))
  (refine q_nil ?_; intro w W; replace S := St.mk S W; clear W)
  refine then_normal (hK1 _ _ (wp_ret (st_ret S (results1 S results94 (Rv.tmp rfl)) ?_)))
  exact ⟨rfl, S.wd.below⟩
theorem c96 (w0 : World) (g1 g2 : Nat) (v : Value) (c : SCart) (r : List SCart) (p q : Int) (h0 : w0.cell? ⟨g1, 0, none⟩ = some v) (h1 : w0.cell? ⟨g2, 0, none⟩ = some (.int .i64 p)) (h2 : w0.cell? ⟨g2, 1, none⟩ = some (.int .i64 q)) (h : Sl SCart.enc 3 w0 w0.heap.size v (c :: r)) (hc : CartRd w0 c.1 c.2) :
    Calls Tryz.prog 96 #[.pointer (some ⟨g1, 0, none⟩), .pointer (some ⟨g2, 0, none⟩)] w0 fun u w' => u = .returned (.bool (!livesK c.1 p q)) ∧ Bel w0.heap.size w0 w' := by
  obtain ⟨A, cap, rfl, hl, hcap, hA⟩ := id h
  have r1 := hc.ents
  have r2 := hc.ctx
  obtain ⟨gq, oq, y, rfl, hy, hd, hcc⟩ := row_at hA (show 0 < (c :: r).length by simp)
  obtain rfl : c = y := by simpa using hy
  have hlen : 0 < (c :: r).length := by simp
  have hact : ∀ j u, [Value.int .i64 p, .int .i64 q][j]? = some u → w0.cell? ⟨g2, 0 + j, none⟩ = some u := fun j u h => by
    rw [Nat.zero_add]
    match j, h with
    | 0, h => cases h; exact h1
    | 1, h => cases h; exact h2
    | j + 2, h => simp at h
  refine enter2 func96 rfl ntmps96 rfl fun a S => sg S (.ac rfl <| .z) fun a w S => wp_seq_k fun _ hK1 => st_quiet S (by kernel_rfl) (by kernel_rfl) fun a S => qrun S (.yy (ys_ldO ⟨isAgg64, sizeOf64⟩ (.t rfl) (fun _ => h0)) rfl <| .yy (ys_ixS (j := 0) underlying64 sizeOf37 (.t rfl) Ev.c (fun _ => by omega)) rfl <| .yy (ys_ldOA ⟨isAgg37, sizeOf37⟩ (.t rfl) (vs := [_, _, _]) rfl (fun _ => hcc)) rfl <| .yy (ys_ldOA ⟨isAgg66, sizeOf66⟩ (.t rfl) (vs := [_, _]) rfl (fun _ => hact)) rfl <| .xx (ys_call call97 (.cons (.t rfl) (.cons (.t rfl) .nil)) (fun hp w W => c97 _ _ _ _ _ _ _ _ _ _ _ (by exact .old W (by assumption)))) rfl <| .nt rfl <| .as rfl <| .z) fun a S => ?_
  (refine q_nil ?_; intro w W; replace S := St.mk S W; clear W)
  refine then_normal (hK1 _ _ (wp_ret (st_ret S (results1 S results96 (Rv.tmp rfl)) ?_)))
  exact ⟨rfl, S.wd.below⟩
theorem c99 (w0 : World) (g1 g5 : Nat) (v : Value) (c : SCart) (r : List SCart) (p q n : Int) (h0 : w0.cell? ⟨g1, 0, none⟩ = some v) (h1 : w0.cell? ⟨g5, 0, none⟩ = some (.int .i64 p)) (h2 : w0.cell? ⟨g5, 1, none⟩ = some (.int .i64 q)) (h3 : w0.cell? ⟨g5, 2, none⟩ = some (.int .i64 n)) (h : Sl SCart.enc 3 w0 w0.heap.size v (c :: r)) (hc : CartRd w0 c.1 c.2) :
    Calls Tryz.prog 99 #[.pointer (some ⟨g1, 0, none⟩), .pointer (some ⟨g5, 0, none⟩)] w0 fun u w' => u = .returned (.bool (decide ((⟨p, q, n⟩ : Dot) ∈ c.1.ctx.marks))) ∧ Bel w0.heap.size w0 w' := by
  obtain ⟨A, cap, rfl, hl, hcap, hA⟩ := id h
  have r1 := hc.marks
  obtain ⟨gq, oq, y, rfl, hy, hd, hcc⟩ := row_at hA (show 0 < (c :: r).length by simp)
  obtain rfl : c = y := by simpa using hy
  have hlen : 0 < (c :: r).length := by simp
  have hctx : ∀ j u, [Value.slice c.2.a2 c.2.n2 c.2.c2, .slice c.2.a3 c.2.n3 c.2.c3][j]? = some u → w0.cell? ⟨gq, oq + 0 * 3 + 1 + j, none⟩ = some u := fun j u h => by
    have := hcc (j + 1) u (by simpa [SCart.enc] using h)
    rw [show oq + 0 * 3 + 1 + j = oq + 0 * 3 + (j + 1) by omega]
    exact this
  have hmk : w0.cell? ⟨gq, oq + 0 * 3 + 1 + 0, none⟩ = some (.slice c.2.a2 c.2.n2 c.2.c2) := hctx 0 _ rfl
  have hm3 : ∀ j u, [Value.int .i64 p, .int .i64 q, .int .i64 n][j]? = some u → w0.cell? ⟨g5, 0 + j, none⟩ = some u := fun j u h => by
    rw [Nat.zero_add]
    match j, h with
    | 0, h => cases h; exact h1
    | 1, h => cases h; exact h2
    | 2, h => cases h; exact h3
    | j + 3, h => simp at h
  refine enter2 func99 rfl ntmps99 rfl fun a S => sg S (.ac rfl <| .z) fun a w S => wp_seq_k fun _ hK1 => st_quiet S (by kernel_rfl) (by kernel_rfl) fun a S => qrun S (.yy (ys_ldO ⟨isAgg64, sizeOf64⟩ (.t rfl) (fun _ => h0)) rfl <| .yy (ys_ixS (j := 0) underlying64 sizeOf37 (.t rfl) Ev.c (fun _ => by omega)) rfl <| .yy (ys_field (FieldT.mk underlying37 rfl sizeOf35 rfl) (.t rfl)) rfl <| .yy (ys_field (FieldT.mk underlying35 rfl sizeOf32 rfl) (.t rfl)) rfl <| .yy (ys_ldO ⟨isAgg32, sizeOf32⟩ (.t rfl) (fun _ => hctx _ _ rfl)) rfl <| .yy (ys_ldOA ⟨isAgg30, sizeOf30⟩ (.t rfl) (vs := [_, _, _]) rfl (fun _ => hm3)) rfl <| .xx (ys_call call100 (.cons (.t rfl) (.cons (.t rfl) .nil)) (fun hp w W => c100 _ _ _ _ _ _ (by exact .old W (by assumption)))) rfl <| .as rfl <| .z) fun a S => ?_
  (refine q_nil ?_; intro w W; replace S := St.mk S W; clear W)
  refine then_normal (hK1 _ _ (wp_ret (st_ret S (results1 S results99 (Rv.tmp rfl)) ?_)))
  exact ⟨rfl, S.wd.below⟩
theorem c98 {w0 w : World} {L : List Chunk} {g1 g2 g5 : Nat} {v : Value} {c : SCart} {r : List SCart} {p q n : Int} (W : Wd w0 (.blk g1 (.cells #[v] 64) :: .blk g2 (.cells #[.int .i64 p, .int .i64 q] 66) :: .blk g5 (.cells #[.int .i64 p, .int .i64 q, .int .i64 n] 30) :: L) w) (h : Sl SCart.enc 3 w0 w0.heap.size v (c :: r)) (hc : CartRd w0 c.1 c.2) :
    RetsO Tryz.prog 98 #[.pointer (some ⟨g1, 0, none⟩), .pointer (some ⟨g2, 0, none⟩), .pointer (some ⟨g5, 0, none⟩)] w0 w fun u L' => u = .bool (decide (0 < c.1.ctx.top p q)) ∧ L' = .blk g1 (.cells #[v] 64) :: .blk g2 (.cells #[.int .i64 p, .int .i64 q] 66) :: .blk g5 (.cells #[.int .i64 p, .int .i64 q, .int .i64 (c.1.ctx.top p q)] 30) :: L := by
  obtain ⟨A, cap, rfl, hl, hcap, hA⟩ := id h
  have r1 := hc.ents
  have r2 := hc.ctx
  obtain ⟨gq, oq, y, rfl, hy, hd, hcc⟩ := row_at hA (show 0 < (c :: r).length by simp)
  obtain rfl : c = y := by simpa using hy
  have hlen : 0 < (c :: r).length := by simp
  have hctx : ∀ j u, [Value.slice c.2.a2 c.2.n2 c.2.c2, .slice c.2.a3 c.2.n3 c.2.c3][j]? = some u → w0.cell? ⟨gq, oq + 0 * 3 + 1 + j, none⟩ = some u := fun j u h => by
    have := hcc (j + 1) u (by simpa [SCart.enc] using h)
    rw [show oq + 0 * 3 + 1 + j = oq + 0 * 3 + (j + 1) by omega]
    exact this
  have hmk : w0.cell? ⟨gq, oq + 0 * 3 + 1 + 0, none⟩ = some (.slice c.2.a2 c.2.n2 c.2.c2) := hctx 0 _ rfl
  unfold Go.Fw.RetsO
  refine enterW3 W Tryz.func98 rfl Tryz.ntmps98 rfl fun a S => ?_
  refine wp_seq_k fun _ hK1 => ?_
  refine wp_region_lit ?_
  (refine st_y S (Yr.ys (ys_assign Ev.c)) rfl ?_; clear S a; intro a w S)
  refine st_nil ?_
  (refine (then_normal (hK1 _ _ ?_)); clear hK1)
  refine wp_seq_k fun _ hK1 => ?_
  (refine h_beginE S (by kernel_rfl) 2 ?_; clear S a w; intro a w S)
  (refine h_y (i := 0) S (by repeat (first | exact List.Sublist.refl _ | exact List.nil_sublist _ | refine .cons_cons _ ?_ | refine .cons _ ?_)) rfl (by kernel_rfl) (by kernel_rfl) (by kernel_rfl) (fun _ _ _ _ h => h) (ys_ld ⟨Tryz.isAgg64, Tryz.sizeOf64⟩ (Ev.t rfl) (k := 0) rfl rfl) rfl ?_; clear S a w; intro a w S)
  (refine h_y (i := 1) S (by repeat (first | exact List.Sublist.refl _ | exact List.nil_sublist _ | refine .cons_cons _ ?_ | refine .cons _ ?_)) rfl (by kernel_rfl) (by kernel_rfl) (by kernel_rfl) (fun _ _ _ _ h => h) (ys_ixS (j := 0) Tryz.underlying64 Tryz.sizeOf37 (Ev.t rfl) Ev.c (fun _ => by omega)) rfl ?_; clear S a w; intro a w S)
  (refine h_y (i := 2) S (by repeat (first | exact List.Sublist.refl _ | exact List.nil_sublist _ | refine .cons_cons _ ?_ | refine .cons _ ?_)) rfl (by kernel_rfl) (by kernel_rfl) (by kernel_rfl) (fun _ _ _ _ h => h) (ys_field (FieldT.mk Tryz.underlying37 rfl Tryz.sizeOf35 rfl) (Ev.t rfl)) rfl ?_; clear S a w; intro a w S)
  (refine h_y (i := 3) S (by repeat (first | exact List.Sublist.refl _ | exact List.nil_sublist _ | refine .cons_cons _ ?_ | refine .cons _ ?_)) rfl (by kernel_rfl) (by kernel_rfl) (by kernel_rfl) (fun _ _ _ _ h => h) (ys_ldOA ⟨Tryz.isAgg35, Tryz.sizeOf35⟩ (Ev.t rfl) (vs := [_, _]) rfl (fun _ => hctx)) rfl ?_; clear S a w; intro a w S)
  (refine h_y (i := 4) S (by repeat (first | exact List.Sublist.refl _ | exact List.nil_sublist _ | refine .cons_cons _ ?_ | refine .cons _ ?_)) rfl (by kernel_rfl) (by kernel_rfl) (by kernel_rfl) (fun _ _ _ _ h => h) (ys_ldA ⟨Tryz.isAgg66, Tryz.sizeOf66⟩ (Ev.t rfl) (k := 1) rfl rfl) rfl ?_; clear S a w; intro a w S)
  (refine h_q (i := 5) S (by repeat (first | exact List.Sublist.refl _ | exact List.nil_sublist _ | refine .cons_cons _ ?_ | refine .cons _ ?_)) rfl (by kernel_rfl) (ys_call Tryz.call67 (EvL.cons (Ev.t rfl) (EvL.cons (Ev.t rfl) EvL.nil)) (fun hp w W => c67 _ _ _ _ _ _ (by exact .old W (by assumption)))) rfl ?_; clear S a w; intro a w S)
  (refine h_y (i := 6) S (by repeat (first | exact List.Sublist.refl _ | exact List.nil_sublist _ | refine .cons_cons _ ?_ | refine .cons _ ?_)) rfl (by kernel_rfl) (by kernel_rfl) (by kernel_rfl) (fun _ _ _ _ h => h) (ys_fieldN (FieldT.mk Tryz.underlying30 rfl Tryz.sizeOf3 rfl) (Ev.t rfl) (i' := 2) rfl) rfl ?_; clear S a w; intro a w S)
  (refine h_m0 (i := 7) rfl (by kernel_rfl) (op_st S Tryz.sizeOf3 (Ev.t rfl) (Ev.t rfl) (k := 2) rfl rfl (by simp) ?_); clear S a w; intro a w S; refine h_on S _ (List.Sublist.refl _) (by repeat (first | exact List.Sublist.refl _ | exact List.nil_sublist _ | refine .cons_cons _ ?_ | refine .cons _ ?_)) ?_)
  refine h_done (by kernel_rfl) ?_
  (refine (then_normal (hK1 _ _ ?_)); clear hK1)
  refine wp_seq_k fun _ hK1 => ?_
  refine wp_region_lit ?_
  (refine st_y S (Yr.ys (ys_fieldN (FieldT.mk Tryz.underlying30 rfl Tryz.sizeOf3 rfl) (Ev.t rfl) (i' := 2) rfl)) rfl ?_; clear S a w; intro a w S)
  (refine st_y S (Yr.ys (ys_ld ⟨Tryz.isAgg3, Tryz.sizeOf3⟩ (Ev.t rfl) (k := 2) rfl rfl)) rfl ?_; clear S a w; intro a w S)
  (refine st_y S (Yr.ys (ys_gtr (Ev.t rfl) Ev.c)) rfl ?_; clear S a w; intro a w S)
  (refine st_y S (Yr.ys (ys_assign (Ev.t rfl))) rfl ?_; clear S a w; intro a w S)
  refine st_nil ?_
  (refine (then_normal (hK1 _ _ ?_)); clear hK1)
  refine wp_ret ?_
  refine st_ret S (results1 S Tryz.results98 (Rv.tmp rfl)) ?_
  exact ⟨_, _, rfl, S.wd.picks (by repeat (first | exact Picks.nil | (refine Picks.rest ?_; (repeat (first | exact List.Sublist.refl _ | refine List.Sublist.cons_cons _ ?_ | refine List.Sublist.cons _ ?_)); done) | refine Picks.take 0 rfl ?_ | refine Picks.take 1 rfl ?_ | refine Picks.take 2 rfl ?_ | refine Picks.take 3 rfl ?_ | refine Picks.take 4 rfl ?_ | refine Picks.take 5 rfl ?_ | refine Picks.take 6 rfl ?_ | refine Picks.take 7 rfl ?_ | refine Picks.take 8 rfl ?_ | refine Picks.take 9 rfl ?_ | refine Picks.take 10 rfl ?_ | refine Picks.take 11 rfl ?_)), rfl, rfl⟩
end Go.Proofs.YtakpdbmdfnialaaGreat
set_option linter.unusedVariables false
set_option linter.unusedSimpArgs false
set_option maxRecDepth 100000
set_option maxHeartbeats 4000000
namespace Go.Fw
def allS : List Cart → Bool
  | [] => false
  | c :: r => r.all fun x => decide (c = x)
theorem allS_any (c : SCart) (r : List SCart) : (!((c :: r).any fun x => !decide (x.1 = c.1))) = allS ((c :: r).map (·.1)) := by
  unfold allS
  rw [Bool.eq_iff_iff, Bool.not_eq_true', List.any_eq_false, List.map_cons]
  dsimp only
  rw [List.all_eq_true]
  constructor
  · intro h x hx
    obtain ⟨y, hy, rfl⟩ := List.mem_map.1 hx
    have := h y (by simp [hy])
    simp at this
    exact decide_eq_true this.symm
  · intro h x hx
    rcases List.mem_cons.1 hx with rfl | hx
    · simp
    · have := of_decide_eq_true (h x.1 (List.mem_map.2 ⟨x, hx, rfl⟩))
      simp [this]
theorem ready_may {l : List Cart} {p q : Int} (h : mayD ⟨p, q, 1⟩ = false) : readyG l p q = (⟨0, 0, 0⟩, 1) := by rw [ready_def, if_pos h]
theorem ready_bad {l : List Cart} {p q : Int} (h : mayD ⟨p, q, 1⟩ = true) (hb : badG l ≠ 0) : readyG l p q = (⟨0, 0, 0⟩, badG l) := by rw [ready_def, if_neg (by rw [h]; simp), if_pos hb]
theorem ready_all {l : List Cart} {p q : Int} (h : mayD ⟨p, q, 1⟩ = true) (hb : badG l = 0) (ha : allS l = false) : readyG l p q = (⟨0, 0, 0⟩, 200) := by
  rw [ready_def, if_neg (by rw [h]; simp), if_neg (fun k => k hb)]
  cases l with
  | nil => rfl
  | cons c r =>
    have ha' : (r.all fun x => decide (c = x)) = false := ha
    dsimp only; rw [if_pos ha']
theorem ready_rest {c : Cart} {r : List Cart} {p q : Int} (h : mayD ⟨p, q, 1⟩ = true) (hb : badG (c :: r) = 0) (ha : allS (c :: r) = true) : readyG (c :: r) p q = if livesK c p q = true then (⟨0, 0, 0⟩, 201) else if c.ctx.top p q = 0 then (⟨0, 0, 0⟩, 62)
      else if (c.ctx.cloud.any fun d => decide (d.node = p ∧ d.life = q)) = true then (⟨0, 0, 0⟩, 202) else (⟨p, q, c.ctx.top p q⟩, 0) := by
  have ha' : (r.all fun x => decide (c = x)) = true := ha
  rw [ready_def, if_neg (by rw [h]; simp), if_neg (fun k => k hb)]
  dsimp only
  rw [if_neg (by rw [ha']; simp)]
theorem bad_can {l : List Cart} (h : badG l = 0) : ∀ c ∈ l, canE c = 0 := by
  intro c hc
  unfold badG at h
  cases hf : l.find? (fun c => decide (canE c ≠ 0)) with
  | some x =>
    rw [hf] at h
    have := List.find?_some hf
    simp at this
    exact absurd h this
  | none =>
    rw [List.find?_eq_none] at hf
    have := hf c hc
    simpa using this
end Go.Fw
namespace Go.Proofs.YtakpdbmdfnialaaGreat
open Go.Fw Go.Proofs Go.RowKit Go.Proofs.Tryz
theorem c93 (w0 : World) (v : Value) (c : SCart) (r : List SCart) (g : Nat) (h : Sl SCart.enc 3 w0 w0.heap.size v (c :: r)) (hc : CartsRd w0 (c :: r)) (h0 : w0.cell? ⟨g, 0, none⟩ = some v) :
    Calls Tryz.prog 93 #[v, .func (.func 94) #[] #[.pointer (some ⟨g, 0, none⟩)]] w0 fun e w' => e = .returned (.bool ((c :: r).any fun x => !decide (x.1 = c.1))) ∧ Bel w0.heap.size w0 w' :=
  x93 w0 v (c :: r) _ [.pointer (some ⟨g, 0, none⟩)] (fun x => !decide (x.1 = c.1)) call94 (fun w' W' x hx => c94 w' g v c x r (Wd.cellOld W' h0) (Sl.old W' h) ((hc c (by simp)).old W') ((hc x hx).old W')) h
theorem c92 (w0 : World) (g : Nat) (v : Value) (l : List SCart) (h0 : w0.cell? ⟨g, 0, none⟩ = some v) (h : Sl SCart.enc 3 w0 w0.heap.size v l) (hc : CartsRd w0 l) :
    Calls Tryz.prog 92 #[.pointer (some ⟨g, 0, none⟩)] w0 fun u w' => u = .returned (.bool (allS (l.map (·.1)))) ∧ Bel w0.heap.size w0 w' := by
  have hs := h
  cases l with
  | nil =>
    obtain ⟨A, cap, rfl, _⟩ := h
    refine enter1 func92 rfl ntmps92 rfl fun a S => sg S (.ac rfl <| .z) fun a w S => sg S (.yy (ys_ldO ⟨isAgg64, sizeOf64⟩ (.t rfl) (fun _ => h0)) rfl <| .ln underlying64 rfl <| .yy (ys_gtr (.t rfl) Ev.c) rfl <| .mv rfl <| .sk rfl rfl rfl <| .sk rfl rfl rfl <| .sk rfl rfl rfl <| .sk rfl rfl rfl <| .yy (ys_pickF (.t rfl) Ev.c) rfl <| .as rfl <| .z) fun a w S => wp_ret (st_ret S (results1 S results92 (Rv.tmp rfl)) ?_)
    exact ⟨rfl, S.wd.below⟩
  | cons c r =>
    obtain ⟨A, cap, rfl, _⟩ := h
    have rw_l : decide (((c :: r).length : Int) > 0) = true := decide_eq_true (by simp)
    refine enter1 func92 rfl ntmps92 rfl fun a S => sg S (.ac rfl <| .z) fun a w S => wp_seq_k fun _ hK1 => wp_region_lit (run S (.yy (ys_ldO ⟨isAgg64, sizeOf64⟩ (.t rfl) (fun _ => h0)) rfl <| .ln underlying64 rfl <| .yy (ys_gtr (.t rfl) Ev.c) rfl <| .z) fun a w S => ?_)
    rw [rw_l] at S
    refine run S (.mv rfl <| .gy rfl rfl (ys_ldO ⟨isAgg64, sizeOf64⟩ (.t rfl) (fun _ => h0)) <| .gy rfl rfl (ys_mkFunc (.cons (.t rfl) .nil)) <| .gx rfl rfl (ys_call call93 (.cons (.t rfl) (.cons (.t rfl) .nil)) (fun hp w W => c93 _ _ _ _ _ (by exact .old W (by assumption)) (by exact .old W (by assumption)) (by exact Wd.cellOld W (by assumption)))) <| .gy rfl rfl (ys_not (.t rfl)) <| .yy (ys_pickT (.t rfl) (.t rfl)) rfl <| .as rfl <| .z) fun a w S => st_nil (then_normal (hK1 _ _ (wp_ret (st_ret S (results1 S results92 (Rv.tmp rfl)) ?_))))
    exact ⟨by rw [allS_any], S.wd.below⟩
theorem c87 {w0 w : World} {L : List Chunk} {gr g1 g2 g4 g5 e1 e3 e4 e5 e6 : Nat} {v : Value} {l : List SCart} {p q : Int}
    (W : Wd w0 (.blk gr (.cells #[.func (.func 89) #[] #[.pointer (some ⟨g2, 0, none⟩)], .func (.func 149) #[] #[.pointer (some ⟨e1, 0, none⟩)],
        .func (.func 90) #[] #[.pointer (some ⟨g1, 0, none⟩), .pointer (some ⟨g4, 0, none⟩)], .func (.func 91) #[] #[.pointer (some ⟨g4, 0, none⟩)],
        .func (.func 92) #[] #[.pointer (some ⟨g1, 0, none⟩)], .func (.func 149) #[] #[.pointer (some ⟨e3, 0, none⟩)],
        .func (.func 96) #[] #[.pointer (some ⟨g1, 0, none⟩), .pointer (some ⟨g2, 0, none⟩)], .func (.func 149) #[] #[.pointer (some ⟨e4, 0, none⟩)],
        .func (.func 98) #[] #[.pointer (some ⟨g1, 0, none⟩), .pointer (some ⟨g2, 0, none⟩), .pointer (some ⟨g5, 0, none⟩)], .func (.func 149) #[] #[.pointer (some ⟨e5, 0, none⟩)],
        .func (.func 99) #[] #[.pointer (some ⟨g1, 0, none⟩), .pointer (some ⟨g5, 0, none⟩)], .func (.func 149) #[] #[.pointer (some ⟨e6, 0, none⟩)]] 134) ::
      .blk g1 (.cells #[v] 64) :: .blk g2 (.cells #[.int .i64 p, .int .i64 q] 66) :: .blk g4 (.cells #[.int .i64 0] 40) :: .blk g5 (.cells #[.int .i64 p, .int .i64 q, .int .i64 0] 30) ::
      .blk e1 (.cells #[.int .i64 1] 40) :: .blk e3 (.cells #[.int .i64 200] 40) :: .blk e4 (.cells #[.int .i64 201] 40) :: .blk e5 (.cells #[.int .i64 62] 40) :: .blk e6 (.cells #[.int .i64 202] 40) :: L) w)
    (h : Sl SCart.enc 3 w0 w0.heap.size v l) (hc : CartsRd w0 l) :
    RetsO Tryz.prog 87 #[.slice (some ⟨gr, 0, none⟩) 6 6] w0 w fun u L' => ∃ n, u = .int .i64 (readyG (l.map (·.1)) p q).2 ∧ L' = .blk g5 (.cells #[.int .i64 p, .int .i64 q, .int .i64 n] 30) :: L ∧ ((readyG (l.map (·.1)) p q).2 = 0 → (readyG (l.map (·.1)) p q).1 = ⟨p, q, n⟩) := by
  have hs := h
  have rw_1 : (0 : Int) + 1 = ((1 : Nat) : Int) := rfl
  have rw_2 : ((1 : Nat) : Int) + 1 = ((2 : Nat) : Int) := rfl
  have rw_3 : ((2 : Nat) : Int) + 1 = ((3 : Nat) : Int) := rfl
  have rw_4 : ((3 : Nat) : Int) + 1 = ((4 : Nat) : Int) := rfl
  have rw_5 : ((4 : Nat) : Int) + 1 = ((5 : Nat) : Int) := rfl
  have rw_6 : ((5 : Nat) : Int) + 1 = ((6 : Nat) : Int) := rfl
  cases hm : mayD ⟨p, q, 1⟩ with
  | false =>
    have rw_m := hm
    unfold Go.Fw.RetsO
    refine enterW1 W func87 rfl ntmps87 rfl fun a S => sg S (.ac rfl <| .z) fun a w S => wp_seq_k fun _ hK1 => sg S (.mv rfl <| .ln underlying187 rfl <| .mc rfl <| .z) fun a w S => wp_block (st_rounds 7 (st_round (sg S (.lt (by omega) rfl rfl <| .z) fun a w S => wp_seq_k fun _ hK2 => st_then S (.t rfl) (wp_skip (then_normal (hK2 _ _ (wp_seq_k fun _ hK2 => wp_block (wp_seq_k fun _ hK3 => wp_region_lit (run S (.yy (ys_ixS (j := 0) underlying187 sizeOf134 (.t rfl) (.t rfl) (fun _ => by omega)) rfl <| .la gt134 0 rfl rfl rfl <| .z) fun a w S => st_m (op_alloc S zeroValue134 (cs := _) rfl rfl fun g3 a w S => st_m (op_stW S sizeOf134 (.t rfl) (.t rfl) (k := 0) rfl rfl rfl (by simp [Value.oneCell']) fun a w S => st_nil (then_normal (hK3 _ _ (wp_seq_k fun _ hK3 => wp_region_lit (run S (.fa underlying134 sizeOf53 0 rfl rfl rfl <| .ld gt53 0 rfl rfl rfl <| .xx (ys_callVC (cs := [_]) (.t rfl) call89 .nil (fun hp w W => c89 _ _ _ _ (by exact Wd.cell W (k := 3) rfl rfl) (by exact Wd.cell W (k := 3) rfl rfl))) rfl <| .z) fun a w S => ?_)))))))))))))))
    rw [rw_m] at S
    refine run S (.nt rfl <| .z) fun a w S => st_nil (then_normal (hK3 _ _ (st_then S (.t rfl) (sg S (.fa underlying134 sizeOf132 1 rfl rfl rfl <| .ld gt132 0 rfl rfl rfl <| .xx (ys_callVC (cs := [_]) (.t rfl) call149 .nil (fun hp w W => c149 _ _ _ (by exact Wd.cell W (k := 6) rfl rfl))) rfl <| .as rfl <| .z) fun a w S => wp_ret (in_ret (then_ret (then_ret (in_ret (then_ret (st_ret S (results1 S results87 (Rv.tmp rfl)) ?_))))))))))
    rw [ready_may hm]
    exact ⟨_, _, rfl, S.wd.pk, _, rfl, rfl, fun k => by cases k⟩
  | true =>
  have rw_m := hm
  by_cases hb : badG (l.map (·.1)) = 0
  rotate_left
  · have rw_b := decide_eq_false hb
    unfold Go.Fw.RetsO
    refine enterW1 W func87 rfl ntmps87 rfl fun a S => sg S (.ac rfl <| .z) fun a w S => wp_seq_k fun _ hK1 => sg S (.mv rfl <| .ln underlying187 rfl <| .mc rfl <| .z) fun a w S => wp_block (st_rounds 7 (st_round (sg S (.lt (by omega) rfl rfl <| .z) fun a w S => wp_seq_k fun _ hK2 => st_then S (.t rfl) (wp_skip (then_normal (hK2 _ _ (wp_seq_k fun _ hK2 => wp_block (wp_seq_k fun _ hK3 => wp_region_lit (run S (.yy (ys_ixS (j := 0) underlying187 sizeOf134 (.t rfl) (.t rfl) (fun _ => by omega)) rfl <| .la gt134 0 rfl rfl rfl <| .z) fun a w S => st_m (op_alloc S zeroValue134 (cs := _) rfl rfl fun g3 a w S => st_m (op_stW S sizeOf134 (.t rfl) (.t rfl) (k := 0) rfl rfl rfl (by simp [Value.oneCell']) fun a w S => st_nil (then_normal (hK3 _ _ (wp_seq_k fun _ hK3 => wp_region_lit (run S (.fa underlying134 sizeOf53 0 rfl rfl rfl <| .ld gt53 0 rfl rfl rfl <| .xx (ys_callVC (cs := [_]) (.t rfl) call89 .nil (fun hp w W => c89 _ _ _ _ (by exact Wd.cell W (k := 3) rfl rfl) (by exact Wd.cell W (k := 3) rfl rfl))) rfl <| .z) fun a w S => ?_)))))))))))))))
    rw [rw_m] at S
    refine run S (.nt rfl <| .z) fun a w S => st_nil (then_normal (hK3 _ _ (st_else S (.t rfl) (wp_skip (in_normal (then_normal (hK2 _ _ (wp_region_lit (run S (.ad (by unfold I64; omega) rfl <| .z) fun a w S => ?_)))))))))
    rw [rw_1] at S
    refine run S (.mv rfl <| .z) fun a w S => st_nil (then_normal (st_round (sg S (.lt (by omega) rfl rfl <| .z) fun a w S => wp_seq_k fun _ hK2 => st_then S (.t rfl) (wp_skip (then_normal (hK2 _ _ (wp_seq_k fun _ hK2 => wp_block (wp_seq_k fun _ hK3 => wp_region_lit (run S (.yy (ys_ixS (j := 1) underlying187 sizeOf134 (.t rfl) (.t rfl) (fun _ => by omega)) rfl <| .la gt134 1 rfl rfl rfl <| .z) fun a w S => st_m (op_alloc S zeroValue134 (cs := _) rfl rfl fun g6 a w S => st_m (op_stW S sizeOf134 (.t rfl) (.t rfl) (k := 0) rfl rfl rfl (by simp [Value.oneCell']) fun a w S => st_nil (then_normal (hK3 _ _ (wp_seq_k fun _ hK3 => wp_region_lit (run S (.fa underlying134 sizeOf53 0 rfl rfl rfl <| .ld gt53 0 rfl rfl rfl <| .z) fun a w S => ?_)))))))))))))))
    (replace S := S.pull 5 rfl; try simp only [List.set_cons_zero, List.set_cons_succ, List.eraseIdx_cons_succ, List.eraseIdx_cons_zero] at S; replace S := S.pull 4 rfl; try simp only [List.set_cons_zero, List.set_cons_succ, List.eraseIdx_cons_succ, List.eraseIdx_cons_zero] at S; refine st_m (op_callVO (cs := [_, _]) S (.t rfl) call90 .nil (c90 S.wd (by first | assumption | omega | (dsimp only; omega) | exact Sl.nil_ | exact .old S.wd (by assumption) | exact Sl.of_own S.wd (k := 0) rfl (fun _ => rfl) | exact Sl.of_own S.wd (k := 1) rfl (fun _ => rfl) | exact Sl.of_own S.wd (k := 2) rfl (fun _ => rfl) | exact Sl.of_own S.wd (k := 3) rfl (fun _ => rfl) | exact Sl.of_own S.wd (k := 4) rfl (fun _ => rfl) | exact Sl.of_own S.wd (k := 5) rfl (fun _ => rfl) | exact Sl.of_own S.wd (k := 6) rfl (fun _ => rfl) | exact Sl.of_own S.wd (k := 7) rfl (fun _ => rfl) | exact Sl.of_own S.wd (k := 8) rfl (fun _ => rfl) | exact Sl.of_own S.wd (k := 9) rfl (fun _ => rfl) | exact Sl.of_own S.wd (k := 10) rfl (fun _ => rfl) | exact Sl.of_own S.wd (k := 11) rfl (fun _ => rfl) | (simp at *; omega)) (by first | assumption | omega | (dsimp only; omega) | exact Sl.nil_ | exact .old S.wd (by assumption) | exact Sl.of_own S.wd (k := 0) rfl (fun _ => rfl) | exact Sl.of_own S.wd (k := 1) rfl (fun _ => rfl) | exact Sl.of_own S.wd (k := 2) rfl (fun _ => rfl) | exact Sl.of_own S.wd (k := 3) rfl (fun _ => rfl) | exact Sl.of_own S.wd (k := 4) rfl (fun _ => rfl) | exact Sl.of_own S.wd (k := 5) rfl (fun _ => rfl) | exact Sl.of_own S.wd (k := 6) rfl (fun _ => rfl) | exact Sl.of_own S.wd (k := 7) rfl (fun _ => rfl) | exact Sl.of_own S.wd (k := 8) rfl (fun _ => rfl) | exact Sl.of_own S.wd (k := 9) rfl (fun _ => rfl) | exact Sl.of_own S.wd (k := 10) rfl (fun _ => rfl) | exact Sl.of_own S.wd (k := 11) rfl (fun _ => rfl) | (simp at *; omega))) rfl ?_) <;> clear S a w)
    rintro _ _ ⟨rfl, rfl⟩ a w S
    rw [rw_b] at S
    refine run S (.nt rfl <| .z) fun a w S => st_nil (then_normal (hK3 _ _ (st_then S (.t rfl) (sg S (.fa underlying134 sizeOf132 1 rfl rfl rfl <| .ld gt132 2 rfl rfl rfl <| .xx (ys_callVC (cs := [_]) (.t rfl) call91 .nil (fun hp w W => c91 _ _ _ (by exact Wd.cell W (k := 1) rfl rfl))) rfl <| .as rfl <| .z) fun a w S => wp_ret (in_ret (then_ret (then_ret (in_ret (then_ret (st_ret S (results1 S results87 (Rv.tmp rfl)) ?_))))))))))
    rw [ready_bad hm hb]
    exact ⟨_, _, rfl, S.wd.pk, _, rfl, rfl, fun k => absurd k hb⟩
  have rw_b := decide_eq_true hb
  have rw_bb := hb
  cases ha : allS (l.map (·.1)) with
  | false =>
    have rw_a := ha
    unfold Go.Fw.RetsO
    refine enterW1 W func87 rfl ntmps87 rfl fun a S => sg S (.ac rfl <| .z) fun a w S => wp_seq_k fun _ hK1 => sg S (.mv rfl <| .ln underlying187 rfl <| .mc rfl <| .z) fun a w S => wp_block (st_rounds 7 (st_round (sg S (.lt (by omega) rfl rfl <| .z) fun a w S => wp_seq_k fun _ hK2 => st_then S (.t rfl) (wp_skip (then_normal (hK2 _ _ (wp_seq_k fun _ hK2 => wp_block (wp_seq_k fun _ hK3 => wp_region_lit (run S (.yy (ys_ixS (j := 0) underlying187 sizeOf134 (.t rfl) (.t rfl) (fun _ => by omega)) rfl <| .la gt134 0 rfl rfl rfl <| .z) fun a w S => st_m (op_alloc S zeroValue134 (cs := _) rfl rfl fun g3 a w S => st_m (op_stW S sizeOf134 (.t rfl) (.t rfl) (k := 0) rfl rfl rfl (by simp [Value.oneCell']) fun a w S => st_nil (then_normal (hK3 _ _ (wp_seq_k fun _ hK3 => wp_region_lit (run S (.fa underlying134 sizeOf53 0 rfl rfl rfl <| .ld gt53 0 rfl rfl rfl <| .xx (ys_callVC (cs := [_]) (.t rfl) call89 .nil (fun hp w W => c89 _ _ _ _ (by exact Wd.cell W (k := 3) rfl rfl) (by exact Wd.cell W (k := 3) rfl rfl))) rfl <| .z) fun a w S => ?_)))))))))))))))
    rw [rw_m] at S
    refine run S (.nt rfl <| .z) fun a w S => st_nil (then_normal (hK3 _ _ (st_else S (.t rfl) (wp_skip (in_normal (then_normal (hK2 _ _ (wp_region_lit (run S (.ad (by unfold I64; omega) rfl <| .z) fun a w S => ?_)))))))))
    rw [rw_1] at S
    refine run S (.mv rfl <| .z) fun a w S => st_nil (then_normal (st_round (sg S (.lt (by omega) rfl rfl <| .z) fun a w S => wp_seq_k fun _ hK2 => st_then S (.t rfl) (wp_skip (then_normal (hK2 _ _ (wp_seq_k fun _ hK2 => wp_block (wp_seq_k fun _ hK3 => wp_region_lit (run S (.yy (ys_ixS (j := 1) underlying187 sizeOf134 (.t rfl) (.t rfl) (fun _ => by omega)) rfl <| .la gt134 1 rfl rfl rfl <| .z) fun a w S => st_m (op_alloc S zeroValue134 (cs := _) rfl rfl fun g6 a w S => st_m (op_stW S sizeOf134 (.t rfl) (.t rfl) (k := 0) rfl rfl rfl (by simp [Value.oneCell']) fun a w S => st_nil (then_normal (hK3 _ _ (wp_seq_k fun _ hK3 => wp_region_lit (run S (.fa underlying134 sizeOf53 0 rfl rfl rfl <| .ld gt53 0 rfl rfl rfl <| .z) fun a w S => ?_)))))))))))))))
    (replace S := S.pull 5 rfl; try simp only [List.set_cons_zero, List.set_cons_succ, List.eraseIdx_cons_succ, List.eraseIdx_cons_zero] at S; replace S := S.pull 4 rfl; try simp only [List.set_cons_zero, List.set_cons_succ, List.eraseIdx_cons_succ, List.eraseIdx_cons_zero] at S; refine st_m (op_callVO (cs := [_, _]) S (.t rfl) call90 .nil (c90 S.wd (by first | assumption | omega | (dsimp only; omega) | exact Sl.nil_ | exact .old S.wd (by assumption) | exact Sl.of_own S.wd (k := 0) rfl (fun _ => rfl) | exact Sl.of_own S.wd (k := 1) rfl (fun _ => rfl) | exact Sl.of_own S.wd (k := 2) rfl (fun _ => rfl) | exact Sl.of_own S.wd (k := 3) rfl (fun _ => rfl) | exact Sl.of_own S.wd (k := 4) rfl (fun _ => rfl) | exact Sl.of_own S.wd (k := 5) rfl (fun _ => rfl) | exact Sl.of_own S.wd (k := 6) rfl (fun _ => rfl) | exact Sl.of_own S.wd (k := 7) rfl (fun _ => rfl) | exact Sl.of_own S.wd (k := 8) rfl (fun _ => rfl) | exact Sl.of_own S.wd (k := 9) rfl (fun _ => rfl) | exact Sl.of_own S.wd (k := 10) rfl (fun _ => rfl) | exact Sl.of_own S.wd (k := 11) rfl (fun _ => rfl) | (simp at *; omega)) (by first | assumption | omega | (dsimp only; omega) | exact Sl.nil_ | exact .old S.wd (by assumption) | exact Sl.of_own S.wd (k := 0) rfl (fun _ => rfl) | exact Sl.of_own S.wd (k := 1) rfl (fun _ => rfl) | exact Sl.of_own S.wd (k := 2) rfl (fun _ => rfl) | exact Sl.of_own S.wd (k := 3) rfl (fun _ => rfl) | exact Sl.of_own S.wd (k := 4) rfl (fun _ => rfl) | exact Sl.of_own S.wd (k := 5) rfl (fun _ => rfl) | exact Sl.of_own S.wd (k := 6) rfl (fun _ => rfl) | exact Sl.of_own S.wd (k := 7) rfl (fun _ => rfl) | exact Sl.of_own S.wd (k := 8) rfl (fun _ => rfl) | exact Sl.of_own S.wd (k := 9) rfl (fun _ => rfl) | exact Sl.of_own S.wd (k := 10) rfl (fun _ => rfl) | exact Sl.of_own S.wd (k := 11) rfl (fun _ => rfl) | (simp at *; omega))) rfl ?_) <;> clear S a w)
    rintro _ _ ⟨rfl, rfl⟩ a w S
    rw [rw_b] at S
    rw [rw_bb] at S
    refine run S (.nt rfl <| .z) fun a w S => st_nil (then_normal (hK3 _ _ (st_else S (.t rfl) (wp_skip (in_normal (then_normal (hK2 _ _ (wp_region_lit (run S (.ad (by unfold I64; omega) rfl <| .z) fun a w S => ?_)))))))))
    rw [rw_2] at S
    refine run S (.mv rfl <| .z) fun a w S => st_nil (then_normal (st_round (sg S (.lt (by omega) rfl rfl <| .z) fun a w S => wp_seq_k fun _ hK2 => st_then S (.t rfl) (wp_skip (then_normal (hK2 _ _ (wp_seq_k fun _ hK2 => wp_block (wp_seq_k fun _ hK3 => wp_region_lit (run S (.yy (ys_ixS (j := 2) underlying187 sizeOf134 (.t rfl) (.t rfl) (fun _ => by omega)) rfl <| .la gt134 4 rfl rfl rfl <| .z) fun a w S => st_m (op_alloc S zeroValue134 (cs := _) rfl rfl fun g7 a w S => st_m (op_stW S sizeOf134 (.t rfl) (.t rfl) (k := 0) rfl rfl rfl (by simp [Value.oneCell']) fun a w S => st_nil (then_normal (hK3 _ _ (wp_seq_k fun _ hK3 => wp_region_lit (run S (.fa underlying134 sizeOf53 0 rfl rfl rfl <| .ld gt53 0 rfl rfl rfl <| .xx (ys_callVC (cs := [_]) (.t rfl) call92 .nil (fun hp w W => c92 _ _ _ _ (by exact Wd.cell W (k := 1) rfl rfl) (by exact .old W (by assumption)) (by exact .old W (by assumption)))) rfl <| .z) fun a w S => ?_)))))))))))))))
    rw [rw_a] at S
    refine run S (.nt rfl <| .z) fun a w S => st_nil (then_normal (hK3 _ _ (st_then S (.t rfl) (sg S (.fa underlying134 sizeOf132 1 rfl rfl rfl <| .ld gt132 0 rfl rfl rfl <| .xx (ys_callVC (cs := [_]) (.t rfl) call149 .nil (fun hp w W => c149 _ _ _ (by exact Wd.cell W (k := 9) rfl rfl))) rfl <| .as rfl <| .z) fun a w S => wp_ret (in_ret (then_ret (then_ret (in_ret (then_ret (st_ret S (results1 S results87 (Rv.tmp rfl)) ?_))))))))))
    rw [ready_all hm hb ha]
    exact ⟨_, _, rfl, S.wd.pk, _, rfl, rfl, fun k => by cases k⟩
  | true =>
  have rw_a := ha
  cases l with
  | nil => cases ha
  | cons c r =>
  have hcc := hc c (by simp)
  have hcan : canL c.1.ctx = true := can_ctx (bad_can hb c.1 (by simp))
  have er := ready_rest (c := c.1) (r := r.map (·.1)) hm (by rw [← List.map_cons (f := fun x : SCart => x.1)]; exact hb) (by rw [← List.map_cons (f := fun x : SCart => x.1)]; exact ha)
  rw [← List.map_cons (f := fun x : SCart => x.1)] at er
  cases hlv : livesK c.1 p q with
  | true =>
    have rw_lv := hlv
    rw [if_pos hlv] at er
    unfold Go.Fw.RetsO
    refine enterW1 W func87 rfl ntmps87 rfl fun a S => sg S (.ac rfl <| .z) fun a w S => wp_seq_k fun _ hK1 => sg S (.mv rfl <| .ln underlying187 rfl <| .mc rfl <| .z) fun a w S => wp_block (st_rounds 7 (st_round (sg S (.lt (by omega) rfl rfl <| .z) fun a w S => wp_seq_k fun _ hK2 => st_then S (.t rfl) (wp_skip (then_normal (hK2 _ _ (wp_seq_k fun _ hK2 => wp_block (wp_seq_k fun _ hK3 => wp_region_lit (run S (.yy (ys_ixS (j := 0) underlying187 sizeOf134 (.t rfl) (.t rfl) (fun _ => by omega)) rfl <| .la gt134 0 rfl rfl rfl <| .z) fun a w S => st_m (op_alloc S zeroValue134 (cs := _) rfl rfl fun g3 a w S => st_m (op_stW S sizeOf134 (.t rfl) (.t rfl) (k := 0) rfl rfl rfl (by simp [Value.oneCell']) fun a w S => st_nil (then_normal (hK3 _ _ (wp_seq_k fun _ hK3 => wp_region_lit (run S (.fa underlying134 sizeOf53 0 rfl rfl rfl <| .ld gt53 0 rfl rfl rfl <| .xx (ys_callVC (cs := [_]) (.t rfl) call89 .nil (fun hp w W => c89 _ _ _ _ (by exact Wd.cell W (k := 3) rfl rfl) (by exact Wd.cell W (k := 3) rfl rfl))) rfl <| .z) fun a w S => ?_)))))))))))))))
    rw [rw_m] at S
    refine run S (.nt rfl <| .z) fun a w S => st_nil (then_normal (hK3 _ _ (st_else S (.t rfl) (wp_skip (in_normal (then_normal (hK2 _ _ (wp_region_lit (run S (.ad (by unfold I64; omega) rfl <| .z) fun a w S => ?_)))))))))
    rw [rw_1] at S
    refine run S (.mv rfl <| .z) fun a w S => st_nil (then_normal (st_round (sg S (.lt (by omega) rfl rfl <| .z) fun a w S => wp_seq_k fun _ hK2 => st_then S (.t rfl) (wp_skip (then_normal (hK2 _ _ (wp_seq_k fun _ hK2 => wp_block (wp_seq_k fun _ hK3 => wp_region_lit (run S (.yy (ys_ixS (j := 1) underlying187 sizeOf134 (.t rfl) (.t rfl) (fun _ => by omega)) rfl <| .la gt134 1 rfl rfl rfl <| .z) fun a w S => st_m (op_alloc S zeroValue134 (cs := _) rfl rfl fun g6 a w S => st_m (op_stW S sizeOf134 (.t rfl) (.t rfl) (k := 0) rfl rfl rfl (by simp [Value.oneCell']) fun a w S => st_nil (then_normal (hK3 _ _ (wp_seq_k fun _ hK3 => wp_region_lit (run S (.fa underlying134 sizeOf53 0 rfl rfl rfl <| .ld gt53 0 rfl rfl rfl <| .z) fun a w S => ?_)))))))))))))))
    (replace S := S.pull 5 rfl; try simp only [List.set_cons_zero, List.set_cons_succ, List.eraseIdx_cons_succ, List.eraseIdx_cons_zero] at S; replace S := S.pull 4 rfl; try simp only [List.set_cons_zero, List.set_cons_succ, List.eraseIdx_cons_succ, List.eraseIdx_cons_zero] at S; refine st_m (op_callVO (cs := [_, _]) S (.t rfl) call90 .nil (c90 S.wd (by first | assumption | omega | (dsimp only; omega) | exact Sl.nil_ | exact .old S.wd (by assumption) | exact Sl.of_own S.wd (k := 0) rfl (fun _ => rfl) | exact Sl.of_own S.wd (k := 1) rfl (fun _ => rfl) | exact Sl.of_own S.wd (k := 2) rfl (fun _ => rfl) | exact Sl.of_own S.wd (k := 3) rfl (fun _ => rfl) | exact Sl.of_own S.wd (k := 4) rfl (fun _ => rfl) | exact Sl.of_own S.wd (k := 5) rfl (fun _ => rfl) | exact Sl.of_own S.wd (k := 6) rfl (fun _ => rfl) | exact Sl.of_own S.wd (k := 7) rfl (fun _ => rfl) | exact Sl.of_own S.wd (k := 8) rfl (fun _ => rfl) | exact Sl.of_own S.wd (k := 9) rfl (fun _ => rfl) | exact Sl.of_own S.wd (k := 10) rfl (fun _ => rfl) | exact Sl.of_own S.wd (k := 11) rfl (fun _ => rfl) | (simp at *; omega)) (by first | assumption | omega | (dsimp only; omega) | exact Sl.nil_ | exact .old S.wd (by assumption) | exact Sl.of_own S.wd (k := 0) rfl (fun _ => rfl) | exact Sl.of_own S.wd (k := 1) rfl (fun _ => rfl) | exact Sl.of_own S.wd (k := 2) rfl (fun _ => rfl) | exact Sl.of_own S.wd (k := 3) rfl (fun _ => rfl) | exact Sl.of_own S.wd (k := 4) rfl (fun _ => rfl) | exact Sl.of_own S.wd (k := 5) rfl (fun _ => rfl) | exact Sl.of_own S.wd (k := 6) rfl (fun _ => rfl) | exact Sl.of_own S.wd (k := 7) rfl (fun _ => rfl) | exact Sl.of_own S.wd (k := 8) rfl (fun _ => rfl) | exact Sl.of_own S.wd (k := 9) rfl (fun _ => rfl) | exact Sl.of_own S.wd (k := 10) rfl (fun _ => rfl) | exact Sl.of_own S.wd (k := 11) rfl (fun _ => rfl) | (simp at *; omega))) rfl ?_) <;> clear S a w)
    rintro _ _ ⟨rfl, rfl⟩ a w S
    rw [rw_b] at S
    rw [rw_bb] at S
    refine run S (.nt rfl <| .z) fun a w S => st_nil (then_normal (hK3 _ _ (st_else S (.t rfl) (wp_skip (in_normal (then_normal (hK2 _ _ (wp_region_lit (run S (.ad (by unfold I64; omega) rfl <| .z) fun a w S => ?_)))))))))
    rw [rw_2] at S
    refine run S (.mv rfl <| .z) fun a w S => st_nil (then_normal (st_round (sg S (.lt (by omega) rfl rfl <| .z) fun a w S => wp_seq_k fun _ hK2 => st_then S (.t rfl) (wp_skip (then_normal (hK2 _ _ (wp_seq_k fun _ hK2 => wp_block (wp_seq_k fun _ hK3 => wp_region_lit (run S (.yy (ys_ixS (j := 2) underlying187 sizeOf134 (.t rfl) (.t rfl) (fun _ => by omega)) rfl <| .la gt134 4 rfl rfl rfl <| .z) fun a w S => st_m (op_alloc S zeroValue134 (cs := _) rfl rfl fun g7 a w S => st_m (op_stW S sizeOf134 (.t rfl) (.t rfl) (k := 0) rfl rfl rfl (by simp [Value.oneCell']) fun a w S => st_nil (then_normal (hK3 _ _ (wp_seq_k fun _ hK3 => wp_region_lit (run S (.fa underlying134 sizeOf53 0 rfl rfl rfl <| .ld gt53 0 rfl rfl rfl <| .xx (ys_callVC (cs := [_]) (.t rfl) call92 .nil (fun hp w W => c92 _ _ _ _ (by exact Wd.cell W (k := 1) rfl rfl) (by exact .old W (by assumption)) (by exact .old W (by assumption)))) rfl <| .z) fun a w S => ?_)))))))))))))))
    rw [rw_a] at S
    refine run S (.nt rfl <| .z) fun a w S => st_nil (then_normal (hK3 _ _ (st_else S (.t rfl) (wp_skip (in_normal (then_normal (hK2 _ _ (wp_region_lit (run S (.ad (by unfold I64; omega) rfl <| .z) fun a w S => ?_)))))))))
    rw [rw_3] at S
    refine run S (.mv rfl <| .z) fun a w S => st_nil (then_normal (st_round (sg S (.lt (by omega) rfl rfl <| .z) fun a w S => wp_seq_k fun _ hK2 => st_then S (.t rfl) (wp_skip (then_normal (hK2 _ _ (wp_seq_k fun _ hK2 => wp_block (wp_seq_k fun _ hK3 => wp_region_lit (run S (.yy (ys_ixS (j := 3) underlying187 sizeOf134 (.t rfl) (.t rfl) (fun _ => by omega)) rfl <| .la gt134 5 rfl rfl rfl <| .z) fun a w S => st_m (op_alloc S zeroValue134 (cs := _) rfl rfl fun g8 a w S => st_m (op_stW S sizeOf134 (.t rfl) (.t rfl) (k := 0) rfl rfl rfl (by simp [Value.oneCell']) fun a w S => st_nil (then_normal (hK3 _ _ (wp_seq_k fun _ hK3 => wp_region_lit (run S (.fa underlying134 sizeOf53 0 rfl rfl rfl <| .ld gt53 0 rfl rfl rfl <| .xx (ys_callVC (cs := [_, _]) (.t rfl) call96 .nil (fun hp w W => c96 _ _ _ _ _ _ _ _ (by exact Wd.cell W (k := 2) rfl rfl) (by exact Wd.cell W (k := 7) rfl rfl) (by exact Wd.cell W (k := 7) rfl rfl) (by exact .old W (by assumption)) (by exact .old W (by assumption)))) rfl <| .z) fun a w S => ?_)))))))))))))))
    rw [rw_lv] at S
    refine run S (.nt rfl <| .z) fun a w S => st_nil (then_normal (hK3 _ _ (st_then S (.t rfl) (sg S (.fa underlying134 sizeOf132 1 rfl rfl rfl <| .ld gt132 0 rfl rfl rfl <| .xx (ys_callVC (cs := [_]) (.t rfl) call149 .nil (fun hp w W => c149 _ _ _ (by exact Wd.cell W (k := 11) rfl rfl))) rfl <| .as rfl <| .z) fun a w S => wp_ret (in_ret (then_ret (then_ret (in_ret (then_ret (st_ret S (results1 S results87 (Rv.tmp rfl)) ?_))))))))))
    rw [er]
    exact ⟨_, _, rfl, S.wd.pk, _, rfl, rfl, fun k => by cases k⟩
  | false =>
  have rw_lv := hlv
  rw [if_neg (by rw [hlv]; simp)] at er
  have htn := top_nonneg (can_nf hcan) p q
  by_cases ht : c.1.ctx.top p q = 0
  · have rw_t : decide (0 < c.1.ctx.top p q) = false := decide_eq_false (by omega)
    rw [if_pos ht] at er
    unfold Go.Fw.RetsO
    refine enterW1 W func87 rfl ntmps87 rfl fun a S => sg S (.ac rfl <| .z) fun a w S => wp_seq_k fun _ hK1 => sg S (.mv rfl <| .ln underlying187 rfl <| .mc rfl <| .z) fun a w S => wp_block (st_rounds 7 (st_round (sg S (.lt (by omega) rfl rfl <| .z) fun a w S => wp_seq_k fun _ hK2 => st_then S (.t rfl) (wp_skip (then_normal (hK2 _ _ (wp_seq_k fun _ hK2 => wp_block (wp_seq_k fun _ hK3 => wp_region_lit (run S (.yy (ys_ixS (j := 0) underlying187 sizeOf134 (.t rfl) (.t rfl) (fun _ => by omega)) rfl <| .la gt134 0 rfl rfl rfl <| .z) fun a w S => st_m (op_alloc S zeroValue134 (cs := _) rfl rfl fun g3 a w S => st_m (op_stW S sizeOf134 (.t rfl) (.t rfl) (k := 0) rfl rfl rfl (by simp [Value.oneCell']) fun a w S => st_nil (then_normal (hK3 _ _ (wp_seq_k fun _ hK3 => wp_region_lit (run S (.fa underlying134 sizeOf53 0 rfl rfl rfl <| .ld gt53 0 rfl rfl rfl <| .xx (ys_callVC (cs := [_]) (.t rfl) call89 .nil (fun hp w W => c89 _ _ _ _ (by exact Wd.cell W (k := 3) rfl rfl) (by exact Wd.cell W (k := 3) rfl rfl))) rfl <| .z) fun a w S => ?_)))))))))))))))
    rw [rw_m] at S
    refine run S (.nt rfl <| .z) fun a w S => st_nil (then_normal (hK3 _ _ (st_else S (.t rfl) (wp_skip (in_normal (then_normal (hK2 _ _ (wp_region_lit (run S (.ad (by unfold I64; omega) rfl <| .z) fun a w S => ?_)))))))))
    rw [rw_1] at S
    refine run S (.mv rfl <| .z) fun a w S => st_nil (then_normal (st_round (sg S (.lt (by omega) rfl rfl <| .z) fun a w S => wp_seq_k fun _ hK2 => st_then S (.t rfl) (wp_skip (then_normal (hK2 _ _ (wp_seq_k fun _ hK2 => wp_block (wp_seq_k fun _ hK3 => wp_region_lit (run S (.yy (ys_ixS (j := 1) underlying187 sizeOf134 (.t rfl) (.t rfl) (fun _ => by omega)) rfl <| .la gt134 1 rfl rfl rfl <| .z) fun a w S => st_m (op_alloc S zeroValue134 (cs := _) rfl rfl fun g6 a w S => st_m (op_stW S sizeOf134 (.t rfl) (.t rfl) (k := 0) rfl rfl rfl (by simp [Value.oneCell']) fun a w S => st_nil (then_normal (hK3 _ _ (wp_seq_k fun _ hK3 => wp_region_lit (run S (.fa underlying134 sizeOf53 0 rfl rfl rfl <| .ld gt53 0 rfl rfl rfl <| .z) fun a w S => ?_)))))))))))))))
    (replace S := S.pull 5 rfl; try simp only [List.set_cons_zero, List.set_cons_succ, List.eraseIdx_cons_succ, List.eraseIdx_cons_zero] at S; replace S := S.pull 4 rfl; try simp only [List.set_cons_zero, List.set_cons_succ, List.eraseIdx_cons_succ, List.eraseIdx_cons_zero] at S; refine st_m (op_callVO (cs := [_, _]) S (.t rfl) call90 .nil (c90 S.wd (by first | assumption | omega | (dsimp only; omega) | exact Sl.nil_ | exact .old S.wd (by assumption) | exact Sl.of_own S.wd (k := 0) rfl (fun _ => rfl) | exact Sl.of_own S.wd (k := 1) rfl (fun _ => rfl) | exact Sl.of_own S.wd (k := 2) rfl (fun _ => rfl) | exact Sl.of_own S.wd (k := 3) rfl (fun _ => rfl) | exact Sl.of_own S.wd (k := 4) rfl (fun _ => rfl) | exact Sl.of_own S.wd (k := 5) rfl (fun _ => rfl) | exact Sl.of_own S.wd (k := 6) rfl (fun _ => rfl) | exact Sl.of_own S.wd (k := 7) rfl (fun _ => rfl) | exact Sl.of_own S.wd (k := 8) rfl (fun _ => rfl) | exact Sl.of_own S.wd (k := 9) rfl (fun _ => rfl) | exact Sl.of_own S.wd (k := 10) rfl (fun _ => rfl) | exact Sl.of_own S.wd (k := 11) rfl (fun _ => rfl) | (simp at *; omega)) (by first | assumption | omega | (dsimp only; omega) | exact Sl.nil_ | exact .old S.wd (by assumption) | exact Sl.of_own S.wd (k := 0) rfl (fun _ => rfl) | exact Sl.of_own S.wd (k := 1) rfl (fun _ => rfl) | exact Sl.of_own S.wd (k := 2) rfl (fun _ => rfl) | exact Sl.of_own S.wd (k := 3) rfl (fun _ => rfl) | exact Sl.of_own S.wd (k := 4) rfl (fun _ => rfl) | exact Sl.of_own S.wd (k := 5) rfl (fun _ => rfl) | exact Sl.of_own S.wd (k := 6) rfl (fun _ => rfl) | exact Sl.of_own S.wd (k := 7) rfl (fun _ => rfl) | exact Sl.of_own S.wd (k := 8) rfl (fun _ => rfl) | exact Sl.of_own S.wd (k := 9) rfl (fun _ => rfl) | exact Sl.of_own S.wd (k := 10) rfl (fun _ => rfl) | exact Sl.of_own S.wd (k := 11) rfl (fun _ => rfl) | (simp at *; omega))) rfl ?_) <;> clear S a w)
    rintro _ _ ⟨rfl, rfl⟩ a w S
    rw [rw_b] at S
    rw [rw_bb] at S
    refine run S (.nt rfl <| .z) fun a w S => st_nil (then_normal (hK3 _ _ (st_else S (.t rfl) (wp_skip (in_normal (then_normal (hK2 _ _ (wp_region_lit (run S (.ad (by unfold I64; omega) rfl <| .z) fun a w S => ?_)))))))))
    rw [rw_2] at S
    refine run S (.mv rfl <| .z) fun a w S => st_nil (then_normal (st_round (sg S (.lt (by omega) rfl rfl <| .z) fun a w S => wp_seq_k fun _ hK2 => st_then S (.t rfl) (wp_skip (then_normal (hK2 _ _ (wp_seq_k fun _ hK2 => wp_block (wp_seq_k fun _ hK3 => wp_region_lit (run S (.yy (ys_ixS (j := 2) underlying187 sizeOf134 (.t rfl) (.t rfl) (fun _ => by omega)) rfl <| .la gt134 4 rfl rfl rfl <| .z) fun a w S => st_m (op_alloc S zeroValue134 (cs := _) rfl rfl fun g7 a w S => st_m (op_stW S sizeOf134 (.t rfl) (.t rfl) (k := 0) rfl rfl rfl (by simp [Value.oneCell']) fun a w S => st_nil (then_normal (hK3 _ _ (wp_seq_k fun _ hK3 => wp_region_lit (run S (.fa underlying134 sizeOf53 0 rfl rfl rfl <| .ld gt53 0 rfl rfl rfl <| .xx (ys_callVC (cs := [_]) (.t rfl) call92 .nil (fun hp w W => c92 _ _ _ _ (by exact Wd.cell W (k := 1) rfl rfl) (by exact .old W (by assumption)) (by exact .old W (by assumption)))) rfl <| .z) fun a w S => ?_)))))))))))))))
    rw [rw_a] at S
    refine run S (.nt rfl <| .z) fun a w S => st_nil (then_normal (hK3 _ _ (st_else S (.t rfl) (wp_skip (in_normal (then_normal (hK2 _ _ (wp_region_lit (run S (.ad (by unfold I64; omega) rfl <| .z) fun a w S => ?_)))))))))
    rw [rw_3] at S
    refine run S (.mv rfl <| .z) fun a w S => st_nil (then_normal (st_round (sg S (.lt (by omega) rfl rfl <| .z) fun a w S => wp_seq_k fun _ hK2 => st_then S (.t rfl) (wp_skip (then_normal (hK2 _ _ (wp_seq_k fun _ hK2 => wp_block (wp_seq_k fun _ hK3 => wp_region_lit (run S (.yy (ys_ixS (j := 3) underlying187 sizeOf134 (.t rfl) (.t rfl) (fun _ => by omega)) rfl <| .la gt134 5 rfl rfl rfl <| .z) fun a w S => st_m (op_alloc S zeroValue134 (cs := _) rfl rfl fun g8 a w S => st_m (op_stW S sizeOf134 (.t rfl) (.t rfl) (k := 0) rfl rfl rfl (by simp [Value.oneCell']) fun a w S => st_nil (then_normal (hK3 _ _ (wp_seq_k fun _ hK3 => wp_region_lit (run S (.fa underlying134 sizeOf53 0 rfl rfl rfl <| .ld gt53 0 rfl rfl rfl <| .xx (ys_callVC (cs := [_, _]) (.t rfl) call96 .nil (fun hp w W => c96 _ _ _ _ _ _ _ _ (by exact Wd.cell W (k := 2) rfl rfl) (by exact Wd.cell W (k := 7) rfl rfl) (by exact Wd.cell W (k := 7) rfl rfl) (by exact .old W (by assumption)) (by exact .old W (by assumption)))) rfl <| .z) fun a w S => ?_)))))))))))))))
    rw [rw_lv] at S
    refine run S (.nt rfl <| .z) fun a w S => st_nil (then_normal (hK3 _ _ (st_else S (.t rfl) (wp_skip (in_normal (then_normal (hK2 _ _ (wp_region_lit (run S (.ad (by unfold I64; omega) rfl <| .z) fun a w S => ?_)))))))))
    rw [rw_4] at S
    refine run S (.mv rfl <| .z) fun a w S => st_nil (then_normal (st_round (sg S (.lt (by omega) rfl rfl <| .z) fun a w S => wp_seq_k fun _ hK2 => st_then S (.t rfl) (wp_skip (then_normal (hK2 _ _ (wp_seq_k fun _ hK2 => wp_block (wp_seq_k fun _ hK3 => wp_region_lit (run S (.yy (ys_ixS (j := 4) underlying187 sizeOf134 (.t rfl) (.t rfl) (fun _ => by omega)) rfl <| .la gt134 6 rfl rfl rfl <| .z) fun a w S => st_m (op_alloc S zeroValue134 (cs := _) rfl rfl fun g9 a w S => st_m (op_stW S sizeOf134 (.t rfl) (.t rfl) (k := 0) rfl rfl rfl (by simp [Value.oneCell']) fun a w S => st_nil (then_normal (hK3 _ _ (wp_seq_k fun _ hK3 => wp_region_lit (run S (.fa underlying134 sizeOf53 0 rfl rfl rfl <| .ld gt53 0 rfl rfl rfl <| .z) fun a w S => ?_)))))))))))))))
    (replace S := S.pull 9 rfl; try simp only [List.set_cons_zero, List.set_cons_succ, List.eraseIdx_cons_succ, List.eraseIdx_cons_zero] at S; replace S := S.pull 9 rfl; try simp only [List.set_cons_zero, List.set_cons_succ, List.eraseIdx_cons_succ, List.eraseIdx_cons_zero] at S; replace S := S.pull 5 rfl; try simp only [List.set_cons_zero, List.set_cons_succ, List.eraseIdx_cons_succ, List.eraseIdx_cons_zero] at S; refine st_m (op_callVO (cs := [_, _, _]) S (.t rfl) call98 .nil (c98 S.wd (by first | assumption | omega | (dsimp only; omega) | exact Sl.nil_ | exact .old S.wd (by assumption) | exact Sl.of_own S.wd (k := 0) rfl (fun _ => rfl) | exact Sl.of_own S.wd (k := 1) rfl (fun _ => rfl) | exact Sl.of_own S.wd (k := 2) rfl (fun _ => rfl) | exact Sl.of_own S.wd (k := 3) rfl (fun _ => rfl) | exact Sl.of_own S.wd (k := 4) rfl (fun _ => rfl) | exact Sl.of_own S.wd (k := 5) rfl (fun _ => rfl) | exact Sl.of_own S.wd (k := 6) rfl (fun _ => rfl) | exact Sl.of_own S.wd (k := 7) rfl (fun _ => rfl) | exact Sl.of_own S.wd (k := 8) rfl (fun _ => rfl) | exact Sl.of_own S.wd (k := 9) rfl (fun _ => rfl) | exact Sl.of_own S.wd (k := 10) rfl (fun _ => rfl) | exact Sl.of_own S.wd (k := 11) rfl (fun _ => rfl) | exact Sl.of_own S.wd (k := 12) rfl (fun _ => rfl) | exact Sl.of_own S.wd (k := 13) rfl (fun _ => rfl) | exact Sl.of_own S.wd (k := 14) rfl (fun _ => rfl) | (simp at *; omega)) (by first | assumption | omega | (dsimp only; omega) | exact Sl.nil_ | exact .old S.wd (by assumption) | exact Sl.of_own S.wd (k := 0) rfl (fun _ => rfl) | exact Sl.of_own S.wd (k := 1) rfl (fun _ => rfl) | exact Sl.of_own S.wd (k := 2) rfl (fun _ => rfl) | exact Sl.of_own S.wd (k := 3) rfl (fun _ => rfl) | exact Sl.of_own S.wd (k := 4) rfl (fun _ => rfl) | exact Sl.of_own S.wd (k := 5) rfl (fun _ => rfl) | exact Sl.of_own S.wd (k := 6) rfl (fun _ => rfl) | exact Sl.of_own S.wd (k := 7) rfl (fun _ => rfl) | exact Sl.of_own S.wd (k := 8) rfl (fun _ => rfl) | exact Sl.of_own S.wd (k := 9) rfl (fun _ => rfl) | exact Sl.of_own S.wd (k := 10) rfl (fun _ => rfl) | exact Sl.of_own S.wd (k := 11) rfl (fun _ => rfl) | exact Sl.of_own S.wd (k := 12) rfl (fun _ => rfl) | exact Sl.of_own S.wd (k := 13) rfl (fun _ => rfl) | exact Sl.of_own S.wd (k := 14) rfl (fun _ => rfl) | (simp at *; omega))) rfl ?_) <;> clear S a w)
    rintro _ _ ⟨rfl, rfl⟩ a w S
    rw [rw_t] at S
    refine run S (.nt rfl <| .z) fun a w S => st_nil (then_normal (hK3 _ _ (st_then S (.t rfl) (sg S (.fa underlying134 sizeOf132 1 rfl rfl rfl <| .ld gt132 3 rfl rfl rfl <| .xx (ys_callVC (cs := [_]) (.t rfl) call149 .nil (fun hp w W => c149 _ _ _ (by exact Wd.cell W (k := 13) rfl rfl))) rfl <| .as rfl <| .z) fun a w S => wp_ret (in_ret (then_ret (then_ret (in_ret (then_ret (st_ret S (results1 S results87 (Rv.tmp rfl)) ?_))))))))))
    rw [er]
    exact ⟨_, _, rfl, S.wd.pk, _, rfl, rfl, fun k => by cases k⟩
  have rw_t : decide (0 < c.1.ctx.top p q) = true := decide_eq_true (by omega)
  rw [if_neg ht] at er
  have hgap := no_gap (can_nf hcan) (p := p) (q := q) ht
  cases hg : (c.1.ctx.cloud.any fun d => decide (d.node = p ∧ d.life = q)) with
  | true =>
    rw [hg] at hgap
    have rw_g := hgap
    rw [if_pos hg] at er
    unfold Go.Fw.RetsO
    refine enterW1 W func87 rfl ntmps87 rfl fun a S => sg S (.ac rfl <| .z) fun a w S => wp_seq_k fun _ hK1 => sg S (.mv rfl <| .ln underlying187 rfl <| .mc rfl <| .z) fun a w S => wp_block (st_rounds 7 (st_round (sg S (.lt (by omega) rfl rfl <| .z) fun a w S => wp_seq_k fun _ hK2 => st_then S (.t rfl) (wp_skip (then_normal (hK2 _ _ (wp_seq_k fun _ hK2 => wp_block (wp_seq_k fun _ hK3 => wp_region_lit (run S (.yy (ys_ixS (j := 0) underlying187 sizeOf134 (.t rfl) (.t rfl) (fun _ => by omega)) rfl <| .la gt134 0 rfl rfl rfl <| .z) fun a w S => st_m (op_alloc S zeroValue134 (cs := _) rfl rfl fun g3 a w S => st_m (op_stW S sizeOf134 (.t rfl) (.t rfl) (k := 0) rfl rfl rfl (by simp [Value.oneCell']) fun a w S => st_nil (then_normal (hK3 _ _ (wp_seq_k fun _ hK3 => wp_region_lit (run S (.fa underlying134 sizeOf53 0 rfl rfl rfl <| .ld gt53 0 rfl rfl rfl <| .xx (ys_callVC (cs := [_]) (.t rfl) call89 .nil (fun hp w W => c89 _ _ _ _ (by exact Wd.cell W (k := 3) rfl rfl) (by exact Wd.cell W (k := 3) rfl rfl))) rfl <| .z) fun a w S => ?_)))))))))))))))
    rw [rw_m] at S
    refine run S (.nt rfl <| .z) fun a w S => st_nil (then_normal (hK3 _ _ (st_else S (.t rfl) (wp_skip (in_normal (then_normal (hK2 _ _ (wp_region_lit (run S (.ad (by unfold I64; omega) rfl <| .z) fun a w S => ?_)))))))))
    rw [rw_1] at S
    refine run S (.mv rfl <| .z) fun a w S => st_nil (then_normal (st_round (sg S (.lt (by omega) rfl rfl <| .z) fun a w S => wp_seq_k fun _ hK2 => st_then S (.t rfl) (wp_skip (then_normal (hK2 _ _ (wp_seq_k fun _ hK2 => wp_block (wp_seq_k fun _ hK3 => wp_region_lit (run S (.yy (ys_ixS (j := 1) underlying187 sizeOf134 (.t rfl) (.t rfl) (fun _ => by omega)) rfl <| .la gt134 1 rfl rfl rfl <| .z) fun a w S => st_m (op_alloc S zeroValue134 (cs := _) rfl rfl fun g6 a w S => st_m (op_stW S sizeOf134 (.t rfl) (.t rfl) (k := 0) rfl rfl rfl (by simp [Value.oneCell']) fun a w S => st_nil (then_normal (hK3 _ _ (wp_seq_k fun _ hK3 => wp_region_lit (run S (.fa underlying134 sizeOf53 0 rfl rfl rfl <| .ld gt53 0 rfl rfl rfl <| .z) fun a w S => ?_)))))))))))))))
    (replace S := S.pull 5 rfl; try simp only [List.set_cons_zero, List.set_cons_succ, List.eraseIdx_cons_succ, List.eraseIdx_cons_zero] at S; replace S := S.pull 4 rfl; try simp only [List.set_cons_zero, List.set_cons_succ, List.eraseIdx_cons_succ, List.eraseIdx_cons_zero] at S; refine st_m (op_callVO (cs := [_, _]) S (.t rfl) call90 .nil (c90 S.wd (by first | assumption | omega | (dsimp only; omega) | exact Sl.nil_ | exact .old S.wd (by assumption) | exact Sl.of_own S.wd (k := 0) rfl (fun _ => rfl) | exact Sl.of_own S.wd (k := 1) rfl (fun _ => rfl) | exact Sl.of_own S.wd (k := 2) rfl (fun _ => rfl) | exact Sl.of_own S.wd (k := 3) rfl (fun _ => rfl) | exact Sl.of_own S.wd (k := 4) rfl (fun _ => rfl) | exact Sl.of_own S.wd (k := 5) rfl (fun _ => rfl) | exact Sl.of_own S.wd (k := 6) rfl (fun _ => rfl) | exact Sl.of_own S.wd (k := 7) rfl (fun _ => rfl) | exact Sl.of_own S.wd (k := 8) rfl (fun _ => rfl) | exact Sl.of_own S.wd (k := 9) rfl (fun _ => rfl) | exact Sl.of_own S.wd (k := 10) rfl (fun _ => rfl) | exact Sl.of_own S.wd (k := 11) rfl (fun _ => rfl) | (simp at *; omega)) (by first | assumption | omega | (dsimp only; omega) | exact Sl.nil_ | exact .old S.wd (by assumption) | exact Sl.of_own S.wd (k := 0) rfl (fun _ => rfl) | exact Sl.of_own S.wd (k := 1) rfl (fun _ => rfl) | exact Sl.of_own S.wd (k := 2) rfl (fun _ => rfl) | exact Sl.of_own S.wd (k := 3) rfl (fun _ => rfl) | exact Sl.of_own S.wd (k := 4) rfl (fun _ => rfl) | exact Sl.of_own S.wd (k := 5) rfl (fun _ => rfl) | exact Sl.of_own S.wd (k := 6) rfl (fun _ => rfl) | exact Sl.of_own S.wd (k := 7) rfl (fun _ => rfl) | exact Sl.of_own S.wd (k := 8) rfl (fun _ => rfl) | exact Sl.of_own S.wd (k := 9) rfl (fun _ => rfl) | exact Sl.of_own S.wd (k := 10) rfl (fun _ => rfl) | exact Sl.of_own S.wd (k := 11) rfl (fun _ => rfl) | (simp at *; omega))) rfl ?_) <;> clear S a w)
    rintro _ _ ⟨rfl, rfl⟩ a w S
    rw [rw_b] at S
    rw [rw_bb] at S
    refine run S (.nt rfl <| .z) fun a w S => st_nil (then_normal (hK3 _ _ (st_else S (.t rfl) (wp_skip (in_normal (then_normal (hK2 _ _ (wp_region_lit (run S (.ad (by unfold I64; omega) rfl <| .z) fun a w S => ?_)))))))))
    rw [rw_2] at S
    refine run S (.mv rfl <| .z) fun a w S => st_nil (then_normal (st_round (sg S (.lt (by omega) rfl rfl <| .z) fun a w S => wp_seq_k fun _ hK2 => st_then S (.t rfl) (wp_skip (then_normal (hK2 _ _ (wp_seq_k fun _ hK2 => wp_block (wp_seq_k fun _ hK3 => wp_region_lit (run S (.yy (ys_ixS (j := 2) underlying187 sizeOf134 (.t rfl) (.t rfl) (fun _ => by omega)) rfl <| .la gt134 4 rfl rfl rfl <| .z) fun a w S => st_m (op_alloc S zeroValue134 (cs := _) rfl rfl fun g7 a w S => st_m (op_stW S sizeOf134 (.t rfl) (.t rfl) (k := 0) rfl rfl rfl (by simp [Value.oneCell']) fun a w S => st_nil (then_normal (hK3 _ _ (wp_seq_k fun _ hK3 => wp_region_lit (run S (.fa underlying134 sizeOf53 0 rfl rfl rfl <| .ld gt53 0 rfl rfl rfl <| .xx (ys_callVC (cs := [_]) (.t rfl) call92 .nil (fun hp w W => c92 _ _ _ _ (by exact Wd.cell W (k := 1) rfl rfl) (by exact .old W (by assumption)) (by exact .old W (by assumption)))) rfl <| .z) fun a w S => ?_)))))))))))))))
    rw [rw_a] at S
    refine run S (.nt rfl <| .z) fun a w S => st_nil (then_normal (hK3 _ _ (st_else S (.t rfl) (wp_skip (in_normal (then_normal (hK2 _ _ (wp_region_lit (run S (.ad (by unfold I64; omega) rfl <| .z) fun a w S => ?_)))))))))
    rw [rw_3] at S
    refine run S (.mv rfl <| .z) fun a w S => st_nil (then_normal (st_round (sg S (.lt (by omega) rfl rfl <| .z) fun a w S => wp_seq_k fun _ hK2 => st_then S (.t rfl) (wp_skip (then_normal (hK2 _ _ (wp_seq_k fun _ hK2 => wp_block (wp_seq_k fun _ hK3 => wp_region_lit (run S (.yy (ys_ixS (j := 3) underlying187 sizeOf134 (.t rfl) (.t rfl) (fun _ => by omega)) rfl <| .la gt134 5 rfl rfl rfl <| .z) fun a w S => st_m (op_alloc S zeroValue134 (cs := _) rfl rfl fun g8 a w S => st_m (op_stW S sizeOf134 (.t rfl) (.t rfl) (k := 0) rfl rfl rfl (by simp [Value.oneCell']) fun a w S => st_nil (then_normal (hK3 _ _ (wp_seq_k fun _ hK3 => wp_region_lit (run S (.fa underlying134 sizeOf53 0 rfl rfl rfl <| .ld gt53 0 rfl rfl rfl <| .xx (ys_callVC (cs := [_, _]) (.t rfl) call96 .nil (fun hp w W => c96 _ _ _ _ _ _ _ _ (by exact Wd.cell W (k := 2) rfl rfl) (by exact Wd.cell W (k := 7) rfl rfl) (by exact Wd.cell W (k := 7) rfl rfl) (by exact .old W (by assumption)) (by exact .old W (by assumption)))) rfl <| .z) fun a w S => ?_)))))))))))))))
    rw [rw_lv] at S
    refine run S (.nt rfl <| .z) fun a w S => st_nil (then_normal (hK3 _ _ (st_else S (.t rfl) (wp_skip (in_normal (then_normal (hK2 _ _ (wp_region_lit (run S (.ad (by unfold I64; omega) rfl <| .z) fun a w S => ?_)))))))))
    rw [rw_4] at S
    refine run S (.mv rfl <| .z) fun a w S => st_nil (then_normal (st_round (sg S (.lt (by omega) rfl rfl <| .z) fun a w S => wp_seq_k fun _ hK2 => st_then S (.t rfl) (wp_skip (then_normal (hK2 _ _ (wp_seq_k fun _ hK2 => wp_block (wp_seq_k fun _ hK3 => wp_region_lit (run S (.yy (ys_ixS (j := 4) underlying187 sizeOf134 (.t rfl) (.t rfl) (fun _ => by omega)) rfl <| .la gt134 6 rfl rfl rfl <| .z) fun a w S => st_m (op_alloc S zeroValue134 (cs := _) rfl rfl fun g9 a w S => st_m (op_stW S sizeOf134 (.t rfl) (.t rfl) (k := 0) rfl rfl rfl (by simp [Value.oneCell']) fun a w S => st_nil (then_normal (hK3 _ _ (wp_seq_k fun _ hK3 => wp_region_lit (run S (.fa underlying134 sizeOf53 0 rfl rfl rfl <| .ld gt53 0 rfl rfl rfl <| .z) fun a w S => ?_)))))))))))))))
    (replace S := S.pull 9 rfl; try simp only [List.set_cons_zero, List.set_cons_succ, List.eraseIdx_cons_succ, List.eraseIdx_cons_zero] at S; replace S := S.pull 9 rfl; try simp only [List.set_cons_zero, List.set_cons_succ, List.eraseIdx_cons_succ, List.eraseIdx_cons_zero] at S; replace S := S.pull 5 rfl; try simp only [List.set_cons_zero, List.set_cons_succ, List.eraseIdx_cons_succ, List.eraseIdx_cons_zero] at S; refine st_m (op_callVO (cs := [_, _, _]) S (.t rfl) call98 .nil (c98 S.wd (by first | assumption | omega | (dsimp only; omega) | exact Sl.nil_ | exact .old S.wd (by assumption) | exact Sl.of_own S.wd (k := 0) rfl (fun _ => rfl) | exact Sl.of_own S.wd (k := 1) rfl (fun _ => rfl) | exact Sl.of_own S.wd (k := 2) rfl (fun _ => rfl) | exact Sl.of_own S.wd (k := 3) rfl (fun _ => rfl) | exact Sl.of_own S.wd (k := 4) rfl (fun _ => rfl) | exact Sl.of_own S.wd (k := 5) rfl (fun _ => rfl) | exact Sl.of_own S.wd (k := 6) rfl (fun _ => rfl) | exact Sl.of_own S.wd (k := 7) rfl (fun _ => rfl) | exact Sl.of_own S.wd (k := 8) rfl (fun _ => rfl) | exact Sl.of_own S.wd (k := 9) rfl (fun _ => rfl) | exact Sl.of_own S.wd (k := 10) rfl (fun _ => rfl) | exact Sl.of_own S.wd (k := 11) rfl (fun _ => rfl) | exact Sl.of_own S.wd (k := 12) rfl (fun _ => rfl) | exact Sl.of_own S.wd (k := 13) rfl (fun _ => rfl) | exact Sl.of_own S.wd (k := 14) rfl (fun _ => rfl) | (simp at *; omega)) (by first | assumption | omega | (dsimp only; omega) | exact Sl.nil_ | exact .old S.wd (by assumption) | exact Sl.of_own S.wd (k := 0) rfl (fun _ => rfl) | exact Sl.of_own S.wd (k := 1) rfl (fun _ => rfl) | exact Sl.of_own S.wd (k := 2) rfl (fun _ => rfl) | exact Sl.of_own S.wd (k := 3) rfl (fun _ => rfl) | exact Sl.of_own S.wd (k := 4) rfl (fun _ => rfl) | exact Sl.of_own S.wd (k := 5) rfl (fun _ => rfl) | exact Sl.of_own S.wd (k := 6) rfl (fun _ => rfl) | exact Sl.of_own S.wd (k := 7) rfl (fun _ => rfl) | exact Sl.of_own S.wd (k := 8) rfl (fun _ => rfl) | exact Sl.of_own S.wd (k := 9) rfl (fun _ => rfl) | exact Sl.of_own S.wd (k := 10) rfl (fun _ => rfl) | exact Sl.of_own S.wd (k := 11) rfl (fun _ => rfl) | exact Sl.of_own S.wd (k := 12) rfl (fun _ => rfl) | exact Sl.of_own S.wd (k := 13) rfl (fun _ => rfl) | exact Sl.of_own S.wd (k := 14) rfl (fun _ => rfl) | (simp at *; omega))) rfl ?_) <;> clear S a w)
    rintro _ _ ⟨rfl, rfl⟩ a w S
    rw [rw_t] at S
    refine run S (.nt rfl <| .z) fun a w S => st_nil (then_normal (hK3 _ _ (st_else S (.t rfl) (wp_skip (in_normal (then_normal (hK2 _ _ (wp_region_lit (run S (.ad (by unfold I64; omega) rfl <| .z) fun a w S => ?_)))))))))
    rw [rw_5] at S
    refine run S (.mv rfl <| .z) fun a w S => st_nil (then_normal (st_round (sg S (.lt (by omega) rfl rfl <| .z) fun a w S => wp_seq_k fun _ hK2 => st_then S (.t rfl) (wp_skip (then_normal (hK2 _ _ (wp_seq_k fun _ hK2 => wp_block (wp_seq_k fun _ hK3 => wp_region_lit (run S (.yy (ys_ixS (j := 5) underlying187 sizeOf134 (.t rfl) (.t rfl) (fun _ => by omega)) rfl <| .la gt134 9 rfl rfl rfl <| .z) fun a w S => st_m (op_alloc S zeroValue134 (cs := _) rfl rfl fun g10 a w S => st_m (op_stW S sizeOf134 (.t rfl) (.t rfl) (k := 0) rfl rfl rfl (by simp [Value.oneCell']) fun a w S => st_nil (then_normal (hK3 _ _ (wp_seq_k fun _ hK3 => wp_region_lit (run S (.fa underlying134 sizeOf53 0 rfl rfl rfl <| .ld gt53 0 rfl rfl rfl <| .xx (ys_callVC (cs := [_, _]) (.t rfl) call99 .nil (fun hp w W => c99 _ _ _ _ _ _ _ _ _ (by exact Wd.cell W (k := 1) rfl rfl) (by exact Wd.cell W (k := 3) rfl rfl) (by exact Wd.cell W (k := 3) rfl rfl) (by exact Wd.cell W (k := 3) rfl rfl) (by exact .old W (by assumption)) (by exact .old W (by assumption)))) rfl <| .z) fun a w S => ?_)))))))))))))))
    rw [rw_g] at S
    refine run S (.nt rfl <| .z) fun a w S => st_nil (then_normal (hK3 _ _ (st_then S (.t rfl) (sg S (.fa underlying134 sizeOf132 1 rfl rfl rfl <| .ld gt132 0 rfl rfl rfl <| .xx (ys_callVC (cs := [_]) (.t rfl) call149 .nil (fun hp w W => c149 _ _ _ (by exact Wd.cell W (k := 15) rfl rfl))) rfl <| .as rfl <| .z) fun a w S => wp_ret (in_ret (then_ret (then_ret (in_ret (then_ret (st_ret S (results1 S results87 (Rv.tmp rfl)) ?_))))))))))
    rw [er]
    exact ⟨_, _, rfl, S.wd.pk, _, rfl, rfl, fun k => by cases k⟩
  | false =>
  rw [hg] at hgap
  have rw_g := hgap
  rw [if_neg (by rw [hg]; simp)] at er
  unfold Go.Fw.RetsO
  refine enterW1 W func87 rfl ntmps87 rfl fun a S => sg S (.ac rfl <| .z) fun a w S => wp_seq_k fun _ hK1 => sg S (.mv rfl <| .ln underlying187 rfl <| .mc rfl <| .z) fun a w S => wp_block (st_rounds 7 (st_round (sg S (.lt (by omega) rfl rfl <| .z) fun a w S => wp_seq_k fun _ hK2 => st_then S (.t rfl) (wp_skip (then_normal (hK2 _ _ (wp_seq_k fun _ hK2 => wp_block (wp_seq_k fun _ hK3 => wp_region_lit (run S (.yy (ys_ixS (j := 0) underlying187 sizeOf134 (.t rfl) (.t rfl) (fun _ => by omega)) rfl <| .la gt134 0 rfl rfl rfl <| .z) fun a w S => st_m (op_alloc S zeroValue134 (cs := _) rfl rfl fun g3 a w S => st_m (op_stW S sizeOf134 (.t rfl) (.t rfl) (k := 0) rfl rfl rfl (by simp [Value.oneCell']) fun a w S => st_nil (then_normal (hK3 _ _ (wp_seq_k fun _ hK3 => wp_region_lit (run S (.fa underlying134 sizeOf53 0 rfl rfl rfl <| .ld gt53 0 rfl rfl rfl <| .xx (ys_callVC (cs := [_]) (.t rfl) call89 .nil (fun hp w W => c89 _ _ _ _ (by exact Wd.cell W (k := 3) rfl rfl) (by exact Wd.cell W (k := 3) rfl rfl))) rfl <| .z) fun a w S => ?_)))))))))))))))
  rw [rw_m] at S
  refine run S (.nt rfl <| .z) fun a w S => st_nil (then_normal (hK3 _ _ (st_else S (.t rfl) (wp_skip (in_normal (then_normal (hK2 _ _ (wp_region_lit (run S (.ad (by unfold I64; omega) rfl <| .z) fun a w S => ?_)))))))))
  rw [rw_1] at S
  refine run S (.mv rfl <| .z) fun a w S => st_nil (then_normal (st_round (sg S (.lt (by omega) rfl rfl <| .z) fun a w S => wp_seq_k fun _ hK2 => st_then S (.t rfl) (wp_skip (then_normal (hK2 _ _ (wp_seq_k fun _ hK2 => wp_block (wp_seq_k fun _ hK3 => wp_region_lit (run S (.yy (ys_ixS (j := 1) underlying187 sizeOf134 (.t rfl) (.t rfl) (fun _ => by omega)) rfl <| .la gt134 1 rfl rfl rfl <| .z) fun a w S => st_m (op_alloc S zeroValue134 (cs := _) rfl rfl fun g6 a w S => st_m (op_stW S sizeOf134 (.t rfl) (.t rfl) (k := 0) rfl rfl rfl (by simp [Value.oneCell']) fun a w S => st_nil (then_normal (hK3 _ _ (wp_seq_k fun _ hK3 => wp_region_lit (run S (.fa underlying134 sizeOf53 0 rfl rfl rfl <| .ld gt53 0 rfl rfl rfl <| .z) fun a w S => ?_)))))))))))))))
  (replace S := S.pull 5 rfl; try simp only [List.set_cons_zero, List.set_cons_succ, List.eraseIdx_cons_succ, List.eraseIdx_cons_zero] at S; replace S := S.pull 4 rfl; try simp only [List.set_cons_zero, List.set_cons_succ, List.eraseIdx_cons_succ, List.eraseIdx_cons_zero] at S; refine st_m (op_callVO (cs := [_, _]) S (.t rfl) call90 .nil (c90 S.wd (by first | assumption | omega | (dsimp only; omega) | exact Sl.nil_ | exact .old S.wd (by assumption) | exact Sl.of_own S.wd (k := 0) rfl (fun _ => rfl) | exact Sl.of_own S.wd (k := 1) rfl (fun _ => rfl) | exact Sl.of_own S.wd (k := 2) rfl (fun _ => rfl) | exact Sl.of_own S.wd (k := 3) rfl (fun _ => rfl) | exact Sl.of_own S.wd (k := 4) rfl (fun _ => rfl) | exact Sl.of_own S.wd (k := 5) rfl (fun _ => rfl) | exact Sl.of_own S.wd (k := 6) rfl (fun _ => rfl) | exact Sl.of_own S.wd (k := 7) rfl (fun _ => rfl) | exact Sl.of_own S.wd (k := 8) rfl (fun _ => rfl) | exact Sl.of_own S.wd (k := 9) rfl (fun _ => rfl) | exact Sl.of_own S.wd (k := 10) rfl (fun _ => rfl) | exact Sl.of_own S.wd (k := 11) rfl (fun _ => rfl) | (simp at *; omega)) (by first | assumption | omega | (dsimp only; omega) | exact Sl.nil_ | exact .old S.wd (by assumption) | exact Sl.of_own S.wd (k := 0) rfl (fun _ => rfl) | exact Sl.of_own S.wd (k := 1) rfl (fun _ => rfl) | exact Sl.of_own S.wd (k := 2) rfl (fun _ => rfl) | exact Sl.of_own S.wd (k := 3) rfl (fun _ => rfl) | exact Sl.of_own S.wd (k := 4) rfl (fun _ => rfl) | exact Sl.of_own S.wd (k := 5) rfl (fun _ => rfl) | exact Sl.of_own S.wd (k := 6) rfl (fun _ => rfl) | exact Sl.of_own S.wd (k := 7) rfl (fun _ => rfl) | exact Sl.of_own S.wd (k := 8) rfl (fun _ => rfl) | exact Sl.of_own S.wd (k := 9) rfl (fun _ => rfl) | exact Sl.of_own S.wd (k := 10) rfl (fun _ => rfl) | exact Sl.of_own S.wd (k := 11) rfl (fun _ => rfl) | (simp at *; omega))) rfl ?_) <;> clear S a w)
  rintro _ _ ⟨rfl, rfl⟩ a w S
  rw [rw_b] at S
  rw [rw_bb] at S
  refine run S (.nt rfl <| .z) fun a w S => st_nil (then_normal (hK3 _ _ (st_else S (.t rfl) (wp_skip (in_normal (then_normal (hK2 _ _ (wp_region_lit (run S (.ad (by unfold I64; omega) rfl <| .z) fun a w S => ?_)))))))))
  rw [rw_2] at S
  refine run S (.mv rfl <| .z) fun a w S => st_nil (then_normal (st_round (sg S (.lt (by omega) rfl rfl <| .z) fun a w S => wp_seq_k fun _ hK2 => st_then S (.t rfl) (wp_skip (then_normal (hK2 _ _ (wp_seq_k fun _ hK2 => wp_block (wp_seq_k fun _ hK3 => wp_region_lit (run S (.yy (ys_ixS (j := 2) underlying187 sizeOf134 (.t rfl) (.t rfl) (fun _ => by omega)) rfl <| .la gt134 4 rfl rfl rfl <| .z) fun a w S => st_m (op_alloc S zeroValue134 (cs := _) rfl rfl fun g7 a w S => st_m (op_stW S sizeOf134 (.t rfl) (.t rfl) (k := 0) rfl rfl rfl (by simp [Value.oneCell']) fun a w S => st_nil (then_normal (hK3 _ _ (wp_seq_k fun _ hK3 => wp_region_lit (run S (.fa underlying134 sizeOf53 0 rfl rfl rfl <| .ld gt53 0 rfl rfl rfl <| .xx (ys_callVC (cs := [_]) (.t rfl) call92 .nil (fun hp w W => c92 _ _ _ _ (by exact Wd.cell W (k := 1) rfl rfl) (by exact .old W (by assumption)) (by exact .old W (by assumption)))) rfl <| .z) fun a w S => ?_)))))))))))))))
  rw [rw_a] at S
  refine run S (.nt rfl <| .z) fun a w S => st_nil (then_normal (hK3 _ _ (st_else S (.t rfl) (wp_skip (in_normal (then_normal (hK2 _ _ (wp_region_lit (run S (.ad (by unfold I64; omega) rfl <| .z) fun a w S => ?_)))))))))
  rw [rw_3] at S
  refine run S (.mv rfl <| .z) fun a w S => st_nil (then_normal (st_round (sg S (.lt (by omega) rfl rfl <| .z) fun a w S => wp_seq_k fun _ hK2 => st_then S (.t rfl) (wp_skip (then_normal (hK2 _ _ (wp_seq_k fun _ hK2 => wp_block (wp_seq_k fun _ hK3 => wp_region_lit (run S (.yy (ys_ixS (j := 3) underlying187 sizeOf134 (.t rfl) (.t rfl) (fun _ => by omega)) rfl <| .la gt134 5 rfl rfl rfl <| .z) fun a w S => st_m (op_alloc S zeroValue134 (cs := _) rfl rfl fun g8 a w S => st_m (op_stW S sizeOf134 (.t rfl) (.t rfl) (k := 0) rfl rfl rfl (by simp [Value.oneCell']) fun a w S => st_nil (then_normal (hK3 _ _ (wp_seq_k fun _ hK3 => wp_region_lit (run S (.fa underlying134 sizeOf53 0 rfl rfl rfl <| .ld gt53 0 rfl rfl rfl <| .xx (ys_callVC (cs := [_, _]) (.t rfl) call96 .nil (fun hp w W => c96 _ _ _ _ _ _ _ _ (by exact Wd.cell W (k := 2) rfl rfl) (by exact Wd.cell W (k := 7) rfl rfl) (by exact Wd.cell W (k := 7) rfl rfl) (by exact .old W (by assumption)) (by exact .old W (by assumption)))) rfl <| .z) fun a w S => ?_)))))))))))))))
  rw [rw_lv] at S
  refine run S (.nt rfl <| .z) fun a w S => st_nil (then_normal (hK3 _ _ (st_else S (.t rfl) (wp_skip (in_normal (then_normal (hK2 _ _ (wp_region_lit (run S (.ad (by unfold I64; omega) rfl <| .z) fun a w S => ?_)))))))))
  rw [rw_4] at S
  refine run S (.mv rfl <| .z) fun a w S => st_nil (then_normal (st_round (sg S (.lt (by omega) rfl rfl <| .z) fun a w S => wp_seq_k fun _ hK2 => st_then S (.t rfl) (wp_skip (then_normal (hK2 _ _ (wp_seq_k fun _ hK2 => wp_block (wp_seq_k fun _ hK3 => wp_region_lit (run S (.yy (ys_ixS (j := 4) underlying187 sizeOf134 (.t rfl) (.t rfl) (fun _ => by omega)) rfl <| .la gt134 6 rfl rfl rfl <| .z) fun a w S => st_m (op_alloc S zeroValue134 (cs := _) rfl rfl fun g9 a w S => st_m (op_stW S sizeOf134 (.t rfl) (.t rfl) (k := 0) rfl rfl rfl (by simp [Value.oneCell']) fun a w S => st_nil (then_normal (hK3 _ _ (wp_seq_k fun _ hK3 => wp_region_lit (run S (.fa underlying134 sizeOf53 0 rfl rfl rfl <| .ld gt53 0 rfl rfl rfl <| .z) fun a w S => ?_)))))))))))))))
  (replace S := S.pull 9 rfl; try simp only [List.set_cons_zero, List.set_cons_succ, List.eraseIdx_cons_succ, List.eraseIdx_cons_zero] at S; replace S := S.pull 9 rfl; try simp only [List.set_cons_zero, List.set_cons_succ, List.eraseIdx_cons_succ, List.eraseIdx_cons_zero] at S; replace S := S.pull 5 rfl; try simp only [List.set_cons_zero, List.set_cons_succ, List.eraseIdx_cons_succ, List.eraseIdx_cons_zero] at S; refine st_m (op_callVO (cs := [_, _, _]) S (.t rfl) call98 .nil (c98 S.wd (by first | assumption | omega | (dsimp only; omega) | exact Sl.nil_ | exact .old S.wd (by assumption) | exact Sl.of_own S.wd (k := 0) rfl (fun _ => rfl) | exact Sl.of_own S.wd (k := 1) rfl (fun _ => rfl) | exact Sl.of_own S.wd (k := 2) rfl (fun _ => rfl) | exact Sl.of_own S.wd (k := 3) rfl (fun _ => rfl) | exact Sl.of_own S.wd (k := 4) rfl (fun _ => rfl) | exact Sl.of_own S.wd (k := 5) rfl (fun _ => rfl) | exact Sl.of_own S.wd (k := 6) rfl (fun _ => rfl) | exact Sl.of_own S.wd (k := 7) rfl (fun _ => rfl) | exact Sl.of_own S.wd (k := 8) rfl (fun _ => rfl) | exact Sl.of_own S.wd (k := 9) rfl (fun _ => rfl) | exact Sl.of_own S.wd (k := 10) rfl (fun _ => rfl) | exact Sl.of_own S.wd (k := 11) rfl (fun _ => rfl) | exact Sl.of_own S.wd (k := 12) rfl (fun _ => rfl) | exact Sl.of_own S.wd (k := 13) rfl (fun _ => rfl) | exact Sl.of_own S.wd (k := 14) rfl (fun _ => rfl) | (simp at *; omega)) (by first | assumption | omega | (dsimp only; omega) | exact Sl.nil_ | exact .old S.wd (by assumption) | exact Sl.of_own S.wd (k := 0) rfl (fun _ => rfl) | exact Sl.of_own S.wd (k := 1) rfl (fun _ => rfl) | exact Sl.of_own S.wd (k := 2) rfl (fun _ => rfl) | exact Sl.of_own S.wd (k := 3) rfl (fun _ => rfl) | exact Sl.of_own S.wd (k := 4) rfl (fun _ => rfl) | exact Sl.of_own S.wd (k := 5) rfl (fun _ => rfl) | exact Sl.of_own S.wd (k := 6) rfl (fun _ => rfl) | exact Sl.of_own S.wd (k := 7) rfl (fun _ => rfl) | exact Sl.of_own S.wd (k := 8) rfl (fun _ => rfl) | exact Sl.of_own S.wd (k := 9) rfl (fun _ => rfl) | exact Sl.of_own S.wd (k := 10) rfl (fun _ => rfl) | exact Sl.of_own S.wd (k := 11) rfl (fun _ => rfl) | exact Sl.of_own S.wd (k := 12) rfl (fun _ => rfl) | exact Sl.of_own S.wd (k := 13) rfl (fun _ => rfl) | exact Sl.of_own S.wd (k := 14) rfl (fun _ => rfl) | (simp at *; omega))) rfl ?_) <;> clear S a w)
  rintro _ _ ⟨rfl, rfl⟩ a w S
  rw [rw_t] at S
  refine run S (.nt rfl <| .z) fun a w S => st_nil (then_normal (hK3 _ _ (st_else S (.t rfl) (wp_skip (in_normal (then_normal (hK2 _ _ (wp_region_lit (run S (.ad (by unfold I64; omega) rfl <| .z) fun a w S => ?_)))))))))
  rw [rw_5] at S
  refine run S (.mv rfl <| .z) fun a w S => st_nil (then_normal (st_round (sg S (.lt (by omega) rfl rfl <| .z) fun a w S => wp_seq_k fun _ hK2 => st_then S (.t rfl) (wp_skip (then_normal (hK2 _ _ (wp_seq_k fun _ hK2 => wp_block (wp_seq_k fun _ hK3 => wp_region_lit (run S (.yy (ys_ixS (j := 5) underlying187 sizeOf134 (.t rfl) (.t rfl) (fun _ => by omega)) rfl <| .la gt134 9 rfl rfl rfl <| .z) fun a w S => st_m (op_alloc S zeroValue134 (cs := _) rfl rfl fun g10 a w S => st_m (op_stW S sizeOf134 (.t rfl) (.t rfl) (k := 0) rfl rfl rfl (by simp [Value.oneCell']) fun a w S => st_nil (then_normal (hK3 _ _ (wp_seq_k fun _ hK3 => wp_region_lit (run S (.fa underlying134 sizeOf53 0 rfl rfl rfl <| .ld gt53 0 rfl rfl rfl <| .xx (ys_callVC (cs := [_, _]) (.t rfl) call99 .nil (fun hp w W => c99 _ _ _ _ _ _ _ _ _ (by exact Wd.cell W (k := 1) rfl rfl) (by exact Wd.cell W (k := 3) rfl rfl) (by exact Wd.cell W (k := 3) rfl rfl) (by exact Wd.cell W (k := 3) rfl rfl) (by exact .old W (by assumption)) (by exact .old W (by assumption)))) rfl <| .z) fun a w S => ?_)))))))))))))))
  rw [rw_g] at S
  refine run S (.nt rfl <| .z) fun a w S => st_nil (then_normal (hK3 _ _ (st_else S (.t rfl) (wp_skip (in_normal (then_normal (hK2 _ _ (wp_region_lit (run S (.ad (by unfold I64; omega) rfl <| .z) fun a w S => ?_)))))))))
  rw [rw_6] at S
  refine run S (.mv rfl <| .z) fun a w S => st_nil (then_normal (st_round (sg S (.ge (by omega) rfl rfl <| .z) fun a w S => wp_seq_k fun _ hK2 => st_else S (.t rfl) (wp_exit (then_exit (then_exit (in_here (then_normal (hK1 _ _ (sg S (.ac rfl <| .z) fun a w S => wp_ret (st_ret S (results1 S results87 (Rv.tmp rfl)) ?_)))))))))))
  rw [er]
  exact ⟨_, _, rfl, S.wd.pk, _, rfl, rfl, fun _ => rfl⟩
end Go.Proofs.YtakpdbmdfnialaaGreat
set_option linter.unusedVariables false
set_option linter.unusedSimpArgs false
set_option maxRecDepth 100000
set_option maxHeartbeats 4000000
namespace Go.Proofs.YtakpdbmdfnialaaGreat
open Go.Fw Go.Proofs Go.RowKit Go.Proofs.Tryz
theorem c34 (w0 : World) (v : Value) (l : List SCart) (p q : Int) (h : Sl SCart.enc 3 w0 w0.heap.size v l) (hc : CartsRd w0 l) :
    Calls Tryz.prog 34 #[v, .agg #[.int .i64 p, .int .i64 q]] w0 fun u w' => u = .returned (.tuple #[.agg (Dot.enc (readyG (l.map (·.1)) p q).1).toArray, .int .i64 (readyG (l.map (·.1)) p q).2]) ∧ Bel w0.heap.size w0 w' := by
  have hs := h
  obtain ⟨A, cap, rfl, hl, hcap, hA⟩ := h
  refine enter2 func34 rfl ntmps34 rfl fun a S => wp_seq_k fun _ hK1 => wp_region_lit (st_m (op_box1 S (.t rfl) rfl rfl fun g1 a w S => st_m (op_box S (.t rfl) rfl fun g2 a w S => st_m (op_alloc S zeroValue30 (cs := _) rfl rfl fun g3 a w S => run S (.ac rfl <| .z) fun a w S => st_nil (then_normal (hK1 _ _ (wp_seq_k fun _ hK1 => wp_region_lit (st_m (op_alloc S zeroValue40 (cs := _) rfl rfl fun g4 a w S => st_m (op_st S sizeOf40 (.t rfl) Ev.c (k := 0) rfl rfl (by simp) fun a w S => st_nil (then_normal (hK1 _ _ (wp_seq_k fun _ hK1 => wp_region_lit (run S (.fa underlying66 sizeOf3 0 rfl rfl rfl <| .ld gt3 2 rfl rfl rfl <| .fa underlying66 sizeOf3 1 rfl rfl rfl <| .ld gt3 2 rfl rfl rfl <| .yy (ys_bld (ps := [(0, Go.Operand.tmp 10), (1, Go.Operand.tmp 12)]) (us := [_, _, _]) bld30 (.cons (.t rfl) (.cons (.t rfl) .nil)) rfl) rfl <| .z) fun a w S => st_m (op_alloc S zeroValue30 (cs := _) rfl rfl fun g5 a w S => st_m (op_stW S sizeOf30 (.t rfl) (.t rfl) (k := 0) rfl rfl rfl (by simp [Value.oneCell']) fun a w S => st_nil (then_normal (hK1 _ _ (wp_seq_k fun _ hK1 => wp_region_lit (run S (.yy (ys_mkFunc (.cons (.t rfl) .nil)) rfl <| .z) fun a w S => ?_))))))))))))))))))))
  (refine st_m (op_calls S call88 (.cons (.t rfl) (.cons Ev.c .nil)) (c88 _ _ _ _) rfl ?_); clear S a w; rintro _ _ ⟨g6, rfl, rfl⟩ a w S)
  refine run S (.yy (ys_mkFunc (.cons (.t rfl) (.cons (.t rfl) .nil))) rfl <| .yy (ys_mkFunc (.cons (.t rfl) .nil)) rfl <| .yy (ys_bld (ps := [(0, Go.Operand.tmp 16), (1, Go.Operand.tmp 17)]) (us := [_, _]) bld134 (.cons (.t rfl) (.cons (.t rfl) .nil)) rfl) rfl <| .yy (ys_mkFunc (.cons (.t rfl) .nil)) rfl <| .z) fun a w S => ?_
  (refine st_m (op_calls S call88 (.cons (.t rfl) (.cons Ev.c .nil)) (c88 _ _ _ _) rfl ?_); clear S a w; rintro _ _ ⟨g7, rfl, rfl⟩ a w S)
  refine run S (.yy (ys_mkFunc (.cons (.t rfl) (.cons (.t rfl) .nil))) rfl <| .z) fun a w S => ?_
  (refine st_m (op_calls S call88 (.cons (.t rfl) (.cons Ev.c .nil)) (c88 _ _ _ _) rfl ?_); clear S a w; rintro _ _ ⟨g8, rfl, rfl⟩ a w S)
  refine run S (.yy (ys_mkFunc (.cons (.t rfl) (.cons (.t rfl) (.cons (.t rfl) .nil)))) rfl <| .z) fun a w S => ?_
  (refine st_m (op_calls S call88 (.cons (.t rfl) (.cons Ev.c .nil)) (c88 _ _ _ _) rfl ?_); clear S a w; rintro _ _ ⟨g9, rfl, rfl⟩ a w S)
  refine run S (.yy (ys_mkFunc (.cons (.t rfl) (.cons (.t rfl) .nil))) rfl <| .z) fun a w S => ?_
  (refine st_m (op_calls S call88 (.cons (.t rfl) (.cons Ev.c .nil)) (c88 _ _ _ _) rfl ?_); clear S a w; rintro _ _ ⟨g10, rfl, rfl⟩ a w S)
  refine st_m (op_bsliceZ (ps := [(0, Go.Operand.tmp 15), (1, Go.Operand.tmp 18), (2, Go.Operand.tmp 20), (3, Go.Operand.tmp 22), (4, Go.Operand.tmp 24), (5, Go.Operand.tmp 26)]) (us := [_, _, _, _, _, _, _, _, _, _, _, _]) S underlying187 sizeOf134 zeroValue134 rfl rfl (.cons (.t rfl) (.cons (.t rfl) (.cons (.t rfl) (.cons (.t rfl) (.cons (.t rfl) (.cons (.t rfl) .nil)))))) rfl rfl fun g11 a w S => ?_)
  (replace S := S.pull 1 rfl; try simp only [List.set_cons_zero, List.set_cons_succ, List.eraseIdx_cons_succ, List.eraseIdx_cons_zero] at S; replace S := S.pull 2 rfl; try simp only [List.set_cons_zero, List.set_cons_succ, List.eraseIdx_cons_succ, List.eraseIdx_cons_zero] at S; replace S := S.pull 3 rfl; try simp only [List.set_cons_zero, List.set_cons_succ, List.eraseIdx_cons_succ, List.eraseIdx_cons_zero] at S; replace S := S.pull 4 rfl; try simp only [List.set_cons_zero, List.set_cons_succ, List.eraseIdx_cons_succ, List.eraseIdx_cons_zero] at S; replace S := S.pull 5 rfl; try simp only [List.set_cons_zero, List.set_cons_succ, List.eraseIdx_cons_succ, List.eraseIdx_cons_zero] at S; replace S := S.pull 6 rfl; try simp only [List.set_cons_zero, List.set_cons_succ, List.eraseIdx_cons_succ, List.eraseIdx_cons_zero] at S; replace S := S.pull 7 rfl; try simp only [List.set_cons_zero, List.set_cons_succ, List.eraseIdx_cons_succ, List.eraseIdx_cons_zero] at S; replace S := S.pull 9 rfl; try simp only [List.set_cons_zero, List.set_cons_succ, List.eraseIdx_cons_succ, List.eraseIdx_cons_zero] at S; replace S := S.pull 10 rfl; try simp only [List.set_cons_zero, List.set_cons_succ, List.eraseIdx_cons_succ, List.eraseIdx_cons_zero] at S; replace S := S.pull 9 rfl; try simp only [List.set_cons_zero, List.set_cons_succ, List.eraseIdx_cons_succ, List.eraseIdx_cons_zero] at S; refine st_m (op_callO S call87 (.cons (.t rfl) .nil) (c87 S.wd (by first | assumption | omega | (dsimp only; omega) | exact Sl.nil_ | exact .old S.wd (by assumption) | exact Sl.of_own S.wd (k := 0) rfl (fun _ => rfl) | exact Sl.of_own S.wd (k := 1) rfl (fun _ => rfl) | exact Sl.of_own S.wd (k := 2) rfl (fun _ => rfl) | exact Sl.of_own S.wd (k := 3) rfl (fun _ => rfl) | exact Sl.of_own S.wd (k := 4) rfl (fun _ => rfl) | exact Sl.of_own S.wd (k := 5) rfl (fun _ => rfl) | exact Sl.of_own S.wd (k := 6) rfl (fun _ => rfl) | exact Sl.of_own S.wd (k := 7) rfl (fun _ => rfl) | exact Sl.of_own S.wd (k := 8) rfl (fun _ => rfl) | exact Sl.of_own S.wd (k := 9) rfl (fun _ => rfl) | exact Sl.of_own S.wd (k := 10) rfl (fun _ => rfl) | (simp at *; omega)) (by first | assumption | omega | (dsimp only; omega) | exact Sl.nil_ | exact .old S.wd (by assumption) | exact Sl.of_own S.wd (k := 0) rfl (fun _ => rfl) | exact Sl.of_own S.wd (k := 1) rfl (fun _ => rfl) | exact Sl.of_own S.wd (k := 2) rfl (fun _ => rfl) | exact Sl.of_own S.wd (k := 3) rfl (fun _ => rfl) | exact Sl.of_own S.wd (k := 4) rfl (fun _ => rfl) | exact Sl.of_own S.wd (k := 5) rfl (fun _ => rfl) | exact Sl.of_own S.wd (k := 6) rfl (fun _ => rfl) | exact Sl.of_own S.wd (k := 7) rfl (fun _ => rfl) | exact Sl.of_own S.wd (k := 8) rfl (fun _ => rfl) | exact Sl.of_own S.wd (k := 9) rfl (fun _ => rfl) | exact Sl.of_own S.wd (k := 10) rfl (fun _ => rfl) | (simp at *; omega))) rfl ?_) <;> clear S a w)
  rintro _ _ ⟨n1, rfl, rfl, hr1⟩ a w S
  refine run S (.as rfl <| .z) fun a w S => st_nil (then_normal (hK1 _ _ (wp_seq_k fun _ hK1 => sg S (.mv rfl <| .yy (ys_neq (.t rfl) Ev.c) rfl <| .z) fun a w S => ?_)))
  refine st_if S (.t rfl) (fun h1 => ?_) (fun h1 => ?_)
  refine wp_seq_k fun _ hK2 => wp_region_lit (run S (.yy (ys_bld (ps := []) (us := [_, _, _]) bld30 .nil rfl) rfl <| .mv rfl <| .z) fun a w S => st_m (op_stW S sizeOf30 (.t rfl) (.t rfl) (k := 1) rfl rfl rfl (by simp [Value.oneCell']) fun a w S => run S (.as rfl <| .z) fun a w S => st_nil (then_normal (hK2 _ _ (wp_ret (then_ret (st_ret S (results2 S results34 (Rv.cell (k := 1) ⟨isAgg30, sizeOf30⟩ rfl rfl rfl) (Rv.tmp rfl)) ?_)))))))
  rotate_left
  refine wp_skip (then_normal (hK1 _ _ (wp_seq_k fun _ hK1 => wp_region_lit (run S (.la gt30 0 rfl rfl rfl <| .z) fun a w S => st_m (op_stW S sizeOf30 (.t rfl) (.t rfl) (k := 1) rfl rfl rfl (by simp [Value.oneCell']) fun a w S => run S (.ac rfl <| .z) fun a w S => st_nil (then_normal (hK1 _ _ (wp_ret (st_ret S (results2 S results34 (Rv.cell (k := 1) ⟨isAgg30, sizeOf30⟩ rfl rfl rfl) (Rv.tmp rfl)) ?_)))))))))
  rotate_left
  · refine ⟨?_, S.wd.below⟩
    rw [ready_zero h1]
  · have h2 := Decidable.not_not.1 h1
    refine ⟨?_, S.wd.below⟩
    rw [hr1 h2, h2]
end Go.Proofs.YtakpdbmdfnialaaGreat
set_option linter.unusedVariables false
set_option linter.unusedSimpArgs false
namespace Go.Fw
open Go.RowKit
def putsG (k : List UInt8) (l : List Gon) (ms : List Dot) : List Gon := ms.foldl (fun l m => (putG l k m).1) l
theorem puts_ok {k : List UInt8} : ∀ (ms : List Dot) {l : List Gon}, TabOk l → TabOk (putsG k l ms)
  | [], _, h => h
  | m :: r, _, h => puts_ok r (putG_ok h k m)
theorem puts_len {k : List UInt8} : ∀ (ms : List Dot) (l : List Gon), (putsG k l ms).length ≤ l.length + ms.length
  | [], l => by simp [putsG]
  | m :: r, l => by
    have h1 := puts_len (k := k) r (putG l k m).1
    have h2 := putG_len l k m
    show (putsG k (putG l k m).1 r).length ≤ _
    rw [List.length_cons]
    omega
end Go.Fw
set_option linter.unusedVariables false
set_option linter.unusedSimpArgs false
namespace Go.Fw
open Go.RowKit
def Wants (ops : Array Oper) (K : KL) : Option (Nat × Bool) → Prop
  | none => True
  | some (j, p) => ∃ t, (ops[j]?).bind (·.dst) = some t ∧ look K t = some (true, .bool p)
section
variable {P : Program} {Q : Exit → Act → World → Prop} {n : Nat} {w0 : World} {K : KL} {L Lr : List Chunk} {a : Act} {w : World} {ops : Array Oper} {fuel : Nat} {listed : Array Bool} {md : Region.Mode}
theorem h_pick {i : Nat} {d : Option Tmp} {op : Op} {ty : TypeId} {pos : String} {aft : Array Edge} {g : Option (Nat × Bool)} (S : St n w0 K L a w) (hi : ops[i]? = some ⟨d, op, ty, pos, aft, g⟩) (hw : Wants ops K g)
    (h : Oper.wp P ⟨d, op, ty, pos, aft, g⟩ a w (fun a' w' => Wd w0 Lr w' ∧ wpAnyH P md ops Q (Wd w0 Lr) fuel (listed.setIfInBounds i true) a' w') Q) : wpOp P ops Q i (fun a' w' => Wd w0 Lr w' ∧ wpAnyH P md ops Q (Wd w0 Lr) fuel (listed.setIfInBounds i true) a' w') a w := by
  cases g with
  | none =>
    unfold wpOp
    simp only [hi, Region.wanted, if_true]
    exact .inl h
  | some g =>
    obtain ⟨j, p⟩ := g
    obtain ⟨t, hj, hl⟩ := hw
    have hyd := yielded_of S.kn hj hl
    unfold wpOp
    simp only [hi, Region.wanted, hyd, cond_true]
    simpa using Or.inl h
theorem h_splitw {i j : Nat} {di dj : Option Tmp} {opi opj : Op} {tyi tyj : TypeId} {posi posj : String} {ai aj : Array Edge} {gi gj : Option (Nat × Bool)} (S : St n w0 K L a w) (hr : Region.ready md ops listed = [i, j]) (hi : ops[i]? = some ⟨di, opi, tyi, posi, ai, gi⟩) (hj : ops[j]? = some ⟨dj, opj, tyj, posj, aj, gj⟩)
    (wi : Wants ops K gi) (wj : Wants ops K gj)
    (h1 : Oper.wp P ⟨di, opi, tyi, posi, ai, gi⟩ a w (fun a' w' => Wd w0 Lr w' ∧ wpAnyH P md ops Q (Wd w0 Lr) fuel (listed.setIfInBounds i true) a' w') Q)
    (h2 : Oper.wp P ⟨dj, opj, tyj, posj, aj, gj⟩ a w (fun a' w' => Wd w0 Lr w' ∧ wpAnyH P md ops Q (Wd w0 Lr) fuel (listed.setIfInBounds j true) a' w') Q) : wpAnyH P md ops Q (Wd w0 Lr) (fuel + 1) listed a w :=
  wpAnyH_all hr (by simp) fun k hk => by
    simp only [List.mem_cons, List.not_mem_nil, or_false] at hk
    rcases hk with rfl | rfl
    · exact h_pick S hi wi h1
    · exact h_pick S hj wj h2
end
end Go.Fw
set_option linter.unusedVariables false
set_option linter.unusedSimpArgs false
set_option maxRecDepth 100000
set_option maxHeartbeats 4000000
namespace Go.Fw
open Go.RowKit
def C013 : Cart := ⟨[], ⟨[⟨0, 1, 3⟩], []⟩⟩
end Go.Fw
namespace Go.Proofs.YtakpdbmdfnialaaGreat
open Go.Fw Go.Proofs Go.RowKit Go.Proofs.Tryz
theorem c28 (w0 : World) (v : Value) (k : List UInt8) (l : List Dot) (h : Sl Dot.enc 3 w0 w0.heap.size v l) (hk : k.length ≤ 1048576) (hn : l.length ≤ 1048576) :
    Rets Tryz.prog 28 #[.string (bs k), v] w0 fun u L => ∃ g A r, u = .pointer (some ⟨g, 0, none⟩) ∧ L = tabP g A r (putsG k [] (l.take 40)) [] := by
  obtain ⟨A, cap, rfl, hl, hcap, hA⟩ := h
  unfold Go.Fw.Rets
  refine enter2 func28 rfl ntmps28 rfl fun a S => sg S (.ac rfl <| .z) fun a w S => wp_seq_k fun _ hK1 => wp_region_lit ?_
  (refine st_m (op_calls S call13 .nil (c13 _) rfl ?_); clear S a w; rintro _ _ ⟨g1, rfl, rfl⟩ a w S)
  refine run S (.as rfl <| .z) fun a w S => st_nil (then_normal (hK1 _ _ (wp_seq_k fun _ hK1 => sg S (.mv rfl <| .ln underlying32 rfl <| .mc rfl <| .z) fun a w S => wp_block ?_)))
  replace S := S.nil_ 52 4 Gon.enc none
  refine st_lpM S [6, 11] (X := Nat × Option Addr × Nat) (fun q => [(11, true, .int .i64 (q.1 : Int))]) (fun q => tabP g1 q.2.1 q.2.2 (putsG k [] ((l.take 40).take q.1)) []) (fun q => q.1 ≤ l.length) (fun q => l.length - q.1) (0, none, 0) (Nat.zero_le _) ?_
  clear S
  rintro ⟨i, B, cB⟩ a w hi S
  dsimp only at hi S
  have hT : TabOk (putsG k [] ((l.take 40).take i)) := puts_ok _ tab_nil
  have hTl := puts_len (k := k) ((l.take 40).take i) []
  simp only [List.length_take, List.length_nil] at hTl
  by_cases hlt : i < l.length
  · obtain ⟨gq, oq, x, rfl, hx, hd, hcx⟩ := row_at hA hlt
    by_cases h40 : i < 40
    · have hst : putsG k [] ((l.take 40).take (i + 1)) = (putG (putsG k [] ((l.take 40).take i)) k x).1 := by
        rw [List.take_add_one, List.getElem?_take_of_lt h40, hx, Option.toList_some]
        unfold putsG
        rw [List.foldl_append]
        rfl
      generalize putsG k [] ((l.take 40).take i) = T at *
      refine sg S (.lt (by omega) rfl rfl <| .z) fun a w S => wp_seq_k fun _ hK2 => st_then S (.t rfl) (wp_skip (then_normal (hK2 _ _ (wp_seq_k fun _ hK2 => wp_block (wp_seq_k fun _ hK3 => wp_region_lit (run S (.mv rfl <| .ix underlying32 sizeOf30 (by omega) rfl rfl <| .yy (ys_ldOA ⟨isAgg30, sizeOf30⟩ (.t rfl) (vs := [_, _, _]) rfl (fun _ => hcx)) rfl <| .z) fun a w S => st_m (op_alloc S zeroValue30 (cs := _) rfl rfl fun g2 a w S => run S (.as rfl <| .z) fun a w S => st_m (op_stW S sizeOf30 (.t rfl) (.t rfl) (k := 0) rfl rfl rfl (by simp [Value.oneCell']) fun a w S => st_nil (then_normal (hK3 _ _ (sg S (.mv rfl <| .yy (ys_T (by omega) (ys_lss (.t rfl) Ev.c)) rfl <| .z) fun a w S => st_then S (.t rfl) (wp_region_lit (run S (.mv rfl <| .mv rfl <| .la gt30 0 rfl rfl rfl <| .z) fun a w S => ?_)))))))))))))
      (replace S := S.pull 2 rfl; try simp only [List.set_cons_zero, List.set_cons_succ, List.eraseIdx_cons_succ, List.eraseIdx_cons_zero] at S; replace S := S.pull 2 rfl; try simp only [List.set_cons_zero, List.set_cons_succ, List.eraseIdx_cons_succ, List.eraseIdx_cons_zero] at S; refine st_m (op_callO S call14 (.cons (.t rfl) (.cons (.t rfl) (.cons (.t rfl) .nil))) (c14 S.wd (by first | assumption | omega | (dsimp only; omega) | exact Sl.nil_ | exact .old S.wd (by assumption) | exact Sl.of_own S.wd (k := 0) rfl (fun _ => rfl) | exact Sl.of_own S.wd (k := 1) rfl (fun _ => rfl) | exact Sl.of_own S.wd (k := 2) rfl (fun _ => rfl) | (simp; done) | (simp at *; omega)) (by first | assumption | omega | (dsimp only; omega) | exact Sl.nil_ | exact .old S.wd (by assumption) | exact Sl.of_own S.wd (k := 0) rfl (fun _ => rfl) | exact Sl.of_own S.wd (k := 1) rfl (fun _ => rfl) | exact Sl.of_own S.wd (k := 2) rfl (fun _ => rfl) | (simp; done) | (simp at *; omega)) (by first | assumption | omega | (dsimp only; omega) | exact Sl.nil_ | exact .old S.wd (by assumption) | exact Sl.of_own S.wd (k := 0) rfl (fun _ => rfl) | exact Sl.of_own S.wd (k := 1) rfl (fun _ => rfl) | exact Sl.of_own S.wd (k := 2) rfl (fun _ => rfl) | (simp; done) | (simp at *; omega))) rfl ?_) <;> clear S a w)
      rintro _ _ ⟨A21, e21, rfl, rfl⟩ a w S
      refine st_nil (in_normal (then_normal (hK2 _ _ (wp_region_lit (run S (.ad (by unfold I64; omega) rfl <| .mv rfl <| .z) fun a w S => st_nil (then_normal ?_))))))
      exact ⟨(i + 1, A21, e21), by dsimp only; omega, by dsimp only; omega, by dsimp only; rw [hst]; exact S.pk⟩
    · have hst : (l.take 40).take (i + 1) = (l.take 40).take i := by
        have e40 : ∀ j, 40 ≤ j → (l.take 40).take j = l.take 40 := fun j hj => List.take_of_length_le (by rw [List.length_take]; omega)
        rw [e40 _ (by omega), e40 _ (by omega)]
      refine sg S (.lt (by omega) rfl rfl <| .z) fun a w S => wp_seq_k fun _ hK2 => st_then S (.t rfl) (wp_skip (then_normal (hK2 _ _ (wp_seq_k fun _ hK2 => wp_block (wp_seq_k fun _ hK3 => wp_region_lit (run S (.mv rfl <| .ix underlying32 sizeOf30 (by omega) rfl rfl <| .yy (ys_ldOA ⟨isAgg30, sizeOf30⟩ (.t rfl) (vs := [_, _, _]) rfl (fun _ => hcx)) rfl <| .z) fun a w S => st_m (op_alloc S zeroValue30 (cs := _) rfl rfl fun g2 a w S => run S (.as rfl <| .z) fun a w S => st_m (op_stW S sizeOf30 (.t rfl) (.t rfl) (k := 0) rfl rfl rfl (by simp [Value.oneCell']) fun a w S => st_nil (then_normal (hK3 _ _ (sg S (.mv rfl <| .yy (ys_F (by omega) (ys_lss (.t rfl) Ev.c)) rfl <| .z) fun a w S => st_else S (.t rfl) (wp_skip (in_normal (then_normal (hK2 _ _ (wp_region_lit (run S (.ad (by unfold I64; omega) rfl <| .mv rfl <| .z) fun a w S => st_nil (then_normal ?_))))))))))))))))))
      exact ⟨(i + 1, B, cB), by dsimp only; omega, by dsimp only; omega, by dsimp only; rw [hst]; exact S.pk⟩
  obtain rfl : i = l.length := by omega
  rw [List.take_of_length_le (show (l.take 40).length ≤ l.length by rw [List.length_take]; omega)] at S
  refine sg S (.ge (by omega) rfl rfl <| .z) fun a w S => wp_seq_k fun _ hK2 => st_else S (.t rfl) (wp_exit (then_exit (then_exit (in_here (then_normal (hK1 _ _ (sg S (.mv rfl <| .as rfl <| .z) fun a w S => wp_ret (st_ret S (results1 S results28 (Rv.tmp rfl)) ?_))))))))
  exact ⟨_, _, rfl, S.wd.pk, _, _, _, rfl, rfl⟩
theorem c74 (w0 : World) : Rets Tryz.prog 74 #[] w0 fun u L => ∃ g, u = .agg #[.slice none 0 0, .slice (some ⟨g, 0, none⟩) 1 1, .slice none 0 0] ∧ L = [.blk g (.cells #[.int .i64 0, .int .i64 1, .int .i64 3] 30)] := by
  unfold Go.Fw.Rets
  refine enter0 func74 rfl ntmps74 rfl fun a S => wp_seq_k fun _ hK1 => wp_region_lit (st_m (op_alloc S zeroValue37 (cs := _) rfl rfl fun g1 a w S => st_nil (then_normal (hK1 _ _ (wp_seq_k fun _ hK1 => wp_region_lit (run S (.yy (ys_bld (ps := [(0, _), (1, _), (2, _)]) (us := [_, _, _]) bld30 (.cons Ev.c (.cons Ev.c (.cons Ev.c .nil))) rfl) rfl <| .z) fun a w S => st_m (op_bslice1 S underlying32 inf30 rfl rfl rfl (.t rfl) rfl rfl rfl fun g2 a w S => run S (.yy (ys_bld (ps := [(0, Go.Operand.tmp 2)]) (us := [_, _]) bld35 (.cons (.t rfl) .nil) rfl) rfl <| .yy (ys_bld (ps := [(1, Go.Operand.tmp 3)]) (us := [_, _, _]) bld37 (.cons (.t rfl) .nil) rfl) rfl <| .z) fun a w S => st_m (op_stW S sizeOf37 (.t rfl) (.t rfl) (k := 1) rfl rfl rfl (by simp [Value.oneCell']) fun a w S => st_nil (then_normal (hK1 _ _ (wp_ret (st_ret S (results1 S results74 (Rv.cell (k := 1) ⟨isAgg37, sizeOf37⟩ rfl rfl rfl)) ?_))))))))))))
  exact ⟨_, _, rfl, S.wd.pk, _, rfl, rfl⟩
end Go.Proofs.YtakpdbmdfnialaaGreat
set_option linter.unusedVariables false
set_option linter.unusedSimpArgs false
set_option maxRecDepth 100000
set_option maxHeartbeats 4000000
namespace Go.Fw
theorem ready_013 : readyG [C013] 0 1 = (⟨0, 1, 3⟩, 0) := by decide +kernel
theorem put_013 : putG [] [107] ⟨0, 1, 3⟩ = ([⟨[107], ⟨0, 1, 3⟩⟩], 0) := by decide +kernel
theorem clean_013 : cleanG (marksG [⟨[107], ⟨0, 1, 3⟩⟩] [107]) C013 = (Cart.zero, 0) := by decide +kernel
theorem marks_013 : marksG [⟨[107], ⟨0, 1, 3⟩⟩] [107] = [⟨0, 1, 3⟩] := by decide +kernel
end Go.Fw
namespace Go.Proofs.YtakpdbmdfnialaaGreat
open Go.Fw Go.Proofs Go.RowKit Go.Proofs.Tryz
theorem c27 (w0 : World) : Calls Tryz.prog 27 #[] w0 fun e w' => e = .returned (.bool true) ∧ Bel w0.heap.size w0 w' := by
  refine enter0 func27 rfl ntmps27 rfl fun a S => sg S (.ac rfl <| .z) fun a w S => wp_seq_k fun _ hK1 => wp_region_lit ?_
  (refine st_m (op_calls S call74 .nil (c74 _) rfl ?_); clear S a w; rintro _ _ ⟨g1, rfl, rfl⟩ a w S)
  refine st_m (op_bslice1 S underlying64 inf37 rfl rfl rfl (.t rfl) rfl rfl rfl fun g2 a w S => run S (.yy (ys_bld (ps := [(0, _), (1, _)]) (us := [_, _]) bld66 (.cons Ev.c (.cons Ev.c .nil)) rfl) rfl <| .z) fun a w S => st_y S (ys_call call34 (.cons (.t rfl) (.cons (.t rfl) .nil)) (fun _ w' W' => c34 w' _ [(C013, (⟨none, 0, 0, some ⟨g1, 0, none⟩, 1, 1, none, 0, 0⟩ : Sls3))] 0 1 (Sl.of_blk (cap := 1) [(C013, (⟨none, 0, 0, some ⟨g1, 0, none⟩, 1, 1, none, 0, 0⟩ : Sls3))] W' (k := 0) rfl rfl SCart.enc_len (by simp) (by simp)) (fun p hp => by rw [List.mem_singleton.1 hp]; exact ⟨Sl.nil_, sl_y1 W' (k := 1) rfl, Sl.nil_⟩))) rfl ?_)
  clear S a w
  intro a w S
  rw [show List.map (fun x : SCart => x.1) [(C013, (⟨none, 0, 0, some ⟨g1, 0, none⟩, 1, 1, none, 0, 0⟩ : Sls3))] = [C013] from rfl, ready_013] at S
  dsimp only [Dot.enc] at S
  have rw_1 : decide ((0 : Int) = 0 ∧ (1 : Int) = 1 ∧ (3 : Int) = 3) = true := by decide
  refine run S (.mv rfl <| .ex rfl rfl <| .ex rfl rfl <| .z) fun a w S => st_m (op_alloc S zeroValue30 (cs := _) rfl rfl fun g3 a w S => st_m (op_stW S sizeOf30 (.t rfl) (.t rfl) (k := 0) rfl rfl rfl (by simp [Value.oneCell']) fun a w S => run S (.as rfl <| .z) fun a w S => st_nil (then_normal (hK1 _ _ (wp_seq_k fun _ hK1 => wp_region_lit ?_)))))
  (refine st_m (op_calls S call13 .nil (c13 _) rfl ?_); clear S a w; rintro _ _ ⟨g4, rfl, rfl⟩ a w S)
  refine run S (.as rfl <| .z) fun a w S => st_nil (then_normal (hK1 _ _ (wp_seq_k fun _ hK1 => wp_seq_k fun _ hK2 => wp_region_lit (run S (.mv rfl <| .yy (ys_F (by omega) (ys_neq (.t rfl) Ev.c)) rfl <| .mv rfl <| .gy rfl rfl (ys_ldA ⟨isAgg30, sizeOf30⟩ (.t rfl) (k := 1) rfl rfl) <| .gy rfl rfl (ys_bld (ps := [(0, _), (1, _), (2, _)]) (us := [_, _, _]) bld30 (.cons Ev.c (.cons Ev.c (.cons Ev.c .nil))) rfl) <| .gy rfl rfl (ys_neA (.t rfl) (.t rfl) eq30) <| .z) fun a w S => ?_))))
  rw [rw_1] at S
  refine run S (.yy (ys_pickF (.t rfl) (.t rfl)) rfl <| .mv rfl <| .gy rfl rfl (ys_move (.t rfl)) <| .gy rfl rfl (ys_ldA ⟨isAgg30, sizeOf30⟩ (.t rfl) (k := 1) rfl rfl) <| .z) fun a w S => ?_
  replace S := S.nil_ 52 4 Gon.enc none
  (replace S := S.pull 1 rfl; try simp only [List.set_cons_zero, List.set_cons_succ, List.eraseIdx_cons_succ, List.eraseIdx_cons_zero] at S)
  change St _ _ _ (tabP g4 none 0 [] _) _ _ at S
  have tab0 := tab_nil
  (refine st_mg S rfl rfl (op_callO S call14 (.cons (.t rfl) (.cons Ev.c (.cons (.t rfl) .nil))) (c14 S.wd (by first | assumption | omega | (dsimp only; omega) | exact Sl.nil_ | exact .old S.wd (by assumption) | exact Sl.of_own S.wd (k := 0) rfl (fun _ => rfl) | exact Sl.of_own S.wd (k := 1) rfl (fun _ => rfl) | exact Sl.of_own S.wd (k := 2) rfl (fun _ => rfl) | exact Sl.of_own S.wd (k := 3) rfl (fun _ => rfl) | exact Sl.of_own S.wd (k := 4) rfl (fun _ => rfl) | (simp; done) | (simp at *; omega)) (by first | assumption | omega | (dsimp only; omega) | exact Sl.nil_ | exact .old S.wd (by assumption) | exact Sl.of_own S.wd (k := 0) rfl (fun _ => rfl) | exact Sl.of_own S.wd (k := 1) rfl (fun _ => rfl) | exact Sl.of_own S.wd (k := 2) rfl (fun _ => rfl) | exact Sl.of_own S.wd (k := 3) rfl (fun _ => rfl) | exact Sl.of_own S.wd (k := 4) rfl (fun _ => rfl) | (simp; done) | (simp at *; omega)) (by first | assumption | omega | (dsimp only; omega) | exact Sl.nil_ | exact .old S.wd (by assumption) | exact Sl.of_own S.wd (k := 0) rfl (fun _ => rfl) | exact Sl.of_own S.wd (k := 1) rfl (fun _ => rfl) | exact Sl.of_own S.wd (k := 2) rfl (fun _ => rfl) | exact Sl.of_own S.wd (k := 3) rfl (fun _ => rfl) | exact Sl.of_own S.wd (k := 4) rfl (fun _ => rfl) | (simp; done) | (simp at *; omega))) rfl ?_) <;> clear S a w)
  rintro _ _ ⟨A21, e21, rfl, rfl⟩ a w S
  refine run S (.gy rfl rfl (ys_neq (.t rfl) Ev.c) <| .yy (ys_pickF (.t rfl) (.t rfl)) rfl <| .z) fun a w S => st_nil (then_normal (hK2 _ _ (st_else S (.t rfl) (wp_skip (then_normal (hK1 _ _ (wp_seq_k fun _ hK1 => wp_region_lit (run S (.mv rfl <| .z) fun a w S => ?_))))))))
  (refine st_m (op_calls S call74 .nil (c74 _) rfl ?_); clear S a w; rintro _ _ ⟨g5, rfl, rfl⟩ a w S)
  simp only [put_013] at S
  refine st_m (op_calls S call17 (.cons (.t rfl) (.cons Ev.c (.cons (.t rfl) .nil))) (c17 _ g4 _ [⟨[107], ⟨0, 1, 3⟩⟩] [107] _ _ _ C013 (Wd.cell S.wd (k := 1) rfl rfl) (Wd.cell S.wd (k := 1) rfl rfl) (Sl.of_own S.wd (k := 2) rfl (fun _ => rfl)) (by simp) Sl.nil_ ⟨sl_y1 S.wd (k := 0) rfl, Sl.nil_⟩) rfl ?_)
  clear S a w
  rintro _ _ ⟨F1, f1, F2, f2, F3, f3, rfl, rfl⟩ a w S
  simp only [clean_013] at S
  dsimp only [Cart.zero, List.length_nil] at S
  refine run S (.mv rfl <| .ex rfl rfl <| .ex rfl rfl <| .z) fun a w S => st_m (op_alloc S zeroValue37 (cs := _) rfl rfl fun g6 a w S => st_m (op_stW S sizeOf37 (.t rfl) (.t rfl) (k := 0) rfl rfl rfl (by simp [Value.oneCell']) fun a w S => run S (.as rfl <| .z) fun a w S => st_nil (then_normal (hK1 _ _ (wp_seq_k fun _ hK1 => h_begin0 S (by kernel_rfl) fun a w S => hy 0 S rfl (ys_move (.t rfl)) rfl fun a w S => hy 1 S rfl (ys_T (by omega) (ys_eql (.t rfl) Ev.c)) rfl fun a w S => hy 2 S rfl (ys_move (.t rfl)) rfl fun a w S => hyt 3 S rfl rfl rfl (ys_fieldN (FieldT.mk underlying37 rfl sizeOf35 rfl) (.t rfl) (i' := 1) rfl) rfl fun a w S => ?_)))))
  refine hyt 4 S rfl rfl rfl (ys_fieldN (FieldT.mk underlying35 rfl sizeOf32 rfl) (.t rfl) (i' := 1) rfl) rfl fun a w S => hyt 5 S rfl rfl rfl (ys_ld ⟨isAgg32, sizeOf32⟩ (.t rfl) (k := 0) rfl rfl) rfl fun a w S => hyt 6 S rfl rfl rfl (ys_lenS underlying32 (.t rfl)) rfl fun a w S => hyt 7 S rfl rfl rfl (ys_T (by omega) (ys_eql (.t rfl) Ev.c)) rfl fun a w S => hy 8 S rfl (ys_pickT (.t rfl) (.t rfl)) rfl fun a w S => ?_
  refine hy 9 S rfl (ys_move (.t rfl)) rfl fun a w S => hyt 10 S rfl rfl rfl (ys_move (.t rfl)) rfl fun a w S => hyt 12 S rfl rfl rfl (ys_ldA ⟨isAgg30, sizeOf30⟩ (.t rfl) (k := 7) rfl rfl) rfl fun a w S => ?_
  refine h_splitw S (i := 11) (j := 13) (by kernel_rfl) rfl rfl ⟨_, rfl, rfl⟩ ⟨_, rfl, rfl⟩ ?_ ?_
  (refine op_calls S call21 (.cons (.t rfl) (.cons Ev.c .nil)) (c21 _ _ _ _ _ (by exact Wd.cell S.wd (k := 5) rfl rfl) (by exact Wd.cell S.wd (k := 5) rfl rfl) (by exact Sl.of_own S.wd (k := 6) rfl (fun _ => rfl)) (by (simp; done))) rfl ?_; clear S a w; rintro _ _ ⟨A1, c1, rfl, rfl⟩ a w S; refine h_n1 S ?_)
  (refine h_mg (i := 13) S rfl (by kernel_rfl) rfl rfl (op_bslice1 S underlying32 inf30 rfl rfl rfl (.t rfl) rfl rfl rfl ?_); clear S a w; intro g7 a w S; refine h_n2 S ?_)
  refine h_qg (i := 14) S (by repeat (first | exact List.Sublist.refl _ | exact List.nil_sublist _ | refine .cons_cons _ ?_ | refine .cons _ ?_)) rfl (by kernel_rfl) rfl rfl (ys_call call23 (.cons (.t rfl) (.cons (.t rfl) .nil)) (fun hp w W => c23 _ _ _ _ _ (by exact Sl.of_own W (k := 1) rfl (fun _ => rfl)) (by exact sl_y1 W (k := 0) rfl))) rfl fun a w S => hy 15 S rfl (ys_pickT (.t rfl) (.t rfl)) rfl fun a w S => hy 16 S rfl (ys_assign (.t rfl)) rfl fun a w S => h_done (by kernel_rfl) (then_normal (hK1 _ _ (wp_ret (st_ret S (results1 S results27 (Rv.tmp rfl)) ?_))))
  rotate_left
  (refine op_bslice1 S underlying32 inf30 rfl rfl rfl (.t rfl) rfl rfl rfl ?_; clear S a w; intro g7 a w S; refine h_n1 S ?_)
  (refine h_mg (i := 11) S rfl (by kernel_rfl) rfl rfl (op_calls S call21 (.cons (.t rfl) (.cons Ev.c .nil)) (c21 _ _ _ _ _ (by exact Wd.cell S.wd (k := 6) rfl rfl) (by exact Wd.cell S.wd (k := 6) rfl rfl) (by exact Sl.of_own S.wd (k := 7) rfl (fun _ => rfl)) (by (simp; done))) rfl ?_); clear S a w; rintro _ _ ⟨A1, c1, rfl, rfl⟩ a w S; refine h_n2 S ?_)
  refine h_qg (i := 14) S (by repeat (first | exact List.Sublist.refl _ | exact List.nil_sublist _ | refine .cons_cons _ ?_ | refine .cons _ ?_)) rfl (by kernel_rfl) rfl rfl (ys_call call23 (.cons (.t rfl) (.cons (.t rfl) .nil)) (fun hp w W => c23 _ _ _ _ _ (by exact Sl.of_own W (k := 0) rfl (fun _ => rfl)) (by exact sl_y1 W (k := 1) rfl))) rfl fun a w S => hy 15 S rfl (ys_pickT (.t rfl) (.t rfl)) rfl fun a w S => hy 16 S rfl (ys_assign (.t rfl)) rfl fun a w S => h_done (by kernel_rfl) (then_normal (hK1 _ _ (wp_ret (st_ret S (results1 S results27 (Rv.tmp rfl)) ?_))))
  rotate_left
  all_goals exact ⟨by rw [marks_013, decide_eq_true rfl], S.wd.below⟩
end Go.Proofs.YtakpdbmdfnialaaGreat
set_option linter.unusedVariables false
set_option linter.unusedSimpArgs false
set_option maxRecDepth 100000
set_option maxHeartbeats 4000000
namespace Go.Fw
def joinF (a b : Cart) (k : Nat) : List Ent := ((b.ents.take k).filter (newB a)).foldl (fun l x => insE x l) (staysE a b)
end Go.Fw
namespace Go.Proofs.YtakpdbmdfnialaaGreat
open Go.Fw Go.Proofs Go.RowKit Go.Proofs.Tryz
theorem c29 (w0 : World) (v1 v2 v3 v4 v5 v6 : Value) (X Y : Cart) (h : Sl Ent.enc 6 w0 w0.heap.size v1 X.ents) (hr : RdCtx w0 w0.heap.size v2 v3 X.ctx) (h' : Sl Ent.enc 6 w0 w0.heap.size v4 Y.ents) (hr' : RdCtx w0 w0.heap.size v5 v6 Y.ctx) :
    Rets Tryz.prog 29 #[.agg #[v1, v2, v3], .agg #[v4, v5, v6]] w0 fun v L => ∃ A1 r1 A2 r2 A3 r3, v = .tuple #[.agg #[.slice A1 (joinK X Y).1.ents.length r1, .slice A2 (joinK X Y).1.ctx.marks.length r2, .slice A3 (joinK X Y).1.ctx.cloud.length r3], .int .i64 (joinK X Y).2] ∧
      L = [rowOf 100 6 Ent.enc A1 r1 (joinK X Y).1.ents, rowOf 30 3 Dot.enc A2 r2 (joinK X Y).1.ctx.marks, rowOf 74 3 Dot.enc A3 r3 (joinK X Y).1.ctx.cloud] := by
  have hs := h
  have hrr := hr
  have hs' := h'
  have hrr' := hr'
  obtain ⟨A, cap, rfl, hl, hcap, hA⟩ := h
  obtain ⟨⟨A2, cap2, rfl, _⟩, ⟨A3, cap3, rfl, _⟩⟩ := hr
  obtain ⟨B, capB, rfl, hlB, hcapB, hB⟩ := h'
  obtain ⟨⟨B2, capB2, rfl, _⟩, ⟨B3, capB3, rfl, _⟩⟩ := hr'
  by_cases hX : canE X = 0
  rotate_left
  · have rw_x : decide (canE X ≠ 0) = true := decide_eq_true hX
    have e : joinK X Y = (Cart.zero, canE X) := by unfold joinK; rw [if_neg hX]
    unfold Go.Fw.Rets
    refine enter2 func29 rfl ntmps29 rfl fun a S => wp_seq_k fun _ hK1 => wp_region_lit (st_m (op_box S (.t rfl) rfl fun g1 a w S => st_m (op_box S (.t rfl) rfl fun g2 a w S => st_m (op_alloc S zeroValue37 (cs := _) rfl rfl fun g3 a w S => run S (.ac rfl <| .z) fun a w S => st_nil (then_normal (hK1 _ _ (wp_seq_k fun _ hK1 => sg S (.la gt37 2 rfl rfl rfl <| .xx (ys_call call32 (.cons (.t rfl) .nil) (fun hp w W => c32 _ _ _ _ _ (by exact .old W (by assumption)) (by exact .old W (by assumption)))) rfl <| .as rfl <| .z) fun a w S => sg S (.mv rfl <| .yy (ys_T (by omega) (ys_neq (.t rfl) Ev.c)) rfl <| .z) fun a w S => st_then S (.t rfl) (wp_seq_k fun _ hK2 => wp_region_lit (run S (.yy (ys_bld (ps := []) (us := [_, _, _]) bld37 .nil rfl) rfl <| .mv rfl <| .z) fun a w S => st_m (op_stW S sizeOf37 (.t rfl) (.t rfl) (k := 0) rfl rfl rfl (by simp [Value.oneCell']) fun a w S => run S (.as rfl <| .z) fun a w S => st_nil (then_normal (hK2 _ _ (wp_ret (then_ret (st_ret S (results2 S results29 (Rv.cell (k := 0) ⟨isAgg37, sizeOf37⟩ rfl rfl rfl) (Rv.tmp rfl)) ?_)))))))))))))))
    rw [e]
    exact ⟨_, _, rfl, (((S.nil_ 74 3 Dot.enc none).nil_ 30 3 Dot.enc none).nil_ 100 6 Ent.enc none).wd.sub (by repeat (first | exact List.Sublist.refl _ | exact List.nil_sublist _ | refine .cons_cons _ ?_ | refine .cons _ ?_)), none, 0, none, 0, none, 0, rfl, rfl⟩
  have rw_x := hX
  by_cases hY : canE Y = 0
  rotate_left
  · have rw_y : decide (canE Y ≠ 0) = true := decide_eq_true hY
    have e : joinK X Y = (Cart.zero, canE Y) := by unfold joinK; rw [if_pos hX, if_neg hY]
    unfold Go.Fw.Rets
    refine enter2 func29 rfl ntmps29 rfl fun a S => wp_seq_k fun _ hK1 => wp_region_lit (st_m (op_box S (.t rfl) rfl fun g1 a w S => st_m (op_box S (.t rfl) rfl fun g2 a w S => st_m (op_alloc S zeroValue37 (cs := _) rfl rfl fun g3 a w S => run S (.ac rfl <| .z) fun a w S => st_nil (then_normal (hK1 _ _ (wp_seq_k fun _ hK1 => wp_seq_k fun _ hK2 => wp_region_lit (run S (.la gt37 2 rfl rfl rfl <| .xx (ys_call call32 (.cons (.t rfl) .nil) (fun hp w W => c32 _ _ _ _ _ (by exact .old W (by assumption)) (by exact .old W (by assumption)))) rfl <| .z) fun a w S => ?_))))))))
    rw [rw_x] at S
    refine run S (.as rfl <| .z) fun a w S => st_nil (then_normal (hK2 _ _ (sg S (.mv rfl <| .yy (ys_F (by omega) (ys_neq (.t rfl) Ev.c)) rfl <| .z) fun a w S => st_else S (.t rfl) (wp_skip (then_normal (hK1 _ _ (wp_seq_k fun _ hK1 => sg S (.la gt37 1 rfl rfl rfl <| .xx (ys_call call32 (.cons (.t rfl) .nil) (fun hp w W => c32 _ _ _ _ _ (by exact .old W (by assumption)) (by exact .old W (by assumption)))) rfl <| .as rfl <| .z) fun a w S => sg S (.mv rfl <| .yy (ys_T (by omega) (ys_neq (.t rfl) Ev.c)) rfl <| .z) fun a w S => st_then S (.t rfl) (wp_seq_k fun _ hK2 => wp_region_lit (run S (.yy (ys_bld (ps := []) (us := [_, _, _]) bld37 .nil rfl) rfl <| .mv rfl <| .z) fun a w S => st_m (op_stW S sizeOf37 (.t rfl) (.t rfl) (k := 0) rfl rfl rfl (by simp [Value.oneCell']) fun a w S => run S (.as rfl <| .z) fun a w S => st_nil (then_normal (hK2 _ _ (wp_ret (then_ret (st_ret S (results2 S results29 (Rv.cell (k := 0) ⟨isAgg37, sizeOf37⟩ rfl rfl rfl) (Rv.tmp rfl)) ?_)))))))))))))))
    rw [e]
    exact ⟨_, _, rfl, (((S.nil_ 74 3 Dot.enc none).nil_ 30 3 Dot.enc none).nil_ 100 6 Ent.enc none).wd.sub (by repeat (first | exact List.Sublist.refl _ | exact List.nil_sublist _ | refine .cons_cons _ ?_ | refine .cons _ ?_)), none, 0, none, 0, none, 0, rfl, rfl⟩
  have rw_y := hY
  have oX := (canE_ok X).1 hX
  have oY := (canE_ok Y).1 hY
  have lX := oX.len
  have lY := oY.len
  by_cases hj : (joinL X.ctx Y.ctx).2 = 0
  rotate_left
  · have rw_j : decide ((joinL X.ctx Y.ctx).2 ≠ 0) = true := decide_eq_true hj
    have e : joinK X Y = (Cart.zero, (joinL X.ctx Y.ctx).2) := by unfold joinK; rw [if_pos hX, if_pos hY, if_neg hj]
    unfold Go.Fw.Rets
    refine enter2 func29 rfl ntmps29 rfl fun a S => wp_seq_k fun _ hK1 => wp_region_lit (st_m (op_box S (.t rfl) rfl fun g1 a w S => st_m (op_box S (.t rfl) rfl fun g2 a w S => st_m (op_alloc S zeroValue37 (cs := _) rfl rfl fun g3 a w S => run S (.ac rfl <| .z) fun a w S => st_nil (then_normal (hK1 _ _ (wp_seq_k fun _ hK1 => wp_seq_k fun _ hK2 => wp_region_lit (run S (.la gt37 2 rfl rfl rfl <| .xx (ys_call call32 (.cons (.t rfl) .nil) (fun hp w W => c32 _ _ _ _ _ (by exact .old W (by assumption)) (by exact .old W (by assumption)))) rfl <| .z) fun a w S => ?_))))))))
    rw [rw_x] at S
    refine run S (.as rfl <| .z) fun a w S => st_nil (then_normal (hK2 _ _ (sg S (.mv rfl <| .yy (ys_F (by omega) (ys_neq (.t rfl) Ev.c)) rfl <| .z) fun a w S => st_else S (.t rfl) (wp_skip (then_normal (hK1 _ _ (wp_seq_k fun _ hK1 => wp_seq_k fun _ hK2 => wp_region_lit (run S (.la gt37 1 rfl rfl rfl <| .xx (ys_call call32 (.cons (.t rfl) .nil) (fun hp w W => c32 _ _ _ _ _ (by exact .old W (by assumption)) (by exact .old W (by assumption)))) rfl <| .z) fun a w S => ?_))))))))
    rw [rw_y] at S
    refine run S (.as rfl <| .z) fun a w S => st_nil (then_normal (hK2 _ _ (sg S (.mv rfl <| .yy (ys_F (by omega) (ys_neq (.t rfl) Ev.c)) rfl <| .z) fun a w S => st_else S (.t rfl) (wp_skip (then_normal (hK1 _ _ (wp_seq_k fun _ hK1 => wp_region_lit (run S (.fa underlying37 sizeOf35 1 rfl rfl rfl <| .la gt35 2 rfl rfl rfl <| .fa underlying37 sizeOf35 1 rfl rfl rfl <| .la gt35 1 rfl rfl rfl <| .z) fun a w S => ?_))))))))
    (refine st_m (op_calls S call75 (.cons (.t rfl) (.cons (.t rfl) .nil)) (c75 _ _ _ _ _ _ _ (by exact .old S.wd (by assumption)) (by exact .old S.wd (by assumption))) rfl ?_); clear S a w; rintro _ _ ⟨A11, r11, A21, r21, rfl, rfl⟩ a w S)
    refine run S (.mv rfl <| .ex rfl rfl <| .ex rfl rfl <| .z) fun a w S => st_m (op_alloc S zeroValue35 (cs := _) rfl rfl fun g4 a w S => st_m (op_stW S sizeOf35 (.t rfl) (.t rfl) (k := 0) rfl rfl rfl (by simp [Value.oneCell']) fun a w S => run S (.as rfl <| .z) fun a w S => st_nil (then_normal (hK1 _ _ (wp_seq_k fun _ hK1 => sg S (.mv rfl <| .yy (ys_T (by omega) (ys_neq (.t rfl) Ev.c)) rfl <| .z) fun a w S => st_then S (.t rfl) (wp_seq_k fun _ hK2 => wp_region_lit (run S (.yy (ys_bld (ps := []) (us := [_, _, _]) bld37 .nil rfl) rfl <| .mv rfl <| .z) fun a w S => st_m (op_stW S sizeOf37 (.t rfl) (.t rfl) (k := 3) rfl rfl rfl (by simp [Value.oneCell']) fun a w S => run S (.as rfl <| .z) fun a w S => st_nil (then_normal (hK2 _ _ (wp_ret (then_ret (st_ret S (results2 S results29 (Rv.cell (k := 3) ⟨isAgg37, sizeOf37⟩ rfl rfl rfl) (Rv.tmp rfl)) ?_)))))))))))))
    rw [e]
    exact ⟨_, _, rfl, (((S.nil_ 74 3 Dot.enc none).nil_ 30 3 Dot.enc none).nil_ 100 6 Ent.enc none).wd.sub (by repeat (first | exact List.Sublist.refl _ | exact List.nil_sublist _ | refine .cons_cons _ ?_ | refine .cons _ ?_)), none, 0, none, 0, none, 0, rfl, rfl⟩
  have rw_j := hj
  have eJ : joinK X Y = if 64 < (joinE X Y).length ∨ 32 < itemsN (joinE X Y) then (Cart.zero, 51) else if clashE X Y then (Cart.zero, 50) else (⟨joinE X Y, (joinL X.ctx Y.ctx).1⟩, 0) := by
    unfold joinK
    rw [if_pos hX, if_pos hY, if_pos hj]
    unfold sizedC
    by_cases h2 : 64 < (joinE X Y).length ∨ 32 < itemsN (joinE X Y)
    · rw [if_pos h2, if_pos h2, if_neg (by dsimp only; omega)]
    · rw [if_neg h2, if_neg h2, if_pos rfl]
  unfold Go.Fw.Rets
  refine enter2 func29 rfl ntmps29 rfl fun a S => wp_seq_k fun _ hK1 => wp_region_lit (st_m (op_box S (.t rfl) rfl fun g1 a w S => st_m (op_box S (.t rfl) rfl fun g2 a w S => st_m (op_alloc S zeroValue37 (cs := _) rfl rfl fun g3 a w S => run S (.ac rfl <| .z) fun a w S => st_nil (then_normal (hK1 _ _ (wp_seq_k fun _ hK1 => wp_seq_k fun _ hK2 => wp_region_lit (run S (.la gt37 2 rfl rfl rfl <| .xx (ys_call call32 (.cons (.t rfl) .nil) (fun hp w W => c32 _ _ _ _ _ (by exact .old W (by assumption)) (by exact .old W (by assumption)))) rfl <| .z) fun a w S => ?_))))))))
  rw [rw_x] at S
  refine run S (.as rfl <| .z) fun a w S => st_nil (then_normal (hK2 _ _ (sg S (.mv rfl <| .yy (ys_F (by omega) (ys_neq (.t rfl) Ev.c)) rfl <| .z) fun a w S => st_else S (.t rfl) (wp_skip (then_normal (hK1 _ _ (wp_seq_k fun _ hK1 => wp_seq_k fun _ hK2 => wp_region_lit (run S (.la gt37 1 rfl rfl rfl <| .xx (ys_call call32 (.cons (.t rfl) .nil) (fun hp w W => c32 _ _ _ _ _ (by exact .old W (by assumption)) (by exact .old W (by assumption)))) rfl <| .z) fun a w S => ?_))))))))
  rw [rw_y] at S
  refine run S (.as rfl <| .z) fun a w S => st_nil (then_normal (hK2 _ _ (sg S (.mv rfl <| .yy (ys_F (by omega) (ys_neq (.t rfl) Ev.c)) rfl <| .z) fun a w S => st_else S (.t rfl) (wp_skip (then_normal (hK1 _ _ (wp_seq_k fun _ hK1 => wp_region_lit (run S (.fa underlying37 sizeOf35 1 rfl rfl rfl <| .la gt35 2 rfl rfl rfl <| .fa underlying37 sizeOf35 1 rfl rfl rfl <| .la gt35 1 rfl rfl rfl <| .z) fun a w S => ?_))))))))
  (refine st_m (op_calls S call75 (.cons (.t rfl) (.cons (.t rfl) .nil)) (c75 _ _ _ _ _ _ _ (by exact .old S.wd (by assumption)) (by exact .old S.wd (by assumption))) rfl ?_); clear S a w; rintro _ _ ⟨A11, r11, A21, r21, rfl, rfl⟩ a w S)
  rw [rw_j] at S
  refine run S (.mv rfl <| .ex rfl rfl <| .ex rfl rfl <| .z) fun a w S => st_m (op_alloc S zeroValue35 (cs := _) rfl rfl fun g4 a w S => st_m (op_stW S sizeOf35 (.t rfl) (.t rfl) (k := 0) rfl rfl rfl (by simp [Value.oneCell']) fun a w S => run S (.as rfl <| .z) fun a w S => st_nil (then_normal (hK1 _ _ (wp_seq_k fun _ hK1 => sg S (.mv rfl <| .yy (ys_F (by omega) (ys_neq (.t rfl) Ev.c)) rfl <| .z) fun a w S => st_else S (.t rfl) (wp_skip (then_normal (hK1 _ _ (wp_seq_k fun _ hK1 => wp_region_lit (run S (.la gt35 0 rfl rfl rfl <| .yy (ys_bld (ps := [(1, Go.Operand.tmp 45)]) (us := [_, _, _]) bld37 (.cons (.t rfl) .nil) rfl) rfl <| .z) fun a w S => st_m (op_alloc S zeroValue37 (cs := _) rfl rfl fun g5 a w S => st_m (op_stW S sizeOf37 (.t rfl) (.t rfl) (k := 0) rfl rfl rfl (by simp [Value.oneCell']) fun a w S => st_nil (then_normal (hK1 _ _ (wp_seq_k fun _ hK1 => sg S (.fa underlying37 sizeOf31 0 rfl rfl rfl <| .ld gt31 6 rfl rfl rfl <| .ln underlying31 rfl <| .mc rfl <| .z) fun a w S => wp_block ?_)))))))))))))))
  generalize (joinL X.ctx Y.ctx).1 = R at S eJ
  have hcX := can_ctx hX
  have hcY := can_ctx hY
  have rw_covX := can_covers hcX
  have rw_covY := can_covers hcY
  refine st_lpM (S.nil_ 100 6 Ent.enc none) [50] (X := Nat × Option Addr × Nat) (fun q => [(50, true, .int .i64 (q.1 : Int))])
    (fun q => [rowOf 100 6 Ent.enc q.2.1 q.2.2 ((X.ents.take q.1).filter (stayB Y)), .blk g5 (.cells #[.slice q.2.1 ((X.ents.take q.1).filter (stayB Y)).length q.2.2, .slice A11 R.marks.length r11, .slice A21 R.cloud.length r21] 37), rowOf 30 3 Dot.enc A11 r11 R.marks, rowOf 74 3 Dot.enc A21 r21 R.cloud, .blk g3 (.cells #[.slice none 0 0, .slice none 0 0, .slice none 0 0] 37), .blk g2 (.cells #[.slice B Y.ents.length capB, .slice B2 Y.ctx.marks.length capB2, .slice B3 Y.ctx.cloud.length capB3] 37), .blk g1 (.cells #[.slice A X.ents.length cap, .slice A2 X.ctx.marks.length cap2, .slice A3 X.ctx.cloud.length cap3] 37)])
    (fun q => q.1 ≤ X.ents.length) (fun q => X.ents.length - q.1) (0, none, 0) (Nat.zero_le _) ?_
  clear S
  rintro ⟨k, D, cD⟩ a w hk S
  dsimp only at hk S
  have hol := filter_take (stayB Y) X.ents k
  by_cases hlt : k < X.ents.length
  · obtain ⟨g, o, x, rfl, hx, hd, hc⟩ := row_at hA hlt
    cases hp : stayB Y x with
    | false =>
      have rw_p : (decide (x ∈ Y.ents) || !Y.ctx.covers ⟨x.dot.node, x.dot.life, x.dot.count⟩) = false := hp
      have hst := filter_no hx hp
      refine sg S (.lt (by omega) rfl rfl <| .z) fun a w S => wp_seq_k fun _ hK2 => st_then S (.t rfl) (wp_skip (then_normal (hK2 _ _ (wp_seq_k fun _ hK2 => wp_block (wp_seq_k fun _ hK3 => wp_region_lit (run S (.ix underlying31 sizeOf100 (by omega) rfl rfl <| .yy (ys_ldOA ⟨isAgg100, sizeOf100⟩ (.t rfl) (vs := [_, _, _, _, _, _]) rfl (fun _ => hc)) rfl <| .z) fun a w S => st_m (op_alloc S zeroValue100 (cs := _) rfl rfl fun g6 a w S => st_m (op_stW S sizeOf100 (.t rfl) (.t rfl) (k := 0) rfl rfl rfl (by simp [Value.oneCell']) fun a w S => st_nil (then_normal (hK3 _ _ (wp_seq_k fun _ hK3 => wp_region_lit (run S (.la gt37 6 rfl rfl rfl <| .la gt100 0 rfl rfl rfl <| .xx (ys_call call76 (.cons (.t rfl) (.cons (.t rfl) .nil)) (fun hp w W => c76 _ _ _ _ _ _ _ _ _ _ (by exact .old W (by assumption)))) rfl <| .mv rfl <| .z) fun a w S => st_yf S rfl rfl (Yr.ys (ys_fieldN (FieldT.mk underlying37 rfl sizeOf35 rfl) (.t rfl) (i' := 1) rfl)) rfl fun a w S => st_yf S rfl rfl (Yr.ys (ys_ldA ⟨isAgg35, sizeOf35⟩ (Ev.g rfl) (k := 6) rfl rfl)) rfl fun a w S => st_yf S rfl rfl (Yr.ys (ys_fieldN (FieldT.mk underlying100 rfl sizeOf74 rfl) (.t rfl) (i' := 1) rfl)) rfl fun a w S => st_yf S rfl rfl (Yr.ys (ys_ldA ⟨isAgg74, sizeOf74⟩ (Ev.g rfl) (k := 0) rfl rfl)) rfl fun a w S => ?_))))))))))))
      refine st_yf S rfl rfl (ys_call call77 (.cons (Ev.g rfl) (.cons (Ev.g rfl) .nil)) (fun hp w W => c77 _ _ _ _ _ _ _ (by exact .old W (by assumption)))) rfl fun a w S => ?_
      rw [rw_covY] at S
      refine st_yf S rfl rfl (Yr.ys (ys_not (Ev.g rfl))) rfl fun a w S => run S (.yy (ys_or (.t rfl) Ev.c (Ev.g rfl)) rfl <| .z) fun a w S => ?_
      rw [rw_p] at S
      refine st_nil (then_normal (hK3 _ _ (st_else S (.t rfl) (wp_skip (in_normal (then_normal (hK2 _ _ (wp_region_lit (run S (.ad (by unfold I64; omega) rfl <| .mv rfl <| .z) fun a w S => st_nil (then_normal ?_))))))))))
      exact ⟨(k + 1, D, cD), by dsimp only; omega, by dsimp only; omega, by dsimp only; rw [hst]; exact S.pk⟩
    | true =>
      have rw_p : (decide (x ∈ Y.ents) || !Y.ctx.covers ⟨x.dot.node, x.dot.life, x.dot.count⟩) = true := hp
      have hst := filter_yes hx hp
      refine sg S (.lt (by omega) rfl rfl <| .z) fun a w S => wp_seq_k fun _ hK2 => st_then S (.t rfl) (wp_skip (then_normal (hK2 _ _ (wp_seq_k fun _ hK2 => wp_block (wp_seq_k fun _ hK3 => wp_region_lit (run S (.ix underlying31 sizeOf100 (by omega) rfl rfl <| .yy (ys_ldOA ⟨isAgg100, sizeOf100⟩ (.t rfl) (vs := [_, _, _, _, _, _]) rfl (fun _ => hc)) rfl <| .z) fun a w S => st_m (op_alloc S zeroValue100 (cs := _) rfl rfl fun g6 a w S => st_m (op_stW S sizeOf100 (.t rfl) (.t rfl) (k := 0) rfl rfl rfl (by simp [Value.oneCell']) fun a w S => st_nil (then_normal (hK3 _ _ (wp_seq_k fun _ hK3 => wp_region_lit (run S (.la gt37 6 rfl rfl rfl <| .la gt100 0 rfl rfl rfl <| .xx (ys_call call76 (.cons (.t rfl) (.cons (.t rfl) .nil)) (fun hp w W => c76 _ _ _ _ _ _ _ _ _ _ (by exact .old W (by assumption)))) rfl <| .mv rfl <| .z) fun a w S => st_yf S rfl rfl (Yr.ys (ys_fieldN (FieldT.mk underlying37 rfl sizeOf35 rfl) (.t rfl) (i' := 1) rfl)) rfl fun a w S => st_yf S rfl rfl (Yr.ys (ys_ldA ⟨isAgg35, sizeOf35⟩ (Ev.g rfl) (k := 6) rfl rfl)) rfl fun a w S => st_yf S rfl rfl (Yr.ys (ys_fieldN (FieldT.mk underlying100 rfl sizeOf74 rfl) (.t rfl) (i' := 1) rfl)) rfl fun a w S => st_yf S rfl rfl (Yr.ys (ys_ldA ⟨isAgg74, sizeOf74⟩ (Ev.g rfl) (k := 0) rfl rfl)) rfl fun a w S => ?_))))))))))))
      refine st_yf S rfl rfl (ys_call call77 (.cons (Ev.g rfl) (.cons (Ev.g rfl) .nil)) (fun hp w W => c77 _ _ _ _ _ _ _ (by exact .old W (by assumption)))) rfl fun a w S => ?_
      rw [rw_covY] at S
      refine st_yf S rfl rfl (Yr.ys (ys_not (Ev.g rfl))) rfl fun a w S => run S (.yy (ys_or (.t rfl) Ev.c (Ev.g rfl)) rfl <| .z) fun a w S => ?_
      rw [rw_p] at S
      refine st_nil (then_normal (hK3 _ _ (st_then S (.t rfl) (wp_region_lit (run S (.fa underlying37 sizeOf31 0 rfl rfl rfl <| .ld gt31 2 rfl rfl rfl <| .la gt100 0 rfl rfl rfl <| .z) fun a w S => st_m (op_bslice1 S underlying31 inf100 rfl rfl rfl (.t rfl) rfl rfl rfl fun g7 a w S => st_m (op_push S underlying31 inf100 rfl (k := 2) (j := 0) rfl (.t rfl) (.t rfl) rfl rfl rfl rfl (by first | omega | (simp only [List.length_append, List.length_cons, List.length_nil]; omega)) rfl rfl rfl fun A1 cap1 a w S => run S (.fa underlying37 sizeOf31 0 rfl rfl rfl <| .z) fun a w S => st_m (op_st S sizeOf31 (.t rfl) (.t rfl) (k := 3) rfl rfl (by simp) fun a w S => st_nil (in_normal (then_normal (hK2 _ _ (wp_region_lit (run S (.ad (by unfold I64; omega) rfl <| .mv rfl <| .z) fun a w S => st_nil (then_normal ?_))))))))))))))
      exact ⟨(k + 1, A1, cap1), by dsimp only; omega, by dsimp only; omega, by dsimp only; rw [hst]; exact S.pk⟩
  obtain rfl : k = X.ents.length := by omega
  rw [List.take_length, ← stays_filter] at S hol
  refine sg S (.ge (by omega) rfl rfl <| .z) fun a w S => wp_seq_k fun _ hK2 => st_else S (.t rfl) (wp_exit (then_exit (then_exit (in_here (then_normal (hK1 _ _ (wp_seq_k fun _ hK1 => sg S (.fa underlying37 sizeOf31 0 rfl rfl rfl <| .ld gt31 5 rfl rfl rfl <| .ln underlying31 rfl <| .mc rfl <| .z) fun a w S => wp_block ?_)))))))
  have e0 : joinF X Y 0 = staysE X Y := rfl
  rw [← e0] at S
  refine st_lpM S [75] (X := Nat × Option Addr × Nat) (fun q => [(75, true, .int .i64 (q.1 : Int))])
    (fun q => [rowOf 100 6 Ent.enc q.2.1 q.2.2 (joinF X Y q.1), .blk g5 (.cells #[.slice q.2.1 (joinF X Y q.1).length q.2.2, .slice A11 R.marks.length r11, .slice A21 R.cloud.length r21] 37), rowOf 30 3 Dot.enc A11 r11 R.marks, rowOf 74 3 Dot.enc A21 r21 R.cloud, .blk g3 (.cells #[.slice none 0 0, .slice none 0 0, .slice none 0 0] 37), .blk g2 (.cells #[.slice B Y.ents.length capB, .slice B2 Y.ctx.marks.length capB2, .slice B3 Y.ctx.cloud.length capB3] 37), .blk g1 (.cells #[.slice A X.ents.length cap, .slice A2 X.ctx.marks.length cap2, .slice A3 X.ctx.cloud.length cap3] 37)])
    (fun q => q.1 ≤ Y.ents.length) (fun q => Y.ents.length - q.1) (0, D, cD) (Nat.zero_le _) ?_
  clear S
  rintro ⟨k, E, cE⟩ a w hk S
  dsimp only at hk S
  have hol3 : (joinF X Y k).length ≤ 200 := by
    unfold joinF
    have hol2 := filter_take (newB X) Y.ents k
    rw [fold_ins_len]; omega
  by_cases hlt : k < Y.ents.length
  · obtain ⟨g, o, x, rfl, hx, hd, hc⟩ := row_at hB hlt
    cases hp : newB X x with
    | false =>
      have hst : joinF X Y (k + 1) = joinF X Y k := by unfold joinF; rw [filter_no hx hp]
      have rw_c : X.ctx.covers ⟨x.dot.node, x.dot.life, x.dot.count⟩ = true := by simpa [newB] using hp
      refine sg S (.lt (by omega) rfl rfl <| .z) fun a w S => wp_seq_k fun _ hK3 => st_then S (.t rfl) (wp_skip (then_normal (hK3 _ _ (wp_seq_k fun _ hK3 => wp_block (wp_seq_k fun _ hK4 => wp_region_lit (run S (.ix underlying31 sizeOf100 (by omega) rfl rfl <| .yy (ys_ldOA ⟨isAgg100, sizeOf100⟩ (.t rfl) (vs := [_, _, _, _, _, _]) rfl (fun _ => hc)) rfl <| .z) fun a w S => st_m (op_alloc S zeroValue100 (cs := _) rfl rfl fun g6 a w S => st_m (op_stW S sizeOf100 (.t rfl) (.t rfl) (k := 0) rfl rfl rfl (by simp [Value.oneCell']) fun a w S => st_nil (then_normal (hK4 _ _ (wp_seq_k fun _ hK4 => wp_region_lit (run S (.fa underlying37 sizeOf35 1 rfl rfl rfl <| .la gt35 7 rfl rfl rfl <| .fa underlying100 sizeOf74 1 rfl rfl rfl <| .la gt74 0 rfl rfl rfl <| .xx (ys_call call77 (.cons (.t rfl) (.cons (.t rfl) .nil)) (fun hp w W => c77 _ _ _ _ _ _ _ (by exact .old W (by assumption)))) rfl <| .z) fun a w S => ?_))))))))))))
      rw [rw_covX] at S
      rw [rw_c] at S
      refine run S (.nt rfl <| .z) fun a w S => st_nil (then_normal (hK4 _ _ (st_else S (.t rfl) (wp_skip (in_normal (then_normal (hK3 _ _ (wp_region_lit (run S (.ad (by unfold I64; omega) rfl <| .mv rfl <| .z) fun a w S => st_nil (then_normal ?_))))))))))
      exact ⟨(k + 1, E, cE), by dsimp only; omega, by dsimp only; omega, by dsimp only; rw [hst]; exact S.pk⟩
    | true =>
      have hst : joinF X Y (k + 1) = insE x (joinF X Y k) := by unfold joinF; rw [filter_yes hx hp, List.foldl_append]; rfl
      have rw_c : X.ctx.covers ⟨x.dot.node, x.dot.life, x.dot.count⟩ = false := by simpa [newB] using hp
      generalize joinF X Y k = O at S hst hol3
      refine sg S (.lt (by omega) rfl rfl <| .z) fun a w S => wp_seq_k fun _ hK3 => st_then S (.t rfl) (wp_skip (then_normal (hK3 _ _ (wp_seq_k fun _ hK3 => wp_block (wp_seq_k fun _ hK4 => wp_region_lit (run S (.ix underlying31 sizeOf100 (by omega) rfl rfl <| .yy (ys_ldOA ⟨isAgg100, sizeOf100⟩ (.t rfl) (vs := [_, _, _, _, _, _]) rfl (fun _ => hc)) rfl <| .z) fun a w S => st_m (op_alloc S zeroValue100 (cs := _) rfl rfl fun g6 a w S => st_m (op_stW S sizeOf100 (.t rfl) (.t rfl) (k := 0) rfl rfl rfl (by simp [Value.oneCell']) fun a w S => st_nil (then_normal (hK4 _ _ (wp_seq_k fun _ hK4 => wp_region_lit (run S (.fa underlying37 sizeOf35 1 rfl rfl rfl <| .la gt35 7 rfl rfl rfl <| .fa underlying100 sizeOf74 1 rfl rfl rfl <| .la gt74 0 rfl rfl rfl <| .xx (ys_call call77 (.cons (.t rfl) (.cons (.t rfl) .nil)) (fun hp w W => c77 _ _ _ _ _ _ _ (by exact .old W (by assumption)))) rfl <| .z) fun a w S => ?_))))))))))))
      rw [rw_covX] at S
      rw [rw_c] at S
      refine run S (.nt rfl <| .z) fun a w S => st_nil (then_normal (hK4 _ _ (st_then S (.t rfl) (wp_region_lit (run S (.fa underlying37 sizeOf31 0 rfl rfl rfl <| .ld gt31 2 rfl rfl rfl <| .la gt100 0 rfl rfl rfl <| .z) fun a w S => ?_)))))
      (refine st_m (op_calls S call78 (.cons (.t rfl) (.cons (.t rfl) .nil)) (c78 _ _ _ _ (by exact Sl.of_own S.wd (k := 1) rfl (fun _ => rfl)) (by omega)) rfl ?_); clear S a w; rintro _ _ ⟨A12, r12, rfl, rfl⟩ a w S)
      refine run S (.fa underlying37 sizeOf31 0 rfl rfl rfl <| .z) fun a w S => st_m (op_st S sizeOf31 (.t rfl) (.t rfl) (k := 3) rfl rfl (by simp) fun a w S => st_nil (in_normal (then_normal (hK3 _ _ (wp_region_lit (run S (.ad (by unfold I64; omega) rfl <| .mv rfl <| .z) fun a w S => st_nil (then_normal ?_)))))))
      exact ⟨(k + 1, A12, r12), by dsimp only; omega, by dsimp only; omega, by dsimp only; rw [hst]; exact S.pk⟩
  obtain rfl : k = Y.ents.length := by omega
  have e1 : joinF X Y Y.ents.length = joinE X Y := by unfold joinF; rw [List.take_length]; rfl
  rw [e1] at S hol3
  have hjl := joinE_len oX oY
  by_cases hbig : 64 < (joinE X Y).length ∨ 32 < itemsN (joinE X Y)
  · have rw_b : ∀ x y : Value, (if 64 < (joinE X Y).length ∨ 32 < itemsN (joinE X Y) then x else y) = x := fun _ _ => if_pos hbig
    rw [if_pos hbig] at eJ
    refine sg S (.ge (by omega) rfl rfl <| .z) fun a w S => wp_seq_k fun _ hK3 => st_else S (.t rfl) (wp_exit (then_exit (then_exit (in_here (then_normal (hK1 _ _ (wp_seq_k fun _ hK1 => wp_seq_k fun _ hK4 => wp_region_lit (run S (.la gt37 1 rfl rfl rfl <| .xx (ys_call call79 (.cons (.t rfl) .nil) (fun hp w W => c79 _ _ _ _ _ _ _ _ _ (by exact Sl.of_own W (k := 0) rfl (fun _ => rfl)) (by omega))) rfl <| .z) fun a w S => ?_))))))))
    rw [rw_b] at S
    refine run S (.mv rfl <| .ex rfl rfl <| .ex rfl rfl <| .z) fun a w S => st_m (op_alloc S zeroValue37 (cs := _) rfl rfl fun g6 a w S => st_m (op_stW S sizeOf37 (.t rfl) (.t rfl) (k := 0) rfl rfl rfl (by simp [Value.oneCell']) fun a w S => run S (.as rfl <| .z) fun a w S => st_nil (then_normal (hK4 _ _ (sg S (.mv rfl <| .yy (ys_T (by omega) (ys_neq (.t rfl) Ev.c)) rfl <| .z) fun a w S => st_then S (.t rfl) (wp_seq_k fun _ hK4 => wp_region_lit (run S (.yy (ys_bld (ps := []) (us := [_, _, _]) bld37 .nil rfl) rfl <| .mv rfl <| .z) fun a w S => st_m (op_stW S sizeOf37 (.t rfl) (.t rfl) (k := 5) rfl rfl rfl (by simp [Value.oneCell']) fun a w S => run S (.as rfl <| .z) fun a w S => st_nil (then_normal (hK4 _ _ (wp_ret (then_ret (st_ret S (results2 S results29 (Rv.cell (k := 5) ⟨isAgg37, sizeOf37⟩ rfl rfl rfl) (Rv.tmp rfl)) ?_)))))))))))))
    rw [eJ]
    exact ⟨_, _, rfl, (((S.nil_ 74 3 Dot.enc none).nil_ 30 3 Dot.enc none).nil_ 100 6 Ent.enc none).wd.sub (by repeat (first | exact List.Sublist.refl _ | exact List.nil_sublist _ | refine .cons_cons _ ?_ | refine .cons _ ?_)), none, 0, none, 0, none, 0, rfl, rfl⟩
  have rw_b : ∀ x y : Value, (if 64 < (joinE X Y).length ∨ 32 < itemsN (joinE X Y) then x else y) = y := fun _ _ => if_neg hbig
  rw [if_neg hbig] at eJ
  refine sg S (.ge (by omega) rfl rfl <| .z) fun a w S => wp_seq_k fun _ hK3 => st_else S (.t rfl) (wp_exit (then_exit (then_exit (in_here (then_normal (hK1 _ _ (wp_seq_k fun _ hK1 => wp_seq_k fun _ hK4 => wp_region_lit (run S (.la gt37 1 rfl rfl rfl <| .xx (ys_call call79 (.cons (.t rfl) .nil) (fun hp w W => c79 _ _ _ _ _ _ _ _ _ (by exact Sl.of_own W (k := 0) rfl (fun _ => rfl)) (by omega))) rfl <| .z) fun a w S => ?_))))))))
  rw [rw_b] at S
  refine run S (.mv rfl <| .ex rfl rfl <| .ex rfl rfl <| .z) fun a w S => st_m (op_alloc S zeroValue37 (cs := _) rfl rfl fun g6 a w S => st_m (op_stW S sizeOf37 (.t rfl) (.t rfl) (k := 0) rfl rfl rfl (by simp [Value.oneCell']) fun a w S => run S (.as rfl <| .z) fun a w S => st_nil (then_normal (hK4 _ _ (sg S (.mv rfl <| .yy (ys_F (by omega) (ys_neq (.t rfl) Ev.c)) rfl <| .z) fun a w S => st_else S (.t rfl) (wp_skip (then_normal (hK1 _ _ (wp_seq_k fun _ hK1 => sg S (.fa underlying37 sizeOf31 0 rfl rfl rfl <| .ld gt31 7 rfl rfl rfl <| .ln underlying31 rfl <| .mc rfl <| .z) fun a w S => wp_block ?_)))))))))
  refine st_lpM S [103] (X := Nat) (fun k => [(103, true, .int .i64 (k : Int))])
    (fun q => [rowOf 100 6 Ent.enc E cE (joinE X Y), .blk g5 (.cells #[.slice E (joinE X Y).length cE, .slice A11 R.marks.length r11, .slice A21 R.cloud.length r21] 37), rowOf 30 3 Dot.enc A11 r11 R.marks, rowOf 74 3 Dot.enc A21 r21 R.cloud, .blk g3 (.cells #[.slice none 0 0, .slice none 0 0, .slice none 0 0] 37), .blk g2 (.cells #[.slice B Y.ents.length capB, .slice B2 Y.ctx.marks.length capB2, .slice B3 Y.ctx.cloud.length capB3] 37), .blk g1 (.cells #[.slice A X.ents.length cap, .slice A2 X.ctx.marks.length cap2, .slice A3 X.ctx.cloud.length cap3] 37)])
    (fun k => k ≤ X.ents.length ∧ ∀ x ∈ X.ents.take k, ∀ y ∈ Y.ents, x.dot = y.dot → x = y) (fun k => X.ents.length - k) 0 ⟨Nat.zero_le _, by simp⟩ ?_
  clear S
  rintro k a w ⟨hk, hno⟩ S
  by_cases hlt : k < X.ents.length
  · obtain ⟨g, o, x, rfl, hx, hd, hc⟩ := row_at hA hlt
    refine sg S (.lt (by omega) rfl rfl <| .z) fun a w S => wp_seq_k fun _ hK4 => st_then S (.t rfl) (wp_skip (then_normal (hK4 _ _ (wp_seq_k fun _ hK4 => wp_block (wp_seq_k fun _ hK5 => wp_region_lit (run S (.ix underlying31 sizeOf100 (by omega) rfl rfl <| .yy (ys_ldOA ⟨isAgg100, sizeOf100⟩ (.t rfl) (vs := [_, _, _, _, _, _]) rfl (fun _ => hc)) rfl <| .z) fun a w S => st_m (op_alloc S zeroValue100 (cs := _) rfl rfl fun g7 a w S => st_m (op_stW S sizeOf100 (.t rfl) (.t rfl) (k := 0) rfl rfl rfl (by simp [Value.oneCell']) fun a w S => st_nil (then_normal (hK5 _ _ (sg S (.fa underlying37 sizeOf31 0 rfl rfl rfl <| .ld gt31 6 rfl rfl rfl <| .ln underlying31 rfl <| .mc rfl <| .z) fun a w S => wp_block ?_)))))))))))
    refine st_lpM S [110] (X := Nat) (fun k => [(110, true, .int .i64 (k : Int))])
      (fun q => [.blk g7 (.cells (Ent.enc x).toArray 100), rowOf 100 6 Ent.enc E cE (joinE X Y), .blk g5 (.cells #[.slice E (joinE X Y).length cE, .slice A11 R.marks.length r11, .slice A21 R.cloud.length r21] 37), rowOf 30 3 Dot.enc A11 r11 R.marks, rowOf 74 3 Dot.enc A21 r21 R.cloud, .blk g3 (.cells #[.slice none 0 0, .slice none 0 0, .slice none 0 0] 37), .blk g2 (.cells #[.slice B Y.ents.length capB, .slice B2 Y.ctx.marks.length capB2, .slice B3 Y.ctx.cloud.length capB3] 37), .blk g1 (.cells #[.slice (some ⟨g, o, none⟩) X.ents.length cap, .slice A2 X.ctx.marks.length cap2, .slice A3 X.ctx.cloud.length cap3] 37)])
      (fun m => m ≤ Y.ents.length ∧ ∀ y ∈ Y.ents.take m, x.dot = y.dot → x = y) (fun m => Y.ents.length - m) 0 ⟨Nat.zero_le _, by simp⟩ ?_
    clear S
    rintro m a w ⟨hm, hno2⟩ S
    by_cases hlt : m < Y.ents.length
    · obtain ⟨g', o', y, rfl, hy, hd', hc'⟩ := row_at hB hlt
      by_cases h1 : x.dot = y.dot
      · by_cases h2 : x = y
        · have rw_1 := decide_eq_true (dot_iff3.1 h1)
          have rw_2 := decide_eq_true (ent_iff.1 h2)
          refine sg S (.lt (by omega) rfl rfl <| .z) fun a w S => wp_seq_k fun _ hK5 => st_then S (.t rfl) (wp_skip (then_normal (hK5 _ _ (wp_seq_k fun _ hK5 => wp_block (wp_seq_k fun _ hK6 => wp_region_lit (run S (.ix underlying31 sizeOf100 (by omega) rfl rfl <| .yy (ys_ldOA ⟨isAgg100, sizeOf100⟩ (.t rfl) (vs := [_, _, _, _, _, _]) rfl (fun _ => hc')) rfl <| .z) fun a w S => st_m (op_alloc S zeroValue100 (cs := _) rfl rfl fun g8 a w S => st_m (op_stW S sizeOf100 (.t rfl) (.t rfl) (k := 0) rfl rfl rfl (by simp [Value.oneCell']) fun a w S => st_nil (then_normal (hK6 _ _ (wp_seq_k fun _ hK6 => wp_region_lit (run S (.fa underlying100 sizeOf74 1 rfl rfl rfl <| .la gt74 1 rfl rfl rfl <| .fa underlying100 sizeOf74 1 rfl rfl rfl <| .la gt74 0 rfl rfl rfl <| .yy (ys_eqA (.t rfl) (.t rfl) eq74) rfl <| .z) fun a w S => ?_))))))))))))
          rw [rw_1] at S
          refine run S (.mv rfl <| .gy rfl rfl (ys_ldA ⟨isAgg100, sizeOf100⟩ (.t rfl) (k := 1) rfl rfl) <| .gy rfl rfl (ys_ldA ⟨isAgg100, sizeOf100⟩ (.t rfl) (k := 0) rfl rfl) <| .gy rfl rfl (ys_neA (.t rfl) (.t rfl) eq100) <| .z) fun a w S => ?_
          rw [rw_2] at S
          refine run S (.yy (ys_pickT (.t rfl) (.t rfl)) rfl <| .z) fun a w S => st_nil (then_normal (hK6 _ _ (st_else S (.t rfl) (wp_skip (in_normal (then_normal (hK5 _ _ (wp_region_lit (run S (.ad (by unfold I64; omega) rfl <| .mv rfl <| .z) fun a w S => st_nil (then_normal ?_))))))))))
          refine ⟨m + 1, ⟨by omega, fun z hz hzd => ?_⟩, by omega, S.pk⟩
          rw [List.take_add_one, hy, Option.toList_some] at hz
          rcases List.mem_append.1 hz with hz | hz
          · exact hno2 z hz hzd
          · simp at hz; subst hz; exact h2
        · have rw_1 := decide_eq_true (dot_iff3.1 h1)
          have rw_2 := decide_eq_false (fun h => h2 (ent_iff.2 h))
          refine sg S (.lt (by omega) rfl rfl <| .z) fun a w S => wp_seq_k fun _ hK5 => st_then S (.t rfl) (wp_skip (then_normal (hK5 _ _ (wp_seq_k fun _ hK5 => wp_block (wp_seq_k fun _ hK6 => wp_region_lit (run S (.ix underlying31 sizeOf100 (by omega) rfl rfl <| .yy (ys_ldOA ⟨isAgg100, sizeOf100⟩ (.t rfl) (vs := [_, _, _, _, _, _]) rfl (fun _ => hc')) rfl <| .z) fun a w S => st_m (op_alloc S zeroValue100 (cs := _) rfl rfl fun g8 a w S => st_m (op_stW S sizeOf100 (.t rfl) (.t rfl) (k := 0) rfl rfl rfl (by simp [Value.oneCell']) fun a w S => st_nil (then_normal (hK6 _ _ (wp_seq_k fun _ hK6 => wp_region_lit (run S (.fa underlying100 sizeOf74 1 rfl rfl rfl <| .la gt74 1 rfl rfl rfl <| .fa underlying100 sizeOf74 1 rfl rfl rfl <| .la gt74 0 rfl rfl rfl <| .yy (ys_eqA (.t rfl) (.t rfl) eq74) rfl <| .z) fun a w S => ?_))))))))))))
          rw [rw_1] at S
          refine run S (.mv rfl <| .gy rfl rfl (ys_ldA ⟨isAgg100, sizeOf100⟩ (.t rfl) (k := 1) rfl rfl) <| .gy rfl rfl (ys_ldA ⟨isAgg100, sizeOf100⟩ (.t rfl) (k := 0) rfl rfl) <| .gy rfl rfl (ys_neA (.t rfl) (.t rfl) eq100) <| .z) fun a w S => ?_
          rw [rw_2] at S
          refine run S (.yy (ys_pickT (.t rfl) (.t rfl)) rfl <| .z) fun a w S => st_nil (then_normal (hK6 _ _ (st_then S (.t rfl) (wp_seq_k fun _ hK6 => wp_region_lit (run S (.yy (ys_bld (ps := []) (us := [_, _, _]) bld37 .nil rfl) rfl <| .z) fun a w S => st_m (op_stW S sizeOf37 (.t rfl) (.t rfl) (k := 6) rfl rfl rfl (by simp [Value.oneCell']) fun a w S => run S (.ac rfl <| .z) fun a w S => st_nil (then_normal (hK6 _ _ (wp_ret (in_ret (then_ret (then_ret (in_ret (in_ret (then_ret (then_ret (in_ret (then_ret (st_ret S (results2 S results29 (Rv.cell (k := 6) ⟨isAgg37, sizeOf37⟩ rfl rfl rfl) (Rv.tmp rfl)) ?_)))))))))))))))))))
          have hcl : clashE X Y := ⟨x, List.mem_of_getElem? hx, y, List.mem_of_getElem? hy, h1, h2⟩
          rw [if_pos hcl] at eJ
          rw [eJ]
          exact ⟨_, _, rfl, (((S.nil_ 74 3 Dot.enc none).nil_ 30 3 Dot.enc none).nil_ 100 6 Ent.enc none).wd.sub (by repeat (first | exact List.Sublist.refl _ | exact List.nil_sublist _ | refine .cons_cons _ ?_ | refine .cons _ ?_)), none, 0, none, 0, none, 0, rfl, rfl⟩
      · have rw_1 := decide_eq_false (fun h => h1 (dot_iff3.2 h))
        refine sg S (.lt (by omega) rfl rfl <| .z) fun a w S => wp_seq_k fun _ hK5 => st_then S (.t rfl) (wp_skip (then_normal (hK5 _ _ (wp_seq_k fun _ hK5 => wp_block (wp_seq_k fun _ hK6 => wp_region_lit (run S (.ix underlying31 sizeOf100 (by omega) rfl rfl <| .yy (ys_ldOA ⟨isAgg100, sizeOf100⟩ (.t rfl) (vs := [_, _, _, _, _, _]) rfl (fun _ => hc')) rfl <| .z) fun a w S => st_m (op_alloc S zeroValue100 (cs := _) rfl rfl fun g8 a w S => st_m (op_stW S sizeOf100 (.t rfl) (.t rfl) (k := 0) rfl rfl rfl (by simp [Value.oneCell']) fun a w S => st_nil (then_normal (hK6 _ _ (wp_seq_k fun _ hK6 => wp_region_lit (run S (.fa underlying100 sizeOf74 1 rfl rfl rfl <| .la gt74 1 rfl rfl rfl <| .fa underlying100 sizeOf74 1 rfl rfl rfl <| .la gt74 0 rfl rfl rfl <| .yy (ys_eqA (.t rfl) (.t rfl) eq74) rfl <| .z) fun a w S => ?_))))))))))))
        rw [rw_1] at S
        refine run S (.mv rfl <| .sk rfl rfl rfl <| .sk rfl rfl rfl <| .sk rfl rfl rfl <| .yy (ys_pickF (.t rfl) Ev.c) rfl <| .z) fun a w S => st_nil (then_normal (hK6 _ _ (st_else S (.t rfl) (wp_skip (in_normal (then_normal (hK5 _ _ (wp_region_lit (run S (.ad (by unfold I64; omega) rfl <| .mv rfl <| .z) fun a w S => st_nil (then_normal ?_))))))))))
        refine ⟨m + 1, ⟨by omega, fun z hz hzd => ?_⟩, by omega, S.pk⟩
        rw [List.take_add_one, hy, Option.toList_some] at hz
        rcases List.mem_append.1 hz with hz | hz
        · exact hno2 z hz hzd
        · simp at hz; subst hz; exact absurd hzd h1
    · obtain rfl : m = Y.ents.length := by omega
      rw [List.take_length] at hno2
      refine sg S (.ge (by omega) rfl rfl <| .z) fun a w S => wp_seq_k fun _ hK5 => st_else S (.t rfl) (wp_exit (then_exit (then_exit (in_here (in_normal (then_normal (hK4 _ _ (wp_region_lit (run S (.ad (by unfold I64; omega) rfl <| .mv rfl <| .z) fun a w S => st_nil (then_normal ?_))))))))))
      refine ⟨k + 1, ⟨by omega, fun z hz => ?_⟩, by omega, S.pk⟩
      rw [List.take_add_one, hx, Option.toList_some] at hz
      rcases List.mem_append.1 hz with hz | hz
      · exact hno z hz
      · simp at hz; subst hz; exact hno2
  obtain rfl : k = X.ents.length := by omega
  rw [List.take_length] at hno
  have hcl : ¬ clashE X Y := fun ⟨x, hx, y, hy, h1, h2⟩ => h2 (hno x hx y hy h1)
  rw [if_neg hcl] at eJ
  refine sg S (.ge (by omega) rfl rfl <| .z) fun a w S => wp_seq_k fun _ hK4 => st_else S (.t rfl) (wp_exit (then_exit (then_exit (in_here (then_normal (hK1 _ _ (wp_seq_k fun _ hK1 => wp_region_lit (run S (.la gt37 1 rfl rfl rfl <| .z) fun a w S => st_m (op_stW S sizeOf37 (.t rfl) (.t rfl) (k := 4) rfl rfl rfl (by simp [Value.oneCell']) fun a w S => run S (.ac rfl <| .z) fun a w S => st_nil (then_normal (hK1 _ _ (wp_ret (st_ret S (results2 S results29 (Rv.cell (k := 4) ⟨isAgg37, sizeOf37⟩ rfl rfl rfl) (Rv.tmp rfl)) ?_)))))))))))))
  rw [eJ]
  exact ⟨_, _, rfl, S.wd.pk, _, _, _, _, _, _, rfl, rfl⟩
end Go.Proofs.YtakpdbmdfnialaaGreat
set_option linter.unusedVariables false
set_option linter.unusedSimpArgs false
set_option maxRecDepth 100000
set_option maxHeartbeats 4000000
namespace Go.Proofs.YtakpdbmdfnialaaGreat
open Go.Fw Go.Proofs Go.RowKit Go.Proofs.Tryz
theorem c4 (w0 : World) (v : Value) (l : List Dot) (v1 v2 v3 v4 v5 v6 : Value) (X Y : Cart) (h : Sl Dot.enc 3 w0 w0.heap.size v l) (hn : l.length ≤ 1048576) (hX : Sl Ent.enc 6 w0 w0.heap.size v1 X.ents) (hXc : RdCtx w0 w0.heap.size v2 v3 X.ctx) (hY : Sl Ent.enc 6 w0 w0.heap.size v4 Y.ents) (hYc : RdCtx w0 w0.heap.size v5 v6 Y.ctx)
    (b1 : X.ents.length ≤ 1048576) (b2 : X.ctx.marks.length ≤ 1048576) (b3 : X.ctx.cloud.length ≤ 1048576) (b4 : Y.ents.length ≤ 1048576) (b5 : Y.ctx.marks.length ≤ 1048576) (b6 : Y.ctx.cloud.length ≤ 1048576) :
    Calls Tryz.prog 4 #[v, .agg #[v1, v2, v3], .agg #[v4, v5, v6]] w0 fun e w' => e = .returned (.bool true) ∧ Bel w0.heap.size w0 w' := by
  have hs := h
  have hX1 := hX
  have hX2 := hXc
  have hY1 := hY
  have hY2 := hYc
  have hTl : (putsG [107] [] (l.take 40)).length ≤ 40 := by
    have := puts_len (k := [107]) (l.take 40) []
    simp only [List.length_take, List.length_nil] at this
    omega
  have hmay := marksG_may (puts_ok (k := [107]) (l.take 40) tab_nil) [107]
  obtain ⟨A, cap, rfl, hl, hcap, hA⟩ := h
  obtain ⟨B, capB, rfl, _⟩ := hX
  obtain ⟨⟨B2, capB2, rfl, _⟩, ⟨B3, capB3, rfl, _⟩⟩ := hXc
  obtain ⟨D, capD, rfl, _⟩ := hY
  obtain ⟨⟨D2, capD2, rfl, _⟩, ⟨D3, capD3, rfl, _⟩⟩ := hYc
  refine enter3 func4 rfl ntmps4 rfl fun a S => wp_seq_k fun _ hK1 => wp_region_lit (st_m (op_box S (.t rfl) rfl fun g1 a w S => st_m (op_box S (.t rfl) rfl fun g2 a w S => run S (.ac rfl <| .z) fun a w S => st_nil (then_normal (hK1 _ _ (wp_seq_k fun _ hK1 => wp_region_lit (run S (.mv rfl <| .z) fun a w S => ?_)))))))
  (refine st_m (op_calls S call28 (.cons Ev.c (.cons (.t rfl) .nil)) (c28 _ _ _ _ (by exact .old S.wd (by assumption)) (by (simp; done)) (by assumption)) rfl ?_); clear S a w; rintro _ _ ⟨g3, A1, r1, rfl, rfl⟩ a w S)
  refine run S (.as rfl <| .z) fun a w S => st_nil (then_normal (hK1 _ _ (wp_seq_k fun _ hK1 => wp_region_lit (run S (.la gt37 3 rfl rfl rfl <| .la gt37 2 rfl rfl rfl <| .z) fun a w S => ?_))))
  (refine st_m (op_calls S call29 (.cons (.t rfl) (.cons (.t rfl) .nil)) (c29 _ _ _ _ _ _ _ _ _ (by exact .old S.wd (by assumption)) (by exact .old S.wd (by assumption)) (by exact .old S.wd (by assumption)) (by exact .old S.wd (by assumption))) rfl ?_); clear S a w; rintro _ _ ⟨A11, r11, A21, r21, A31, r31, rfl, rfl⟩ a w S)
  refine run S (.mv rfl <| .ex rfl rfl <| .ex rfl rfl <| .z) fun a w S => st_m (op_alloc S zeroValue37 (cs := _) rfl rfl fun g4 a w S => st_m (op_stW S sizeOf37 (.t rfl) (.t rfl) (k := 0) rfl rfl rfl (by simp [Value.oneCell']) fun a w S => run S (.as rfl <| .z) fun a w S => st_nil (then_normal (hK1 _ _ (wp_seq_k fun _ hK1 => wp_region_lit (run S (.mv rfl <| .la gt37 7 rfl rfl rfl <| .z) fun a w S => ?_))))))
  (refine st_m (op_calls S call16 (.cons (.t rfl) .nil) (c16 _ _ _ _ _ (by exact .old S.wd (by assumption)) (by exact .old S.wd (by assumption)) (by assumption) (by assumption) (by assumption)) rfl ?_); clear S a w; rintro _ _ ⟨A12, r12, A22, r22, A32, r32, rfl, rfl⟩ a w S)
  (refine st_m (op_calls S call17 (.cons (.t rfl) (.cons Ev.c (.cons (.t rfl) .nil))) (c17 _ _ _ _ _ _ _ _ _ (by exact Wd.cell S.wd (k := 7) rfl rfl) (by exact Wd.cell S.wd (k := 7) rfl rfl) (by exact Sl.of_own S.wd (k := 8) rfl (fun _ => rfl)) (by omega) (by exact Sl.of_own S.wd (k := 0) rfl (fun _ => rfl)) (by exact ⟨(by exact Sl.of_own S.wd (k := 1) rfl (fun _ => rfl)), (by exact Sl.of_own S.wd (k := 2) rfl (fun _ => rfl))⟩)) rfl ?_); clear S a w; rintro _ _ ⟨A13, r13, A23, r23, A33, r33, rfl, rfl⟩ a w S)
  refine run S (.mv rfl <| .ex rfl rfl <| .ex rfl rfl <| .z) fun a w S => st_m (op_alloc S zeroValue37 (cs := _) rfl rfl fun g5 a w S => st_m (op_stW S sizeOf37 (.t rfl) (.t rfl) (k := 0) rfl rfl rfl (by simp [Value.oneCell']) fun a w S => run S (.as rfl <| .z) fun a w S => st_nil (then_normal (hK1 _ _ (wp_seq_k fun _ hK1 => wp_region_lit (run S (.mv rfl <| .la gt37 13 rfl rfl rfl <| .z) fun a w S => ?_))))))
  (refine st_m (op_calls S call16 (.cons (.t rfl) .nil) (c16 _ _ _ _ _ (by exact .old S.wd (by assumption)) (by exact .old S.wd (by assumption)) (by assumption) (by assumption) (by assumption)) rfl ?_); clear S a w; rintro _ _ ⟨A14, r14, A24, r24, A34, r34, rfl, rfl⟩ a w S)
  (refine st_m (op_calls S call17 (.cons (.t rfl) (.cons Ev.c (.cons (.t rfl) .nil))) (c17 _ _ _ _ _ _ _ _ _ (by exact Wd.cell S.wd (k := 14) rfl rfl) (by exact Wd.cell S.wd (k := 14) rfl rfl) (by exact Sl.of_own S.wd (k := 15) rfl (fun _ => rfl)) (by omega) (by exact Sl.of_own S.wd (k := 0) rfl (fun _ => rfl)) (by exact ⟨(by exact Sl.of_own S.wd (k := 1) rfl (fun _ => rfl)), (by exact Sl.of_own S.wd (k := 2) rfl (fun _ => rfl))⟩)) rfl ?_); clear S a w; rintro _ _ ⟨A15, r15, A25, r25, A35, r35, rfl, rfl⟩ a w S)
  refine run S (.mv rfl <| .ex rfl rfl <| .ex rfl rfl <| .z) fun a w S => st_m (op_alloc S zeroValue37 (cs := _) rfl rfl fun g6 a w S => st_m (op_stW S sizeOf37 (.t rfl) (.t rfl) (k := 0) rfl rfl rfl (by simp [Value.oneCell']) fun a w S => run S (.as rfl <| .z) fun a w S => st_nil (then_normal (hK1 _ _ (wp_seq_k fun _ hK1 => wp_seq_k fun _ hK2 => wp_region_lit (run S (.mv rfl <| .yy (ys_neq (.t rfl) Ev.c) rfl <| .mv rfl <| .z) fun a w S => st_yf S rfl rfl (Yr.ys (ys_move (.t rfl))) rfl fun a w S => st_yf S rfl rfl (Yr.ys (ys_neq (Ev.g rfl) Ev.c)) rfl fun a w S => run S (.yy (ys_or (.t rfl) Ev.c (Ev.g rfl)) rfl <| .mv rfl <| .z) fun a w S => st_yf S rfl rfl (Yr.ys (ys_move (.t rfl))) rfl fun a w S => st_yf S rfl rfl (Yr.ys (ys_neq (Ev.g rfl) Ev.c)) rfl fun a w S => run S (.yy (ys_or (.t rfl) Ev.c (Ev.g rfl)) rfl <| .mv rfl <| .z) fun a w S => st_yf S rfl rfl (ys_call call27 .nil (fun hp w W => c27 _)) rfl fun a w S => st_yf S rfl rfl (Yr.ys (ys_not (Ev.g rfl))) rfl fun a w S => run S (.yy (ys_orF (.t rfl) Ev.c (Ev.g rfl)) rfl <| .z) fun a w S => st_nil (then_normal (hK2 _ _ ?_))))))))
  refine st_cond S (.t rfl) (fun h1 => ?_) (fun h1 => ?_)
  refine sg S (.xx (ys_call call27 .nil (fun hp w W => c27 _)) rfl <| .as rfl <| .z) fun a w S => wp_ret (then_ret (st_ret S (results1 S results4 (Rv.tmp rfl)) ?_))
  rotate_left
  refine wp_skip (then_normal (hK1 _ _ (wp_seq_k fun _ hK1 => wp_region_lit (run S (.la gt37 7 rfl rfl rfl <| .la gt37 0 rfl rfl rfl <| .z) fun a w S => ?_))))
  (refine st_m (op_calls S call29 (.cons (.t rfl) (.cons (.t rfl) .nil)) (c29 _ _ _ _ _ _ _ _ _ (by exact Sl.of_own S.wd (k := 8) rfl (fun _ => rfl)) (by exact ⟨(by exact Sl.of_own S.wd (k := 9) rfl (fun _ => rfl)), (by exact Sl.of_own S.wd (k := 10) rfl (fun _ => rfl))⟩) (by exact Sl.of_own S.wd (k := 1) rfl (fun _ => rfl)) (by exact ⟨(by exact Sl.of_own S.wd (k := 2) rfl (fun _ => rfl)), (by exact Sl.of_own S.wd (k := 3) rfl (fun _ => rfl))⟩)) rfl ?_); clear S a w; rintro _ _ ⟨A16, r16, A26, r26, A36, r36, rfl, rfl⟩ a w S)
  refine run S (.mv rfl <| .ex rfl rfl <| .ex rfl rfl <| .z) fun a w S => st_m (op_alloc S zeroValue37 (cs := _) rfl rfl fun g7 a w S => st_m (op_stW S sizeOf37 (.t rfl) (.t rfl) (k := 0) rfl rfl rfl (by simp [Value.oneCell']) fun a w S => run S (.as rfl <| .z) fun a w S => st_nil (then_normal (hK1 _ _ (wp_seq_k fun _ hK1 => sg S (.mv rfl <| .yy (ys_neq (.t rfl) Ev.c) rfl <| .z) fun a w S => ?_)))))
  refine st_if S (.t rfl) (fun h2 => ?_) (fun h2 => ?_)
  refine sg S (.ac rfl <| .z) fun a w S => wp_ret (then_ret (st_ret S (results1 S results4 (Rv.tmp rfl)) ?_))
  rotate_left
  refine wp_skip (then_normal (hK1 _ _ (wp_seq_k fun _ hK1 => wp_region_lit (run S (.mv rfl <| .la gt37 0 rfl rfl rfl <| .z) fun a w S => ?_))))
  (refine st_m (op_calls S call17 (.cons (.t rfl) (.cons Ev.c (.cons (.t rfl) .nil))) (c17 _ _ _ _ _ _ _ _ _ (by exact Wd.cell S.wd (k := 22) rfl rfl) (by exact Wd.cell S.wd (k := 22) rfl rfl) (by exact Sl.of_own S.wd (k := 23) rfl (fun _ => rfl)) (by omega) (by exact Sl.of_own S.wd (k := 1) rfl (fun _ => rfl)) (by exact ⟨(by exact Sl.of_own S.wd (k := 2) rfl (fun _ => rfl)), (by exact Sl.of_own S.wd (k := 3) rfl (fun _ => rfl))⟩)) rfl ?_); clear S a w; rintro _ _ ⟨A17, r17, A27, r27, A37, r37, rfl, rfl⟩ a w S)
  refine run S (.mv rfl <| .ex rfl rfl <| .ex rfl rfl <| .z) fun a w S => st_m (op_stW S sizeOf37 (.t rfl) (.t rfl) (k := 3) rfl rfl rfl (by simp [Value.oneCell']) fun a w S => run S (.as rfl <| .z) fun a w S => st_nil (then_normal (hK1 _ _ (wp_seq_k fun _ hK1 => wp_region_lit (run S (.mv rfl <| .la gt37 21 rfl rfl rfl <| .z) fun a w S => ?_)))))
  (refine st_m (op_calls S call17 (.cons (.t rfl) (.cons Ev.c (.cons (.t rfl) .nil))) (c17 _ _ _ _ _ _ _ _ _ (by exact Wd.cell S.wd (k := 25) rfl rfl) (by exact Wd.cell S.wd (k := 25) rfl rfl) (by exact Sl.of_own S.wd (k := 26) rfl (fun _ => rfl)) (by omega) (by exact Sl.of_own S.wd (k := 22) rfl (fun _ => rfl)) (by exact ⟨(by exact Sl.of_own S.wd (k := 23) rfl (fun _ => rfl)), (by exact Sl.of_own S.wd (k := 24) rfl (fun _ => rfl))⟩)) rfl ?_); clear S a w; rintro _ _ ⟨A18, r18, A28, r28, A38, r38, rfl, rfl⟩ a w S)
  refine run S (.mv rfl <| .ex rfl rfl <| .ex rfl rfl <| .z) fun a w S => st_m (op_alloc S zeroValue37 (cs := _) rfl rfl fun g8 a w S => st_m (op_stW S sizeOf37 (.t rfl) (.t rfl) (k := 0) rfl rfl rfl (by simp [Value.oneCell']) fun a w S => run S (.as rfl <| .z) fun a w S => st_nil (then_normal (hK1 _ _ (wp_seq_k fun _ hK1 => wp_region_lit (run S (.mv rfl <| .yy (ys_eql (.t rfl) Ev.c) rfl <| .mv rfl <| .z) fun a w S => st_yg S rfl rfl (Yr.ys (ys_move (.t rfl))) rfl fun a w S => st_yg S rfl rfl (Yr.ys (ys_eql (Ev.g rfl) Ev.c)) rfl fun a w S => run S (.yy (ys_and (.t rfl) (Ev.g rfl) Ev.c) rfl <| .mv rfl <| .z) fun a w S => st_yg S rfl rfl (Yr.ys (ys_ldA ⟨isAgg37, sizeOf37⟩ (.t rfl) (k := 0) rfl rfl)) rfl fun a w S => st_yg S rfl rfl (Yr.ys (ys_ldA ⟨isAgg37, sizeOf37⟩ (.t rfl) (k := 7) rfl rfl)) rfl fun a w S => st_yg S rfl rfl (ys_call call19 (.cons (Ev.g rfl) (.cons (Ev.g rfl) .nil)) (fun hp w W => c19 _ _ _ _ _ _ _ _ _ (by exact Sl.of_own W (k := 1) rfl (fun _ => rfl)) (by exact ⟨(by exact Sl.of_own W (k := 2) rfl (fun _ => rfl)), (by exact Sl.of_own W (k := 3) rfl (fun _ => rfl))⟩) (by exact Sl.of_own W (k := 4) rfl (fun _ => rfl)) (by exact ⟨(by exact Sl.of_own W (k := 5) rfl (fun _ => rfl)), (by exact Sl.of_own W (k := 6) rfl (fun _ => rfl))⟩))) rfl fun a w S => run S (.yy (ys_and (.t rfl) (Ev.g rfl) Ev.c) rfl <| .as rfl <| .z) fun a w S => st_nil (then_normal (hK1 _ _ (wp_ret ?_)))))))))
  refine st_ret S (results1 S results4 (Rv.tmp rfl)) ?_
  rotate_left
  · exact ⟨rfl, S.wd.below⟩
  · exact ⟨rfl, S.wd.below⟩
  · simp only [Bool.or_eq_false_iff, decide_eq_false_iff_not, Decidable.not_not, ne_eq] at h1 h2
    obtain ⟨⟨k1, k2⟩, k3⟩ := h1
    obtain ⟨e1, e2⟩ := clean_join hmay k2 k3 k1 h2
    refine ⟨?_, S.wd.below⟩
    rw [e1, e2]
    simp
end Go.Proofs.YtakpdbmdfnialaaGreat
