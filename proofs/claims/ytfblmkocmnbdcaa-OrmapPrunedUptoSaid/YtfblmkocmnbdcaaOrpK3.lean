/- Contracts and laws that the statement Orp leans on, part 3. -/
import Derived.Test.YtfblmkocmnbdcaaOrpK2
import Derived.WalkKit
import Derived.Below
import Derived.OrdersHeld
import Derived.Deep.Quiet
import Derived.Laws.StructEq
import Derived.Deep.MidRow
import Derived.Sort.Grow
import Derived.ScopeJumps
import Derived.LoopN
set_option linter.unusedVariables false
set_option linter.unusedSimpArgs false
set_option maxRecDepth 100000
set_option maxHeartbeats 4000000
namespace Go.Fw
theorem bs_iff {l m : List UInt8} : bs l = bs m ↔ l = m := ⟨fun h => by have := congrArg (fun b => b.data.toList) h; simpa [bs] using this, fun h => by rw [h]⟩
theorem ent_iff {x y : Ent} : x = y ↔ bs x.item = bs y.item ∧ x.dot.node = y.dot.node ∧ x.dot.life = y.dot.life ∧ x.dot.count = y.dot.count ∧ x.qty = y.qty ∧ (x.price.toNat : Int) = (y.price.toNat : Int) := by
  constructor
  · intro e; subst e; exact ⟨rfl, rfl, rfl, rfl, rfl, rfl⟩
  · rintro ⟨e1, e2, e3, e4, e5, e6⟩
    obtain ⟨s, ⟨a, b, c⟩, q, p⟩ := x
    obtain ⟨s', ⟨a', b', c'⟩, q', p'⟩ := y
    rw [bs_iff] at e1
    have e7 : p = p' := UInt64.toNat_inj.1 (by dsimp only at e6; omega)
    simp_all
theorem line_iff {x y : Line} : x = y ↔ bs x.item = bs y.item ∧ x.qty = y.qty ∧ (x.price.toNat : Int) = (y.price.toNat : Int) := by
  constructor
  · intro e; subst e; exact ⟨rfl, rfl, rfl⟩
  · rintro ⟨e1, e2, e3⟩
    obtain ⟨s, q, p⟩ := x
    obtain ⟨s', q', p'⟩ := y
    rw [bs_iff] at e1
    have e7 : p = p' := UInt64.toNat_inj.1 (by dsimp only at e3; omega)
    simp_all
theorem dot_iff3 {x y : Dot} : x = y ↔ x.node = y.node ∧ x.life = y.life ∧ x.count = y.count := ⟨fun e => by subst e; exact ⟨rfl, rfl, rfl⟩, fun ⟨e1, e2, e3⟩ => by cases x; cases y; simp_all⟩
theorem takeE_step {α : Type} {l l' : List α} {k : Nat} {x y : α} (h : l.take k = l'.take k) (hx : l[k]? = some x) (hy : l'[k]? = some y) (e : x = y) : l.take (k + 1) = l'.take (k + 1) := by
  rw [List.take_add_one, List.take_add_one, h, hx, hy, e]
theorem takeE_ne {α : Type} {l l' : List α} {k : Nat} {x y : α} (hx : l[k]? = some x) (hy : l'[k]? = some y) (h : x ≠ y) : l ≠ l' := fun e => by
  subst e
  rw [hx] at hy
  exact h (Option.some.inj hy)
end Go.Fw
namespace Go.Proofs.Ytfblmkocmnbdcaa
open Go.Fw Go.Proofs Go.RowKit Go.Proofs.Try
theorem c32 (w0 : World) (v v' : Value) (l l' : List Ent) (h : Sl Ent.enc 6 w0 w0.heap.size v l) (h' : Sl Ent.enc 6 w0 w0.heap.size v' l') :
    Calls Try.prog 32 #[v, v'] w0 fun e w' => e = .returned (.bool (decide (l = l'))) ∧ Bel w0.heap.size w0 w' := by
  obtain ⟨A, cap, rfl, hl, hcap, hA⟩ := h
  obtain ⟨A', cap', rfl, hl', hcap', hA'⟩ := h'
  refine enter2 func32 rfl ntmps32 rfl fun a S => sg S (.ac rfl <| .z) fun a w S => wp_seq_k fun _ hK1 => sg S (.mv rfl <| .ln underlying34 rfl <| .mv rfl <| .ln underlying34 rfl <| .yy (ys_neq (.t rfl) (.t rfl)) rfl <| .z) fun a w S => ?_
  refine st_if S (.t rfl) (fun h1 => ?_) (fun h1 => ?_)
  refine sg S (.ac rfl <| .z) fun a w S => wp_ret (then_ret (st_ret S (results1 S results32 (Rv.tmp rfl)) ?_))
  rotate_left
  refine wp_skip (then_normal (hK1 _ _ (wp_seq_k fun _ hK1 => sg S (.mv rfl <| .ln underlying34 rfl <| .mc rfl <| .z) fun a w S => wp_block ?_)))
  rotate_left
  · refine ⟨?_, S.wd.below⟩
    rw [decide_eq_false (fun e => h1 (by rw [e]))]
  · refine st_lpK S (X := Nat) (fun k => [(13, true, .int .i64 (k : Int))]) (fun _ L => L) (fun k => k ≤ l.length ∧ l.take k = l'.take k) (fun k => l.length - k) 0 ⟨Nat.zero_le _, rfl⟩ ?_
    clear S
    intro k a w ⟨hk, hno⟩ S
    by_cases hlt : k < l.length
    · obtain ⟨g, o, m, rfl, hmm, hd, hc⟩ := row_at hA hlt
      obtain ⟨g', o', m', rfl, hmm', hd', hc'⟩ := row_at hA' (show k < l'.length by omega)
      clear hA hA'
      by_cases he : m = m'
      · have rw_e := decide_eq_true (ent_iff.1 he)
        refine sg S (.lt (by omega) rfl rfl <| .z) fun a w S => wp_seq_k fun _ hK2 => st_then S (.t rfl) (wp_skip (then_normal (hK2 _ _ (wp_seq_k fun _ hK2 => wp_block (sg S (.mv rfl <| .as rfl <| .z) fun a w S => wp_seq_k fun _ hK3 => st_quiet S (by kernel_rfl) (by kernel_rfl) fun a S => qrun S (.mv rfl <| .mv rfl <| .ix underlying34 sizeOf74 (by omega) rfl rfl <| .yy (ys_ldOA ⟨isAgg74, sizeOf74⟩ (.t rfl) (vs := [_, _, _, _, _, _]) rfl (fun _ => hc)) rfl <| .mv rfl <| .mv rfl <| .ix underlying34 sizeOf74 (by omega) rfl rfl <| .yy (ys_ldOA ⟨isAgg74, sizeOf74⟩ (.t rfl) (vs := [_, _, _, _, _, _]) rfl (fun _ => hc')) rfl <| .yy (ys_neA (.t rfl) (.t rfl) eq74) rfl <| .z) fun a S => ?_)))))
        rw [rw_e] at S
        (refine q_nil ?_; intro w W; replace S := St.mk S W; clear W)
        refine then_normal (hK3 _ _ (st_else S (.t rfl) (wp_skip (in_normal (then_normal (hK2 _ _ (wp_region_lit (run S (.ad (by unfold I64; omega) rfl <| .mv rfl <| .z) fun a w S => st_nil (then_normal ?_)))))))))
        exact ⟨k + 1, ⟨by omega, takeE_step hno hmm hmm' he⟩, by omega, S.wk⟩
      · have rw_e := decide_eq_false (fun h => he (ent_iff.2 h))
        refine sg S (.lt (by omega) rfl rfl <| .z) fun a w S => wp_seq_k fun _ hK2 => st_then S (.t rfl) (wp_skip (then_normal (hK2 _ _ (wp_seq_k fun _ hK2 => wp_block (sg S (.mv rfl <| .as rfl <| .z) fun a w S => wp_seq_k fun _ hK3 => st_quiet S (by kernel_rfl) (by kernel_rfl) fun a S => qrun S (.mv rfl <| .mv rfl <| .ix underlying34 sizeOf74 (by omega) rfl rfl <| .yy (ys_ldOA ⟨isAgg74, sizeOf74⟩ (.t rfl) (vs := [_, _, _, _, _, _]) rfl (fun _ => hc)) rfl <| .mv rfl <| .mv rfl <| .ix underlying34 sizeOf74 (by omega) rfl rfl <| .yy (ys_ldOA ⟨isAgg74, sizeOf74⟩ (.t rfl) (vs := [_, _, _, _, _, _]) rfl (fun _ => hc')) rfl <| .yy (ys_neA (.t rfl) (.t rfl) eq74) rfl <| .z) fun a S => ?_)))))
        rw [rw_e] at S
        (refine q_nil ?_; intro w W; replace S := St.mk S W; clear W)
        refine then_normal (hK3 _ _ (st_then S (.t rfl) (sg S (.ac rfl <| .z) fun a w S => wp_ret (in_ret (then_ret (then_ret (in_ret (then_ret (st_ret S (results1 S results32 (Rv.tmp rfl)) ?_)))))))))
        exact ⟨by rw [decide_eq_false (takeE_ne hmm hmm' he)], S.wd.below⟩
    · refine sg S (.ge (by omega) rfl rfl <| .z) fun a w S => wp_seq_k fun _ hK2 => st_else S (.t rfl) (wp_exit (then_exit (then_exit (in_here (then_normal (hK1 _ _ (sg S (.ac rfl <| .z) fun a w S => wp_ret (st_ret S (results1 S results32 (Rv.tmp rfl)) ?_))))))))
      refine ⟨?_, S.wd.below⟩
      rw [decide_eq_true]
      rw [List.take_of_length_le (by omega), List.take_of_length_le (by omega)] at hno
      exact hno
theorem c13 (w0 : World) (v v' : Value) (l l' : List Line) (h : Sl Line.enc 3 w0 w0.heap.size v l) (h' : Sl Line.enc 3 w0 w0.heap.size v' l') :
    Calls Try.prog 13 #[v, v'] w0 fun e w' => e = .returned (.bool (decide (l = l'))) ∧ Bel w0.heap.size w0 w' := by
  obtain ⟨A, cap, rfl, hl, hcap, hA⟩ := h
  obtain ⟨A', cap', rfl, hl', hcap', hA'⟩ := h'
  refine enter2 func13 rfl ntmps13 rfl fun a S => sg S (.ac rfl <| .z) fun a w S => wp_seq_k fun _ hK1 => sg S (.mv rfl <| .ln underlying48 rfl <| .mv rfl <| .ln underlying48 rfl <| .yy (ys_neq (.t rfl) (.t rfl)) rfl <| .z) fun a w S => ?_
  refine st_if S (.t rfl) (fun h1 => ?_) (fun h1 => ?_)
  refine sg S (.ac rfl <| .z) fun a w S => wp_ret (then_ret (st_ret S (results1 S results13 (Rv.tmp rfl)) ?_))
  rotate_left
  refine wp_skip (then_normal (hK1 _ _ (wp_seq_k fun _ hK1 => sg S (.mv rfl <| .ln underlying48 rfl <| .mc rfl <| .z) fun a w S => wp_block ?_)))
  rotate_left
  · refine ⟨?_, S.wd.below⟩
    rw [decide_eq_false (fun e => h1 (by rw [e]))]
  · refine st_lpK S (X := Nat) (fun k => [(13, true, .int .i64 (k : Int))]) (fun _ L => L) (fun k => k ≤ l.length ∧ l.take k = l'.take k) (fun k => l.length - k) 0 ⟨Nat.zero_le _, rfl⟩ ?_
    clear S
    intro k a w ⟨hk, hno⟩ S
    by_cases hlt : k < l.length
    · obtain ⟨g, o, m, rfl, hmm, hd, hc⟩ := row_at hA hlt
      obtain ⟨g', o', m', rfl, hmm', hd', hc'⟩ := row_at hA' (show k < l'.length by omega)
      clear hA hA'
      by_cases he : m = m'
      · have rw_e := decide_eq_true (line_iff.1 he)
        refine sg S (.lt (by omega) rfl rfl <| .z) fun a w S => wp_seq_k fun _ hK2 => st_then S (.t rfl) (wp_skip (then_normal (hK2 _ _ (wp_seq_k fun _ hK2 => wp_block (sg S (.mv rfl <| .as rfl <| .z) fun a w S => wp_seq_k fun _ hK3 => st_quiet S (by kernel_rfl) (by kernel_rfl) fun a S => qrun S (.mv rfl <| .mv rfl <| .ix underlying48 sizeOf50 (by omega) rfl rfl <| .yy (ys_ldOA ⟨isAgg50, sizeOf50⟩ (.t rfl) (vs := [_, _, _]) rfl (fun _ => hc)) rfl <| .mv rfl <| .mv rfl <| .ix underlying48 sizeOf50 (by omega) rfl rfl <| .yy (ys_ldOA ⟨isAgg50, sizeOf50⟩ (.t rfl) (vs := [_, _, _]) rfl (fun _ => hc')) rfl <| .yy (ys_neA (.t rfl) (.t rfl) eq50) rfl <| .z) fun a S => ?_)))))
        rw [rw_e] at S
        (refine q_nil ?_; intro w W; replace S := St.mk S W; clear W)
        refine then_normal (hK3 _ _ (st_else S (.t rfl) (wp_skip (in_normal (then_normal (hK2 _ _ (wp_region_lit (run S (.ad (by unfold I64; omega) rfl <| .mv rfl <| .z) fun a w S => st_nil (then_normal ?_)))))))))
        exact ⟨k + 1, ⟨by omega, takeE_step hno hmm hmm' he⟩, by omega, S.wk⟩
      · have rw_e := decide_eq_false (fun h => he (line_iff.2 h))
        refine sg S (.lt (by omega) rfl rfl <| .z) fun a w S => wp_seq_k fun _ hK2 => st_then S (.t rfl) (wp_skip (then_normal (hK2 _ _ (wp_seq_k fun _ hK2 => wp_block (sg S (.mv rfl <| .as rfl <| .z) fun a w S => wp_seq_k fun _ hK3 => st_quiet S (by kernel_rfl) (by kernel_rfl) fun a S => qrun S (.mv rfl <| .mv rfl <| .ix underlying48 sizeOf50 (by omega) rfl rfl <| .yy (ys_ldOA ⟨isAgg50, sizeOf50⟩ (.t rfl) (vs := [_, _, _]) rfl (fun _ => hc)) rfl <| .mv rfl <| .mv rfl <| .ix underlying48 sizeOf50 (by omega) rfl rfl <| .yy (ys_ldOA ⟨isAgg50, sizeOf50⟩ (.t rfl) (vs := [_, _, _]) rfl (fun _ => hc')) rfl <| .yy (ys_neA (.t rfl) (.t rfl) eq50) rfl <| .z) fun a S => ?_)))))
        rw [rw_e] at S
        (refine q_nil ?_; intro w W; replace S := St.mk S W; clear W)
        refine then_normal (hK3 _ _ (st_then S (.t rfl) (sg S (.ac rfl <| .z) fun a w S => wp_ret (in_ret (then_ret (then_ret (in_ret (then_ret (st_ret S (results1 S results13 (Rv.tmp rfl)) ?_)))))))))
        exact ⟨by rw [decide_eq_false (takeE_ne hmm hmm' he)], S.wd.below⟩
    · refine sg S (.ge (by omega) rfl rfl <| .z) fun a w S => wp_seq_k fun _ hK2 => st_else S (.t rfl) (wp_exit (then_exit (then_exit (in_here (then_normal (hK1 _ _ (sg S (.ac rfl <| .z) fun a w S => wp_ret (st_ret S (results1 S results13 (Rv.tmp rfl)) ?_))))))))
      refine ⟨?_, S.wd.below⟩
      rw [decide_eq_true]
      rw [List.take_of_length_le (by omega), List.take_of_length_le (by omega)] at hno
      exact hno
end Go.Proofs.Ytfblmkocmnbdcaa
set_option linter.unusedVariables false
set_option linter.unusedSimpArgs false
set_option maxRecDepth 100000
set_option maxHeartbeats 4000000
namespace Go.Proofs.Ytfblmkocmnbdcaa
open Go.Fw Go.Proofs Go.RowKit Go.Proofs.Try
theorem c48 (w0 : World) (v1 v2 : Value) (C : Ctx) (h : RdCtx w0 w0.heap.size v1 v2 C) :
    Calls Try.prog 48 #[.agg #[v1, v2]] w0 fun e w' => e = .returned (.bool (canL C)) ∧ Bel w0.heap.size w0 w' := by
  obtain ⟨⟨A, cap, rfl, hl, hcap, hA⟩, ⟨A', cap', rfl, hl', hcap', hA'⟩⟩ := h
  have hS : Sl Dot.enc 3 w0 w0.heap.size (.slice A C.marks.length cap) C.marks := ⟨A, cap, rfl, hl, hcap, hA⟩
  refine enter1 func48 rfl ntmps48 rfl fun a S => wp_seq_k fun _ hK1 => wp_region_lit (st_m (op_box S (.t rfl) rfl fun g1 a w S => run S (.ac rfl <| .z) fun a w S => st_nil (then_normal (hK1 _ _ (wp_seq_k fun _ hK1 => wp_seq_k fun _ hK2 => wp_region_lit (run S (.fa underlying38 sizeOf35 0 rfl rfl rfl <| .ld gt35 0 rfl rfl rfl <| .ln underlying35 rfl <| .yy (ys_gtr (.t rfl) Ev.c) rfl <| .mv rfl <| .z) fun a w S => st_yf S rfl rfl (Yr.ys (ys_fieldN (FieldT.mk underlying38 rfl sizeOf36 rfl) (.t rfl) (i' := 1) rfl)) rfl fun a w S => st_yf S rfl rfl (Yr.ys (ys_ld ⟨isAgg36, sizeOf36⟩ (Ev.g rfl) (k := 0) rfl rfl)) rfl fun a w S => st_yf S rfl rfl (Yr.ys (ys_lenS underlying36 (Ev.g rfl))) rfl fun a w S => st_yf S rfl rfl (Yr.ys (ys_gtr (Ev.g rfl) Ev.c)) rfl fun a w S => run S (.yy (ys_or (.t rfl) Ev.c (Ev.g rfl)) rfl <| .z) fun a w S => st_nil (then_normal (hK2 _ _ ?_))))))))
  refine st_cond S (.t rfl) (fun h1 => ?_) (fun h1 => ?_)
  refine sg S (.ac rfl <| .z) fun a w S => wp_ret (then_ret (st_ret S (results1 S results48 (Rv.tmp rfl)) ?_))
  rotate_left
  refine wp_skip (then_normal (hK1 _ _ (wp_seq_k fun _ hK1 => sg S (.fa underlying38 sizeOf35 0 rfl rfl rfl <| .ld gt35 0 rfl rfl rfl <| .ln underlying35 rfl <| .mc rfl <| .z) fun a w S => wp_block ?_)))
  rotate_left
  · exact ⟨by rw [canL_big (by simp at h1; omega)], S.wd.below⟩
  · have hbig : C.marks.length ≤ 64 ∧ C.cloud.length ≤ 64 := by simp at h1; omega
    refine st_lpK S (X := Nat) (fun k => [(20, true, .int .i64 (k : Int))]) (fun _ L => L) (fun k => k ≤ C.marks.length ∧ (∀ x ∈ C.marks.take k, mayD x = true) ∧ okM (prevD C.marks k) (C.marks.drop k) = okM none C.marks) (fun k => C.marks.length - k) 0 ⟨Nat.zero_le _, by simp, rfl⟩ ?_
    clear S h1
    intro k a w ⟨hk, hmy, hno⟩ S
    by_cases hlt : k < C.marks.length
    · obtain ⟨g, o, m, rfl, hmm, hd, hc⟩ := row_at hA hlt
      rw [hd, okM] at hno
      obtain ⟨m1, m2, m3⟩ := m
      cases rw_b : mayD ⟨m1, m2, m3⟩ with
      | false =>
        refine sg S (.lt (by omega) rfl rfl <| .z) fun a w S => wp_seq_k fun _ hK2 => st_then S (.t rfl) (wp_skip (then_normal (hK2 _ _ (wp_seq_k fun _ hK2 => wp_block (wp_seq_k fun _ hK3 => wp_region_lit (run S (.mv rfl <| .ix underlying35 sizeOf110 (by omega) rfl rfl <| .yy (ys_ldOA ⟨isAgg110, sizeOf110⟩ (.t rfl) (vs := [_, _, _]) rfl (fun _ => hc)) rfl <| .z) fun a w S => st_m (op_alloc S zeroValue110 (cs := _) rfl rfl fun g2 a w S => run S (.as rfl <| .z) fun a w S => st_m (op_stW S sizeOf110 (.t rfl) (.t rfl) (k := 0) rfl rfl rfl (by simp [Value.oneCell']) fun a w S => st_nil (then_normal (hK3 _ _ (wp_seq_k fun _ hK3 => wp_seq_k fun _ hK4 => wp_region_lit (run S (.la gt110 0 rfl rfl rfl <| .xx (ys_call call99 (.cons (.t rfl) .nil) (fun hp w W => c99 _ _ _ _)) rfl <| .z) fun a w S => ?_))))))))))))
        rw [rw_b] at S
        refine run S (.nt rfl <| .z) fun a w S => st_nil (then_normal (hK4 _ _ (st_then S (.t rfl) (sg S (.ac rfl <| .z) fun a w S => wp_ret (then_ret (in_ret (then_ret (then_ret (in_ret (then_ret (st_ret S (results1 S results48 (Rv.tmp rfl)) ?_)))))))))))
        exact ⟨by rw [canL_M (by rw [← hno, rw_b]; rfl)], S.wd.below⟩
      | true =>
        have hlm := may_lim rw_b
        rcases k with _ | k
        · refine sg S (.lt (by omega) rfl rfl <| .z) fun a w S => wp_seq_k fun _ hK2 => st_then S (.t rfl) (wp_skip (then_normal (hK2 _ _ (wp_seq_k fun _ hK2 => wp_block (wp_seq_k fun _ hK3 => wp_region_lit (run S (.mv rfl <| .yy (ys_ixS (j := 0) underlying35 sizeOf110 (.t rfl) (.t rfl) (fun _ => by omega)) rfl <| .yy (ys_ldOA ⟨isAgg110, sizeOf110⟩ (.t rfl) (vs := [_, _, _]) rfl (fun _ => hc)) rfl <| .z) fun a w S => st_m (op_alloc S zeroValue110 (cs := _) rfl rfl fun g2 a w S => run S (.as rfl <| .z) fun a w S => st_m (op_stW S sizeOf110 (.t rfl) (.t rfl) (k := 0) rfl rfl rfl (by simp [Value.oneCell']) fun a w S => st_nil (then_normal (hK3 _ _ (wp_seq_k fun _ hK3 => wp_seq_k fun _ hK4 => wp_region_lit (run S (.la gt110 0 rfl rfl rfl <| .xx (ys_call call99 (.cons (.t rfl) .nil) (fun hp w W => c99 _ _ _ _)) rfl <| .z) fun a w S => ?_))))))))))))
          rw [rw_b] at S
          refine run S (.nt rfl <| .z) fun a w S => st_nil (then_normal (hK4 _ _ (st_else S (.t rfl) (wp_skip (then_normal (hK3 _ _ (wp_seq_k fun _ hK3 => st_quiet S (by kernel_rfl) (by kernel_rfl) fun a S => qrun S (.mv rfl <| .yy (ys_F (by omega) (ys_gtr (.t rfl) Ev.c)) rfl <| .mv rfl <| .sk rfl rfl rfl <| .sk rfl rfl rfl <| .sk rfl rfl rfl <| .sk rfl rfl rfl <| .sk rfl rfl rfl <| .sk rfl rfl rfl <| .sk rfl rfl rfl <| .sk rfl rfl rfl <| .sk rfl rfl rfl <| .sk rfl rfl rfl <| .sk rfl rfl rfl <| .s0 rfl rfl <| .s0 rfl rfl <| .s0 rfl rfl <| .s0 rfl rfl <| .s0 rfl rfl <| .s0 rfl rfl <| .s0 rfl rfl <| .s0 rfl rfl <| .s0 rfl rfl <| .s0 rfl rfl <| .s0 rfl rfl <| .s0 rfl rfl <| .s0 rfl rfl <| .s0 rfl rfl <| .s0 rfl rfl <| .s0 rfl rfl <| .s0 rfl rfl <| .s0 rfl rfl <| .s0 rfl rfl <| .s0 rfl rfl <| .s0 rfl rfl <| .s0 rfl rfl <| .sk rfl rfl rfl <| .yy (ys_pickF (.t rfl) Ev.c) rfl <| .z) fun a S => ?_)))))))
          (refine q_nil ?_; intro w W; replace S := St.mk S W; clear W)
          refine then_normal (hK3 _ _ (st_else S (.t rfl) (wp_skip (in_normal (then_normal (hK2 _ _ (wp_region_lit (run S (.ad (by unfold I64; omega) rfl <| .mv rfl <| .z) fun a w S => st_nil (then_normal ?_)))))))))
          exact ⟨0 + 1, ⟨by omega, step_all hmm hmy rw_b, by rw [prevD, hmm, ← hno, rw_b]; rfl⟩, by omega, S.wk⟩
        · obtain ⟨g', o', m', e', hmm', hd', hc'⟩ := row_at hA (show k < C.marks.length by omega)
          cases e'
          obtain ⟨p1, p2, p3⟩ := m'
          have hg : gapM (prevD C.marks (k + 1)) ⟨m1, m2, m3⟩ = decide (orderD ⟨p1, p2, 0⟩ ⟨m1, m2, 0⟩ < 0) := by rw [prevD, hmm']; rfl
          unfold orderD at hg
          dsimp only at hg
          have yes : gapM (prevD C.marks (k + 1)) ⟨m1, m2, m3⟩ = true → okM (prevD C.marks (k + 1 + 1)) (C.marks.drop (k + 1 + 1)) = okM none C.marks := fun h => by
            rw [prevD, hmm, ← hno, rw_b, h]; rfl
          have no : gapM (prevD C.marks (k + 1)) ⟨m1, m2, m3⟩ = false → canL C = false := fun h => canL_M (by rw [← hno, rw_b, h]; rfl)
          clear hno
          by_cases g1 : m1 < p1
          · refine sg S (.lt (by omega) rfl rfl <| .z) fun a w S => wp_seq_k fun _ hK2 => st_then S (.t rfl) (wp_skip (then_normal (hK2 _ _ (wp_seq_k fun _ hK2 => wp_block (wp_seq_k fun _ hK3 => wp_region_lit (run S (.mv rfl <| .ix underlying35 sizeOf110 (by omega) rfl rfl <| .yy (ys_ldOA ⟨isAgg110, sizeOf110⟩ (.t rfl) (vs := [_, _, _]) rfl (fun _ => hc)) rfl <| .z) fun a w S => st_m (op_alloc S zeroValue110 (cs := _) rfl rfl fun g2 a w S => run S (.as rfl <| .z) fun a w S => st_m (op_stW S sizeOf110 (.t rfl) (.t rfl) (k := 0) rfl rfl rfl (by simp [Value.oneCell']) fun a w S => st_nil (then_normal (hK3 _ _ (wp_seq_k fun _ hK3 => wp_seq_k fun _ hK4 => wp_region_lit (run S (.la gt110 0 rfl rfl rfl <| .xx (ys_call call99 (.cons (.t rfl) .nil) (fun hp w W => c99 _ _ _ _)) rfl <| .z) fun a w S => ?_))))))))))))
            rw [rw_b] at S
            refine run S (.nt rfl <| .z) fun a w S => st_nil (then_normal (hK4 _ _ (st_else S (.t rfl) (wp_skip (then_normal (hK3 _ _ (wp_seq_k fun _ hK3 => st_quiet S (by kernel_rfl) (by kernel_rfl) fun a S => ?_)))))))
            refine qrun S (.mv rfl <| .yy (ys_T (by omega) (ys_gtr (.t rfl) Ev.c)) rfl <| .mv rfl <| .gy rfl rfl (ys_fieldN (FieldT.mk underlying38 rfl sizeOf35 rfl) (.t rfl) (i' := 0) rfl) <| .gy rfl rfl (ys_ld ⟨isAgg35, sizeOf35⟩ (.t rfl) (k := 1) rfl rfl) <| .gy rfl rfl (ys_move (.t rfl)) <| .gy rfl rfl (ys_pred (.t rfl) Ev.c (by omega)) <| .gy rfl rfl (ys_ixS underlying35 sizeOf110 (.t rfl) (.t rfl) (fun _ => by omega)) <| .gy rfl rfl (ys_field (FieldT.mk underlying110 rfl sizeOf3 rfl) (.t rfl)) <| .gy rfl rfl (ys_ldO ⟨isAgg3, sizeOf3⟩ (.t rfl) (fun _ => hc' _ _ rfl)) <| .gy rfl rfl (ys_fieldN (FieldT.mk underlying110 rfl sizeOf3 rfl) (.t rfl) (i' := 0) rfl) <| .gy rfl rfl (ys_ld ⟨isAgg3, sizeOf3⟩ (.t rfl) (k := 0) rfl rfl) <| .gy rfl rfl (ys_T (by omega) (ys_gtr (.t rfl) (.t rfl))) <| .gy rfl rfl (ys_move (.t rfl)) <| .sk rfl rfl rfl <| .sk rfl rfl rfl <| .sk rfl rfl rfl <| .sk rfl rfl rfl <| .sk rfl rfl rfl <| .sk rfl rfl rfl <| .sk rfl rfl rfl <| .sk rfl rfl rfl <| .sk rfl rfl rfl <| .sk rfl rfl rfl <| .sk rfl rfl rfl <| .s0 rfl rfl <| .s0 rfl rfl <| .s0 rfl rfl <| .s0 rfl rfl <| .s0 rfl rfl <| .s0 rfl rfl <| .s0 rfl rfl <| .s0 rfl rfl <| .s0 rfl rfl <| .s0 rfl rfl <| .sk rfl rfl rfl <| .gy rfl rfl (ys_pickT (.t rfl) Ev.c) <| .yy (ys_pickT (.t rfl) (.t rfl)) rfl <| .z) fun a S => ?_
            (refine q_nil ?_; intro w W; replace S := St.mk S W; clear W)
            refine then_normal (hK3 _ _ (st_then S (.t rfl) (sg S (.ac rfl <| .z) fun a w S => wp_ret (in_ret (then_ret (then_ret (in_ret (then_ret (st_ret S (results1 S results48 (Rv.tmp rfl)) ?_)))))))))
            exact ⟨by rw [no (by rw [hg, if_pos (by omega)]; exact decide_eq_false (by omega))], S.wd.below⟩
          · by_cases g2 : p1 = m1
            · by_cases g3 : m2 ≤ p2
              · refine sg S (.lt (by omega) rfl rfl <| .z) fun a w S => wp_seq_k fun _ hK2 => st_then S (.t rfl) (wp_skip (then_normal (hK2 _ _ (wp_seq_k fun _ hK2 => wp_block (wp_seq_k fun _ hK3 => wp_region_lit (run S (.mv rfl <| .ix underlying35 sizeOf110 (by omega) rfl rfl <| .yy (ys_ldOA ⟨isAgg110, sizeOf110⟩ (.t rfl) (vs := [_, _, _]) rfl (fun _ => hc)) rfl <| .z) fun a w S => st_m (op_alloc S zeroValue110 (cs := _) rfl rfl fun g4 a w S => run S (.as rfl <| .z) fun a w S => st_m (op_stW S sizeOf110 (.t rfl) (.t rfl) (k := 0) rfl rfl rfl (by simp [Value.oneCell']) fun a w S => st_nil (then_normal (hK3 _ _ (wp_seq_k fun _ hK3 => wp_seq_k fun _ hK4 => wp_region_lit (run S (.la gt110 0 rfl rfl rfl <| .xx (ys_call call99 (.cons (.t rfl) .nil) (fun hp w W => c99 _ _ _ _)) rfl <| .z) fun a w S => ?_))))))))))))
                rw [rw_b] at S
                refine run S (.nt rfl <| .z) fun a w S => st_nil (then_normal (hK4 _ _ (st_else S (.t rfl) (wp_skip (then_normal (hK3 _ _ (wp_seq_k fun _ hK3 => st_quiet S (by kernel_rfl) (by kernel_rfl) fun a S => ?_)))))))
                refine qrun S (.mv rfl <| .yy (ys_T (by omega) (ys_gtr (.t rfl) Ev.c)) rfl <| .mv rfl <| .gy rfl rfl (ys_fieldN (FieldT.mk underlying38 rfl sizeOf35 rfl) (.t rfl) (i' := 0) rfl) <| .gy rfl rfl (ys_ld ⟨isAgg35, sizeOf35⟩ (.t rfl) (k := 1) rfl rfl) <| .gy rfl rfl (ys_move (.t rfl)) <| .gy rfl rfl (ys_pred (.t rfl) Ev.c (by omega)) <| .gy rfl rfl (ys_ixS underlying35 sizeOf110 (.t rfl) (.t rfl) (fun _ => by omega)) <| .gy rfl rfl (ys_field (FieldT.mk underlying110 rfl sizeOf3 rfl) (.t rfl)) <| .gy rfl rfl (ys_ldO ⟨isAgg3, sizeOf3⟩ (.t rfl) (fun _ => hc' _ _ rfl)) <| .gy rfl rfl (ys_fieldN (FieldT.mk underlying110 rfl sizeOf3 rfl) (.t rfl) (i' := 0) rfl) <| .gy rfl rfl (ys_ld ⟨isAgg3, sizeOf3⟩ (.t rfl) (k := 0) rfl rfl) <| .gy rfl rfl (ys_F (by omega) (ys_gtr (.t rfl) (.t rfl))) <| .gy rfl rfl (ys_move (.t rfl)) <| .gy rfl rfl (ys_fieldN (FieldT.mk underlying38 rfl sizeOf35 rfl) (.t rfl) (i' := 0) rfl) <| .gy rfl rfl (ys_ld ⟨isAgg35, sizeOf35⟩ (.t rfl) (k := 1) rfl rfl) <| .gy rfl rfl (ys_move (.t rfl)) <| .gy rfl rfl (ys_pred (.t rfl) Ev.c (by omega)) <| .gy rfl rfl (ys_ixS underlying35 sizeOf110 (.t rfl) (.t rfl) (fun _ => by omega)) <| .gy rfl rfl (ys_field (FieldT.mk underlying110 rfl sizeOf3 rfl) (.t rfl)) <| .gy rfl rfl (ys_ldO ⟨isAgg3, sizeOf3⟩ (.t rfl) (fun _ => hc' _ _ rfl)) <| .gy rfl rfl (ys_fieldN (FieldT.mk underlying110 rfl sizeOf3 rfl) (.t rfl) (i' := 0) rfl) <| .gy rfl rfl (ys_ld ⟨isAgg3, sizeOf3⟩ (.t rfl) (k := 0) rfl rfl) <| .gy rfl rfl (ys_T (by omega) (ys_eql (.t rfl) (.t rfl))) <| .gy rfl rfl (ys_move (.t rfl)) <| .gy rfl rfl (ys_fieldN (FieldT.mk underlying38 rfl sizeOf35 rfl) (.t rfl) (i' := 0) rfl) <| .gy rfl rfl (ys_ld ⟨isAgg35, sizeOf35⟩ (.t rfl) (k := 1) rfl rfl) <| .gy rfl rfl (ys_move (.t rfl)) <| .gy rfl rfl (ys_pred (.t rfl) Ev.c (by omega)) <| .gy rfl rfl (ys_ixS underlying35 sizeOf110 (.t rfl) (.t rfl) (fun _ => by omega)) <| .gy rfl rfl (ys_field (FieldT.mk underlying110 rfl sizeOf3 rfl) (.t rfl)) <| .gy rfl rfl (ys_ldO ⟨isAgg3, sizeOf3⟩ (.t rfl) (fun _ => hc' _ _ rfl)) <| .gy rfl rfl (ys_fieldN (FieldT.mk underlying110 rfl sizeOf3 rfl) (.t rfl) (i' := 1) rfl) <| .gy rfl rfl (ys_ld ⟨isAgg3, sizeOf3⟩ (.t rfl) (k := 0) rfl rfl) <| .gy rfl rfl (ys_T (by omega) (ys_geq (.t rfl) (.t rfl))) <| .gy rfl rfl (ys_pickT (.t rfl) (.t rfl)) <| .gy rfl rfl (ys_pickF (.t rfl) (.t rfl)) <| .yy (ys_pickT (.t rfl) (.t rfl)) rfl <| .z) fun a S => ?_
                (refine q_nil ?_; intro w W; replace S := St.mk S W; clear W)
                refine then_normal (hK3 _ _ (st_then S (.t rfl) (sg S (.ac rfl <| .z) fun a w S => wp_ret (in_ret (then_ret (then_ret (in_ret (then_ret (st_ret S (results1 S results48 (Rv.tmp rfl)) ?_)))))))))
                exact ⟨by rw [no (by rw [hg, if_neg (by omega)]; split <;> exact decide_eq_false (by omega))], S.wd.below⟩
              · refine sg S (.lt (by omega) rfl rfl <| .z) fun a w S => wp_seq_k fun _ hK2 => st_then S (.t rfl) (wp_skip (then_normal (hK2 _ _ (wp_seq_k fun _ hK2 => wp_block (wp_seq_k fun _ hK3 => wp_region_lit (run S (.mv rfl <| .ix underlying35 sizeOf110 (by omega) rfl rfl <| .yy (ys_ldOA ⟨isAgg110, sizeOf110⟩ (.t rfl) (vs := [_, _, _]) rfl (fun _ => hc)) rfl <| .z) fun a w S => st_m (op_alloc S zeroValue110 (cs := _) rfl rfl fun g4 a w S => run S (.as rfl <| .z) fun a w S => st_m (op_stW S sizeOf110 (.t rfl) (.t rfl) (k := 0) rfl rfl rfl (by simp [Value.oneCell']) fun a w S => st_nil (then_normal (hK3 _ _ (wp_seq_k fun _ hK3 => wp_seq_k fun _ hK4 => wp_region_lit (run S (.la gt110 0 rfl rfl rfl <| .xx (ys_call call99 (.cons (.t rfl) .nil) (fun hp w W => c99 _ _ _ _)) rfl <| .z) fun a w S => ?_))))))))))))
                rw [rw_b] at S
                refine run S (.nt rfl <| .z) fun a w S => st_nil (then_normal (hK4 _ _ (st_else S (.t rfl) (wp_skip (then_normal (hK3 _ _ (wp_seq_k fun _ hK3 => st_quiet S (by kernel_rfl) (by kernel_rfl) fun a S => ?_)))))))
                refine qrun S (.mv rfl <| .yy (ys_T (by omega) (ys_gtr (.t rfl) Ev.c)) rfl <| .mv rfl <| .gy rfl rfl (ys_fieldN (FieldT.mk underlying38 rfl sizeOf35 rfl) (.t rfl) (i' := 0) rfl) <| .gy rfl rfl (ys_ld ⟨isAgg35, sizeOf35⟩ (.t rfl) (k := 1) rfl rfl) <| .gy rfl rfl (ys_move (.t rfl)) <| .gy rfl rfl (ys_pred (.t rfl) Ev.c (by omega)) <| .gy rfl rfl (ys_ixS underlying35 sizeOf110 (.t rfl) (.t rfl) (fun _ => by omega)) <| .gy rfl rfl (ys_field (FieldT.mk underlying110 rfl sizeOf3 rfl) (.t rfl)) <| .gy rfl rfl (ys_ldO ⟨isAgg3, sizeOf3⟩ (.t rfl) (fun _ => hc' _ _ rfl)) <| .gy rfl rfl (ys_fieldN (FieldT.mk underlying110 rfl sizeOf3 rfl) (.t rfl) (i' := 0) rfl) <| .gy rfl rfl (ys_ld ⟨isAgg3, sizeOf3⟩ (.t rfl) (k := 0) rfl rfl) <| .gy rfl rfl (ys_F (by omega) (ys_gtr (.t rfl) (.t rfl))) <| .gy rfl rfl (ys_move (.t rfl)) <| .gy rfl rfl (ys_fieldN (FieldT.mk underlying38 rfl sizeOf35 rfl) (.t rfl) (i' := 0) rfl) <| .gy rfl rfl (ys_ld ⟨isAgg35, sizeOf35⟩ (.t rfl) (k := 1) rfl rfl) <| .gy rfl rfl (ys_move (.t rfl)) <| .gy rfl rfl (ys_pred (.t rfl) Ev.c (by omega)) <| .gy rfl rfl (ys_ixS underlying35 sizeOf110 (.t rfl) (.t rfl) (fun _ => by omega)) <| .gy rfl rfl (ys_field (FieldT.mk underlying110 rfl sizeOf3 rfl) (.t rfl)) <| .gy rfl rfl (ys_ldO ⟨isAgg3, sizeOf3⟩ (.t rfl) (fun _ => hc' _ _ rfl)) <| .gy rfl rfl (ys_fieldN (FieldT.mk underlying110 rfl sizeOf3 rfl) (.t rfl) (i' := 0) rfl) <| .gy rfl rfl (ys_ld ⟨isAgg3, sizeOf3⟩ (.t rfl) (k := 0) rfl rfl) <| .gy rfl rfl (ys_T (by omega) (ys_eql (.t rfl) (.t rfl))) <| .gy rfl rfl (ys_move (.t rfl)) <| .gy rfl rfl (ys_fieldN (FieldT.mk underlying38 rfl sizeOf35 rfl) (.t rfl) (i' := 0) rfl) <| .gy rfl rfl (ys_ld ⟨isAgg35, sizeOf35⟩ (.t rfl) (k := 1) rfl rfl) <| .gy rfl rfl (ys_move (.t rfl)) <| .gy rfl rfl (ys_pred (.t rfl) Ev.c (by omega)) <| .gy rfl rfl (ys_ixS underlying35 sizeOf110 (.t rfl) (.t rfl) (fun _ => by omega)) <| .gy rfl rfl (ys_field (FieldT.mk underlying110 rfl sizeOf3 rfl) (.t rfl)) <| .gy rfl rfl (ys_ldO ⟨isAgg3, sizeOf3⟩ (.t rfl) (fun _ => hc' _ _ rfl)) <| .gy rfl rfl (ys_fieldN (FieldT.mk underlying110 rfl sizeOf3 rfl) (.t rfl) (i' := 1) rfl) <| .gy rfl rfl (ys_ld ⟨isAgg3, sizeOf3⟩ (.t rfl) (k := 0) rfl rfl) <| .gy rfl rfl (ys_F (by omega) (ys_geq (.t rfl) (.t rfl))) <| .gy rfl rfl (ys_pickT (.t rfl) (.t rfl)) <| .gy rfl rfl (ys_pickF (.t rfl) (.t rfl)) <| .yy (ys_pickT (.t rfl) (.t rfl)) rfl <| .z) fun a S => ?_
                (refine q_nil ?_; intro w W; replace S := St.mk S W; clear W)
                refine then_normal (hK3 _ _ (st_else S (.t rfl) (wp_skip (in_normal (then_normal (hK2 _ _ (wp_region_lit (run S (.ad (by unfold I64; omega) rfl <| .mv rfl <| .z) fun a w S => st_nil (then_normal ?_)))))))))
                exact ⟨k + 1 + 1, ⟨by omega, step_all hmm hmy rw_b, yes (by rw [hg, if_neg (by omega), if_pos (by omega)]; exact decide_eq_true (by omega))⟩, by omega, S.wk⟩
            · refine sg S (.lt (by omega) rfl rfl <| .z) fun a w S => wp_seq_k fun _ hK2 => st_then S (.t rfl) (wp_skip (then_normal (hK2 _ _ (wp_seq_k fun _ hK2 => wp_block (wp_seq_k fun _ hK3 => wp_region_lit (run S (.mv rfl <| .ix underlying35 sizeOf110 (by omega) rfl rfl <| .yy (ys_ldOA ⟨isAgg110, sizeOf110⟩ (.t rfl) (vs := [_, _, _]) rfl (fun _ => hc)) rfl <| .z) fun a w S => st_m (op_alloc S zeroValue110 (cs := _) rfl rfl fun g3 a w S => run S (.as rfl <| .z) fun a w S => st_m (op_stW S sizeOf110 (.t rfl) (.t rfl) (k := 0) rfl rfl rfl (by simp [Value.oneCell']) fun a w S => st_nil (then_normal (hK3 _ _ (wp_seq_k fun _ hK3 => wp_seq_k fun _ hK4 => wp_region_lit (run S (.la gt110 0 rfl rfl rfl <| .xx (ys_call call99 (.cons (.t rfl) .nil) (fun hp w W => c99 _ _ _ _)) rfl <| .z) fun a w S => ?_))))))))))))
              rw [rw_b] at S
              refine run S (.nt rfl <| .z) fun a w S => st_nil (then_normal (hK4 _ _ (st_else S (.t rfl) (wp_skip (then_normal (hK3 _ _ (wp_seq_k fun _ hK3 => st_quiet S (by kernel_rfl) (by kernel_rfl) fun a S => ?_)))))))
              refine qrun S (.mv rfl <| .yy (ys_T (by omega) (ys_gtr (.t rfl) Ev.c)) rfl <| .mv rfl <| .gy rfl rfl (ys_fieldN (FieldT.mk underlying38 rfl sizeOf35 rfl) (.t rfl) (i' := 0) rfl) <| .gy rfl rfl (ys_ld ⟨isAgg35, sizeOf35⟩ (.t rfl) (k := 1) rfl rfl) <| .gy rfl rfl (ys_move (.t rfl)) <| .gy rfl rfl (ys_pred (.t rfl) Ev.c (by omega)) <| .gy rfl rfl (ys_ixS underlying35 sizeOf110 (.t rfl) (.t rfl) (fun _ => by omega)) <| .gy rfl rfl (ys_field (FieldT.mk underlying110 rfl sizeOf3 rfl) (.t rfl)) <| .gy rfl rfl (ys_ldO ⟨isAgg3, sizeOf3⟩ (.t rfl) (fun _ => hc' _ _ rfl)) <| .gy rfl rfl (ys_fieldN (FieldT.mk underlying110 rfl sizeOf3 rfl) (.t rfl) (i' := 0) rfl) <| .gy rfl rfl (ys_ld ⟨isAgg3, sizeOf3⟩ (.t rfl) (k := 0) rfl rfl) <| .gy rfl rfl (ys_F (by omega) (ys_gtr (.t rfl) (.t rfl))) <| .gy rfl rfl (ys_move (.t rfl)) <| .gy rfl rfl (ys_fieldN (FieldT.mk underlying38 rfl sizeOf35 rfl) (.t rfl) (i' := 0) rfl) <| .gy rfl rfl (ys_ld ⟨isAgg35, sizeOf35⟩ (.t rfl) (k := 1) rfl rfl) <| .gy rfl rfl (ys_move (.t rfl)) <| .gy rfl rfl (ys_pred (.t rfl) Ev.c (by omega)) <| .gy rfl rfl (ys_ixS underlying35 sizeOf110 (.t rfl) (.t rfl) (fun _ => by omega)) <| .gy rfl rfl (ys_field (FieldT.mk underlying110 rfl sizeOf3 rfl) (.t rfl)) <| .gy rfl rfl (ys_ldO ⟨isAgg3, sizeOf3⟩ (.t rfl) (fun _ => hc' _ _ rfl)) <| .gy rfl rfl (ys_fieldN (FieldT.mk underlying110 rfl sizeOf3 rfl) (.t rfl) (i' := 0) rfl) <| .gy rfl rfl (ys_ld ⟨isAgg3, sizeOf3⟩ (.t rfl) (k := 0) rfl rfl) <| .gy rfl rfl (ys_F (by omega) (ys_eql (.t rfl) (.t rfl))) <| .gy rfl rfl (ys_move (.t rfl)) <| .sk rfl rfl rfl <| .sk rfl rfl rfl <| .sk rfl rfl rfl <| .sk rfl rfl rfl <| .sk rfl rfl rfl <| .sk rfl rfl rfl <| .sk rfl rfl rfl <| .sk rfl rfl rfl <| .sk rfl rfl rfl <| .sk rfl rfl rfl <| .gy rfl rfl (ys_pickF (.t rfl) Ev.c) <| .gy rfl rfl (ys_pickF (.t rfl) (.t rfl)) <| .yy (ys_pickT (.t rfl) (.t rfl)) rfl <| .z) fun a S => ?_
              (refine q_nil ?_; intro w W; replace S := St.mk S W; clear W)
              refine then_normal (hK3 _ _ (st_else S (.t rfl) (wp_skip (in_normal (then_normal (hK2 _ _ (wp_region_lit (run S (.ad (by unfold I64; omega) rfl <| .mv rfl <| .z) fun a w S => st_nil (then_normal ?_)))))))))
              exact ⟨k + 1 + 1, ⟨by omega, step_all hmm hmy rw_b, yes (by rw [hg, if_pos (by omega)]; exact decide_eq_true (by omega))⟩, by omega, S.wk⟩
    · have hend : k = C.marks.length := by omega
      subst hend
      rw [List.take_length] at hmy
      rw [List.drop_length, okM] at hno
      have hM := hno.symm
      clear hno hk hlt
      refine sg S (.ge (by omega) rfl rfl <| .z) fun a w S => wp_seq_k fun _ hK2 => st_else S (.t rfl) (wp_exit (then_exit (then_exit (in_here (then_normal (hK1 _ _ (wp_seq_k fun _ hK1 => sg S (.fa underlying38 sizeOf36 1 rfl rfl rfl <| .ld gt36 0 rfl rfl rfl <| .ln underlying36 rfl <| .mc rfl <| .z) fun a w S => wp_block ?_)))))))
      refine st_lpK S (X := Nat) (fun k => [(70, true, .int .i64 (k : Int))]) (fun _ L => L) (fun k => k ≤ C.cloud.length ∧ (∀ x ∈ C.cloud.take k, mayD x = true) ∧ okC C.marks (prevD C.cloud k) (C.cloud.drop k) = okC C.marks none C.cloud) (fun k => C.cloud.length - k) 0 ⟨Nat.zero_le _, by simp, rfl⟩ ?_
      clear S
      intro k a w ⟨hk, hmy', hno⟩ S
      by_cases hlt : k < C.cloud.length
      · obtain ⟨g, o, m, rfl, hmm, hd, hc⟩ := row_at hA' hlt
        rw [hd, okC] at hno
        have hmk := markOf_may (x := m.node) (y := m.life) hmy
        obtain ⟨m1, m2, m3⟩ := m
        dsimp only at hmk hno
        have rw_n : (⟨m1, m2, m3⟩ : Dot).node = m1 := rfl
        have rw_l : (⟨m1, m2, m3⟩ : Dot).life = m2 := rfl
        have rw_k : (⟨m1, m2, m3⟩ : Dot).count = m3 := rfl
        cases rw_b : mayD ⟨m1, m2, m3⟩ with
        | false =>
          refine sg S (.lt (by omega) rfl rfl <| .z) fun a w S => wp_seq_k fun _ hK3 => st_then S (.t rfl) (wp_skip (then_normal (hK3 _ _ (wp_seq_k fun _ hK3 => wp_block (wp_seq_k fun _ hK4 => wp_region_lit (run S (.mv rfl <| .ix underlying36 sizeOf62 (by omega) rfl rfl <| .yy (ys_ldOA ⟨isAgg62, sizeOf62⟩ (.t rfl) (vs := [_, _, _]) rfl (fun _ => hc)) rfl <| .z) fun a w S => ?_))))))
          rw [rw_n] at S
          rw [rw_l] at S
          rw [rw_k] at S
          refine st_m (op_alloc S zeroValue62 (cs := _) rfl rfl fun g2 a w S => run S (.as rfl <| .z) fun a w S => st_m (op_stW S sizeOf62 (.t rfl) (.t rfl) (k := 0) rfl rfl rfl (by simp [Value.oneCell']) fun a w S => st_nil (then_normal (hK4 _ _ (wp_seq_k fun _ hK4 => wp_seq_k fun _ hK5 => st_quiet S (by kernel_rfl) (by kernel_rfl) fun a S => qrun S (.la gt62 0 rfl rfl rfl <| .xx (ys_call call59 (.cons (.t rfl) .nil) (fun hp w W => c59 _ _ _ _)) rfl <| .z) fun a S => ?_)))))
          rw [rw_b] at S
          refine qrun S (.nt rfl <| .mv rfl <| .sk rfl rfl rfl <| .sk rfl rfl rfl <| .sk rfl rfl rfl <| .sk rfl rfl rfl <| .sk rfl rfl rfl <| .sk rfl rfl rfl <| .sk rfl rfl rfl <| .sk rfl rfl rfl <| .sk rfl rfl rfl <| .sk rfl rfl rfl <| .sk rfl rfl rfl <| .yy (ys_pickT (.t rfl) Ev.c) rfl <| .z) fun a S => ?_
          (refine q_nil ?_; intro w W; replace S := St.mk S W; clear W)
          refine then_normal (hK5 _ _ (st_then S (.t rfl) (sg S (.ac rfl <| .z) fun a w S => wp_ret (then_ret (in_ret (then_ret (then_ret (in_ret (then_ret (st_ret S (results1 S results48 (Rv.tmp rfl)) ?_))))))))))
          exact ⟨by rw [canL_C (by rw [← hno, rw_b]; rfl)], S.wd.below⟩
        | true =>
          have hlm := may_lim rw_b
          dsimp only at hlm
          by_cases hgt : m3 ≤ markOf C.marks m1 m2 + 1
          · have hf : okC C.marks none C.cloud = false := by
              rw [← hno, rw_b, decide_eq_false (by omega), Bool.and_false]; rfl
            refine sg S (.lt (by omega) rfl rfl <| .z) fun a w S => wp_seq_k fun _ hK3 => st_then S (.t rfl) (wp_skip (then_normal (hK3 _ _ (wp_seq_k fun _ hK3 => wp_block (wp_seq_k fun _ hK4 => wp_region_lit (run S (.mv rfl <| .ix underlying36 sizeOf62 (by omega) rfl rfl <| .yy (ys_ldOA ⟨isAgg62, sizeOf62⟩ (.t rfl) (vs := [_, _, _]) rfl (fun _ => hc)) rfl <| .z) fun a w S => ?_))))))
            rw [rw_n] at S
            rw [rw_l] at S
            rw [rw_k] at S
            refine st_m (op_alloc S zeroValue62 (cs := _) rfl rfl fun g2 a w S => run S (.as rfl <| .z) fun a w S => st_m (op_stW S sizeOf62 (.t rfl) (.t rfl) (k := 0) rfl rfl rfl (by simp [Value.oneCell']) fun a w S => st_nil (then_normal (hK4 _ _ (wp_seq_k fun _ hK4 => wp_seq_k fun _ hK5 => st_quiet S (by kernel_rfl) (by kernel_rfl) fun a S => qrun S (.la gt62 0 rfl rfl rfl <| .xx (ys_call call59 (.cons (.t rfl) .nil) (fun hp w W => c59 _ _ _ _)) rfl <| .z) fun a S => ?_)))))
            rw [rw_b] at S
            refine qrun S (.nt rfl <| .mv rfl <| .gy rfl rfl (ys_fieldN (FieldT.mk underlying62 rfl sizeOf3 rfl) (.t rfl) (i' := 2) rfl) <| .gy rfl rfl (ys_ld ⟨isAgg3, sizeOf3⟩ (.t rfl) (k := 0) rfl rfl) <| .gy rfl rfl (ys_fieldN (FieldT.mk underlying38 rfl sizeOf35 rfl) (.t rfl) (i' := 0) rfl) <| .gy rfl rfl (ys_ld ⟨isAgg35, sizeOf35⟩ (.t rfl) (k := 1) rfl rfl) <| .gy rfl rfl (ys_fieldN (FieldT.mk underlying62 rfl sizeOf3 rfl) (.t rfl) (i' := 0) rfl) <| .gy rfl rfl (ys_ld ⟨isAgg3, sizeOf3⟩ (.t rfl) (k := 0) rfl rfl) <| .gy rfl rfl (ys_fieldN (FieldT.mk underlying62 rfl sizeOf3 rfl) (.t rfl) (i' := 1) rfl) <| .gy rfl rfl (ys_ld ⟨isAgg3, sizeOf3⟩ (.t rfl) (k := 0) rfl rfl) <| .gx rfl rfl (ys_call call100 (.cons (.t rfl) (.cons (.t rfl) (.cons (.t rfl) .nil))) (fun hp w W => c100 _ _ _ _ _ (by exact .old W (by assumption)))) <| .gy rfl rfl (ys_addI (.t rfl) Ev.c (fun _ => by unfold I64; omega)) <| .gy rfl rfl (ys_T (by omega) (ys_leq (.t rfl) (.t rfl))) <| .yy (ys_pickF (.t rfl) (.t rfl)) rfl <| .z) fun a S => ?_
            (refine q_nil ?_; intro w W; replace S := St.mk S W; clear W)
            refine then_normal (hK5 _ _ (st_then S (.t rfl) (sg S (.ac rfl <| .z) fun a w S => wp_ret (then_ret (in_ret (then_ret (then_ret (in_ret (then_ret (st_ret S (results1 S results48 (Rv.tmp rfl)) ?_))))))))))
            exact ⟨by rw [canL_C hf], S.wd.below⟩
          · rcases k with _ | k
            · refine sg S (.lt (by omega) rfl rfl <| .z) fun a w S => wp_seq_k fun _ hK3 => st_then S (.t rfl) (wp_skip (then_normal (hK3 _ _ (wp_seq_k fun _ hK3 => wp_block (wp_seq_k fun _ hK4 => wp_region_lit (run S (.mv rfl <| .yy (ys_ixS (j := 0) underlying36 sizeOf62 (.t rfl) (.t rfl) (fun _ => by omega)) rfl <| .yy (ys_ldOA ⟨isAgg62, sizeOf62⟩ (.t rfl) (vs := [_, _, _]) rfl (fun _ => hc)) rfl <| .z) fun a w S => ?_))))))
              rw [rw_n] at S
              rw [rw_l] at S
              rw [rw_k] at S
              refine st_m (op_alloc S zeroValue62 (cs := _) rfl rfl fun g2 a w S => run S (.as rfl <| .z) fun a w S => st_m (op_stW S sizeOf62 (.t rfl) (.t rfl) (k := 0) rfl rfl rfl (by simp [Value.oneCell']) fun a w S => st_nil (then_normal (hK4 _ _ (wp_seq_k fun _ hK4 => wp_seq_k fun _ hK5 => st_quiet S (by kernel_rfl) (by kernel_rfl) fun a S => qrun S (.la gt62 0 rfl rfl rfl <| .xx (ys_call call59 (.cons (.t rfl) .nil) (fun hp w W => c59 _ _ _ _)) rfl <| .z) fun a S => ?_)))))
              rw [rw_b] at S
              refine qrun S (.nt rfl <| .mv rfl <| .gy rfl rfl (ys_fieldN (FieldT.mk underlying62 rfl sizeOf3 rfl) (.t rfl) (i' := 2) rfl) <| .gy rfl rfl (ys_ld ⟨isAgg3, sizeOf3⟩ (.t rfl) (k := 0) rfl rfl) <| .gy rfl rfl (ys_fieldN (FieldT.mk underlying38 rfl sizeOf35 rfl) (.t rfl) (i' := 0) rfl) <| .gy rfl rfl (ys_ld ⟨isAgg35, sizeOf35⟩ (.t rfl) (k := 1) rfl rfl) <| .gy rfl rfl (ys_fieldN (FieldT.mk underlying62 rfl sizeOf3 rfl) (.t rfl) (i' := 0) rfl) <| .gy rfl rfl (ys_ld ⟨isAgg3, sizeOf3⟩ (.t rfl) (k := 0) rfl rfl) <| .gy rfl rfl (ys_fieldN (FieldT.mk underlying62 rfl sizeOf3 rfl) (.t rfl) (i' := 1) rfl) <| .gy rfl rfl (ys_ld ⟨isAgg3, sizeOf3⟩ (.t rfl) (k := 0) rfl rfl) <| .gx rfl rfl (ys_call call100 (.cons (.t rfl) (.cons (.t rfl) (.cons (.t rfl) .nil))) (fun hp w W => c100 _ _ _ _ _ (by exact .old W (by assumption)))) <| .gy rfl rfl (ys_addI (.t rfl) Ev.c (fun _ => by unfold I64; omega)) <| .gy rfl rfl (ys_F (by omega) (ys_leq (.t rfl) (.t rfl))) <| .yy (ys_pickF (.t rfl) (.t rfl)) rfl <| .z) fun a S => ?_
              (refine q_nil ?_; intro w W; replace S := St.mk S W; clear W)
              refine then_normal (hK5 _ _ (st_else S (.t rfl) (wp_skip (then_normal (hK4 _ _ (wp_seq_k fun _ hK4 => st_quiet S (by kernel_rfl) (by kernel_rfl) fun a S => qrun S (.mv rfl <| .yy (ys_F (by omega) (ys_gtr (.t rfl) Ev.c)) rfl <| .mv rfl <| .sk rfl rfl rfl <| .sk rfl rfl rfl <| .sk rfl rfl rfl <| .sk rfl rfl rfl <| .sk rfl rfl rfl <| .sk rfl rfl rfl <| .sk rfl rfl rfl <| .sk rfl rfl rfl <| .sk rfl rfl rfl <| .yy (ys_pickF (.t rfl) Ev.c) rfl <| .z) fun a S => ?_))))))
              (refine q_nil ?_; intro w W; replace S := St.mk S W; clear W)
              refine then_normal (hK4 _ _ (st_else S (.t rfl) (wp_skip (in_normal (then_normal (hK3 _ _ (wp_region_lit (run S (.ad (by unfold I64; omega) rfl <| .mv rfl <| .z) fun a w S => st_nil (then_normal ?_)))))))))
              exact ⟨0 + 1, ⟨by omega, step_all hmm hmy' rw_b, by rw [prevD, hmm, ← hno, rw_b, prevD, gapC, decide_eq_true (by omega)]; rfl⟩, by omega, S.wk⟩
            · obtain ⟨g', o', m', e', hmm', hd', hc'⟩ := row_at hA' (show k < C.cloud.length by omega)
              cases e'
              obtain ⟨p1, p2, p3⟩ := m'
              have hg : gapC (prevD C.cloud (k + 1)) ⟨m1, m2, m3⟩ = belowD ⟨p1, p2, p3⟩ ⟨m1, m2, m3⟩ := by
                rw [prevD, hmm']
                unfold gapC orderD belowD
                dsimp only
                repeat' split
                all_goals simp only [decide_eq_decide]
                all_goals omega
              cases rw_c : belowD ⟨p1, p2, p3⟩ ⟨m1, m2, m3⟩ with
              | false =>
                refine sg S (.lt (by omega) rfl rfl <| .z) fun a w S => wp_seq_k fun _ hK3 => st_then S (.t rfl) (wp_skip (then_normal (hK3 _ _ (wp_seq_k fun _ hK3 => wp_block (wp_seq_k fun _ hK4 => wp_region_lit (run S (.mv rfl <| .ix underlying36 sizeOf62 (by omega) rfl rfl <| .yy (ys_ldOA ⟨isAgg62, sizeOf62⟩ (.t rfl) (vs := [_, _, _]) rfl (fun _ => hc)) rfl <| .z) fun a w S => ?_))))))
                rw [rw_n] at S
                rw [rw_l] at S
                rw [rw_k] at S
                refine st_m (op_alloc S zeroValue62 (cs := _) rfl rfl fun g2 a w S => run S (.as rfl <| .z) fun a w S => st_m (op_stW S sizeOf62 (.t rfl) (.t rfl) (k := 0) rfl rfl rfl (by simp [Value.oneCell']) fun a w S => st_nil (then_normal (hK4 _ _ (wp_seq_k fun _ hK4 => wp_seq_k fun _ hK5 => st_quiet S (by kernel_rfl) (by kernel_rfl) fun a S => qrun S (.la gt62 0 rfl rfl rfl <| .xx (ys_call call59 (.cons (.t rfl) .nil) (fun hp w W => c59 _ _ _ _)) rfl <| .z) fun a S => ?_)))))
                rw [rw_b] at S
                refine qrun S (.nt rfl <| .mv rfl <| .gy rfl rfl (ys_fieldN (FieldT.mk underlying62 rfl sizeOf3 rfl) (.t rfl) (i' := 2) rfl) <| .gy rfl rfl (ys_ld ⟨isAgg3, sizeOf3⟩ (.t rfl) (k := 0) rfl rfl) <| .gy rfl rfl (ys_fieldN (FieldT.mk underlying38 rfl sizeOf35 rfl) (.t rfl) (i' := 0) rfl) <| .gy rfl rfl (ys_ld ⟨isAgg35, sizeOf35⟩ (.t rfl) (k := 1) rfl rfl) <| .gy rfl rfl (ys_fieldN (FieldT.mk underlying62 rfl sizeOf3 rfl) (.t rfl) (i' := 0) rfl) <| .gy rfl rfl (ys_ld ⟨isAgg3, sizeOf3⟩ (.t rfl) (k := 0) rfl rfl) <| .gy rfl rfl (ys_fieldN (FieldT.mk underlying62 rfl sizeOf3 rfl) (.t rfl) (i' := 1) rfl) <| .gy rfl rfl (ys_ld ⟨isAgg3, sizeOf3⟩ (.t rfl) (k := 0) rfl rfl) <| .gx rfl rfl (ys_call call100 (.cons (.t rfl) (.cons (.t rfl) (.cons (.t rfl) .nil))) (fun hp w W => c100 _ _ _ _ _ (by exact .old W (by assumption)))) <| .gy rfl rfl (ys_addI (.t rfl) Ev.c (fun _ => by unfold I64; omega)) <| .gy rfl rfl (ys_F (by omega) (ys_leq (.t rfl) (.t rfl))) <| .yy (ys_pickF (.t rfl) (.t rfl)) rfl <| .z) fun a S => ?_
                (refine q_nil ?_; intro w W; replace S := St.mk S W; clear W)
                refine then_normal (hK5 _ _ (st_else S (.t rfl) (wp_skip (then_normal (hK4 _ _ (wp_seq_k fun _ hK4 => st_quiet S (by kernel_rfl) (by kernel_rfl) fun a S => qrun S (.mv rfl <| .yy (ys_T (by omega) (ys_gtr (.t rfl) Ev.c)) rfl <| .mv rfl <| .gy rfl rfl (ys_fieldN (FieldT.mk underlying38 rfl sizeOf36 rfl) (.t rfl) (i' := 1) rfl) <| .gy rfl rfl (ys_ld ⟨isAgg36, sizeOf36⟩ (.t rfl) (k := 1) rfl rfl) <| .gy rfl rfl (ys_move (.t rfl)) <| .gy rfl rfl (ys_pred (.t rfl) Ev.c (by omega)) <| .gy rfl rfl (ys_ixS underlying36 sizeOf62 (.t rfl) (.t rfl) (fun _ => by omega)) <| .gy rfl rfl (ys_ldOA ⟨isAgg62, sizeOf62⟩ (.t rfl) (vs := [_, _, _]) rfl (fun _ => hc')) <| .gy rfl rfl (ys_ldA ⟨isAgg62, sizeOf62⟩ (.t rfl) (k := 0) rfl rfl) <| .gx rfl rfl (ys_call call101 (.cons (.t rfl) (.cons (.t rfl) .nil)) (fun hp w W => c101 _ _ _ _ _ _ _)) <| .z) fun a S => ?_))))))
                rw [rw_c] at S
                refine qrun S (.gy rfl rfl (ys_not (.t rfl)) <| .yy (ys_pickT (.t rfl) (.t rfl)) rfl <| .z) fun a S => ?_
                (refine q_nil ?_; intro w W; replace S := St.mk S W; clear W)
                refine then_normal (hK4 _ _ (st_then S (.t rfl) (sg S (.ac rfl <| .z) fun a w S => wp_ret (in_ret (then_ret (then_ret (in_ret (then_ret (st_ret S (results1 S results48 (Rv.tmp rfl)) ?_)))))))))
                exact ⟨by rw [canL_C (by rw [← hno, rw_b, hg, rw_c]; rfl)], S.wd.below⟩
              | true =>
                refine sg S (.lt (by omega) rfl rfl <| .z) fun a w S => wp_seq_k fun _ hK3 => st_then S (.t rfl) (wp_skip (then_normal (hK3 _ _ (wp_seq_k fun _ hK3 => wp_block (wp_seq_k fun _ hK4 => wp_region_lit (run S (.mv rfl <| .ix underlying36 sizeOf62 (by omega) rfl rfl <| .yy (ys_ldOA ⟨isAgg62, sizeOf62⟩ (.t rfl) (vs := [_, _, _]) rfl (fun _ => hc)) rfl <| .z) fun a w S => ?_))))))
                rw [rw_n] at S
                rw [rw_l] at S
                rw [rw_k] at S
                refine st_m (op_alloc S zeroValue62 (cs := _) rfl rfl fun g2 a w S => run S (.as rfl <| .z) fun a w S => st_m (op_stW S sizeOf62 (.t rfl) (.t rfl) (k := 0) rfl rfl rfl (by simp [Value.oneCell']) fun a w S => st_nil (then_normal (hK4 _ _ (wp_seq_k fun _ hK4 => wp_seq_k fun _ hK5 => st_quiet S (by kernel_rfl) (by kernel_rfl) fun a S => qrun S (.la gt62 0 rfl rfl rfl <| .xx (ys_call call59 (.cons (.t rfl) .nil) (fun hp w W => c59 _ _ _ _)) rfl <| .z) fun a S => ?_)))))
                rw [rw_b] at S
                refine qrun S (.nt rfl <| .mv rfl <| .gy rfl rfl (ys_fieldN (FieldT.mk underlying62 rfl sizeOf3 rfl) (.t rfl) (i' := 2) rfl) <| .gy rfl rfl (ys_ld ⟨isAgg3, sizeOf3⟩ (.t rfl) (k := 0) rfl rfl) <| .gy rfl rfl (ys_fieldN (FieldT.mk underlying38 rfl sizeOf35 rfl) (.t rfl) (i' := 0) rfl) <| .gy rfl rfl (ys_ld ⟨isAgg35, sizeOf35⟩ (.t rfl) (k := 1) rfl rfl) <| .gy rfl rfl (ys_fieldN (FieldT.mk underlying62 rfl sizeOf3 rfl) (.t rfl) (i' := 0) rfl) <| .gy rfl rfl (ys_ld ⟨isAgg3, sizeOf3⟩ (.t rfl) (k := 0) rfl rfl) <| .gy rfl rfl (ys_fieldN (FieldT.mk underlying62 rfl sizeOf3 rfl) (.t rfl) (i' := 1) rfl) <| .gy rfl rfl (ys_ld ⟨isAgg3, sizeOf3⟩ (.t rfl) (k := 0) rfl rfl) <| .gx rfl rfl (ys_call call100 (.cons (.t rfl) (.cons (.t rfl) (.cons (.t rfl) .nil))) (fun hp w W => c100 _ _ _ _ _ (by exact .old W (by assumption)))) <| .gy rfl rfl (ys_addI (.t rfl) Ev.c (fun _ => by unfold I64; omega)) <| .gy rfl rfl (ys_F (by omega) (ys_leq (.t rfl) (.t rfl))) <| .yy (ys_pickF (.t rfl) (.t rfl)) rfl <| .z) fun a S => ?_
                (refine q_nil ?_; intro w W; replace S := St.mk S W; clear W)
                refine then_normal (hK5 _ _ (st_else S (.t rfl) (wp_skip (then_normal (hK4 _ _ (wp_seq_k fun _ hK4 => st_quiet S (by kernel_rfl) (by kernel_rfl) fun a S => qrun S (.mv rfl <| .yy (ys_T (by omega) (ys_gtr (.t rfl) Ev.c)) rfl <| .mv rfl <| .gy rfl rfl (ys_fieldN (FieldT.mk underlying38 rfl sizeOf36 rfl) (.t rfl) (i' := 1) rfl) <| .gy rfl rfl (ys_ld ⟨isAgg36, sizeOf36⟩ (.t rfl) (k := 1) rfl rfl) <| .gy rfl rfl (ys_move (.t rfl)) <| .gy rfl rfl (ys_pred (.t rfl) Ev.c (by omega)) <| .gy rfl rfl (ys_ixS underlying36 sizeOf62 (.t rfl) (.t rfl) (fun _ => by omega)) <| .gy rfl rfl (ys_ldOA ⟨isAgg62, sizeOf62⟩ (.t rfl) (vs := [_, _, _]) rfl (fun _ => hc')) <| .gy rfl rfl (ys_ldA ⟨isAgg62, sizeOf62⟩ (.t rfl) (k := 0) rfl rfl) <| .gx rfl rfl (ys_call call101 (.cons (.t rfl) (.cons (.t rfl) .nil)) (fun hp w W => c101 _ _ _ _ _ _ _)) <| .z) fun a S => ?_))))))
                rw [rw_c] at S
                refine qrun S (.gy rfl rfl (ys_not (.t rfl)) <| .yy (ys_pickT (.t rfl) (.t rfl)) rfl <| .z) fun a S => ?_
                (refine q_nil ?_; intro w W; replace S := St.mk S W; clear W)
                refine then_normal (hK4 _ _ (st_else S (.t rfl) (wp_skip (in_normal (then_normal (hK3 _ _ (wp_region_lit (run S (.ad (by unfold I64; omega) rfl <| .mv rfl <| .z) fun a w S => st_nil (then_normal ?_)))))))))
                exact ⟨k + 1 + 1, ⟨by omega, step_all hmm hmy' rw_b, by rw [prevD, hmm, ← hno, rw_b, hg, rw_c, decide_eq_true (by omega)]; rfl⟩, by omega, S.wk⟩
      · have hend : k = C.cloud.length := by omega
        subst hend
        rw [List.drop_length, okC] at hno
        refine sg S (.ge (by omega) rfl rfl <| .z) fun a w S => wp_seq_k fun _ hK3 => st_else S (.t rfl) (wp_exit (then_exit (then_exit (in_here (then_normal (hK1 _ _ (sg S (.ac rfl <| .z) fun a w S => wp_ret (st_ret S (results1 S results48 (Rv.tmp rfl)) ?_))))))))
        exact ⟨by rw [canL_yes hbig hM hno.symm], S.wd.below⟩
end Go.Proofs.Ytfblmkocmnbdcaa
set_option linter.unusedVariables false
set_option linter.unusedSimpArgs false
set_option maxRecDepth 100000
set_option maxHeartbeats 4000000
namespace Go.Fw
theorem can_covers {C : Ctx} (h : canL C = true) (d : Dot) : C.coversR d = C.covers d := (covers_eq (fun m hm => by
  have := may_lim ((can_nf h).mayC m hm)
  omega) d).symm
theorem items_step {l : List Ent} {k : Nat} {x : Ent} (hx : l[k]? = some x) : itemsN (l.take (k + 1)) = itemsN (l.take k) + if (l.take k).getLast?.map (·.item) = some x.item then 0 else 1 := by
  rw [List.take_add_one, hx, Option.toList_some]
  unfold itemsN
  rw [items_snoc]
  simp
theorem take_last {l : List Ent} {k : Nat} {p : Ent} (hp : l[k]? = some p) : (l.take (k + 1)).getLast? = some p := by
  rw [List.take_add_one, hp, Option.toList_some]
  simp
theorem ents_step {C : Ctx} {l : List Ent} {k : Nat} {x : Ent} (hx : l[k]? = some x) : entsE C (l.take k) (l.drop k) = if entE C (l.take k) x = 0 then entsE C (l.take (k + 1)) (l.drop (k + 1)) else entE C (l.take k) x := by
  have hlt : k < l.length := (List.getElem?_eq_some_iff.1 hx).1
  have e : l[k] = x := (List.getElem?_eq_some_iff.1 hx).2
  rw [List.drop_eq_getElem_cons hlt, e, entsE, List.take_add_one, hx, Option.toList_some]
theorem dup_at {l : List Ent} {k j : Nat} {y : Ent} (hj : j < k) (hy : l[j]? = some y) : y.dot ∈ (l.take k).map (·.dot) := by
  refine List.mem_map.2 ⟨y, List.mem_of_getElem? (i := j) ?_, rfl⟩
  rw [List.getElem?_take, if_pos hj, hy]
theorem dup_step {l : List Ent} {j : Nat} {y : Ent} {d : Dot} (hy : l[j]? = some y) (h : d ∉ (l.take j).map (·.dot)) (hne : y.dot ≠ d) : d ∉ (l.take (j + 1)).map (·.dot) := by
  rw [List.take_add_one, hy, Option.toList_some, List.map_append]
  intro hm
  rcases List.mem_append.1 hm with hm | hm
  · exact h hm
  · simp at hm
    exact hne hm.symm
end Go.Fw
namespace Go.Proofs.Ytfblmkocmnbdcaa
open Go.Fw Go.Proofs Go.RowKit Go.Proofs.Try
theorem c54 (w0 : World) (v : Value) (l : List Ent) (h : Sl Ent.enc 6 w0 w0.heap.size v l) (hn : l.length ≤ 4194304) :
    Calls Try.prog 54 #[v] w0 fun e w' => e = .returned (.int .i64 (itemsN l : Int)) ∧ Bel w0.heap.size w0 w' := by
  obtain ⟨A, cap, rfl, hl, hcap, hA⟩ := h
  refine enter1 func54 rfl ntmps54 rfl fun a S => sg S (.ac rfl <| .z) fun a w S => sg S (.ac rfl <| .z) fun a w S => wp_seq_k fun _ hK1 => sg S (.mv rfl <| .ln underlying34 rfl <| .mc rfl <| .z) fun a w S => wp_block ?_
  refine st_lpM S [3, 4, 5, 8] (X := Nat) (fun k => [(3, true, .int .i64 (itemsN (l.take k) : Int)), (8, true, .int .i64 (k : Int))]) (fun _ => []) (fun k => k ≤ l.length) (fun k => l.length - k) 0 (Nat.zero_le _) ?_
  clear S
  intro k a w hk S
  by_cases hlt : k < l.length
  · obtain ⟨g, o, x, rfl, hx, hd, hc⟩ := row_at hA hlt
    have hst := items_step hx
    have hle := itemsFrom_le (l.take k) none
    rw [show itemsFrom none (l.take k) = itemsN (l.take k) from rfl, List.length_take] at hle
    rcases k with _ | k
    · have rw_1 : ((itemsN (l.take 0) : Nat) : Int) + 1 = ((itemsN (l.take 1) : Nat) : Int) := by rw [hst]; simp
      refine sg S (.lt (by omega) rfl rfl <| .z) fun a w S => wp_seq_k fun _ hK2 => st_then S (.t rfl) (wp_skip (then_normal (hK2 _ _ (wp_seq_k fun _ hK2 => wp_block (wp_seq_k fun _ hK3 => wp_region_lit (run S (.mv rfl <| .yy (ys_ixS (j := 0) underlying34 sizeOf74 (.t rfl) (.t rfl) (fun _ => by omega)) rfl <| .yy (ys_ldOA ⟨isAgg74, sizeOf74⟩ (.t rfl) (vs := [_, _, _, _, _, _]) rfl (fun _ => hc)) rfl <| .z) fun a w S => st_m (op_alloc S zeroValue74 (cs := _) rfl rfl fun g1 a w S => run S (.as rfl <| .z) fun a w S => st_m (op_stW S sizeOf74 (.t rfl) (.t rfl) (k := 0) rfl rfl rfl (by simp [Value.oneCell']) fun a w S => st_nil (then_normal (hK3 _ _ (wp_seq_k fun _ hK3 => st_quiet S (by kernel_rfl) (by kernel_rfl) fun a S => qrun S (.mv rfl <| .yy (ys_T (by omega) (ys_eql (.t rfl) Ev.c)) rfl <| .mv rfl <| .sk rfl rfl rfl <| .sk rfl rfl rfl <| .sk rfl rfl rfl <| .sk rfl rfl rfl <| .sk rfl rfl rfl <| .sk rfl rfl rfl <| .sk rfl rfl rfl <| .sk rfl rfl rfl <| .sk rfl rfl rfl <| .yy (ys_pickT (.t rfl) Ev.c) rfl <| .z) fun a S => ?_)))))))))))
      (refine q_nil ?_; intro w W; replace S := St.mk S W; clear W)
      refine then_normal (hK3 _ _ (st_then S (.t rfl) (wp_region_lit (run S (.mv rfl <| .ad (by unfold I64; omega) rfl <| .z) fun a w S => ?_))))
      rw [rw_1] at S
      refine run S (.as rfl <| .z) fun a w S => st_nil (in_normal (then_normal (hK2 _ _ (wp_region_lit (run S (.ad (by unfold I64; omega) rfl <| .mv rfl <| .z) fun a w S => st_nil (then_normal ?_))))))
      exact ⟨0 + 1, by omega, by omega, S.pk⟩
    · obtain ⟨g', o', p, e', hp, hd', hc'⟩ := row_at hA (show k < l.length by omega)
      cases e'
      rw [take_last hp] at hst
      clear hA
      by_cases he : p.item = x.item
      · rw [if_pos (by simp [he])] at hst
        have rw_e : decide (p.item ≠ x.item) = false := decide_eq_false (fun h => h he)
        refine sg S (.lt (by omega) rfl rfl <| .z) fun a w S => wp_seq_k fun _ hK2 => st_then S (.t rfl) (wp_skip (then_normal (hK2 _ _ (wp_seq_k fun _ hK2 => wp_block (wp_seq_k fun _ hK3 => wp_region_lit (run S (.mv rfl <| .ix underlying34 sizeOf74 (by omega) rfl rfl <| .yy (ys_ldOA ⟨isAgg74, sizeOf74⟩ (.t rfl) (vs := [_, _, _, _, _, _]) rfl (fun _ => hc)) rfl <| .z) fun a w S => st_m (op_alloc S zeroValue74 (cs := _) rfl rfl fun g1 a w S => run S (.as rfl <| .z) fun a w S => st_m (op_stW S sizeOf74 (.t rfl) (.t rfl) (k := 0) rfl rfl rfl (by simp [Value.oneCell']) fun a w S => st_nil (then_normal (hK3 _ _ (wp_seq_k fun _ hK3 => st_quiet S (by kernel_rfl) (by kernel_rfl) fun a S => ?_)))))))))))
        refine qrun S (.mv rfl <| .yy (ys_F (by omega) (ys_eql (.t rfl) Ev.c)) rfl <| .mv rfl <| .gy rfl rfl (ys_move (.t rfl)) <| .gy rfl rfl (ys_move (.t rfl)) <| .gy rfl rfl (ys_pred (.t rfl) Ev.c (by omega)) <| .gy rfl rfl (ys_ixS underlying34 sizeOf74 (.t rfl) (.t rfl) (fun _ => by omega)) <| .gy rfl rfl (ys_field (FieldT.mk underlying74 rfl sizeOf9 rfl) (.t rfl)) <| .gy rfl rfl (ys_ldO ⟨isAgg9, sizeOf9⟩ (.t rfl) (fun _ => hc' _ _ rfl)) <| .gy rfl rfl (ys_fieldN (FieldT.mk underlying74 rfl sizeOf9 rfl) (.t rfl) (i' := 0) rfl) <| .gy rfl rfl (ys_ld ⟨isAgg9, sizeOf9⟩ (.t rfl) (k := 0) rfl rfl) <| .gy rfl rfl (ys_neqStr (.t rfl) (.t rfl)) <| .z) fun a S => ?_
        rw [rw_e] at S
        refine qrun S (.yy (ys_pickF (.t rfl) (.t rfl)) rfl <| .z) fun a S => ?_
        (refine q_nil ?_; intro w W; replace S := St.mk S W; clear W)
        refine then_normal (hK3 _ _ (st_else S (.t rfl) (wp_skip (in_normal (then_normal (hK2 _ _ (wp_region_lit (run S (.ad (by unfold I64; omega) rfl <| .mv rfl <| .z) fun a w S => st_nil (then_normal ?_)))))))))
        rw [← show itemsN (l.take (k + 1 + 1)) = itemsN (l.take (k + 1)) by rw [hst]; rfl] at S
        exact ⟨k + 1 + 1, by omega, by omega, S.pk⟩
      · rw [if_neg (by simp [he])] at hst
        have rw_e : decide (p.item ≠ x.item) = true := decide_eq_true he
        have rw_1 : ((itemsN (l.take (k + 1)) : Nat) : Int) + 1 = ((itemsN (l.take (k + 1 + 1)) : Nat) : Int) := by rw [hst]; omega
        refine sg S (.lt (by omega) rfl rfl <| .z) fun a w S => wp_seq_k fun _ hK2 => st_then S (.t rfl) (wp_skip (then_normal (hK2 _ _ (wp_seq_k fun _ hK2 => wp_block (wp_seq_k fun _ hK3 => wp_region_lit (run S (.mv rfl <| .ix underlying34 sizeOf74 (by omega) rfl rfl <| .yy (ys_ldOA ⟨isAgg74, sizeOf74⟩ (.t rfl) (vs := [_, _, _, _, _, _]) rfl (fun _ => hc)) rfl <| .z) fun a w S => st_m (op_alloc S zeroValue74 (cs := _) rfl rfl fun g1 a w S => run S (.as rfl <| .z) fun a w S => st_m (op_stW S sizeOf74 (.t rfl) (.t rfl) (k := 0) rfl rfl rfl (by simp [Value.oneCell']) fun a w S => st_nil (then_normal (hK3 _ _ (wp_seq_k fun _ hK3 => st_quiet S (by kernel_rfl) (by kernel_rfl) fun a S => ?_)))))))))))
        refine qrun S (.mv rfl <| .yy (ys_F (by omega) (ys_eql (.t rfl) Ev.c)) rfl <| .mv rfl <| .gy rfl rfl (ys_move (.t rfl)) <| .gy rfl rfl (ys_move (.t rfl)) <| .gy rfl rfl (ys_pred (.t rfl) Ev.c (by omega)) <| .gy rfl rfl (ys_ixS underlying34 sizeOf74 (.t rfl) (.t rfl) (fun _ => by omega)) <| .gy rfl rfl (ys_field (FieldT.mk underlying74 rfl sizeOf9 rfl) (.t rfl)) <| .gy rfl rfl (ys_ldO ⟨isAgg9, sizeOf9⟩ (.t rfl) (fun _ => hc' _ _ rfl)) <| .gy rfl rfl (ys_fieldN (FieldT.mk underlying74 rfl sizeOf9 rfl) (.t rfl) (i' := 0) rfl) <| .gy rfl rfl (ys_ld ⟨isAgg9, sizeOf9⟩ (.t rfl) (k := 0) rfl rfl) <| .gy rfl rfl (ys_neqStr (.t rfl) (.t rfl)) <| .z) fun a S => ?_
        rw [rw_e] at S
        refine qrun S (.yy (ys_pickF (.t rfl) (.t rfl)) rfl <| .z) fun a S => ?_
        (refine q_nil ?_; intro w W; replace S := St.mk S W; clear W)
        refine then_normal (hK3 _ _ (st_then S (.t rfl) (wp_region_lit (run S (.mv rfl <| .ad (by unfold I64; omega) rfl <| .z) fun a w S => ?_))))
        rw [rw_1] at S
        refine run S (.as rfl <| .z) fun a w S => st_nil (in_normal (then_normal (hK2 _ _ (wp_region_lit (run S (.ad (by unfold I64; omega) rfl <| .mv rfl <| .z) fun a w S => st_nil (then_normal ?_))))))
        exact ⟨k + 1 + 1, by omega, by omega, S.pk⟩
  · obtain rfl : k = l.length := by omega
    rw [List.take_length] at S
    refine sg S (.ge (by omega) rfl rfl <| .z) fun a w S => wp_seq_k fun _ hK2 => st_else S (.t rfl) (wp_exit (then_exit (then_exit (in_here (then_normal (hK1 _ _ (sg S (.mv rfl <| .as rfl <| .z) fun a w S => wp_ret (st_ret S (results1 S results54 (Rv.tmp rfl)) ?_))))))))
    exact ⟨rfl, S.wd.below⟩
theorem c20 (w0 : World) (v1 v2 v3 : Value) (c : Cart) (h : Sl Ent.enc 6 w0 w0.heap.size v1 c.ents) (hr : RdCtx w0 w0.heap.size v2 v3 c.ctx) :
    Calls Try.prog 20 #[.agg #[v1, v2, v3]] w0 fun e w' => e = .returned (.int .i64 (canE c)) ∧ Bel w0.heap.size w0 w' := by
  obtain ⟨l, C⟩ := c
  dsimp only at h hr
  have hs := h
  obtain ⟨A, cap, rfl, hl, hcap, hA⟩ := h
  unfold canE
  dsimp only
  cases rw_C : canL C with
  | false =>
    refine enter1 func20 rfl ntmps20 rfl fun a S => wp_seq_k fun _ hK1 => wp_region_lit (st_m (op_box S (.t rfl) rfl fun g1 a w S => run S (.ac rfl <| .z) fun a w S => st_nil (then_normal (hK1 _ _ (wp_seq_k fun _ hK1 => wp_seq_k fun _ hK2 => wp_region_lit (run S (.fa underlying40 sizeOf38 1 rfl rfl rfl <| .la gt38 0 rfl rfl rfl <| .xx (ys_call call48 (.cons (.t rfl) .nil) (fun hp w W => c48 _ _ _ _ (by exact .old W (by assumption)))) rfl <| .z) fun a w S => ?_))))))
    rw [rw_C] at S
    refine run S (.nt rfl <| .z) fun a w S => st_nil (then_normal (hK2 _ _ (st_then S (.t rfl) (sg S (.ac rfl <| .z) fun a w S => wp_ret (then_ret (st_ret S (results1 S results20 (Rv.tmp rfl)) ?_))))))
    exact ⟨rfl, S.wd.below⟩
  | true =>
  rw [if_neg (by simp)]
  by_cases hbig : 64 < l.length
  · refine enter1 func20 rfl ntmps20 rfl fun a S => wp_seq_k fun _ hK1 => wp_region_lit (st_m (op_box S (.t rfl) rfl fun g1 a w S => run S (.ac rfl <| .z) fun a w S => st_nil (then_normal (hK1 _ _ (wp_seq_k fun _ hK1 => wp_seq_k fun _ hK2 => wp_region_lit (run S (.fa underlying40 sizeOf38 1 rfl rfl rfl <| .la gt38 0 rfl rfl rfl <| .xx (ys_call call48 (.cons (.t rfl) .nil) (fun hp w W => c48 _ _ _ _ (by exact .old W (by assumption)))) rfl <| .z) fun a w S => ?_))))))
    rw [rw_C] at S
    refine run S (.nt rfl <| .z) fun a w S => st_nil (then_normal (hK2 _ _ (st_else S (.t rfl) (wp_skip (then_normal (hK1 _ _ (wp_seq_k fun _ hK1 => sg S (.fa underlying40 sizeOf34 0 rfl rfl rfl <| .ld gt34 0 rfl rfl rfl <| .ln underlying34 rfl <| .yy (ys_T (by omega) (ys_gtr (.t rfl) Ev.c)) rfl <| .z) fun a w S => st_then S (.t rfl) (sg S (.ac rfl <| .z) fun a w S => wp_ret (then_ret (st_ret S (results1 S results20 (Rv.tmp rfl)) ?_))))))))))
    exact ⟨by rw [if_pos hbig], S.wd.below⟩
  rw [if_neg hbig]
  have rw_cov := can_covers rw_C
  refine enter1 func20 rfl ntmps20 rfl fun a S => wp_seq_k fun _ hK1 => wp_region_lit (st_m (op_box S (.t rfl) rfl fun g1 a w S => run S (.ac rfl <| .z) fun a w S => st_nil (then_normal (hK1 _ _ (wp_seq_k fun _ hK1 => wp_seq_k fun _ hK2 => wp_region_lit (run S (.fa underlying40 sizeOf38 1 rfl rfl rfl <| .la gt38 0 rfl rfl rfl <| .xx (ys_call call48 (.cons (.t rfl) .nil) (fun hp w W => c48 _ _ _ _ (by exact .old W (by assumption)))) rfl <| .z) fun a w S => ?_))))))
  rw [rw_C] at S
  refine run S (.nt rfl <| .z) fun a w S => st_nil (then_normal (hK2 _ _ (st_else S (.t rfl) (wp_skip (then_normal (hK1 _ _ (wp_seq_k fun _ hK1 => sg S (.fa underlying40 sizeOf34 0 rfl rfl rfl <| .ld gt34 0 rfl rfl rfl <| .ln underlying34 rfl <| .yy (ys_F (by omega) (ys_gtr (.t rfl) Ev.c)) rfl <| .z) fun a w S => st_else S (.t rfl) (wp_skip (then_normal (hK1 _ _ (wp_seq_k fun _ hK1 => sg S (.fa underlying40 sizeOf34 0 rfl rfl rfl <| .ld gt34 0 rfl rfl rfl <| .ln underlying34 rfl <| .mc rfl <| .z) fun a w S => wp_block ?_)))))))))))
  refine st_lpM S [3, 4, 6, 18] (X := Nat) (fun k => [(18, true, .int .i64 (k : Int))]) (fun _ => [.blk g1 (.cells #[.slice A l.length cap, v2, v3] 40)])
    (fun k => k ≤ l.length ∧ entsE C (l.take k) (l.drop k) = entsE C [] l) (fun k => l.length - k) 0 ⟨Nat.zero_le _, rfl⟩ ?_
  clear S
  intro k a w ⟨hk, hno⟩ S
  by_cases hlt : k < l.length
  rotate_left
  · obtain rfl : k = l.length := by omega
    rw [List.drop_length, entsE] at hno
    by_cases hi : 32 < itemsN l
    · refine sg S (.ge (by omega) rfl rfl <| .z) fun a w S => wp_seq_k fun _ hK2 => st_else S (.t rfl) (wp_exit (then_exit (then_exit (in_here (then_normal (hK1 _ _ (wp_seq_k fun _ hK1 => sg S (.fa underlying40 sizeOf34 0 rfl rfl rfl <| .ld gt34 0 rfl rfl rfl <| .xx (ys_call call54 (.cons (.t rfl) .nil) (fun hp w W => c54 _ _ _ (by exact .old W (by assumption)) (by omega))) rfl <| .yy (ys_T (by omega) (ys_gtr (.t rfl) Ev.c)) rfl <| .z) fun a w S => st_then S (.t rfl) (sg S (.ac rfl <| .z) fun a w S => wp_ret (then_ret (st_ret S (results1 S results20 (Rv.tmp rfl)) ?_))))))))))
      exact ⟨by rw [if_pos hno.symm, if_pos hi], S.wd.below⟩
    · refine sg S (.ge (by omega) rfl rfl <| .z) fun a w S => wp_seq_k fun _ hK2 => st_else S (.t rfl) (wp_exit (then_exit (then_exit (in_here (then_normal (hK1 _ _ (wp_seq_k fun _ hK1 => sg S (.fa underlying40 sizeOf34 0 rfl rfl rfl <| .ld gt34 0 rfl rfl rfl <| .xx (ys_call call54 (.cons (.t rfl) .nil) (fun hp w W => c54 _ _ _ (by exact .old W (by assumption)) (by omega))) rfl <| .yy (ys_F (by omega) (ys_gtr (.t rfl) Ev.c)) rfl <| .z) fun a w S => st_else S (.t rfl) (wp_skip (then_normal (hK1 _ _ (sg S (.ac rfl <| .z) fun a w S => wp_ret (st_ret S (results1 S results20 (Rv.tmp rfl)) ?_))))))))))))
      exact ⟨by rw [if_pos hno.symm, if_neg hi], S.wd.below⟩
  obtain ⟨g, o, x, rfl, hx, hd, hc⟩ := row_at hA hlt
  have hst := ents_step (C := C) hx
  rw [hno] at hst
  have bad : entE C (l.take k) x ≠ 0 → (if entsE C [] l = 0 then (if 32 < itemsN l then (51 : Int) else 0) else entsE C [] l) = entE C (l.take k) x := fun h => by
    rw [if_neg h] at hst
    rw [hst, if_neg h]
  cases rw_n : nameB x.item with
  | false =>
    have he : entE C (l.take k) x = 6 := by unfold entE; rw [if_pos rw_n]
    rw [bad (by rw [he]; decide), he]
    refine sg S (.lt (by omega) rfl rfl <| .z) fun a w S => wp_seq_k fun _ hK2 => st_then S (.t rfl) (wp_skip (then_normal (hK2 _ _ (wp_seq_k fun _ hK2 => wp_block (wp_seq_k fun _ hK3 => wp_region_lit (run S (.mv rfl <| .ix underlying34 sizeOf74 (by omega) rfl rfl <| .yy (ys_ldOA ⟨isAgg74, sizeOf74⟩ (.t rfl) (vs := [_, _, _, _, _, _]) rfl (fun _ => hc)) rfl <| .z) fun a w S => st_m (op_alloc S zeroValue74 (cs := _) rfl rfl fun g2 a w S => run S (.as rfl <| .z) fun a w S => st_m (op_stW S sizeOf74 (.t rfl) (.t rfl) (k := 0) rfl rfl rfl (by simp [Value.oneCell']) fun a w S => st_nil (then_normal (hK3 _ _ (wp_seq_k fun _ hK3 => wp_block (wp_seq_k fun _ hK4 => wp_region_lit (run S (.fa underlying74 sizeOf9 0 rfl rfl rfl <| .ld gt9 0 rfl rfl rfl <| .xx (ys_call call49 (.cons (.t rfl) .nil) (fun hp w W => c49 _ _)) rfl <| .z) fun a w S => ?_)))))))))))))
    rw [rw_n] at S
    refine run S (.nt rfl <| .as rfl <| .z) fun a w S => st_nil (then_normal (hK4 _ _ (st_then S (.t rfl) (sg S (.ac rfl <| .z) fun a w S => wp_ret (in_ret (then_ret (in_ret (then_ret (then_ret (in_ret (then_ret (st_ret S (results1 S results20 (Rv.tmp rfl)) ?_))))))))))))
    exact ⟨rfl, S.wd.below⟩
  | true =>
  by_cases hq : x.qty < 1 ∨ 1000000 < x.qty
  · have he : entE C (l.take k) x = 52 := by unfold entE; rw [if_neg (by simp [rw_n]), if_pos hq]
    rw [bad (by rw [he]; decide), he]
    have rw_q : (decide (1 ≤ x.qty) && decide (x.qty ≤ 1000000)) = false := by simp; omega
    refine sg S (.lt (by omega) rfl rfl <| .z) fun a w S => wp_seq_k fun _ hK2 => st_then S (.t rfl) (wp_skip (then_normal (hK2 _ _ (wp_seq_k fun _ hK2 => wp_block (wp_seq_k fun _ hK3 => wp_region_lit (run S (.mv rfl <| .ix underlying34 sizeOf74 (by omega) rfl rfl <| .yy (ys_ldOA ⟨isAgg74, sizeOf74⟩ (.t rfl) (vs := [_, _, _, _, _, _]) rfl (fun _ => hc)) rfl <| .z) fun a w S => st_m (op_alloc S zeroValue74 (cs := _) rfl rfl fun g2 a w S => run S (.as rfl <| .z) fun a w S => st_m (op_stW S sizeOf74 (.t rfl) (.t rfl) (k := 0) rfl rfl rfl (by simp [Value.oneCell']) fun a w S => st_nil (then_normal (hK3 _ _ (wp_seq_k fun _ hK3 => wp_block (wp_seq_k fun _ hK4 => wp_region_lit (run S (.fa underlying74 sizeOf9 0 rfl rfl rfl <| .ld gt9 0 rfl rfl rfl <| .xx (ys_call call49 (.cons (.t rfl) .nil) (fun hp w W => c49 _ _)) rfl <| .z) fun a w S => ?_)))))))))))))
    rw [rw_n] at S
    refine run S (.nt rfl <| .as rfl <| .z) fun a w S => st_nil (then_normal (hK4 _ _ (st_else S (.t rfl) (wp_seq_k fun _ hK4 => wp_region_lit (run S (.fa underlying74 sizeOf3 4 rfl rfl rfl <| .ld gt3 0 rfl rfl rfl <| .xx (ys_call call50 (.cons (.t rfl) (.cons Ev.c .nil)) (fun hp w W => c50 _ _ _)) rfl <| .z) fun a w S => ?_)))))
    rw [rw_q] at S
    refine run S (.nt rfl <| .as rfl <| .z) fun a w S => st_nil (then_normal (hK4 _ _ (st_then S (.t rfl) (sg S (.ac rfl <| .z) fun a w S => wp_ret (in_ret (then_ret (in_ret (then_ret (then_ret (in_ret (then_ret (st_ret S (results1 S results20 (Rv.tmp rfl)) ?_))))))))))))
    exact ⟨rfl, S.wd.below⟩
  have rw_q : (decide (1 ≤ x.qty) && decide (x.qty ≤ 1000000)) = true := by simp; omega
  cases rw_p : priceB x.price with
  | false =>
    have he : entE C (l.take k) x = 53 := by unfold entE; rw [if_neg (by simp [rw_n]), if_neg hq, if_pos rw_p]
    rw [bad (by rw [he]; decide), he]
    refine sg S (.lt (by omega) rfl rfl <| .z) fun a w S => wp_seq_k fun _ hK2 => st_then S (.t rfl) (wp_skip (then_normal (hK2 _ _ (wp_seq_k fun _ hK2 => wp_block (wp_seq_k fun _ hK3 => wp_region_lit (run S (.mv rfl <| .ix underlying34 sizeOf74 (by omega) rfl rfl <| .yy (ys_ldOA ⟨isAgg74, sizeOf74⟩ (.t rfl) (vs := [_, _, _, _, _, _]) rfl (fun _ => hc)) rfl <| .z) fun a w S => st_m (op_alloc S zeroValue74 (cs := _) rfl rfl fun g2 a w S => run S (.as rfl <| .z) fun a w S => st_m (op_stW S sizeOf74 (.t rfl) (.t rfl) (k := 0) rfl rfl rfl (by simp [Value.oneCell']) fun a w S => st_nil (then_normal (hK3 _ _ (wp_seq_k fun _ hK3 => wp_block (wp_seq_k fun _ hK4 => wp_region_lit (run S (.fa underlying74 sizeOf9 0 rfl rfl rfl <| .ld gt9 0 rfl rfl rfl <| .xx (ys_call call49 (.cons (.t rfl) .nil) (fun hp w W => c49 _ _)) rfl <| .z) fun a w S => ?_)))))))))))))
    rw [rw_n] at S
    refine run S (.nt rfl <| .as rfl <| .z) fun a w S => st_nil (then_normal (hK4 _ _ (st_else S (.t rfl) (wp_seq_k fun _ hK4 => wp_region_lit (run S (.fa underlying74 sizeOf3 4 rfl rfl rfl <| .ld gt3 0 rfl rfl rfl <| .xx (ys_call call50 (.cons (.t rfl) (.cons Ev.c .nil)) (fun hp w W => c50 _ _ _)) rfl <| .z) fun a w S => ?_)))))
    rw [rw_q] at S
    refine run S (.nt rfl <| .as rfl <| .z) fun a w S => st_nil (then_normal (hK4 _ _ (st_else S (.t rfl) (wp_seq_k fun _ hK4 => wp_region_lit (run S (.fa underlying74 sizeOf27 5 rfl rfl rfl <| .ld gt27 0 rfl rfl rfl <| .xx (ys_call call51 (.cons (.t rfl) .nil) (fun hp w W => c51 _ _)) rfl <| .z) fun a w S => ?_)))))
    rw [rw_p] at S
    refine run S (.nt rfl <| .as rfl <| .z) fun a w S => st_nil (then_normal (hK4 _ _ (st_then S (.t rfl) (sg S (.ac rfl <| .z) fun a w S => wp_ret (in_ret (then_ret (in_ret (then_ret (then_ret (in_ret (then_ret (st_ret S (results1 S results20 (Rv.tmp rfl)) ?_))))))))))))
    exact ⟨rfl, S.wd.below⟩
  | true =>
  have he0 : entE C (l.take k) x = if C.covers x.dot = false ∨ backE (l.take k).getLast? x = true then 50 else if x.dot ∈ (l.take k).map (·.dot) then 50 else 0 := by unfold entE; rw [if_neg (by simp [rw_n]), if_neg hq, if_neg (by simp [rw_p])]
  cases rw_c : C.covers x.dot with
  | false =>
    rw [if_pos (.inl rw_c)] at he0
    rw [bad (by rw [he0]; decide), he0]
    have rw_c2 : C.covers ⟨x.dot.node, x.dot.life, x.dot.count⟩ = false := rw_c
    refine sg S (.lt (by omega) rfl rfl <| .z) fun a w S => wp_seq_k fun _ hK2 => st_then S (.t rfl) (wp_skip (then_normal (hK2 _ _ (wp_seq_k fun _ hK2 => wp_block (wp_seq_k fun _ hK3 => wp_region_lit (run S (.mv rfl <| .ix underlying34 sizeOf74 (by omega) rfl rfl <| .yy (ys_ldOA ⟨isAgg74, sizeOf74⟩ (.t rfl) (vs := [_, _, _, _, _, _]) rfl (fun _ => hc)) rfl <| .z) fun a w S => st_m (op_alloc S zeroValue74 (cs := _) rfl rfl fun g2 a w S => run S (.as rfl <| .z) fun a w S => st_m (op_stW S sizeOf74 (.t rfl) (.t rfl) (k := 0) rfl rfl rfl (by simp [Value.oneCell']) fun a w S => st_nil (then_normal (hK3 _ _ (wp_seq_k fun _ hK3 => wp_block (wp_seq_k fun _ hK4 => wp_region_lit (run S (.fa underlying74 sizeOf9 0 rfl rfl rfl <| .ld gt9 0 rfl rfl rfl <| .xx (ys_call call49 (.cons (.t rfl) .nil) (fun hp w W => c49 _ _)) rfl <| .z) fun a w S => ?_)))))))))))))
    rw [rw_n] at S
    refine run S (.nt rfl <| .as rfl <| .z) fun a w S => st_nil (then_normal (hK4 _ _ (st_else S (.t rfl) (wp_seq_k fun _ hK4 => wp_region_lit (run S (.fa underlying74 sizeOf3 4 rfl rfl rfl <| .ld gt3 0 rfl rfl rfl <| .xx (ys_call call50 (.cons (.t rfl) (.cons Ev.c .nil)) (fun hp w W => c50 _ _ _)) rfl <| .z) fun a w S => ?_)))))
    rw [rw_q] at S
    refine run S (.nt rfl <| .as rfl <| .z) fun a w S => st_nil (then_normal (hK4 _ _ (st_else S (.t rfl) (wp_seq_k fun _ hK4 => wp_region_lit (run S (.fa underlying74 sizeOf27 5 rfl rfl rfl <| .ld gt27 0 rfl rfl rfl <| .xx (ys_call call51 (.cons (.t rfl) .nil) (fun hp w W => c51 _ _)) rfl <| .z) fun a w S => ?_)))))
    rw [rw_p] at S
    refine run S (.nt rfl <| .as rfl <| .z) fun a w S => st_nil (then_normal (hK4 _ _ (st_else S (.t rfl) (wp_seq_k fun _ hK4 => st_quiet S (by kernel_rfl) (by kernel_rfl) fun a S => qrun S (.fa underlying40 sizeOf38 1 rfl rfl rfl <| .la gt38 1 rfl rfl rfl <| .fa underlying74 sizeOf62 1 rfl rfl rfl <| .la gt62 0 rfl rfl rfl <| .xx (ys_call call52 (.cons (.t rfl) (.cons (.t rfl) .nil)) (fun hp w W => c52 _ _ _ _ _ _ _ (by exact .old W (by assumption)))) rfl <| .z) fun a S => ?_))))
    rw [rw_cov] at S
    rw [rw_c] at S
    refine qrun S (.nt rfl <| .mv rfl <| .sk rfl rfl rfl <| .sk rfl rfl rfl <| .sk rfl rfl rfl <| .s0 rfl rfl <| .s0 rfl rfl <| .s0 rfl rfl <| .s0 rfl rfl <| .s0 rfl rfl <| .s0 rfl rfl <| .s0 rfl rfl <| .s0 rfl rfl <| .s0 rfl rfl <| .sk rfl rfl rfl <| .yy (ys_pickT (.t rfl) Ev.c) rfl <| .as rfl <| .z) fun a S => ?_
    (refine q_nil ?_; intro w W; replace S := St.mk S W; clear W)
    refine then_normal (hK4 _ _ (st_then S (.t rfl) (sg S (.ac rfl <| .z) fun a w S => wp_ret (in_ret (then_ret (in_ret (then_ret (then_ret (in_ret (then_ret (st_ret S (results1 S results20 (Rv.tmp rfl)) ?_)))))))))))
    exact ⟨rfl, S.wd.below⟩
  | true =>
  have rw_c2 : C.covers ⟨x.dot.node, x.dot.life, x.dot.count⟩ = true := rw_c
  rcases k with _ | k
  · have hnb : ¬ (C.covers x.dot = false ∨ backE (l.take 0).getLast? x = true) := by simp [rw_c, backE]
    refine sg S (.lt (by omega) rfl rfl <| .z) fun a w S => wp_seq_k fun _ hK2 => st_then S (.t rfl) (wp_skip (then_normal (hK2 _ _ (wp_seq_k fun _ hK2 => wp_block (wp_seq_k fun _ hK3 => wp_region_lit (run S (.mv rfl <| .yy (ys_ixS (j := 0) underlying34 sizeOf74 (.t rfl) (.t rfl) (fun _ => by omega)) rfl <| .yy (ys_ldOA ⟨isAgg74, sizeOf74⟩ (.t rfl) (vs := [_, _, _, _, _, _]) rfl (fun _ => hc)) rfl <| .z) fun a w S => st_m (op_alloc S zeroValue74 (cs := _) rfl rfl fun g2 a w S => run S (.as rfl <| .z) fun a w S => st_m (op_stW S sizeOf74 (.t rfl) (.t rfl) (k := 0) rfl rfl rfl (by simp [Value.oneCell']) fun a w S => st_nil (then_normal (hK3 _ _ (wp_seq_k fun _ hK3 => wp_block (wp_seq_k fun _ hK4 => wp_region_lit (run S (.fa underlying74 sizeOf9 0 rfl rfl rfl <| .ld gt9 0 rfl rfl rfl <| .xx (ys_call call49 (.cons (.t rfl) .nil) (fun hp w W => c49 _ _)) rfl <| .z) fun a w S => ?_)))))))))))))
    rw [rw_n] at S
    refine run S (.nt rfl <| .as rfl <| .z) fun a w S => st_nil (then_normal (hK4 _ _ (st_else S (.t rfl) (wp_seq_k fun _ hK4 => wp_region_lit (run S (.fa underlying74 sizeOf3 4 rfl rfl rfl <| .ld gt3 0 rfl rfl rfl <| .xx (ys_call call50 (.cons (.t rfl) (.cons Ev.c .nil)) (fun hp w W => c50 _ _ _)) rfl <| .z) fun a w S => ?_)))))
    rw [rw_q] at S
    refine run S (.nt rfl <| .as rfl <| .z) fun a w S => st_nil (then_normal (hK4 _ _ (st_else S (.t rfl) (wp_seq_k fun _ hK4 => wp_region_lit (run S (.fa underlying74 sizeOf27 5 rfl rfl rfl <| .ld gt27 0 rfl rfl rfl <| .xx (ys_call call51 (.cons (.t rfl) .nil) (fun hp w W => c51 _ _)) rfl <| .z) fun a w S => ?_)))))
    rw [rw_p] at S
    refine run S (.nt rfl <| .as rfl <| .z) fun a w S => st_nil (then_normal (hK4 _ _ (st_else S (.t rfl) (wp_seq_k fun _ hK4 => st_quiet S (by kernel_rfl) (by kernel_rfl) fun a S => qrun S (.fa underlying40 sizeOf38 1 rfl rfl rfl <| .la gt38 1 rfl rfl rfl <| .fa underlying74 sizeOf62 1 rfl rfl rfl <| .la gt62 0 rfl rfl rfl <| .xx (ys_call call52 (.cons (.t rfl) (.cons (.t rfl) .nil)) (fun hp w W => c52 _ _ _ _ _ _ _ (by exact .old W (by assumption)))) rfl <| .z) fun a S => ?_))))
    rw [rw_cov] at S
    rw [rw_c] at S
    refine qrun S (.nt rfl <| .mv rfl <| .gy rfl rfl (ys_move (.t rfl)) <| .gy rfl rfl (ys_F (by omega) (ys_gtr (.t rfl) Ev.c)) <| .gy rfl rfl (ys_move (.t rfl)) <| .sk rfl rfl rfl <| .sk rfl rfl rfl <| .sk rfl rfl rfl <| .sk rfl rfl rfl <| .sk rfl rfl rfl <| .sk rfl rfl rfl <| .sk rfl rfl rfl <| .sk rfl rfl rfl <| .sk rfl rfl rfl <| .gy rfl rfl (ys_pickF (.t rfl) Ev.c) <| .yy (ys_pickF (.t rfl) (.t rfl)) rfl <| .as rfl <| .z) fun a S => ?_
    (refine q_nil ?_; intro w W; replace S := St.mk S W; clear W)
    refine then_normal (hK4 _ _ (st_else S (.t rfl) (wp_skip (in_normal (then_normal (hK3 _ _ (sg S (.fa underlying40 sizeOf34 0 rfl rfl rfl <| .ld gt34 1 rfl rfl rfl <| .mv rfl <| .yy (ys_slHi underlying34 sizeOf74 (.t rfl) (.t rfl) (fun _ => by first | omega | (simp; done) | (simp; omega))) rfl <| .ln underlying34 rfl <| .mc rfl <| .z) fun a w S => wp_block ?_)))))))
    refine st_lpM S [6, 65] (X := Nat) (fun j => [(65, true, .int .i64 (j : Int))]) (fun _ => [.blk g2 (.cells (Ent.enc x).toArray 74), .blk g1 (.cells #[.slice (some ⟨g, o, none⟩) l.length cap, v2, v3] 40)])
      (fun j => j ≤ 0 ∧ x.dot ∉ (l.take j).map (·.dot)) (fun j => 0 - j) 0 ⟨Nat.zero_le _, by simp⟩ ?_
    clear S
    intro j a w ⟨hj, hdup⟩ S
    by_cases hjk : j < 0
    · obtain ⟨g3, o3, y, e3, hy, hdy, hcy⟩ := row_at hA (show j < l.length by omega)
      cases e3
      by_cases he : y.dot = x.dot
      · have hin : x.dot ∈ (l.take (0)).map (·.dot) := he ▸ dup_at hjk hy
        rw [if_neg hnb, if_pos hin] at he0
        rw [bad (by rw [he0]; decide), he0]
        have rw_e := decide_eq_true (dot_iff3.1 he)
        refine sg S (.lt (by omega) rfl rfl <| .z) fun a w S => wp_seq_k fun _ hK3 => st_then S (.t rfl) (wp_skip (then_normal (hK3 _ _ (wp_seq_k fun _ hK3 => wp_block (wp_seq_k fun _ hK4 => wp_region_lit (run S (.ix underlying34 sizeOf74 (by omega) rfl rfl <| .yy (ys_ldOA ⟨isAgg74, sizeOf74⟩ (.t rfl) (vs := [_, _, _, _, _, _]) rfl (fun _ => hcy)) rfl <| .z) fun a w S => st_m (op_alloc S zeroValue74 (cs := _) rfl rfl fun g3 a w S => st_m (op_stW S sizeOf74 (.t rfl) (.t rfl) (k := 0) rfl rfl rfl (by simp [Value.oneCell']) fun a w S => st_nil (then_normal (hK4 _ _ (wp_seq_k fun _ hK4 => wp_region_lit (run S (.fa underlying74 sizeOf62 1 rfl rfl rfl <| .la gt62 0 rfl rfl rfl <| .fa underlying74 sizeOf62 1 rfl rfl rfl <| .la gt62 1 rfl rfl rfl <| .yy (ys_eqA (.t rfl) (.t rfl) eq62) rfl <| .z) fun a w S => ?_))))))))))))
        rw [rw_e] at S
        refine st_nil (then_normal (hK4 _ _ (st_then S (.t rfl) (sg S (.ac rfl <| .z) fun a w S => wp_ret (in_ret (then_ret (then_ret (in_ret (in_ret (then_ret (then_ret (in_ret (then_ret (st_ret S (results1 S results20 (Rv.tmp rfl)) ?_))))))))))))))
        exact ⟨rfl, S.wd.below⟩
      · have rw_e := decide_eq_false (fun h => he (dot_iff3.2 h))
        refine sg S (.lt (by omega) rfl rfl <| .z) fun a w S => wp_seq_k fun _ hK3 => st_then S (.t rfl) (wp_skip (then_normal (hK3 _ _ (wp_seq_k fun _ hK3 => wp_block (wp_seq_k fun _ hK4 => wp_region_lit (run S (.ix underlying34 sizeOf74 (by omega) rfl rfl <| .yy (ys_ldOA ⟨isAgg74, sizeOf74⟩ (.t rfl) (vs := [_, _, _, _, _, _]) rfl (fun _ => hcy)) rfl <| .z) fun a w S => st_m (op_alloc S zeroValue74 (cs := _) rfl rfl fun g3 a w S => st_m (op_stW S sizeOf74 (.t rfl) (.t rfl) (k := 0) rfl rfl rfl (by simp [Value.oneCell']) fun a w S => st_nil (then_normal (hK4 _ _ (wp_seq_k fun _ hK4 => wp_region_lit (run S (.fa underlying74 sizeOf62 1 rfl rfl rfl <| .la gt62 0 rfl rfl rfl <| .fa underlying74 sizeOf62 1 rfl rfl rfl <| .la gt62 1 rfl rfl rfl <| .yy (ys_eqA (.t rfl) (.t rfl) eq62) rfl <| .z) fun a w S => ?_))))))))))))
        rw [rw_e] at S
        refine st_nil (then_normal (hK4 _ _ (st_else S (.t rfl) (wp_skip (in_normal (then_normal (hK3 _ _ (wp_region_lit (run S (.ad (by unfold I64; omega) rfl <| .mv rfl <| .z) fun a w S => st_nil (then_normal ?_))))))))))
        exact ⟨j + 1, ⟨by omega, dup_step hy hdup he⟩, by omega, S.pk⟩
    · obtain rfl : j = 0 := by omega
      rw [if_neg hnb, if_neg hdup] at he0
      rw [if_pos he0] at hst
      refine sg S (.ge (by omega) rfl rfl <| .z) fun a w S => wp_seq_k fun _ hK3 => st_else S (.t rfl) (wp_exit (then_exit (then_exit (in_here (in_normal (then_normal (hK2 _ _ (wp_region_lit (run S (.ad (by unfold I64; omega) rfl <| .mv rfl <| .z) fun a w S => st_nil (then_normal ?_))))))))))
      exact ⟨0 + 1, ⟨by omega, hst.symm⟩, by omega, S.pk⟩
  obtain ⟨g4, o4, p, e4, hp, hdp, hcp⟩ := row_at hA (show k < l.length by omega)
  cases e4
  rw [take_last hp] at he0
  by_cases hlt2 : ltE p x
  · have hnb : ¬ (C.covers x.dot = false ∨ backE (some p) x = true) := by simp [rw_c, backE, hlt2]
    have rw_l : decide (ltE p x) = true := decide_eq_true hlt2
    refine sg S (.lt (by omega) rfl rfl <| .z) fun a w S => wp_seq_k fun _ hK2 => st_then S (.t rfl) (wp_skip (then_normal (hK2 _ _ (wp_seq_k fun _ hK2 => wp_block (wp_seq_k fun _ hK3 => wp_region_lit (run S (.mv rfl <| .ix underlying34 sizeOf74 (by omega) rfl rfl <| .yy (ys_ldOA ⟨isAgg74, sizeOf74⟩ (.t rfl) (vs := [_, _, _, _, _, _]) rfl (fun _ => hc)) rfl <| .z) fun a w S => st_m (op_alloc S zeroValue74 (cs := _) rfl rfl fun g2 a w S => run S (.as rfl <| .z) fun a w S => st_m (op_stW S sizeOf74 (.t rfl) (.t rfl) (k := 0) rfl rfl rfl (by simp [Value.oneCell']) fun a w S => st_nil (then_normal (hK3 _ _ (wp_seq_k fun _ hK3 => wp_block (wp_seq_k fun _ hK4 => wp_region_lit (run S (.fa underlying74 sizeOf9 0 rfl rfl rfl <| .ld gt9 0 rfl rfl rfl <| .xx (ys_call call49 (.cons (.t rfl) .nil) (fun hp w W => c49 _ _)) rfl <| .z) fun a w S => ?_)))))))))))))
    rw [rw_n] at S
    refine run S (.nt rfl <| .as rfl <| .z) fun a w S => st_nil (then_normal (hK4 _ _ (st_else S (.t rfl) (wp_seq_k fun _ hK4 => wp_region_lit (run S (.fa underlying74 sizeOf3 4 rfl rfl rfl <| .ld gt3 0 rfl rfl rfl <| .xx (ys_call call50 (.cons (.t rfl) (.cons Ev.c .nil)) (fun hp w W => c50 _ _ _)) rfl <| .z) fun a w S => ?_)))))
    rw [rw_q] at S
    refine run S (.nt rfl <| .as rfl <| .z) fun a w S => st_nil (then_normal (hK4 _ _ (st_else S (.t rfl) (wp_seq_k fun _ hK4 => wp_region_lit (run S (.fa underlying74 sizeOf27 5 rfl rfl rfl <| .ld gt27 0 rfl rfl rfl <| .xx (ys_call call51 (.cons (.t rfl) .nil) (fun hp w W => c51 _ _)) rfl <| .z) fun a w S => ?_)))))
    rw [rw_p] at S
    refine run S (.nt rfl <| .as rfl <| .z) fun a w S => st_nil (then_normal (hK4 _ _ (st_else S (.t rfl) (wp_seq_k fun _ hK4 => st_quiet S (by kernel_rfl) (by kernel_rfl) fun a S => qrun S (.fa underlying40 sizeOf38 1 rfl rfl rfl <| .la gt38 1 rfl rfl rfl <| .fa underlying74 sizeOf62 1 rfl rfl rfl <| .la gt62 0 rfl rfl rfl <| .xx (ys_call call52 (.cons (.t rfl) (.cons (.t rfl) .nil)) (fun hp w W => c52 _ _ _ _ _ _ _ (by exact .old W (by assumption)))) rfl <| .z) fun a S => ?_))))
    rw [rw_cov] at S
    rw [rw_c] at S
    refine qrun S (.nt rfl <| .mv rfl <| .gy rfl rfl (ys_move (.t rfl)) <| .gy rfl rfl (ys_T (by omega) (ys_gtr (.t rfl) Ev.c)) <| .gy rfl rfl (ys_move (.t rfl)) <| .gy rfl rfl (ys_ldA ⟨isAgg74, sizeOf74⟩ (.t rfl) (k := 0) rfl rfl) <| .gy rfl rfl (ys_fieldN (FieldT.mk underlying40 rfl sizeOf34 rfl) (.t rfl) (i' := 0) rfl) <| .gy rfl rfl (ys_ld ⟨isAgg34, sizeOf34⟩ (.t rfl) (k := 1) rfl rfl) <| .gy rfl rfl (ys_move (.t rfl)) <| .gy rfl rfl (ys_pred (.t rfl) Ev.c (by omega)) <| .gy rfl rfl (ys_ixS underlying34 sizeOf74 (.t rfl) (.t rfl) (fun _ => by omega)) <| .gy rfl rfl (ys_ldOA ⟨isAgg74, sizeOf74⟩ (.t rfl) (vs := [_, _, _, _, _, _]) rfl (fun _ => hcp)) <| .gx rfl rfl (ys_call call53 (.cons (.t rfl) (.cons (.t rfl) .nil)) (fun hp w W => c53 _ _ _)) <| .z) fun a S => ?_
    rw [rw_l] at S
    refine qrun S (.gy rfl rfl (ys_not (.t rfl)) <| .gy rfl rfl (ys_pickT (.t rfl) (.t rfl)) <| .yy (ys_pickF (.t rfl) (.t rfl)) rfl <| .as rfl <| .z) fun a S => ?_
    (refine q_nil ?_; intro w W; replace S := St.mk S W; clear W)
    refine then_normal (hK4 _ _ (st_else S (.t rfl) (wp_skip (in_normal (then_normal (hK3 _ _ (sg S (.fa underlying40 sizeOf34 0 rfl rfl rfl <| .ld gt34 1 rfl rfl rfl <| .mv rfl <| .yy (ys_slHi underlying34 sizeOf74 (.t rfl) (.t rfl) (fun _ => by first | omega | (simp; done) | (simp; omega))) rfl <| .ln underlying34 rfl <| .mc rfl <| .z) fun a w S => wp_block ?_)))))))
    refine st_lpM S [6, 65] (X := Nat) (fun j => [(65, true, .int .i64 (j : Int))]) (fun _ => [.blk g2 (.cells (Ent.enc x).toArray 74), .blk g1 (.cells #[.slice (some ⟨g, o, none⟩) l.length cap, v2, v3] 40)])
      (fun j => j ≤ (k + 1) ∧ x.dot ∉ (l.take j).map (·.dot)) (fun j => (k + 1) - j) 0 ⟨Nat.zero_le _, by simp⟩ ?_
    clear S
    intro j a w ⟨hj, hdup⟩ S
    by_cases hjk : j < (k + 1)
    · obtain ⟨g3, o3, y, e3, hy, hdy, hcy⟩ := row_at hA (show j < l.length by omega)
      cases e3
      by_cases he : y.dot = x.dot
      · have hin : x.dot ∈ (l.take ((k + 1))).map (·.dot) := he ▸ dup_at hjk hy
        rw [if_neg hnb, if_pos hin] at he0
        rw [bad (by rw [he0]; decide), he0]
        have rw_e := decide_eq_true (dot_iff3.1 he)
        refine sg S (.lt (by omega) rfl rfl <| .z) fun a w S => wp_seq_k fun _ hK3 => st_then S (.t rfl) (wp_skip (then_normal (hK3 _ _ (wp_seq_k fun _ hK3 => wp_block (wp_seq_k fun _ hK4 => wp_region_lit (run S (.ix underlying34 sizeOf74 (by omega) rfl rfl <| .yy (ys_ldOA ⟨isAgg74, sizeOf74⟩ (.t rfl) (vs := [_, _, _, _, _, _]) rfl (fun _ => hcy)) rfl <| .z) fun a w S => st_m (op_alloc S zeroValue74 (cs := _) rfl rfl fun g3 a w S => st_m (op_stW S sizeOf74 (.t rfl) (.t rfl) (k := 0) rfl rfl rfl (by simp [Value.oneCell']) fun a w S => st_nil (then_normal (hK4 _ _ (wp_seq_k fun _ hK4 => wp_region_lit (run S (.fa underlying74 sizeOf62 1 rfl rfl rfl <| .la gt62 0 rfl rfl rfl <| .fa underlying74 sizeOf62 1 rfl rfl rfl <| .la gt62 1 rfl rfl rfl <| .yy (ys_eqA (.t rfl) (.t rfl) eq62) rfl <| .z) fun a w S => ?_))))))))))))
        rw [rw_e] at S
        refine st_nil (then_normal (hK4 _ _ (st_then S (.t rfl) (sg S (.ac rfl <| .z) fun a w S => wp_ret (in_ret (then_ret (then_ret (in_ret (in_ret (then_ret (then_ret (in_ret (then_ret (st_ret S (results1 S results20 (Rv.tmp rfl)) ?_))))))))))))))
        exact ⟨rfl, S.wd.below⟩
      · have rw_e := decide_eq_false (fun h => he (dot_iff3.2 h))
        refine sg S (.lt (by omega) rfl rfl <| .z) fun a w S => wp_seq_k fun _ hK3 => st_then S (.t rfl) (wp_skip (then_normal (hK3 _ _ (wp_seq_k fun _ hK3 => wp_block (wp_seq_k fun _ hK4 => wp_region_lit (run S (.ix underlying34 sizeOf74 (by omega) rfl rfl <| .yy (ys_ldOA ⟨isAgg74, sizeOf74⟩ (.t rfl) (vs := [_, _, _, _, _, _]) rfl (fun _ => hcy)) rfl <| .z) fun a w S => st_m (op_alloc S zeroValue74 (cs := _) rfl rfl fun g3 a w S => st_m (op_stW S sizeOf74 (.t rfl) (.t rfl) (k := 0) rfl rfl rfl (by simp [Value.oneCell']) fun a w S => st_nil (then_normal (hK4 _ _ (wp_seq_k fun _ hK4 => wp_region_lit (run S (.fa underlying74 sizeOf62 1 rfl rfl rfl <| .la gt62 0 rfl rfl rfl <| .fa underlying74 sizeOf62 1 rfl rfl rfl <| .la gt62 1 rfl rfl rfl <| .yy (ys_eqA (.t rfl) (.t rfl) eq62) rfl <| .z) fun a w S => ?_))))))))))))
        rw [rw_e] at S
        refine st_nil (then_normal (hK4 _ _ (st_else S (.t rfl) (wp_skip (in_normal (then_normal (hK3 _ _ (wp_region_lit (run S (.ad (by unfold I64; omega) rfl <| .mv rfl <| .z) fun a w S => st_nil (then_normal ?_))))))))))
        exact ⟨j + 1, ⟨by omega, dup_step hy hdup he⟩, by omega, S.pk⟩
    · obtain rfl : j = (k + 1) := by omega
      rw [if_neg hnb, if_neg hdup] at he0
      rw [if_pos he0] at hst
      refine sg S (.ge (by omega) rfl rfl <| .z) fun a w S => wp_seq_k fun _ hK3 => st_else S (.t rfl) (wp_exit (then_exit (then_exit (in_here (in_normal (then_normal (hK2 _ _ (wp_region_lit (run S (.ad (by unfold I64; omega) rfl <| .mv rfl <| .z) fun a w S => st_nil (then_normal ?_))))))))))
      exact ⟨(k + 1) + 1, ⟨by omega, hst.symm⟩, by omega, S.pk⟩
  · rw [if_pos (.inr (by simp [backE, hlt2]))] at he0
    rw [bad (by rw [he0]; decide), he0]
    have rw_l : decide (ltE p x) = false := decide_eq_false hlt2
    refine sg S (.lt (by omega) rfl rfl <| .z) fun a w S => wp_seq_k fun _ hK2 => st_then S (.t rfl) (wp_skip (then_normal (hK2 _ _ (wp_seq_k fun _ hK2 => wp_block (wp_seq_k fun _ hK3 => wp_region_lit (run S (.mv rfl <| .ix underlying34 sizeOf74 (by omega) rfl rfl <| .yy (ys_ldOA ⟨isAgg74, sizeOf74⟩ (.t rfl) (vs := [_, _, _, _, _, _]) rfl (fun _ => hc)) rfl <| .z) fun a w S => st_m (op_alloc S zeroValue74 (cs := _) rfl rfl fun g2 a w S => run S (.as rfl <| .z) fun a w S => st_m (op_stW S sizeOf74 (.t rfl) (.t rfl) (k := 0) rfl rfl rfl (by simp [Value.oneCell']) fun a w S => st_nil (then_normal (hK3 _ _ (wp_seq_k fun _ hK3 => wp_block (wp_seq_k fun _ hK4 => wp_region_lit (run S (.fa underlying74 sizeOf9 0 rfl rfl rfl <| .ld gt9 0 rfl rfl rfl <| .xx (ys_call call49 (.cons (.t rfl) .nil) (fun hp w W => c49 _ _)) rfl <| .z) fun a w S => ?_)))))))))))))
    rw [rw_n] at S
    refine run S (.nt rfl <| .as rfl <| .z) fun a w S => st_nil (then_normal (hK4 _ _ (st_else S (.t rfl) (wp_seq_k fun _ hK4 => wp_region_lit (run S (.fa underlying74 sizeOf3 4 rfl rfl rfl <| .ld gt3 0 rfl rfl rfl <| .xx (ys_call call50 (.cons (.t rfl) (.cons Ev.c .nil)) (fun hp w W => c50 _ _ _)) rfl <| .z) fun a w S => ?_)))))
    rw [rw_q] at S
    refine run S (.nt rfl <| .as rfl <| .z) fun a w S => st_nil (then_normal (hK4 _ _ (st_else S (.t rfl) (wp_seq_k fun _ hK4 => wp_region_lit (run S (.fa underlying74 sizeOf27 5 rfl rfl rfl <| .ld gt27 0 rfl rfl rfl <| .xx (ys_call call51 (.cons (.t rfl) .nil) (fun hp w W => c51 _ _)) rfl <| .z) fun a w S => ?_)))))
    rw [rw_p] at S
    refine run S (.nt rfl <| .as rfl <| .z) fun a w S => st_nil (then_normal (hK4 _ _ (st_else S (.t rfl) (wp_seq_k fun _ hK4 => st_quiet S (by kernel_rfl) (by kernel_rfl) fun a S => qrun S (.fa underlying40 sizeOf38 1 rfl rfl rfl <| .la gt38 1 rfl rfl rfl <| .fa underlying74 sizeOf62 1 rfl rfl rfl <| .la gt62 0 rfl rfl rfl <| .xx (ys_call call52 (.cons (.t rfl) (.cons (.t rfl) .nil)) (fun hp w W => c52 _ _ _ _ _ _ _ (by exact .old W (by assumption)))) rfl <| .z) fun a S => ?_))))
    rw [rw_cov] at S
    rw [rw_c] at S
    refine qrun S (.nt rfl <| .mv rfl <| .gy rfl rfl (ys_move (.t rfl)) <| .gy rfl rfl (ys_T (by omega) (ys_gtr (.t rfl) Ev.c)) <| .gy rfl rfl (ys_move (.t rfl)) <| .gy rfl rfl (ys_ldA ⟨isAgg74, sizeOf74⟩ (.t rfl) (k := 0) rfl rfl) <| .gy rfl rfl (ys_fieldN (FieldT.mk underlying40 rfl sizeOf34 rfl) (.t rfl) (i' := 0) rfl) <| .gy rfl rfl (ys_ld ⟨isAgg34, sizeOf34⟩ (.t rfl) (k := 1) rfl rfl) <| .gy rfl rfl (ys_move (.t rfl)) <| .gy rfl rfl (ys_pred (.t rfl) Ev.c (by omega)) <| .gy rfl rfl (ys_ixS underlying34 sizeOf74 (.t rfl) (.t rfl) (fun _ => by omega)) <| .gy rfl rfl (ys_ldOA ⟨isAgg74, sizeOf74⟩ (.t rfl) (vs := [_, _, _, _, _, _]) rfl (fun _ => hcp)) <| .gx rfl rfl (ys_call call53 (.cons (.t rfl) (.cons (.t rfl) .nil)) (fun hp w W => c53 _ _ _)) <| .z) fun a S => ?_
    rw [rw_l] at S
    refine qrun S (.gy rfl rfl (ys_not (.t rfl)) <| .gy rfl rfl (ys_pickT (.t rfl) (.t rfl)) <| .yy (ys_pickF (.t rfl) (.t rfl)) rfl <| .as rfl <| .z) fun a S => ?_
    (refine q_nil ?_; intro w W; replace S := St.mk S W; clear W)
    refine then_normal (hK4 _ _ (st_then S (.t rfl) (sg S (.ac rfl <| .z) fun a w S => wp_ret (in_ret (then_ret (in_ret (then_ret (then_ret (in_ret (then_ret (st_ret S (results1 S results20 (Rv.tmp rfl)) ?_)))))))))))
    exact ⟨rfl, S.wd.below⟩
end Go.Proofs.Ytfblmkocmnbdcaa
set_option linter.unusedVariables false
set_option linter.unusedSimpArgs false
set_option maxRecDepth 100000
namespace Go.Proofs.Ytfblmkocmnbdcaa
open Go.Fw Go.Proofs Go.RowKit Go.Proofs.Try
theorem c133 (w0 w : World) (L : List Chunk) (A1 A2 : Option Addr) (c1 c2 : Nat) (m d : List Dot) (W : Wd w0 (rowOf 110 3 Dot.enc A1 c1 m :: rowOf 62 3 Dot.enc A2 c2 d :: L) w) (hn : m.length + d.length ≤ 4000000) (hi : ∀ x ∈ m, mayD x = true) (hi' : ∀ x ∈ d, mayD x = true) :
    RetsO Try.prog 133 #[.slice A1 m.length c1, .slice A2 d.length c2] w0 w fun v L' => ∃ A1' c1' A2' c2', v = .agg #[.slice A1' (settledL (d.length + 1) m d).marks.length c1', .slice A2' (settledL (d.length + 1) m d).cloud.length c2'] ∧
      L' = rowOf 110 3 Dot.enc A1' c1' (settledL (d.length + 1) m d).marks :: rowOf 62 3 Dot.enc A2' c2' (settledL (d.length + 1) m d).cloud :: L := by
  refine enterW2 W func133 rfl ntmps133 rfl fun a S => ?_
  clear W
  refine wp_seq_k fun _ hK1 => wp_region_lit (st_m (op_alloc S zeroValue38 (cs := _) rfl rfl fun g1 a w S => st_nil (then_normal (hK1 _ _ (wp_seq_k fun _ hK1 => sg S (.ac rfl <| .z) fun a w S => wp_block ?_)))))
  refine st_lpK S.back2 (X := Bool × Option Addr × Nat × List Dot × Option Addr × Nat × List Dot)
    (fun q => [(5, true, .bool q.1), (0, true, .slice q.2.1 q.2.2.2.1.length q.2.2.1), (1, true, .slice q.2.2.2.2.1 q.2.2.2.2.2.2.length q.2.2.2.2.2.1)])
    (fun q _ => rowOf 110 3 Dot.enc q.2.1 q.2.2.1 q.2.2.2.1 :: rowOf 62 3 Dot.enc q.2.2.2.2.1 q.2.2.2.2.2.1 q.2.2.2.2.2.2 :: .blk g1 (.cells #[.slice none 0 0, .slice none 0 0] 38) :: L)
    (fun q => (∀ x ∈ q.2.2.2.1, mayD x = true) ∧ (∀ x ∈ q.2.2.2.2.2.2, mayD x = true) ∧ q.2.2.2.1.length + q.2.2.2.2.2.2.length ≤ 4000000 ∧ (q.1 = true → ∃ f, q.2.2.2.2.2.2.length < f ∧ settledL f q.2.2.2.1 q.2.2.2.2.2.2 = settledL (d.length + 1) m d) ∧ (q.1 = false → ⟨q.2.2.2.1, q.2.2.2.2.2.2⟩ = settledL (d.length + 1) m d))
    (fun q => if q.1 then q.2.2.2.2.2.2.length + 1 else 0) (true, A1, c1, m, A2, c2, d) ⟨hi, hi', hn, fun _ => ⟨_, Nat.lt_succ_self _, rfl⟩, fun h => by cases h⟩ ?_
  clear S
  intro ⟨again, B, cB, ms, D, cD, ds⟩ a w ⟨hms, hds, hln, hag, hno⟩ S
  dsimp only at hms hds hln hag hno S
  cases again
  · have hno := hno rfl
    refine wp_seq_k fun _ hK2 => sg S (.mv rfl <| .z) fun a w S => st_else S (.t rfl) (wp_exit (then_exit (then_exit (in_here (then_normal (hK1 _ _ (wp_seq_k fun _ hK1 => wp_region_lit (run S (.mv rfl <| .mv rfl <| .yy (ys_bld (ps := [(0, Go.Operand.tmp 43), (1, Go.Operand.tmp 44)]) (us := [_, _]) bld38 (.cons (.t rfl) (.cons (.t rfl) .nil)) rfl) rfl <| .z) fun a w S => st_m (op_stW S sizeOf38 (.t rfl) (.t rfl) (k := 2) rfl rfl rfl (by simp [Value.oneCell']) fun a w S => st_nil (then_normal (hK1 _ _ (wp_ret (st_ret S (results1 S results133 (Rv.cell (k := 2) ⟨isAgg38, sizeOf38⟩ rfl rfl rfl)) ?_)))))))))))))
    rw [← hno]
    exact ⟨_, _, rfl, S.wd.sub (by repeat (first | exact List.Sublist.refl _ | exact List.nil_sublist _ | refine .cons_cons _ ?_ | refine .cons _ ?_)), B, cB, D, cD, rfl, rfl⟩
  · obtain ⟨f, hf, hset⟩ := hag rfl
    clear hno hag
    refine wp_seq_k fun _ hK2 => sg S (.mv rfl <| .z) fun a w S => st_then S (.t rfl) (wp_skip (then_normal (hK2 _ _ (wp_block (sg S (.ac rfl <| .z) fun a w S => sg S (.ac rfl <| .z) fun a w S => wp_seq_k fun _ hK2 => sg S (.mv rfl <| .ln underlying36 rfl <| .mc rfl <| .z) fun a w S => wp_block ?_)))))
    refine st_lpK (S.nil_ 62 3 Dot.enc none).swap (X := Nat × Bool × Option Addr × Nat × List Dot × Option Addr × Nat × List Dot)
      (fun q => [(13, true, .int .i64 (q.1 : Int)), (5, true, .bool q.2.1), (0, true, .slice q.2.2.1 q.2.2.2.2.1.length q.2.2.2.1), (6, true, .slice q.2.2.2.2.2.1 q.2.2.2.2.2.2.2.length q.2.2.2.2.2.2.1)])
      (fun q _ => rowOf 110 3 Dot.enc q.2.2.1 q.2.2.2.1 q.2.2.2.2.1 :: rowOf 62 3 Dot.enc q.2.2.2.2.2.1 q.2.2.2.2.2.2.1 q.2.2.2.2.2.2.2 :: rowOf 62 3 Dot.enc D cD ds :: .blk g1 (.cells #[.slice none 0 0, .slice none 0 0] 38) :: L)
      (fun q => q.1 ≤ ds.length ∧ (∀ x ∈ q.2.2.2.2.1, mayD x = true) ∧ q.2.2.2.2.1.length + q.2.2.2.2.2.2.2.length + (ds.length - q.1) ≤ 4000000 ∧ settleIn (ds.drop q.1) q.2.2.2.2.1 q.2.2.2.2.2.2.2 q.2.1 = settleIn ds ms [] false)
      (fun q => ds.length - q.1) (0, false, B, cB, ms, none, 0, []) ⟨Nat.zero_le _, hms, by dsimp only [List.length_nil]; omega, rfl⟩ ?_
    clear S
    intro ⟨k, ag, B', cB', ms', E, cE, ls⟩ a w ⟨hk, hms', hln', hno⟩ S
    dsimp only at hk hms' hln' hno S
    by_cases hlt : k < ds.length
    · obtain ⟨g, y, rfl, hmm, hd⟩ := own_at (k := 2) S.wd rfl hlt
      have hmay := hds y (List.mem_of_getElem? hmm)
      have hmk := markOf_may (x := y.node) (y := y.life) hms'
      rw [hd, settleIn] at hno
      refine sg S (.lt (by omega) rfl rfl <| .z) fun a w S => wp_seq_k fun _ hK3 => st_then S (.t rfl) (wp_skip (then_normal (hK3 _ _ (wp_seq_k fun _ hK3 => wp_block (wp_seq_k fun _ hK4 => wp_region_lit (run S (.ix underlying36 sizeOf62 (by omega) rfl rfl <| .yy (ys_ldWA ⟨isAgg62, sizeOf62⟩ (.t rfl) (k := 2) rfl hmm (fun _ => rfl)) rfl <| .z) fun a w S => st_m (op_alloc S zeroValue62 (cs := _) rfl rfl fun g2 a w S => st_m (op_stW S sizeOf62 (.t rfl) (.t rfl) (k := 0) rfl rfl rfl (by simp [Value.oneCell']) fun a w S => st_nil (then_normal (hK4 _ _ (sg S (.mv rfl <| .fa underlying62 sizeOf3 0 rfl rfl rfl <| .ld gt3 0 rfl rfl rfl <| .fa underlying62 sizeOf3 1 rfl rfl rfl <| .ld gt3 0 rfl rfl rfl <| .xx (ys_call call100 (.cons (.t rfl) (.cons (.t rfl) (.cons (.t rfl) .nil))) (fun hp w W => c100 _ _ _ _ _ (by exact Sl.of_own W (k := 1) rfl (fun _ => rfl)))) rfl <| .as rfl <| .z) fun a w S => wp_block (sg S (.fa underlying62 sizeOf3 2 rfl rfl rfl <| .ld gt3 0 rfl rfl rfl <| .mv rfl <| .yy (ys_leq (.t rfl) (.t rfl)) rfl <| .as rfl <| .z) fun a w S => ?_))))))))))))
      refine st_if S (.t rfl) (fun h1 => ?_) (fun h1 => ?_)
      refine wp_skip (in_normal (in_normal (then_normal (hK3 _ _ (wp_region_lit (run S (.ad (by unfold I64; omega) rfl <| .mv rfl <| .z) fun a w S => st_nil (then_normal ?_)))))))
      rotate_left
      refine sg S (.fa underlying62 sizeOf3 2 rfl rfl rfl <| .ld gt3 0 rfl rfl rfl <| .mv rfl <| .ad (by unfold I64; omega) rfl <| .yy (ys_eql (.t rfl) (.t rfl)) rfl <| .as rfl <| .z) fun a w S => ?_
      refine st_if S (.t rfl) (fun h2 => ?_) (fun h2 => ?_)
      refine wp_seq_k fun _ hK4 => wp_region_lit (run S (.mv rfl <| .la gt62 0 rfl rfl rfl <| .z) fun a w S => ?_)
      (refine st_m (op_calls S call131 (.cons (.t rfl) (.cons (.t rfl) .nil)) (c131 _ _ _ _ _ _ (by exact Sl.of_own S.wd (k := 1) rfl (fun _ => rfl)) (by omega)) rfl ?_); clear S a w; rintro _ _ ⟨A3, c3, rfl, rfl⟩ a w S)
      refine run S (.as rfl <| .z) fun a w S => st_nil (then_normal (hK4 _ _ (wp_region_lit (run S (.ac rfl <| .z) fun a w S => st_nil (in_normal (in_normal (then_normal (hK3 _ _ (wp_region_lit (run S (.ad (by unfold I64; omega) rfl <| .mv rfl <| .z) fun a w S => st_nil (then_normal ?_)))))))))))
      rotate_left
      refine wp_region_lit (run S (.mv rfl <| .la gt62 0 rfl rfl rfl <| .z) fun a w S => st_m (op_bslice1 S underlying36 inf62 rfl rfl rfl (.t rfl) rfl rfl rfl fun g3 a w S => st_m (op_push S underlying36 inf62 rfl (k := 3) (j := 0) rfl (.t rfl) (.t rfl) rfl rfl rfl rfl (by first | omega | (simp only [List.length_append, List.length_cons, List.length_nil]; omega)) rfl rfl rfl fun A3 cap1 a w S => run S (.as rfl <| .z) fun a w S => st_nil (in_normal (in_normal (then_normal (hK3 _ _ (wp_region_lit (run S (.ad (by unfold I64; omega) rfl <| .mv rfl <| .z) fun a w S => st_nil (then_normal ?_))))))))))
      rotate_left
      · rw [if_pos h1] at hno
        exact ⟨(k + 1, ag, B', cB', ms', E, cE, ls), ⟨by dsimp only; omega, hms', by dsimp only; omega, hno⟩, by dsimp only; omega, S.wk⟩
      · rw [if_neg h1, if_pos h2] at hno
        have hsl := setL_len y ms' false
        simp only [Bool.false_eq_true, if_false] at hsl
        exact ⟨(k + 1, true, A3, c3, setL y false ms', E, cE, ls), ⟨by dsimp only; omega, setL_may hmay hms', by dsimp only; omega, hno⟩, by dsimp only; omega, S.wk⟩
      · rw [if_neg h1, if_neg h2] at hno
        exact ⟨(k + 1, ag, B', cB', ms', A3, cap1, ls ++ [y]), ⟨by dsimp only; omega, hms', by simp; omega, hno⟩, by dsimp only; omega, S.wk⟩
    · refine sg S (.ge (by omega) rfl rfl <| .z) fun a w S => wp_seq_k fun _ hK3 => st_else S (.t rfl) (wp_exit (then_exit (then_exit (in_here (then_normal (hK2 _ _ (wp_region_lit (run S (.mv rfl <| .as rfl <| .z) fun a w S => st_nil (in_normal (then_normal ?_))))))))))
      have hend : k = ds.length := by omega
      subst hend
      rw [List.drop_length, settleIn] at hno
      have hl3 := settleIn_len ds ms [] false
      have hv := settleIn_may (b := false) hds hms (l := []) (by simp)
      rw [← hno] at hl3 hv
      simp only [List.length_nil] at hl3
      obtain ⟨f, rfl⟩ : ∃ f', f = f' + 1 := ⟨f - 1, by omega⟩
      rw [settledL, ← hno] at hset
      refine ⟨(ag, B', cB', ms', E, cE, ls), ⟨hv.1, hv.2, by dsimp only; omega, fun h => ?_, fun h => ?_⟩, ?_, S.wk⟩
      · dsimp only at h
        subst h
        exact ⟨f, by have := hl3.2.1 trivial rfl; dsimp only; omega, hset⟩
      · dsimp only at h
        subst h
        exact hset
      · dsimp only
        cases ag
        · simp
        · have := hl3.2.1 trivial rfl
          simp; omega
theorem c109 (w0 : World) (v1 v2 : Value) (l d : List Dot) (h : Sl Dot.enc 3 w0 w0.heap.size v1 l) (h' : Sl Dot.enc 3 w0 w0.heap.size v2 d) (hn : l.length ≤ 1900000) (hn' : d.length ≤ 1900000) :
    Rets Try.prog 109 #[v1, v2] w0 fun v L => ∃ A1 c1 A2 c2, v = .tuple #[.agg #[.slice A1 (normalL l d).1.marks.length c1, .slice A2 (normalL l d).1.cloud.length c2], .int .i64 (normalL l d).2] ∧
      L = [rowOf 110 3 Dot.enc A1 c1 (normalL l d).1.marks, rowOf 62 3 Dot.enc A2 c2 (normalL l d).1.cloud] := by
  obtain ⟨A, cap, rfl, hl, hcap, hA⟩ := h
  obtain ⟨A', cap', rfl, hl', hcap', hA'⟩ := h'
  unfold Go.Fw.Rets
  refine enter2 func109 rfl ntmps109 rfl fun a S => wp_seq_k fun _ hK1 => wp_region_lit (st_m (op_alloc S zeroValue38 (cs := _) rfl rfl fun g1 a w S => run S (.ac rfl <| .z) fun a w S => st_nil (then_normal (hK1 _ _ (wp_seq_k fun _ hK1 => sg S (.mv rfl <| .ln underlying35 rfl <| .mc rfl <| .z) fun a w S => wp_block ?_)))))
  refine st_lpK S (X := Nat) (fun k => [(19, true, .int .i64 (k : Int))]) (fun _ L => L) (fun k => k ≤ l.length ∧ ∀ x ∈ l.take k, mayD x = true) (fun k => l.length - k) 0 ⟨Nat.zero_le _, by simp⟩ ?_
  clear S
  intro k a w ⟨hk, hno⟩ S
  by_cases hlt : k < l.length
  · obtain ⟨g, o, m, rfl, hmm, hd, hc⟩ := row_at hA hlt
    clear hA
    refine sg S (.lt (by omega) rfl rfl <| .z) fun a w S => wp_seq_k fun _ hK2 => st_then S (.t rfl) (wp_skip (then_normal (hK2 _ _ (wp_seq_k fun _ hK2 => wp_block (wp_seq_k fun _ hK3 => wp_region_lit (run S (.ix underlying35 sizeOf110 (by omega) rfl rfl <| .yy (ys_ldOA ⟨isAgg110, sizeOf110⟩ (.t rfl) (vs := [_, _, _]) rfl (fun _ => hc)) rfl <| .z) fun a w S => st_m (op_alloc S zeroValue110 (cs := _) rfl rfl fun g2 a w S => st_m (op_stW S sizeOf110 (.t rfl) (.t rfl) (k := 0) rfl rfl rfl (by simp [Value.oneCell']) fun a w S => st_nil (then_normal (hK3 _ _ (sg S (.la gt110 0 rfl rfl rfl <| .xx (ys_call call99 (.cons (.t rfl) .nil) (fun hp w W => c99 _ _ _ _)) rfl <| .nt rfl <| .z) fun a w S => ?_)))))))))))
    refine st_cond S (.t rfl) (fun h1 => ?_) (fun h1 => ?_)
    refine wp_seq_k fun _ hK3 => wp_region_lit (run S (.yy (ys_bld (ps := []) (us := [_, _]) bld38 .nil rfl) rfl <| .z) fun a w S => st_m (op_stW S sizeOf38 (.t rfl) (.t rfl) (k := 1) rfl rfl rfl (by simp [Value.oneCell']) fun a w S => run S (.ac rfl <| .z) fun a w S => st_nil (then_normal (hK3 _ _ (wp_ret (in_ret (then_ret (then_ret (in_ret (then_ret (st_ret S (results2 S results109 (Rv.cell (k := 1) ⟨isAgg38, sizeOf38⟩ rfl rfl rfl) (Rv.tmp rfl)) ?_)))))))))))
    rotate_left
    refine wp_skip (in_normal (then_normal (hK2 _ _ (wp_region_lit (run S (.ad (by unfold I64; omega) rfl <| .mv rfl <| .z) fun a w S => st_nil (then_normal ?_))))))
    rotate_left
    · rw [normalL_bad1 hmm (by simpa using h1)]
      exact ⟨_, _, rfl, ((S.nil_ 62 3 Dot.enc none).nil_ 110 3 Dot.enc none).wd.sub (by repeat (first | exact List.Sublist.refl _ | exact List.nil_sublist _ | refine .cons_cons _ ?_ | refine .cons _ ?_)), none, 0, none, 0, rfl, rfl⟩
    · exact ⟨k + 1, ⟨by omega, all_step hmm hno (by simpa using h1)⟩, by omega, S.wk⟩
  · have hend : k = l.length := by omega
    subst hend
    rw [List.take_length] at hno
    have hml := hno
    clear hno
    refine sg S (.ge (by omega) rfl rfl <| .z) fun a w S => wp_seq_k fun _ hK2 => st_else S (.t rfl) (wp_exit (then_exit (then_exit (in_here (then_normal (hK1 _ _ (wp_seq_k fun _ hK1 => sg S (.mv rfl <| .ln underlying36 rfl <| .mc rfl <| .z) fun a w S => wp_block ?_)))))))
    refine st_lpK S (X := Nat) (fun k => [(30, true, .int .i64 (k : Int))]) (fun _ L => L) (fun k => k ≤ d.length ∧ ∀ x ∈ d.take k, mayD x = true) (fun k => d.length - k) 0 ⟨Nat.zero_le _, by simp⟩ ?_
    clear S
    intro k a w ⟨hk, hno⟩ S
    by_cases hlt : k < d.length
    · obtain ⟨g, o, m, rfl, hmm, hd, hc⟩ := row_at hA' hlt
      clear hA'
      refine sg S (.lt (by omega) rfl rfl <| .z) fun a w S => wp_seq_k fun _ hK3 => st_then S (.t rfl) (wp_skip (then_normal (hK3 _ _ (wp_seq_k fun _ hK3 => wp_block (wp_seq_k fun _ hK4 => wp_region_lit (run S (.ix underlying36 sizeOf62 (by omega) rfl rfl <| .yy (ys_ldOA ⟨isAgg62, sizeOf62⟩ (.t rfl) (vs := [_, _, _]) rfl (fun _ => hc)) rfl <| .z) fun a w S => st_m (op_alloc S zeroValue62 (cs := _) rfl rfl fun g2 a w S => st_m (op_stW S sizeOf62 (.t rfl) (.t rfl) (k := 0) rfl rfl rfl (by simp [Value.oneCell']) fun a w S => st_nil (then_normal (hK4 _ _ (sg S (.la gt62 0 rfl rfl rfl <| .xx (ys_call call59 (.cons (.t rfl) .nil) (fun hp w W => c59 _ _ _ _)) rfl <| .nt rfl <| .z) fun a w S => ?_)))))))))))
      refine st_cond S (.t rfl) (fun h1 => ?_) (fun h1 => ?_)
      refine wp_seq_k fun _ hK4 => wp_region_lit (run S (.yy (ys_bld (ps := []) (us := [_, _]) bld38 .nil rfl) rfl <| .z) fun a w S => st_m (op_stW S sizeOf38 (.t rfl) (.t rfl) (k := 1) rfl rfl rfl (by simp [Value.oneCell']) fun a w S => run S (.ac rfl <| .z) fun a w S => st_nil (then_normal (hK4 _ _ (wp_ret (in_ret (then_ret (then_ret (in_ret (then_ret (st_ret S (results2 S results109 (Rv.cell (k := 1) ⟨isAgg38, sizeOf38⟩ rfl rfl rfl) (Rv.tmp rfl)) ?_)))))))))))
      rotate_left
      refine wp_skip (in_normal (then_normal (hK3 _ _ (wp_region_lit (run S (.ad (by unfold I64; omega) rfl <| .mv rfl <| .z) fun a w S => st_nil (then_normal ?_))))))
      rotate_left
      · rw [normalL_bad2 hmm (by simpa using h1)]
        exact ⟨_, _, rfl, ((S.nil_ 62 3 Dot.enc none).nil_ 110 3 Dot.enc none).wd.sub (by repeat (first | exact List.Sublist.refl _ | exact List.nil_sublist _ | refine .cons_cons _ ?_ | refine .cons _ ?_)), none, 0, none, 0, rfl, rfl⟩
      · exact ⟨k + 1, ⟨by omega, all_step hmm hno (by simpa using h1)⟩, by omega, S.wk⟩
    · have hend : k = d.length := by omega
      subst hend
      rw [List.take_length] at hno
      have hmd := hno
      clear hno
      refine sg S (.ge (by omega) rfl rfl <| .z) fun a w S => wp_seq_k fun _ hK3 => st_else S (.t rfl) (wp_exit (then_exit (then_exit (in_here (then_normal (hK1 _ _ (sg S (.ac rfl <| .z) fun a w S => wp_seq_k fun _ hK1 => sg S (.mv rfl <| .ln underlying35 rfl <| .mc rfl <| .z) fun a w S => wp_block ?_)))))))
      refine st_lpK (S.nil_ 110 3 Dot.enc none) (X := Nat × Option Addr × Nat) (fun q => [(41, true, .int .i64 (q.1 : Int)), (10, true, .slice q.2.1 (setF (l.take q.1)).length q.2.2)])
        (fun q _ => rowOf 110 3 Dot.enc q.2.1 q.2.2 (setF (l.take q.1)) :: [.blk g1 (.cells #[.slice none 0 0, .slice none 0 0] 38)]) (fun q => q.1 ≤ l.length) (fun q => l.length - q.1) (0, none, 0) (Nat.zero_le _) ?_
      clear S
      intro ⟨k, B1, cB1⟩ a w hk S
      dsimp only at hk S
      have hfl := setF_len (l.take k)
      rw [List.length_take] at hfl
      by_cases hlt : k < l.length
      · obtain ⟨g, o, m, rfl, hmm, hd, hc⟩ := row_at hA hlt
        clear hA
        refine sg S (.lt (by omega) rfl rfl <| .z) fun a w S => wp_seq_k fun _ hK4 => st_then S (.t rfl) (wp_skip (then_normal (hK4 _ _ (wp_seq_k fun _ hK4 => wp_block (wp_seq_k fun _ hK5 => wp_region_lit (run S (.ix underlying35 sizeOf110 (by omega) rfl rfl <| .yy (ys_ldOA ⟨isAgg110, sizeOf110⟩ (.t rfl) (vs := [_, _, _]) rfl (fun _ => hc)) rfl <| .z) fun a w S => st_m (op_alloc S zeroValue110 (cs := _) rfl rfl fun g2 a w S => st_m (op_stW S sizeOf110 (.t rfl) (.t rfl) (k := 0) rfl rfl rfl (by simp [Value.oneCell']) fun a w S => st_nil (then_normal (hK5 _ _ (wp_region_lit (run S (.mv rfl <| .la gt110 0 rfl rfl rfl <| .z) fun a w S => ?_))))))))))))
        (refine st_m (op_calls S call131 (.cons (.t rfl) (.cons (.t rfl) .nil)) (c131 _ _ _ _ _ _ (by exact Sl.of_own S.wd (k := 1) rfl (fun _ => rfl)) (by omega)) rfl ?_); clear S a w; rintro _ _ ⟨A1, c1, rfl, rfl⟩ a w S)
        refine run S (.as rfl <| .z) fun a w S => st_nil (in_normal (then_normal (hK4 _ _ (wp_region_lit (run S (.ad (by unfold I64; omega) rfl <| .mv rfl <| .z) fun a w S => st_nil (then_normal ?_))))))
        exact ⟨(k + 1, A1, c1), by dsimp only; omega, by dsimp only; omega, by dsimp only; rw [setF_step hmm]; exact S.wk⟩
      · have hend : k = l.length := by omega
        subst hend
        rw [List.take_length] at S
        refine sg S (.ge (by omega) rfl rfl <| .z) fun a w S => wp_seq_k fun _ hK4 => st_else S (.t rfl) (wp_exit (then_exit (then_exit (in_here (then_normal (hK1 _ _ (sg S (.ac rfl <| .z) fun a w S => wp_seq_k fun _ hK1 => sg S (.mv rfl <| .ln underlying36 rfl <| .mc rfl <| .z) fun a w S => wp_block ?_)))))))
        refine st_lpK (S.nil_ 62 3 Dot.enc none) (X := Nat × Option Addr × Nat) (fun q => [(51, true, .int .i64 (q.1 : Int)), (13, true, .slice q.2.1 (insF (d.take q.1)).length q.2.2)])
          (fun q _ => rowOf 62 3 Dot.enc q.2.1 q.2.2 (insF (d.take q.1)) :: [rowOf 110 3 Dot.enc B1 cB1 (setF l), .blk g1 (.cells #[.slice none 0 0, .slice none 0 0] 38)]) (fun q => q.1 ≤ d.length) (fun q => d.length - q.1) (0, none, 0) (Nat.zero_le _) ?_
        clear S
        intro ⟨k, B2, cB2⟩ a w hk S
        dsimp only at hk S
        have hfl := insF_len (d.take k)
        rw [List.length_take] at hfl
        by_cases hlt : k < d.length
        · obtain ⟨g, o, m, rfl, hmm, hd, hc⟩ := row_at hA' hlt
          clear hA'
          refine sg S (.lt (by omega) rfl rfl <| .z) fun a w S => wp_seq_k fun _ hK5 => st_then S (.t rfl) (wp_skip (then_normal (hK5 _ _ (wp_seq_k fun _ hK5 => wp_block (wp_seq_k fun _ hK6 => wp_region_lit (run S (.ix underlying36 sizeOf62 (by omega) rfl rfl <| .yy (ys_ldOA ⟨isAgg62, sizeOf62⟩ (.t rfl) (vs := [_, _, _]) rfl (fun _ => hc)) rfl <| .z) fun a w S => st_m (op_alloc S zeroValue62 (cs := _) rfl rfl fun g2 a w S => st_m (op_stW S sizeOf62 (.t rfl) (.t rfl) (k := 0) rfl rfl rfl (by simp [Value.oneCell']) fun a w S => st_nil (then_normal (hK6 _ _ (wp_region_lit (run S (.mv rfl <| .la gt62 0 rfl rfl rfl <| .z) fun a w S => ?_))))))))))))
          (refine st_m (op_calls S call132 (.cons (.t rfl) (.cons (.t rfl) .nil)) (c132 _ _ _ _ _ _ (by exact Sl.of_own S.wd (k := 1) rfl (fun _ => rfl)) (by omega)) rfl ?_); clear S a w; rintro _ _ ⟨A1, c1, rfl, rfl⟩ a w S)
          refine run S (.as rfl <| .z) fun a w S => st_nil (in_normal (then_normal (hK5 _ _ (wp_region_lit (run S (.ad (by unfold I64; omega) rfl <| .mv rfl <| .z) fun a w S => st_nil (then_normal ?_))))))
          exact ⟨(k + 1, A1, c1), by dsimp only; omega, by dsimp only; omega, by dsimp only; rw [insF_step hmm]; exact S.wk⟩
        · have hend : k = d.length := by omega
          subst hend
          rw [List.take_length] at S
          refine sg S (.ge (by omega) rfl rfl <| .z) fun a w S => wp_seq_k fun _ hK5 => st_else S (.t rfl) (wp_exit (then_exit (then_exit (in_here (then_normal (hK1 _ _ (wp_seq_k fun _ hK1 => wp_region_lit (run S (.mv rfl <| .mv rfl <| .z) fun a w S => ?_))))))))
          have hl1 := setF_len l
          have hl2 := insF_len d
          refine st_m (op_callO S.swap call133 (.cons (.t rfl) (.cons (.t rfl) .nil)) (c133 _ _ _ _ _ _ _ _ _ S.swap.wd (by omega) (setF_may hml) (insF_may hmd)) rfl ?_)
          clear S
          rintro _ _ ⟨A3, c3, A4, c4, rfl, rfl⟩ a w S
          refine st_m (op_alloc S zeroValue38 (cs := _) rfl rfl fun g2 a w S => st_m (op_stW S sizeOf38 (.t rfl) (.t rfl) (k := 0) rfl rfl rfl (by simp [Value.oneCell']) fun a w S => st_nil (then_normal (hK1 _ _ (wp_seq_k fun _ hK1 => wp_seq_k fun _ hK6 => wp_region_lit (run S (.fa underlying38 sizeOf35 0 rfl rfl rfl <| .ld gt35 0 rfl rfl rfl <| .ln underlying35 rfl <| .yy (ys_gtr (.t rfl) Ev.c) rfl <| .mv rfl <| .z) fun a w S => st_yf S rfl rfl (Yr.ys (ys_fieldN (FieldT.mk underlying38 rfl sizeOf36 rfl) (.t rfl) (i' := 1) rfl)) rfl fun a w S => st_yf S rfl rfl (Yr.ys (ys_ld ⟨isAgg36, sizeOf36⟩ (Ev.g rfl) (k := 0) rfl rfl)) rfl fun a w S => st_yf S rfl rfl (Yr.ys (ys_lenS underlying36 (Ev.g rfl))) rfl fun a w S => st_yf S rfl rfl (Yr.ys (ys_gtr (Ev.g rfl) Ev.c)) rfl fun a w S => run S (.yy (ys_or (.t rfl) Ev.c (Ev.g rfl)) rfl <| .z) fun a w S => st_nil (then_normal (hK6 _ _ ?_))))))))
          refine st_cond S (.t rfl) (fun h1 => ?_) (fun h1 => ?_)
          refine wp_seq_k fun _ hK6 => wp_region_lit (run S (.yy (ys_bld (ps := []) (us := [_, _]) bld38 .nil rfl) rfl <| .z) fun a w S => st_m (op_stW S sizeOf38 (.t rfl) (.t rfl) (k := 3) rfl rfl rfl (by simp [Value.oneCell']) fun a w S => run S (.ac rfl <| .z) fun a w S => st_nil (then_normal (hK6 _ _ (wp_ret (then_ret (st_ret S (results2 S results109 (Rv.cell (k := 3) ⟨isAgg38, sizeOf38⟩ rfl rfl rfl) (Rv.tmp rfl)) ?_)))))))
          rotate_left
          refine wp_skip (then_normal (hK1 _ _ (wp_seq_k fun _ hK1 => wp_region_lit (run S (.la gt38 0 rfl rfl rfl <| .z) fun a w S => st_m (op_stW S sizeOf38 (.t rfl) (.t rfl) (k := 3) rfl rfl rfl (by simp [Value.oneCell']) fun a w S => run S (.ac rfl <| .z) fun a w S => st_nil (then_normal (hK1 _ _ (wp_ret (st_ret S (results2 S results109 (Rv.cell (k := 3) ⟨isAgg38, sizeOf38⟩ rfl rfl rfl) (Rv.tmp rfl)) ?_)))))))))
          rotate_left
          · rw [normalL_ok hml hmd, if_pos (by simp at h1; omega)]
            exact ⟨_, _, rfl, ((S.nil_ 62 3 Dot.enc none).nil_ 110 3 Dot.enc none).wd.sub (by repeat (first | exact List.Sublist.refl _ | exact List.nil_sublist _ | refine .cons_cons _ ?_ | refine .cons _ ?_)), none, 0, none, 0, rfl, rfl⟩
          · rw [normalL_ok hml hmd, if_neg (by simp at h1; omega)]
            exact ⟨_, _, rfl, S.wd.sub (by repeat (first | exact List.Sublist.refl _ | exact List.nil_sublist _ | refine .cons_cons _ ?_ | refine .cons _ ?_)), A3, c3, A4, c4, rfl, rfl⟩
end Go.Proofs.Ytfblmkocmnbdcaa
set_option linter.unusedVariables false
set_option linter.unusedSimpArgs false
set_option maxRecDepth 100000
namespace Go.Proofs.Ytfblmkocmnbdcaa
open Go.Fw Go.Proofs Go.RowKit Go.Proofs.Try
theorem c110 (w0 : World) (x : Int) : Calls Try.prog 110 #[.int .i64 x] w0 fun e w' => e = .returned (.bool (decide (0 ≤ x) && decide (x < 8))) ∧ Bel w0.heap.size w0 w' := by
  refine enter1 func110 rfl ntmps110 rfl fun a S => sg S (.ac rfl <| .z) fun a w S => wp_seq_k fun _ hK1 => wp_region_lit (run S (.mv rfl <| .yy (ys_geq (.t rfl) Ev.c) rfl <| .mv rfl <| .z) fun a w S => st_yg S rfl rfl (Yr.ys (ys_move (.t rfl))) rfl fun a w S => st_yg S rfl rfl (Yr.ys (ys_lss (Ev.g rfl) Ev.c)) rfl fun a w S => run S (.yy (ys_and (.t rfl) (Ev.g rfl) Ev.c) rfl <| .as rfl <| .z) fun a w S => st_nil (then_normal (hK1 _ _ (wp_ret (st_ret S (results1 S results110 (Rv.tmp rfl)) ?_)))))
  exact ⟨rfl, S.wd.below⟩
theorem c111 (w0 : World) (x : Int) : Calls Try.prog 111 #[.int .i64 x] w0 fun e w' => e = .returned (.bool (decide (1 ≤ x) && decide (x ≤ 1099511627776))) ∧ Bel w0.heap.size w0 w' := by
  refine enter1 func111 rfl ntmps111 rfl fun a S => sg S (.ac rfl <| .z) fun a w S => wp_seq_k fun _ hK1 => wp_region_lit (run S (.mv rfl <| .yy (ys_geq (.t rfl) Ev.c) rfl <| .mv rfl <| .z) fun a w S => st_yg S rfl rfl (Yr.ys (ys_move (.t rfl))) rfl fun a w S => st_yg S rfl rfl (Yr.ys (ys_leq (Ev.g rfl) Ev.c)) rfl fun a w S => run S (.yy (ys_and (.t rfl) (Ev.g rfl) Ev.c) rfl <| .as rfl <| .z) fun a w S => st_nil (then_normal (hK1 _ _ (wp_ret (st_ret S (results1 S results111 (Rv.tmp rfl)) ?_)))))
  exact ⟨rfl, S.wd.below⟩
theorem c112 (w0 : World) (x : Int) : Calls Try.prog 112 #[.int .i64 x] w0 fun e w' => e = .returned (.bool (decide (1 ≤ x) && decide (x ≤ 1099511627776))) ∧ Bel w0.heap.size w0 w' := by
  refine enter1 func112 rfl ntmps112 rfl fun a S => sg S (.ac rfl <| .z) fun a w S => wp_seq_k fun _ hK1 => wp_region_lit (run S (.mv rfl <| .yy (ys_geq (.t rfl) Ev.c) rfl <| .mv rfl <| .z) fun a w S => st_yg S rfl rfl (Yr.ys (ys_move (.t rfl))) rfl fun a w S => st_yg S rfl rfl (Yr.ys (ys_leq (Ev.g rfl) Ev.c)) rfl fun a w S => run S (.yy (ys_and (.t rfl) (Ev.g rfl) Ev.c) rfl <| .as rfl <| .z) fun a w S => st_nil (then_normal (hK1 _ _ (wp_ret (st_ret S (results1 S results112 (Rv.tmp rfl)) ?_)))))
  exact ⟨rfl, S.wd.below⟩
theorem c67 (w0 : World) (x y z : Int) (b : Bool) (hb : mayD ⟨x, y, z⟩ = b) :
    Calls Try.prog 67 #[.agg #[.int .i64 x, .int .i64 y, .int .i64 z]] w0 fun e w' => e = .returned (.bool b) ∧ Bel w0.heap.size w0 w' := by
  refine enter1 func67 rfl ntmps67 rfl fun a S => wp_seq_k fun _ hK1 => wp_region_lit (st_m (op_box S (.t rfl) rfl fun g1 a w S => run S (.ac rfl <| .z) fun a w S => st_nil (then_normal (hK1 _ _ (wp_seq_k fun _ hK1 => wp_region_lit (run S (.fa underlying62 sizeOf3 0 rfl rfl rfl <| .ld gt3 0 rfl rfl rfl <| .xx (ys_call call110 (.cons (.t rfl) .nil) (fun hp w W => c110 _ _)) rfl <| .mv rfl <| .z) fun a w S => st_yg S rfl rfl (Yr.ys (ys_fieldN (FieldT.mk underlying62 rfl sizeOf3 rfl) (.t rfl) (i' := 1) rfl)) rfl fun a w S => st_yg S rfl rfl (Yr.ys (ys_ld ⟨isAgg3, sizeOf3⟩ (Ev.g rfl) (k := 0) rfl rfl)) rfl fun a w S => st_yg S rfl rfl (ys_call call111 (.cons (Ev.g rfl) .nil) (fun hp w W => c111 _ _)) rfl fun a w S => run S (.yy (ys_and (.t rfl) (Ev.g rfl) Ev.c) rfl <| .mv rfl <| .z) fun a w S => st_yg S rfl rfl (Yr.ys (ys_fieldN (FieldT.mk underlying62 rfl sizeOf3 rfl) (.t rfl) (i' := 2) rfl)) rfl fun a w S => st_yg S rfl rfl (Yr.ys (ys_ld ⟨isAgg3, sizeOf3⟩ (Ev.g rfl) (k := 0) rfl rfl)) rfl fun a w S => st_yg S rfl rfl (ys_call call112 (.cons (Ev.g rfl) .nil) (fun hp w W => c112 _ _)) rfl fun a w S => run S (.yy (ys_and (.t rfl) (Ev.g rfl) Ev.c) rfl <| .as rfl <| .z) fun a w S => st_nil (then_normal (hK1 _ _ (wp_ret (st_ret S (results1 S results67 (Rv.tmp rfl)) ?_))))))))))
  refine ⟨?_, S.wd.below⟩
  subst hb
  simp [mayD, Bool.and_assoc]
theorem c68 (w0 : World) (x y z x' y' z' : Int) (h : (0 ≤ x ∧ x ≤ 1099511627776) ∧ (0 ≤ y ∧ y ≤ 1099511627776) ∧ 0 ≤ z ∧ z ≤ 1099511627776) (h' : (0 ≤ x' ∧ x' ≤ 1099511627776) ∧ (0 ≤ y' ∧ y' ≤ 1099511627776) ∧ 0 ≤ z' ∧ z' ≤ 1099511627776) :
    Calls Try.prog 68 #[.agg #[.int .i64 x, .int .i64 y, .int .i64 z], .agg #[.int .i64 x', .int .i64 y', .int .i64 z']] w0 fun e w' => e = .returned (.int .i64 (orderD ⟨x, y, z⟩ ⟨x', y', z'⟩)) ∧ Bel w0.heap.size w0 w' := by
  refine enter2 func68 rfl ntmps68 rfl fun a S => wp_seq_k fun _ hK1 => wp_region_lit (st_m (op_box S (.t rfl) rfl fun g1 a w S => st_m (op_box S (.t rfl) rfl fun g2 a w S => run S (.ac rfl <| .z) fun a w S => st_nil (then_normal (hK1 _ _ (wp_seq_k fun _ hK1 => wp_block (sg S (.fa underlying62 sizeOf3 0 rfl rfl rfl <| .ld gt3 1 rfl rfl rfl <| .fa underlying62 sizeOf3 0 rfl rfl rfl <| .ld gt3 0 rfl rfl rfl <| .yy (ys_neq (.t rfl) (.t rfl)) rfl <| .as rfl <| .z) fun a w S => ?_)))))))
  refine st_if S (.t rfl) (fun h1 => ?_) (fun h1 => ?_)
  refine sg S (.fa underlying62 sizeOf3 0 rfl rfl rfl <| .ld gt3 1 rfl rfl rfl <| .fa underlying62 sizeOf3 0 rfl rfl rfl <| .ld gt3 0 rfl rfl rfl <| .yy (ys_subI (.t rfl) (.t rfl) (fun _ => by unfold I64; omega)) rfl <| .as rfl <| .z) fun a w S => wp_ret (in_ret (then_ret (st_ret S (results1 S results68 (Rv.tmp rfl)) ?_)))
  rotate_left
  refine sg S (.fa underlying62 sizeOf3 1 rfl rfl rfl <| .ld gt3 1 rfl rfl rfl <| .fa underlying62 sizeOf3 1 rfl rfl rfl <| .ld gt3 0 rfl rfl rfl <| .yy (ys_neq (.t rfl) (.t rfl)) rfl <| .as rfl <| .z) fun a w S => ?_
  refine st_if S (.t rfl) (fun h2 => ?_) (fun h2 => ?_)
  refine sg S (.fa underlying62 sizeOf3 1 rfl rfl rfl <| .ld gt3 1 rfl rfl rfl <| .fa underlying62 sizeOf3 1 rfl rfl rfl <| .ld gt3 0 rfl rfl rfl <| .yy (ys_subI (.t rfl) (.t rfl) (fun _ => by unfold I64; omega)) rfl <| .as rfl <| .z) fun a w S => wp_ret (in_ret (then_ret (st_ret S (results1 S results68 (Rv.tmp rfl)) ?_)))
  rotate_left
  refine wp_skip (in_normal (then_normal (hK1 _ _ (sg S (.fa underlying62 sizeOf3 2 rfl rfl rfl <| .ld gt3 1 rfl rfl rfl <| .fa underlying62 sizeOf3 2 rfl rfl rfl <| .ld gt3 0 rfl rfl rfl <| .yy (ys_subI (.t rfl) (.t rfl) (fun _ => by unfold I64; omega)) rfl <| .as rfl <| .z) fun a w S => wp_ret (st_ret S (results1 S results68 (Rv.tmp rfl)) ?_)))))
  rotate_left
  all_goals refine ⟨?_, S.wd.below⟩
  all_goals simp_all [orderD]
theorem c27 (w0 : World) (v1 v2 : Value) (C : Ctx) (h : RdCtx w0 w0.heap.size v1 v2 C) :
    Calls Try.prog 27 #[.agg #[v1, v2]] w0 fun e w' => e = .returned (.bool (canL C)) ∧ Bel w0.heap.size w0 w' := by
  obtain ⟨⟨A, cap, rfl, hl, hcap, hA⟩, ⟨A', cap', rfl, hl', hcap', hA'⟩⟩ := h
  have hS : Sl Dot.enc 3 w0 w0.heap.size (.slice A C.marks.length cap) C.marks := ⟨A, cap, rfl, hl, hcap, hA⟩
  refine enter1 func27 rfl ntmps27 rfl fun a S => wp_seq_k fun _ hK1 => wp_region_lit (st_m (op_box S (.t rfl) rfl fun g1 a w S => run S (.ac rfl <| .z) fun a w S => st_nil (then_normal (hK1 _ _ (wp_seq_k fun _ hK1 => wp_seq_k fun _ hK2 => wp_region_lit (run S (.fa underlying38 sizeOf35 0 rfl rfl rfl <| .ld gt35 0 rfl rfl rfl <| .ln underlying35 rfl <| .yy (ys_gtr (.t rfl) Ev.c) rfl <| .mv rfl <| .z) fun a w S => st_yf S rfl rfl (Yr.ys (ys_fieldN (FieldT.mk underlying38 rfl sizeOf36 rfl) (.t rfl) (i' := 1) rfl)) rfl fun a w S => st_yf S rfl rfl (Yr.ys (ys_ld ⟨isAgg36, sizeOf36⟩ (Ev.g rfl) (k := 0) rfl rfl)) rfl fun a w S => st_yf S rfl rfl (Yr.ys (ys_lenS underlying36 (Ev.g rfl))) rfl fun a w S => st_yf S rfl rfl (Yr.ys (ys_gtr (Ev.g rfl) Ev.c)) rfl fun a w S => run S (.yy (ys_or (.t rfl) Ev.c (Ev.g rfl)) rfl <| .z) fun a w S => st_nil (then_normal (hK2 _ _ ?_))))))))
  refine st_cond S (.t rfl) (fun h1 => ?_) (fun h1 => ?_)
  refine sg S (.ac rfl <| .z) fun a w S => wp_ret (then_ret (st_ret S (results1 S results27 (Rv.tmp rfl)) ?_))
  rotate_left
  refine wp_skip (then_normal (hK1 _ _ (wp_seq_k fun _ hK1 => sg S (.fa underlying38 sizeOf35 0 rfl rfl rfl <| .ld gt35 0 rfl rfl rfl <| .ln underlying35 rfl <| .mc rfl <| .z) fun a w S => wp_block ?_)))
  rotate_left
  · exact ⟨by rw [canL_big (by simp at h1; omega)], S.wd.below⟩
  · have hbig : C.marks.length ≤ 64 ∧ C.cloud.length ≤ 64 := by simp at h1; omega
    refine st_lpK S (X := Nat) (fun k => [(21, true, .int .i64 (k : Int))]) (fun _ L => L) (fun k => k ≤ C.marks.length ∧ (∀ x ∈ C.marks.take k, mayD x = true) ∧ okM (prevD C.marks k) (C.marks.drop k) = okM none C.marks) (fun k => C.marks.length - k) 0 ⟨Nat.zero_le _, by simp, rfl⟩ ?_
    clear S h1
    intro k a w ⟨hk, hmy, hno⟩ S
    by_cases hlt : k < C.marks.length
    · obtain ⟨g, o, m, rfl, hmm, hd, hc⟩ := row_at hA hlt
      rw [hd, okM] at hno
      cases hb : mayD m with
      | false =>
        refine sg S (.lt (by omega) rfl rfl <| .z) fun a w S => wp_seq_k fun _ hK2 => st_then S (.t rfl) (wp_skip (then_normal (hK2 _ _ (wp_seq_k fun _ hK2 => wp_block (wp_seq_k fun _ hK3 => wp_region_lit (run S (.mv rfl <| .ix underlying35 sizeOf110 (by omega) rfl rfl <| .yy (ys_ldOA ⟨isAgg110, sizeOf110⟩ (.t rfl) (vs := [_, _, _]) rfl (fun _ => hc)) rfl <| .z) fun a w S => st_m (op_alloc S zeroValue110 (cs := _) rfl rfl fun g2 a w S => run S (.as rfl <| .z) fun a w S => st_m (op_stW S sizeOf110 (.t rfl) (.t rfl) (k := 0) rfl rfl rfl (by simp [Value.oneCell']) fun a w S => st_nil (then_normal (hK3 _ _ (wp_seq_k fun _ hK3 => sg S (.la gt110 0 rfl rfl rfl <| .xx (ys_call call66 (.cons (.t rfl) .nil) (fun hp w W => c66 _ _ _ _)) rfl <| .xx (ys_call call67 (.cons (.t rfl) .nil) (fun hp w W => c67 _ _ _ _ _ (by assumption))) rfl <| .nt rfl <| .z) fun a w S => st_then S (.t rfl) (sg S (.ac rfl <| .z) fun a w S => wp_ret (then_ret (in_ret (then_ret (then_ret (in_ret (then_ret (st_ret S (results1 S results27 (Rv.tmp rfl)) ?_)))))))))))))))))))
        exact ⟨by rw [canL_M (by rw [← hno, hb]; rfl)], S.wd.below⟩
      | true =>
        have hlm := may_lim hb
        rcases k with _ | k
        · refine sg S (.lt (by omega) rfl rfl <| .z) fun a w S => wp_seq_k fun _ hK2 => st_then S (.t rfl) (wp_skip (then_normal (hK2 _ _ (wp_seq_k fun _ hK2 => wp_block (wp_seq_k fun _ hK3 => wp_region_lit (run S (.mv rfl <| .yy (ys_ixS (j := 0) underlying35 sizeOf110 (.t rfl) (.t rfl) (fun _ => by omega)) rfl <| .yy (ys_ldOA ⟨isAgg110, sizeOf110⟩ (.t rfl) (vs := [_, _, _]) rfl (fun _ => hc)) rfl <| .z) fun a w S => st_m (op_alloc S zeroValue110 (cs := _) rfl rfl fun g2 a w S => run S (.as rfl <| .z) fun a w S => st_m (op_stW S sizeOf110 (.t rfl) (.t rfl) (k := 0) rfl rfl rfl (by simp [Value.oneCell']) fun a w S => st_nil (then_normal (hK3 _ _ (wp_seq_k fun _ hK3 => sg S (.la gt110 0 rfl rfl rfl <| .xx (ys_call call66 (.cons (.t rfl) .nil) (fun hp w W => c66 _ _ _ _)) rfl <| .xx (ys_call call67 (.cons (.t rfl) .nil) (fun hp w W => c67 _ _ _ _ _ (by assumption))) rfl <| .nt rfl <| .z) fun a w S => st_else S (.t rfl) (wp_skip (then_normal (hK3 _ _ (sg S (.mv rfl <| .yy (ys_F (by omega) (ys_gtr (.t rfl) Ev.c)) rfl <| .z) fun a w S => st_else S (.t rfl) (wp_skip (in_normal (then_normal (hK2 _ _ (wp_region_lit (run S (.ad (by unfold I64; omega) rfl <| .mv rfl <| .z) fun a w S => st_nil ?_)))))))))))))))))))))
          refine then_normal ?_
          exact ⟨0 + 1, ⟨by omega, all_step hmm hmy hb, by rw [prevD, hmm, ← hno, hb]; rfl⟩, by omega, S.wk⟩
        · obtain ⟨g', o', m', e', hmm', hd', hc'⟩ := row_at hA (show k < C.marks.length by omega)
          cases e'
          have hlm' := may_lim (hmy m' (by rw [List.take_add_one, hmm']; simp))
          have e : orderD m'.nl m.nl = orderD ⟨m'.node, m'.life, 0⟩ ⟨m.node, m.life, 0⟩ := rfl
          refine sg S (.lt (by omega) rfl rfl <| .z) fun a w S => wp_seq_k fun _ hK2 => st_then S (.t rfl) (wp_skip (then_normal (hK2 _ _ (wp_seq_k fun _ hK2 => wp_block (wp_seq_k fun _ hK3 => wp_region_lit (run S (.mv rfl <| .ix underlying35 sizeOf110 (by omega) rfl rfl <| .yy (ys_ldOA ⟨isAgg110, sizeOf110⟩ (.t rfl) (vs := [_, _, _]) rfl (fun _ => hc)) rfl <| .z) fun a w S => st_m (op_alloc S zeroValue110 (cs := _) rfl rfl fun g2 a w S => run S (.as rfl <| .z) fun a w S => st_m (op_stW S sizeOf110 (.t rfl) (.t rfl) (k := 0) rfl rfl rfl (by simp [Value.oneCell']) fun a w S => st_nil (then_normal (hK3 _ _ (wp_seq_k fun _ hK3 => sg S (.la gt110 0 rfl rfl rfl <| .xx (ys_call call66 (.cons (.t rfl) .nil) (fun hp w W => c66 _ _ _ _)) rfl <| .xx (ys_call call67 (.cons (.t rfl) .nil) (fun hp w W => c67 _ _ _ _ _ (by assumption))) rfl <| .nt rfl <| .z) fun a w S => st_else S (.t rfl) (wp_skip (then_normal (hK3 _ _ (sg S (.mv rfl <| .yy (ys_T (by omega) (ys_gtr (.t rfl) Ev.c)) rfl <| .z) fun a w S => st_then S (.t rfl) (wp_seq_k fun _ hK3 => wp_region_lit ?_))))))))))))))))
          refine run S (.fa underlying38 sizeOf35 0 rfl rfl rfl <| .ld gt35 1 rfl rfl rfl <| .mv rfl <| .yy (ys_pred (.t rfl) Ev.c (by omega)) rfl <| .ix underlying35 sizeOf110 (by omega) rfl rfl <| .yy (ys_ldOA ⟨isAgg110, sizeOf110⟩ (.t rfl) (vs := [_, _, _]) rfl (fun _ => hc')) rfl <| .z) fun a w S => st_m (op_alloc S zeroValue110 (cs := _) rfl rfl fun g3 a w S => st_m (op_stW S sizeOf110 (.t rfl) (.t rfl) (k := 0) rfl rfl rfl (by simp [Value.oneCell']) fun a w S => st_nil (then_normal (hK3 _ _ (sg S (.fa underlying110 sizeOf3 0 rfl rfl rfl <| .ld gt3 0 rfl rfl rfl <| .fa underlying110 sizeOf3 1 rfl rfl rfl <| .ld gt3 0 rfl rfl rfl <| .yy (ys_bld (ps := [(0, Go.Operand.tmp 39), (1, Go.Operand.tmp 41)]) (us := [_, _, _]) bld62 (.cons (.t rfl) (.cons (.t rfl) .nil)) rfl) rfl <| .fa underlying110 sizeOf3 0 rfl rfl rfl <| .ld gt3 1 rfl rfl rfl <| .fa underlying110 sizeOf3 1 rfl rfl rfl <| .ld gt3 1 rfl rfl rfl <| .yy (ys_bld (ps := [(0, Go.Operand.tmp 44), (1, Go.Operand.tmp 46)]) (us := [_, _, _]) bld62 (.cons (.t rfl) (.cons (.t rfl) .nil)) rfl) rfl <| .xx (ys_call call68 (.cons (.t rfl) (.cons (.t rfl) .nil)) (fun hp w W => c68 _ _ _ _ _ _ _ (by omega) (by omega))) rfl <| .yy (ys_geq (.t rfl) Ev.c) rfl <| .z) fun a w S => ?_)))))
          refine st_if S (.t rfl) (fun h1 => ?_) (fun h1 => ?_)
          refine sg S (.ac rfl <| .z) fun a w S => wp_ret (in_ret (then_ret (then_ret (in_ret (then_ret (st_ret S (results1 S results27 (Rv.tmp rfl)) ?_))))))
          rotate_left
          refine wp_skip (in_normal (then_normal (hK2 _ _ (wp_region_lit (run S (.ad (by unfold I64; omega) rfl <| .mv rfl <| .z) fun a w S => st_nil (then_normal ?_))))))
          rotate_left
          · exact ⟨by rw [canL_M (by rw [← hno, hb, prevD, hmm', gapM, decide_eq_false (by omega)]; rfl)], S.wd.below⟩
          · exact ⟨k + 1 + 1, ⟨by omega, all_step hmm hmy hb, by rw [prevD, hmm, ← hno, hb, prevD, hmm', gapM, decide_eq_true (by omega)]; rfl⟩, by omega, S.wk⟩
    · have hend : k = C.marks.length := by omega
      subst hend
      rw [List.take_length] at hmy
      rw [List.drop_length, okM] at hno
      have hM := hno.symm
      clear hno hk hlt
      refine sg S (.ge (by omega) rfl rfl <| .z) fun a w S => wp_seq_k fun _ hK2 => st_else S (.t rfl) (wp_exit (then_exit (then_exit (in_here (then_normal (hK1 _ _ (wp_seq_k fun _ hK1 => sg S (.fa underlying38 sizeOf36 1 rfl rfl rfl <| .ld gt36 0 rfl rfl rfl <| .ln underlying36 rfl <| .mc rfl <| .z) fun a w S => wp_block ?_)))))))
      refine st_lpK S (X := Nat) (fun k => [(54, true, .int .i64 (k : Int))]) (fun _ L => L) (fun k => k ≤ C.cloud.length ∧ (∀ x ∈ C.cloud.take k, mayD x = true) ∧ okC C.marks (prevD C.cloud k) (C.cloud.drop k) = okC C.marks none C.cloud) (fun k => C.cloud.length - k) 0 ⟨Nat.zero_le _, by simp, rfl⟩ ?_
      clear S
      intro k a w ⟨hk, hmy', hno⟩ S
      by_cases hlt : k < C.cloud.length
      · obtain ⟨g, o, m, rfl, hmm, hd, hc⟩ := row_at hA' hlt
        rw [hd, okC] at hno
        have hmk := markOf_may (x := m.node) (y := m.life) hmy
        cases hb : mayD m with
        | false =>
          refine sg S (.lt (by omega) rfl rfl <| .z) fun a w S => wp_seq_k fun _ hK3 => st_then S (.t rfl) (wp_skip (then_normal (hK3 _ _ (wp_seq_k fun _ hK3 => wp_block (wp_seq_k fun _ hK4 => wp_region_lit (run S (.mv rfl <| .ix underlying36 sizeOf62 (by omega) rfl rfl <| .yy (ys_ldOA ⟨isAgg62, sizeOf62⟩ (.t rfl) (vs := [_, _, _]) rfl (fun _ => hc)) rfl <| .z) fun a w S => st_m (op_alloc S zeroValue62 (cs := _) rfl rfl fun g2 a w S => run S (.as rfl <| .z) fun a w S => st_m (op_stW S sizeOf62 (.t rfl) (.t rfl) (k := 0) rfl rfl rfl (by simp [Value.oneCell']) fun a w S => st_nil (then_normal (hK4 _ _ (wp_seq_k fun _ hK4 => st_quiet S (by kernel_rfl) (by kernel_rfl) fun a S => qrun S (.la gt62 0 rfl rfl rfl <| .xx (ys_call call67 (.cons (.t rfl) .nil) (fun hp w W => c67 _ _ _ _ _ (by assumption))) rfl <| .nt rfl <| .mv rfl <| .sk rfl rfl rfl <| .sk rfl rfl rfl <| .sk rfl rfl rfl <| .s0 rfl rfl <| .s0 rfl rfl <| .s0 rfl rfl <| .s0 rfl rfl <| .s0 rfl rfl <| .s0 rfl rfl <| .s0 rfl rfl <| .s0 rfl rfl <| .s0 rfl rfl <| .sk rfl rfl rfl <| .yy (ys_pickT (.t rfl) Ev.c) rfl <| .mv rfl <| .sk rfl rfl rfl <| .sk rfl rfl rfl <| .sk rfl rfl rfl <| .sk rfl rfl rfl <| .sk rfl rfl rfl <| .sk rfl rfl rfl <| .sk rfl rfl rfl <| .sk rfl rfl rfl <| .yy (ys_pickT (.t rfl) Ev.c) rfl <| .z) fun a S => ?_)))))))))))
          (refine q_nil ?_; intro w W; replace S := St.mk S W; clear W)
          refine then_normal (hK4 _ _ (st_then S (.t rfl) (sg S (.ac rfl <| .z) fun a w S => wp_ret (in_ret (then_ret (then_ret (in_ret (then_ret (st_ret S (results1 S results27 (Rv.tmp rfl)) ?_)))))))))
          exact ⟨by rw [canL_C (by rw [← hno, hb]; rfl)], S.wd.below⟩
        | true =>
          have hlm := may_lim hb
          rcases k with _ | k
          · refine sg S (.lt (by omega) rfl rfl <| .z) fun a w S => wp_seq_k fun _ hK3 => st_then S (.t rfl) (wp_skip (then_normal (hK3 _ _ (wp_seq_k fun _ hK3 => wp_block (wp_seq_k fun _ hK4 => wp_region_lit (run S (.mv rfl <| .yy (ys_ixS (j := 0) underlying36 sizeOf62 (.t rfl) (.t rfl) (fun _ => by omega)) rfl <| .yy (ys_ldOA ⟨isAgg62, sizeOf62⟩ (.t rfl) (vs := [_, _, _]) rfl (fun _ => hc)) rfl <| .z) fun a w S => st_m (op_alloc S zeroValue62 (cs := _) rfl rfl fun g2 a w S => run S (.as rfl <| .z) fun a w S => st_m (op_stW S sizeOf62 (.t rfl) (.t rfl) (k := 0) rfl rfl rfl (by simp [Value.oneCell']) fun a w S => st_nil (then_normal (hK4 _ _ (wp_seq_k fun _ hK4 => st_quiet S (by kernel_rfl) (by kernel_rfl) fun a S => ?_)))))))))))
            refine qrun S (.la gt62 0 rfl rfl rfl <| .xx (ys_call call67 (.cons (.t rfl) .nil) (fun hp w W => c67 _ _ _ _ _ (by assumption))) rfl <| .nt rfl <| .mv rfl <| .gy rfl rfl (ys_move (.t rfl)) <| .gy rfl rfl (ys_F (by omega) (ys_gtr (.t rfl) Ev.c)) <| .gy rfl rfl (ys_move (.t rfl)) <| .sk rfl rfl rfl <| .sk rfl rfl rfl <| .sk rfl rfl rfl <| .sk rfl rfl rfl <| .sk rfl rfl rfl <| .sk rfl rfl rfl <| .sk rfl rfl rfl <| .sk rfl rfl rfl <| .sk rfl rfl rfl <| .gy rfl rfl (ys_pickF (.t rfl) Ev.c) <| .yy (ys_pickF (.t rfl) (.t rfl)) rfl <| .mv rfl <| .gy rfl rfl (ys_fieldN (FieldT.mk underlying62 rfl sizeOf3 rfl) (.t rfl) (i' := 2) rfl) <| .gy rfl rfl (ys_ld ⟨isAgg3, sizeOf3⟩ (.t rfl) (k := 0) rfl rfl) <| .gy rfl rfl (ys_ldA ⟨isAgg38, sizeOf38⟩ (.t rfl) (k := 1) rfl rfl) <| .gy rfl rfl (ys_ldA ⟨isAgg62, sizeOf62⟩ (.t rfl) (k := 0) rfl rfl) <| .gx rfl rfl (ys_call call65 (.cons (.t rfl) .nil) (fun hp w W => c65 _ _ _ _)) <| .gx rfl rfl (ys_call call69 (.cons (.t rfl) (.cons (.t rfl) .nil)) (fun hp w W => c69 _ _ _ _ _ _ (by exact .old W (by assumption)))) <| .gy rfl rfl (ys_addI (.t rfl) Ev.c (fun _ => by unfold I64; omega)) <| .gy rfl rfl (ys_leq (.t rfl) (.t rfl)) <| .yy (ys_pickF (.t rfl) (.t rfl)) rfl <| .z) fun a S => ?_
            (refine q_nil ?_; intro w W; replace S := St.mk S W; clear W)
            refine then_normal (hK4 _ _ ?_)
            refine st_if S (.t rfl) (fun h1 => ?_) (fun h1 => ?_)
            refine sg S (.ac rfl <| .z) fun a w S => wp_ret (in_ret (then_ret (then_ret (in_ret (then_ret (st_ret S (results1 S results27 (Rv.tmp rfl)) ?_))))))
            rotate_left
            refine wp_skip (in_normal (then_normal (hK3 _ _ (wp_region_lit (run S (.ad (by unfold I64; omega) rfl <| .mv rfl <| .z) fun a w S => st_nil (then_normal ?_))))))
            rotate_left
            · have hf : okC C.marks none C.cloud = false := by
                rw [← hno, Bool.eq_false_iff]
                intro hh
                simp [hb, prevD, gapC] at hh
                omega
              exact ⟨by rw [canL_C hf], S.wd.below⟩
            · exact ⟨0 + 1, ⟨by omega, all_step hmm hmy' hb, by rw [prevD, hmm, ← hno, hb, prevD, gapC, decide_eq_true (by omega)]; rfl⟩, by omega, S.wk⟩
          · obtain ⟨g', o', m', e', hmm', hd', hc'⟩ := row_at hA' (show k < C.cloud.length by omega)
            cases e'
            have hlm' := may_lim (hmy' m' (by rw [List.take_add_one, hmm']; simp))
            have e : orderD m' m = orderD ⟨m'.node, m'.life, m'.count⟩ ⟨m.node, m.life, m.count⟩ := rfl
            refine sg S (.lt (by omega) rfl rfl <| .z) fun a w S => wp_seq_k fun _ hK3 => st_then S (.t rfl) (wp_skip (then_normal (hK3 _ _ (wp_seq_k fun _ hK3 => wp_block (wp_seq_k fun _ hK4 => wp_region_lit (run S (.mv rfl <| .ix underlying36 sizeOf62 (by omega) rfl rfl <| .yy (ys_ldOA ⟨isAgg62, sizeOf62⟩ (.t rfl) (vs := [_, _, _]) rfl (fun _ => hc)) rfl <| .z) fun a w S => st_m (op_alloc S zeroValue62 (cs := _) rfl rfl fun g2 a w S => run S (.as rfl <| .z) fun a w S => st_m (op_stW S sizeOf62 (.t rfl) (.t rfl) (k := 0) rfl rfl rfl (by simp [Value.oneCell']) fun a w S => st_nil (then_normal (hK4 _ _ (wp_seq_k fun _ hK4 => st_quiet S (by kernel_rfl) (by kernel_rfl) fun a S => ?_)))))))))))
            refine qrun S (.la gt62 0 rfl rfl rfl <| .xx (ys_call call67 (.cons (.t rfl) .nil) (fun hp w W => c67 _ _ _ _ _ (by assumption))) rfl <| .nt rfl <| .mv rfl <| .gy rfl rfl (ys_move (.t rfl)) <| .gy rfl rfl (ys_T (by omega) (ys_gtr (.t rfl) Ev.c)) <| .gy rfl rfl (ys_move (.t rfl)) <| .gy rfl rfl (ys_fieldN (FieldT.mk underlying38 rfl sizeOf36 rfl) (.t rfl) (i' := 1) rfl) <| .gy rfl rfl (ys_ld ⟨isAgg36, sizeOf36⟩ (.t rfl) (k := 1) rfl rfl) <| .gy rfl rfl (ys_move (.t rfl)) <| .gy rfl rfl (ys_pred (.t rfl) Ev.c (by omega)) <| .gy rfl rfl (ys_ixS underlying36 sizeOf62 (.t rfl) (.t rfl) (fun _ => by omega)) <| .gy rfl rfl (ys_ldOA ⟨isAgg62, sizeOf62⟩ (.t rfl) (vs := [_, _, _]) rfl (fun _ => hc')) <| .gy rfl rfl (ys_ldA ⟨isAgg62, sizeOf62⟩ (.t rfl) (k := 0) rfl rfl) <| .gx rfl rfl (ys_call call68 (.cons (.t rfl) (.cons (.t rfl) .nil)) (fun hp w W => c68 _ _ _ _ _ _ _ (by omega) (by omega))) <| .gy rfl rfl (ys_geq (.t rfl) Ev.c) <| .gy rfl rfl (ys_pickT (.t rfl) (.t rfl)) <| .yy (ys_pickF (.t rfl) (.t rfl)) rfl <| .mv rfl <| .z) fun a S => q_yf S rfl rfl (Yr.ys (ys_fieldN (FieldT.mk underlying62 rfl sizeOf3 rfl) (.t rfl) (i' := 2) rfl)) rfl fun a S => q_yf S rfl rfl (Yr.ys (ys_ld ⟨isAgg3, sizeOf3⟩ (Ev.g rfl) (k := 0) rfl rfl)) rfl fun a S => q_yf S rfl rfl (Yr.ys (ys_ldA ⟨isAgg38, sizeOf38⟩ (.t rfl) (k := 1) rfl rfl)) rfl fun a S => ?_
            refine q_yf S rfl rfl (Yr.ys (ys_ldA ⟨isAgg62, sizeOf62⟩ (.t rfl) (k := 0) rfl rfl)) rfl fun a S => q_yf S rfl rfl (ys_call call65 (.cons (Ev.g rfl) .nil) (fun hp w W => c65 _ _ _ _)) rfl fun a S => q_yf S rfl rfl (ys_call call69 (.cons (Ev.g rfl) (.cons (Ev.g rfl) .nil)) (fun hp w W => c69 _ _ _ _ _ _ (by exact .old W (by assumption)))) rfl fun a S => q_yf S rfl rfl (Yr.ys (ys_addI (Ev.g rfl) Ev.c (fun _ => by unfold I64; omega))) rfl fun a S => q_yf S rfl rfl (Yr.ys (ys_leq (Ev.g rfl) (Ev.g rfl))) rfl fun a S => qrun S (.yy (ys_or (.t rfl) Ev.c (Ev.g rfl)) rfl <| .z) fun a S => ?_
            (refine q_nil ?_; intro w W; replace S := St.mk S W; clear W)
            refine then_normal (hK4 _ _ ?_)
            refine st_cond S (.t rfl) (fun h1 => ?_) (fun h1 => ?_)
            refine sg S (.ac rfl <| .z) fun a w S => wp_ret (in_ret (then_ret (then_ret (in_ret (then_ret (st_ret S (results1 S results27 (Rv.tmp rfl)) ?_))))))
            rotate_left
            refine wp_skip (in_normal (then_normal (hK3 _ _ (wp_region_lit (run S (.ad (by unfold I64; omega) rfl <| .mv rfl <| .z) fun a w S => st_nil (then_normal ?_))))))
            rotate_left
            · have hf : okC C.marks none C.cloud = false := by
                rw [← hno, Bool.eq_false_iff]
                intro hh
                simp [hb, prevD, hmm', gapC] at hh h1
                omega
              exact ⟨by rw [canL_C hf], S.wd.below⟩
            · simp at h1
              exact ⟨k + 1 + 1, ⟨by omega, all_step hmm hmy' hb, by rw [prevD, hmm, ← hno, hb, prevD, hmm', gapC, decide_eq_true (by omega), decide_eq_true (by omega)]; rfl⟩, by omega, S.wk⟩
      · have hend : k = C.cloud.length := by omega
        subst hend
        rw [List.drop_length, okC] at hno
        refine sg S (.ge (by omega) rfl rfl <| .z) fun a w S => wp_seq_k fun _ hK3 => st_else S (.t rfl) (wp_exit (then_exit (then_exit (in_here (then_normal (hK1 _ _ (sg S (.ac rfl <| .z) fun a w S => wp_ret (st_ret S (results1 S results27 (Rv.tmp rfl)) ?_))))))))
        exact ⟨by rw [canL_yes hbig hM hno.symm], S.wd.below⟩
end Go.Proofs.Ytfblmkocmnbdcaa
namespace Go.Fw
theorem Dot.enc_len (x : Dot) : (Dot.enc x).length = 3 := rfl
theorem Dot.enc_one (x : Dot) : ∀ u ∈ Dot.enc x, u.oneCell' = true := fun u hu => by simp [Dot.enc] at hu; rcases hu with rfl | rfl | rfl <;> rfl
end Go.Fw
set_option linter.unusedVariables false
set_option linter.unusedSimpArgs false
set_option maxRecDepth 100000
namespace Go.Proofs.Ytfblmkocmnbdcaa
open Go.Fw Go.Proofs Go.RowKit Go.Proofs.Try
instance (a b : Dot) : Decidable (ltM a b) := inferInstanceAs (Decidable (_ ∨ _))
end Go.Proofs.Ytfblmkocmnbdcaa
set_option linter.unusedVariables false
set_option linter.unusedSimpArgs false
namespace Go.Ft
open Go.RowKit
abbrev KL := List (Nat × Bool × Value)
def look : KL → Nat → Option (Bool × Value)
  | [], _ => none
  | (j, v) :: r, i => bif Nat.beq i j then some v else look r i
structure Kn (n : Nat) (K : KL) (a : Act) : Prop where
  defers : a.defers = []
  size : a.tmps.size = n
  slot : ∀ i g v, look K i = some (g, v) → a.tmps[i]? = some (bif g then v else undef)
def Ev (n : Nat) (b : Bool) (K : KL) (x : Operand) (v : Value) : Prop := ∀ a, b = true → Kn n K a → a.eval x = v
section kn
variable {n : Nat} {K : KL} {a : Act} {b : Bool}
theorem Ev.t {t : Nat} {v : Value} (h : look K t = some (true, v)) : Ev n b K (.tmp t) v := fun a _ hk => by
  simp [Act.eval, hk.slot t true v h]
theorem Ev.g {t : Nat} {v : Value} (h : look K t = some (b, v)) : Ev n b K (.tmp t) v := fun a hb hk => by
  simp [Act.eval, hk.slot t b v h, hb]
theorem Ev.c {v : Value} : Ev n b K (.const v) v := fun _ _ _ => rfl
theorem Ev.f {f : Nat} : Ev n b K (.func f) (.func (.func f) #[] #[]) := fun _ _ _ => rfl
def Fits (sn : List Nat) (K : KL) : KL → Prop
  | [] => True
  | (i, g, v) :: r => (List.elem i sn = true ∨ look K i = some (g, v)) ∧ Fits (i :: sn) K r
theorem Fits.look {K : KL} : ∀ {K' : KL} {sn : List Nat}, Fits sn K K' → ∀ i v, List.elem i sn = false → Ft.look K' i = some v → Ft.look K i = some v
  | [], _, _, i, v, _, h => by simp [Ft.look] at h
  | (j, g, u) :: r, sn, hf, i, v, hn, h => by
    obtain ⟨h1, h2⟩ := hf
    unfold Ft.look at h
    by_cases hi : i = j
    · subst hi
      simp only [Nat.beq_refl, cond_true, Option.some.injEq] at h
      rw [← h]
      rcases h1 with h1 | h1
      · rw [h1] at hn; cases hn
      · exact h1
    · have : Nat.beq i j = false := by simpa [Nat.beq_eq_true_eq, ← Bool.not_eq_true] using hi
      simp only [this, cond_false] at h
      refine Fits.look h2 i v ?_ h
      have hne : (i == j) = false := by simpa using hi
      simp only [List.elem, hne]
      exact hn
end kn
abbrev Dle (a b : Nat) : Prop := a ≤ b
theorem Dle.succ (a : Nat) : Dle a (a + 1) := by unfold Dle; omega
structure Bel (B : Nat) (w w' : World) : Prop extends Below B w w' where
  drawn : Dle w.drawn w'.drawn
section bel
variable {B B' : Nat} {a b c : World}
theorem Bel.refl (B : Nat) (w : World) : Bel B w w := ⟨Below.refl B w, Nat.le_refl _⟩
theorem Bel.trans (h : Bel B a b) (k : Bel B b c) : Bel B a c := ⟨h.toBelow.trans k.toBelow, Nat.le_trans h.drawn k.drawn⟩
theorem Bel.mono (h : Bel B a b) (hB : B' ≤ B) : Bel B' a b := ⟨h.toBelow.mono hB, h.drawn⟩
theorem Bel.drew (h : Bel B a b) : Bel B a b.drew := ⟨h.toBelow.drew, Nat.le_trans h.drawn (Dle.succ _)⟩
end bel
structure Turned (S : Nat → Prop) (w w' : World) : Prop where
  os : w'.os = w.os
  tape : w'.tape = w.tape
  output : w'.output = w.output
  size : w.heap.size ≤ w'.heap.size
  block : ∀ k, k < w.heap.size → ¬ S k → w'.heap[k]? = w.heap[k]?
  drawn : Dle w.drawn w'.drawn
theorem Turned.mono {S S' : Nat → Prop} {w w' : World} (h : Turned S w w') (hS : ∀ k, S k → S' k) : Turned S' w w' :=
  ⟨h.os, h.tape, h.output, h.size, fun k hk hn => h.block k hk fun e => hn (hS k e), h.drawn⟩
def Owns (w : World) (B : Nat) (e size : Nat) (A : Option Addr) (n cap : Nat) (xs : List Value) : Prop :=
  xs.length = n * size ∧ ((n = 0 ∧ cap = 0) ∨ ∃ g cur, A = some ⟨g, 0, none⟩ ∧ 0 < cap ∧ B ≤ g ∧ w.heap[g]? = some (.cells cur e (0, 0)) ∧ n ≤ cap ∧ cap ≤ maxLen ∧ cur.size = cap * size ∧ cur.toList.take (n * size) = xs)
inductive Chunk where
  | blk (b : Nat) (o : Obj)
  | row (e size : Nat) (A : Option Addr) (n cap : Nat) (xs : List Value)
  | ice (w1 : World) (bs : List Nat)
def Chunk.holds (B : Nat) (w : World) : Chunk → Prop
  | .blk b o => B ≤ b ∧ w.heap[b]? = some o
  | .row e size A n cap xs => Owns w B e size A n cap xs
  | .ice w1 bs => ∀ b ∈ bs, B ≤ b ∧ b < w.heap.size ∧ w.heap[b]? = w1.heap[b]?
def Chunk.own : Chunk → Nat → Prop
  | .blk b _ => fun x => x = b
  | .row _ _ A _ cap _ => fun x => cap ≠ 0 ∧ A.map (·.block) = some x
  | .ice _ bs => fun x => x ∈ bs
def Chunk.apart (c d : Chunk) : Prop := ∀ b, c.own b → ¬ d.own b
theorem Chunk.holds.lt {B : Nat} {w : World} {c : Chunk} (h : c.holds B w) {b : Nat} (hb : c.own b) : B ≤ b ∧ b < w.heap.size := by
  cases c with
  | blk b' o =>
    obtain ⟨h1, h2⟩ := h
    simp only [Chunk.own] at hb
    subst hb
    exact ⟨h1, (Array.getElem?_eq_some_iff.1 h2).1⟩
  | row e size A n cap xs =>
    obtain ⟨h0, hb⟩ := hb
    rcases h.2 with ⟨_, hc⟩ | ⟨g, cur, rfl, hp, hB, hg, _⟩
    · exact absurd hc h0
    · simp only [Option.map_some, Option.some.injEq] at hb
      subst hb
      exact ⟨hB, (Array.getElem?_eq_some_iff.1 hg).1⟩
  | ice w1 bs => exact ⟨(h b hb).1, (h b hb).2.1⟩
theorem Chunk.holds.keep {B : Nat} {w w' : World} {c : Chunk} (h : c.holds B w) (hs : w.heap.size ≤ w'.heap.size) (hk : ∀ b, c.own b → w'.heap[b]? = w.heap[b]?) : c.holds B w' := by
  cases c with
  | blk b o => exact ⟨h.1, (hk b rfl).trans h.2⟩
  | row e size A n cap xs =>
    refine ⟨h.1, ?_⟩
    rcases h.2 with hn | ⟨g, cur, rfl, hp, hb, hgg, rest⟩
    · exact .inl hn
    · exact .inr ⟨g, cur, rfl, hp, hb, (hk g ⟨Nat.pos_iff_ne_zero.1 hp, rfl⟩).trans hgg, rest⟩
  | ice w1 bs => exact fun b hb => ⟨(h b hb).1, Nat.lt_of_lt_of_le (h b hb).2.1 hs, (hk b hb).trans (h b hb).2.2⟩
theorem Chunk.holds.mono {B B' : Nat} {w : World} {c : Chunk} (h : c.holds B w) (hB : B' ≤ B) : c.holds B' w := by
  cases c with
  | blk b o => exact ⟨Nat.le_trans hB h.1, h.2⟩
  | row e size A n cap xs =>
    refine ⟨h.1, ?_⟩
    rcases h.2 with hn | ⟨g, cur, rfl, hp, hb, rest⟩
    · exact .inl hn
    · exact .inr ⟨g, cur, rfl, hp, Nat.le_trans hB hb, rest⟩
  | ice w1 bs => exact fun b hb => ⟨Nat.le_trans hB (h b hb).1, (h b hb).2⟩
structure Wd (w0 : World) (L : List Chunk) (w : World) : Prop where
  below : Bel w0.heap.size w0 w
  all : ∀ c ∈ L, c.holds w0.heap.size w
  apart : L.Pairwise Chunk.apart
section wd
variable {w0 : World} {L : List Chunk} {w w' : World}
theorem Wd.get (h : Wd w0 L w) {k : Nat} {c : Chunk} (hk : L[k]? = some c) : c.holds w0.heap.size w := h.all c (List.mem_of_getElem? hk)
theorem Wd.step (h : Wd w0 L w) (hb : Bel w.heap.size w w') : Wd w0 L w' :=
  ⟨h.below.trans (hb.mono h.below.size), fun c hc => (h.all c hc).keep hb.size fun b hbk => hb.block b ((h.all c hc).lt hbk).2, h.apart⟩
theorem Wd.drew (h : Wd w0 L w) : Wd w0 L w.drew := h.step (Bel.refl _ _).drew
end wd
section code
variable {P : Program} {Q : Exit → Act → World → Prop} {n : Nat} {w0 : World} {K : KL} {L : List Chunk} {a : Act} {w : World}
section enters
variable {f : FuncId} {fn : Func} {c : Code} {R : Ending → World → Prop} {v0 v1 v2 v3 v4 v5 v6 v7 v8 : Value}
end enters
def Ys (P : Program) (o : Oper) (n : Nat) (K : KL) (w0 : World) (L : List Chunk) (b : Bool) (v : Value) : Prop :=
  ∀ a w, b = true → Kn n K a → Wd w0 L w → Oper.quietUpon P (Wd w0 L) w v ((execOp a.eval o).run P w)
def Yr (P : Program) (o : Oper) (n : Nat) (K : KL) (w0 : World) (L : List Chunk) (b : Bool) (v : Value) : Prop :=
  ∀ a w, b = true → Kn n K a → Wd w0 L w → (execOp a.eval o).run P w = .ok (.value v) w
theorem Yr.ys {o : Oper} {b : Bool} {v : Value} (h : Yr P o n K w0 L b v) : Ys P o n K w0 L b v := fun a w hb hk hw => by
  rw [h a w hb hk hw]; exact ⟨rfl, rfl⟩
section list
variable {ops : Array Oper} {rest : List Oper} {op : Op} {ty : TypeId} {pos : String} {aft : Array Edge} {v : Value} {d t j : Nat} {p : Bool}
variable {Z : Act → Prop} {C : World → Prop}
end list
section held
variable {ops : Array Oper} {Lr : List Chunk} {fuel i : Nat} {listed : Array Bool} {op : Op} {ty : TypeId} {pos : String} {aft : Array Edge} {gd : Option (Nat × Bool)} {v : Value} {d t j : Nat} {p : Bool} {md : Region.Mode}
end held
end code
end Go.Ft
set_option linter.unusedVariables false
set_option linter.unusedSimpArgs false
namespace Go.Ft
open Go.RowKit
section ops
variable {P : Program} {n : Nat} {w0 : World} {K : KL} {L : List Chunk} {b : Bool} {dst : Option Tmp} {ty : TypeId} {pos : String} {aft : Array Edge} {gd : Option (Nat × Bool)}
def Many (P : Program) (t : TypeId) (k : Nat) : Prop := (∀ w, (isAgg t).run P w = .ok true w) ∧ ∀ w, (sizeOf t).run P w = .ok k w
def nth : List Value → Nat → Option Value
  | [], _ => none
  | v :: _, 0 => some v
  | _ :: r, i + 1 => nth r i
theorem nth_eq : ∀ (cs : List Value) (i : Nat), nth cs i = cs[i]?
  | [], i => by simp [nth]
  | v :: r, 0 => by simp [nth]
  | v :: r, i + 1 => by simp [nth, nth_eq r i]
def upto : List Value → Nat → Option (List Value)
  | _, 0 => some []
  | [], _ + 1 => none
  | v :: r, k + 1 => match upto r k with
    | some l => some (v :: l)
    | none => none
def cellsAt : List Value → Nat → Nat → Option (List Value)
  | cs, 0, k => upto cs k
  | [], _ + 1, _ => none
  | _ :: r, i + 1, k => cellsAt r i k
theorem upto_eq : ∀ {cs : List Value} {k : Nat} {vs : List Value}, upto cs k = some vs → vs.length = k ∧ vs = cs.take k
  | cs, 0, vs, h => by cases cs <;> simp [upto] at h <;> simp [h]
  | [], k + 1, vs, h => by simp [upto] at h
  | v :: r, k + 1, vs, h => by
    unfold upto at h
    split at h
    · rename_i l hl
      obtain ⟨h1, h2⟩ := upto_eq hl
      simp only [Option.some.injEq] at h
      subst h
      exact ⟨by simp [h1], by simp [← h2]⟩
    · cases h
theorem cellsAt_eq : ∀ {cs : List Value} {i k : Nat} {vs : List Value}, cellsAt cs i k = some vs → vs.length = k ∧ vs = (cs.drop i).take k
  | cs, 0, k, vs, h => by cases cs <;> exact upto_eq h
  | [], i + 1, k, vs, h => by simp [cellsAt] at h
  | v :: r, i + 1, k, vs, h => by simpa using cellsAt_eq (cs := r) (i := i) h
theorem run_load_many {t : TypeId} {k : Nat} (h1 : Many P t k) {w : World} {ad : Addr} {vs : List Value} (hl : vs.length = k) (hc : ∀ j u, vs[j]? = some u → w.cell? (ad.add j) = some u) :
    (loadVar t ad).run P w = .ok (.agg vs.toArray) w := by
  have h := run_loadCells_list (P := P) w ad vs hc
  rw [hl] at h
  simp [loadVar, Sem.run_bind, h1.1, h1.2, h]
theorem Owns.cell {w : World} {B e size n cap g : Nat} {xs : List Value} (h : Owns w B e size (some ⟨g, 0, none⟩) n cap xs) {j : Nat} {u : Value} (hj : xs[j]? = some u) : w.cell? ⟨g, j, none⟩ = some u := by
  rcases h.2 with ⟨h0, _⟩ | ⟨g', cur, hA, _, _, hg, _, _, _, ht⟩
  · have h1 := h.1
    rw [h0] at h1
    have : xs = [] := List.eq_nil_of_length_eq_zero (by simpa using h1)
    subst this; simp at hj
  · simp only [Option.some.injEq, Addr.mk.injEq] at hA
    obtain ⟨rfl, _, _⟩ := hA
    rw [cell_of_row w _ j cur e (0, 0) hg]
    rw [← ht, List.getElem?_take] at hj
    split at hj
    · simpa using hj
    · cases hj
def FieldT (P : Program) (s : TypeId) (f o : Nat) : Prop := ∀ w ad, (Instr.fieldAt s (.pointer (some ad)) f).run P w = .ok (.pointer (some (ad.add o))) w
theorem FieldT.mk {s f : Nat} {fs : Array Field} {nm : String} {tt o : Nat} {em : Bool} {tg pp : String} {bo : Nat} {m : Nat} (hu : P.underlying s = some (.struct fs)) (hf : fs[f]? = some ⟨nm, tt, o, em, tg, pp, bo⟩) (hz : ∀ w, (sizeOf tt).run P w = .ok m w) (hm : Nat.blt 0 m = true) : FieldT P s f o := fun w ad => by
  have hm' : m ≠ 0 := by have := Nat.le_of_ble_eq_true hm; omega
  simp [Instr.fieldAt, run_underlying hu, hf, Instr.sureAddr, fieldPlace, hz, hm']
section cmp
variable {t t' : TypeId} {x y : Operand} {k : IntKind} {p q : Int} (hx : Ev n b K x (.int k p)) (hy : Ev n b K y (.int k q))
include hx hy
end cmp
def EqT (P : Program) (t : TypeId) (vs us : List Value) (r : Bool) : Prop :=
  ∀ w, (eqGuard .eql t (.tmp 0) (.tmp 0) (.agg vs.toArray) (.agg us.toArray)).run P w = .ok () w ∧ (Op.equalIn 10000 t (.agg vs.toArray) (.agg us.toArray)).run P w = .ok r w
def lay (cs : List Value) : Nat → List Value → List Value
  | _, [] => cs
  | i, v :: vs => lay (cs.set i v) (i + 1) vs
def fillL (places : Nat → Option (Nat × Nat)) (zs : List Value) : List (Nat × Value) → Option (List Value)
  | [] => some zs
  | (i, v) :: rest => match places i with
    | none => none
    | some (off, size) => bif Nat.beq v.cells.toList.length size && Nat.ble (off + size) zs.length then fillL places (lay zs off v.cells.toList) rest else none
theorem foldl_lay : ∀ (vs : List Value) (off j : Nat) (zs : List Value), (vs.zipIdx j).foldl (fun cs (x : Value × Nat) => cs.setIfInBounds (off + x.2) x.1) zs.toArray = (lay zs (off + j) vs).toArray
  | [], off, j, zs => rfl
  | v :: vs, off, j, zs => by
    simp only [List.zipIdx_cons, List.foldl_cons, lay]
    rw [List.setIfInBounds_toArray, foldl_lay vs off (j + 1)]
    rfl
theorem fill_of : ∀ {places : Nat → Option (Nat × Nat)} {parts : List (Nat × Value)} {zs us : List Value}, fillL places zs parts = some us → Instr.fill places zs.toArray parts = some us.toArray
  | places, [], zs, us, h => by simp [fillL] at h; simp [Instr.fill, h]
  | places, (i, v) :: rest, zs, us, h => by
    unfold fillL at h
    unfold Instr.fill
    split at h
    · cases h
    · rename_i off size hp
      simp only [hp]
      cases hc : (Nat.beq v.cells.toList.length size && Nat.ble (off + size) zs.length) with
      | false => rw [hc] at h; simp at h
      | true =>
        rw [hc] at h
        simp only [cond_true] at h
        simp only [Bool.and_eq_true, Nat.ble_eq] at hc
        obtain ⟨h1, h2⟩ := hc
        have h1' : v.cells.size = size := by simpa using h1
        have h3 : (decide (v.cells.size ≠ size) || decide (off + v.cells.size > zs.toArray.size)) = false := by
          simp [h1']; omega
        have h4 : v.cells.zipIdx.foldl (fun cs (x : Value × Nat) => cs.setIfInBounds (off + x.2) x.1) zs.toArray = (lay zs off v.cells.toList).toArray := by
          have := foldl_lay v.cells.toList off 0 zs
          rw [← Array.foldl_toList, Array.toList_zipIdx]
          simpa using this
        rw [if_neg (by rw [h3]; simp)]
        have h5 := fill_of (places := places) (parts := rest) h
        rw [← h4] at h5
        exact h5
def BuildT (P : Program) (t : TypeId) (zs : List Value) (places : List (Nat × Nat)) : Prop :=
  (∃ z, (∀ w, (zeroValue t).run P w = .ok z w) ∧ z.cells = zs.toArray) ∧ ∃ fs, P.underlying t = some (.struct fs) ∧ ∀ w, (fs.mapM (fun f => do pure (f.offset, ← sizeOf f.type)) : Sem (Array (Nat × Nat))).run P w = .ok places.toArray w
theorem BuildT.run {t : TypeId} {zs : List Value} {places : List (Nat × Nat)} (h : BuildT P t zs places) {parts : List (Nat × Value)} {us : List Value} (hf : fillL (places[·]?) zs parts = some us) (w : World) : (Instr.build t parts.toArray).run P w = .ok (.agg us.toArray) w := by
  obtain ⟨⟨z, hz, hc⟩, fs, hu, hm⟩ := h
  have h1 : Instr.fill (fun x => places[x]?) zs.toArray parts = some us.toArray := fill_of hf
  simp only [Instr.build, Sem.run_bind, hz, Result.andThen_ok, run_underlying hu, hm, hc]
  simp [h1]
end ops
section movers
variable {P : Program} {n : Nat} {w0 : World} {K : KL} {L : List Chunk} {ty : TypeId} {pos : String} {aft : Array Edge} {gd : Option (Nat × Bool)} {a : Act} {w : World} {Z : Act → World → Prop} {Q : Exit → Act → World → Prop} {d : Nat}
end movers
section ends
variable {P : Program} {n : Nat} {w0 : World} {K : KL} {L : List Chunk} {a : Act} {w : World} {fn : Func} {R : Ending → World → Prop} {t : Nat} {v : Value}
def res1 (tmps : Array Value) (r : ResultVar) : Sem Value := match r with
  | .tmp t => pure (tmps.getD t undef)
  | .cell a t => do loadVar t (← asAddr (tmps.getD a undef))
def Rv (P : Program) (n : Nat) (w0 : World) (K : KL) (L : List Chunk) (r : ResultVar) (v : Value) : Prop :=
  ∀ a w, Kn n K a → Wd w0 L w → (res1 a.tmps r).run P w = .ok v w
theorem Rv.tmp (h : look K t = some (true, v)) : Rv P n w0 K L (.tmp t) v := fun a w hk _ => by
  simp [res1, hk.slot t true v h]
theorem Rv.cell {ty m : Nat} {g k : Nat} {cs : List Value} {e : TypeId} {fr : Nat × Nat} (h1 : Many P ty m) (h : look K t = some (true, .pointer (some ⟨g, 0, none⟩))) (hk : L[k]? = some (.blk g (.cells cs.toArray e fr))) (hm : cs.length = m) :
    Rv P n w0 K L (.cell t ty) (.agg cs.toArray) := fun a w hkn hw => by
  have hg := (hw.get hk).2
  have h2 := run_load_many (P := P) (ad := ⟨g, 0, none⟩) h1 hm (w := w) (fun j u hj => by
    rw [Addr.add_mid, cell_of_row w g (0 + j) _ e fr hg]; simpa using hj)
  simp [res1, hkn.slot t true _ h, asAddr, h2]
end ends
end Go.Ft
namespace Go.Ft
open Go.RowKit
section exits
variable {K : Act → World → Prop} {Q : Exit → Act → World → Prop} {a : Act} {w : World} {i j : Nat}
end exits
def Sl {α : Type} (enc : α → List Value) (size : Nat) (w : World) (B : Nat) (v : Value) (l : List α) : Prop :=
  ∃ A cap, v = .slice A l.length cap ∧ l.length ≤ cap ∧ cap ≤ 9223372036854775807 ∧
    (0 < l.length → ∃ g o, A = some ⟨g, o, none⟩ ∧ g < B ∧ ∀ k x, l[k]? = some x → ∀ j u, (enc x)[j]? = some u → w.cell? ⟨g, o + k * size + j, none⟩ = some u)
section sl
variable {α : Type} {enc : α → List Value} {size : Nat} {w w' w0 : World} {B B' : Nat} {v : Value} {l : List α} {L : List Chunk}
theorem Sl.keep (h : Sl enc size w B v l) (hk : Below B w w') : Sl enc size w' B v l := by
  obtain ⟨A, cap, rfl, h1, h2, h3⟩ := h
  refine ⟨A, cap, rfl, h1, h2, fun hl => ?_⟩
  obtain ⟨g, o, hA, hg, hc⟩ := h3 hl
  exact ⟨g, o, hA, hg, fun k x hx j u hu => (hk.cell (p := ⟨g, o + k * size + j, none⟩) hg).trans (hc k x hx j u hu)⟩
theorem Sl.mono (h : Sl enc size w B v l) (hB : B ≤ B') : Sl enc size w B' v l := by
  obtain ⟨A, cap, rfl, h1, h2, h3⟩ := h
  refine ⟨A, cap, rfl, h1, h2, fun hl => ?_⟩
  obtain ⟨g, o, hA, hg, hc⟩ := h3 hl
  exact ⟨g, o, hA, by omega, hc⟩
end sl
end Go.Ft
set_option linter.unusedVariables false
set_option linter.unusedSimpArgs false
namespace Go.Ft
open Go.RowKit
def InfoT (P : Program) (e : TypeId) (z : Value) (size bytes : Nat) : Prop := (P.info? e).map (fun i => (i.zero, i.size, i.bytes)) = some (some z, size, bytes)
theorem InfoT.parts {P : Program} {e : TypeId} {z : Value} {size bytes : Nat} (h : InfoT P e z size bytes) : ∃ i, P.info? e = some i ∧ i.zero = some z ∧ i.size = size ∧ i.bytes = bytes := by
  unfold InfoT at h
  cases hi : P.info? e with
  | none => rw [hi] at h; simp at h
  | some i => rw [hi] at h; simp at h; exact ⟨i, rfl, h⟩
structure Src (P : Program) (w : World) (size : Nat) (x : Value) (m : Nat) (news : List Value) : Prop where
  len : ∀ W, (Builtin.lenOf x).run P W = .ok m W
  here : (Builtin.firstCells size m x).run P w = .ok news.toArray w
  drew : (Builtin.firstCells size m x).run P w.drew = .ok news.toArray w.drew
  length : news.length = m * size
  one : ∀ u ∈ news, u.oneCell' = true
section src
variable {P : Program} {w : World} {size m : Nat} {news : List Value}
theorem Src.at_ {g o c : Nat} (hl : news.length = m * size) (h1 : ∀ u ∈ news, u.oneCell' = true) (h : ∀ j u, news[j]? = some u → w.cell? ⟨g, o + j, none⟩ = some u) : Src P w size (.slice (some ⟨g, o, none⟩) m c) m news :=
  ⟨fun W => by simp [Builtin.lenOf],
   run_firstCells_some (P := P) w size m ⟨g, o, none⟩ m c news hl (fun j u hj => by rw [Addr.add_mid]; exact h j u hj),
   run_firstCells_some (P := P) w.drew size m ⟨g, o, none⟩ m c news hl (fun j u hj => by rw [Addr.add_mid]; exact h j u hj), hl, h1⟩
theorem Src.none_ {A : Option Addr} {c : Nat} : Src P w size (.slice A 0 c) 0 [] := by
  cases A with
  | none => exact ⟨fun W => by simp [Builtin.lenOf], by simp [Builtin.firstCells], by simp [Builtin.firstCells], by simp, by simp⟩
  | some a => exact ⟨fun W => by simp [Builtin.lenOf], by simp [Builtin.firstCells, loadCells, loadCellsFrom], by simp [Builtin.firstCells, loadCells, loadCellsFrom], by simp, by simp⟩
theorem Src.blk {L : List Chunk} {w0 : World} (hw : Wd w0 L w) {k g c : Nat} {e : TypeId} {fr : Nat × Nat} (hk : L[k]? = some (.blk g (.cells news.toArray e fr))) (hl : news.length = m * size) (h1 : ∀ u ∈ news, u.oneCell' = true) : Src P w size (.slice (some ⟨g, 0, none⟩) m c) m news :=
  Src.at_ hl h1 (fun j u hj => by rw [cell_of_row w g (0 + j) _ e fr (hw.get hk).2]; simpa using hj)
theorem Src.row {L : List Chunk} {w0 : World} (hw : Wd w0 L w) {k e cap c : Nat} {A : Option Addr} (hk : L[k]? = some (.row e size A m cap news)) (h1 : ∀ u ∈ news, u.oneCell' = true) : Src P w size (.slice A m c) m news := by
  have h := hw.get hk
  rcases h.2 with ⟨rfl, _⟩ | ⟨g, cur, rfl, _⟩
  · have : news = [] := List.eq_nil_of_length_eq_zero (by simpa using h.1)
    subst this
    exact Src.none_
  · exact Src.at_ h.1 h1 (fun j u hj => by rw [Nat.zero_add]; exact Owns.cell h hj)
end src
section app
variable {P : Program} {w : World}
end app
end Go.Ft
set_option linter.unusedVariables false
set_option linter.unusedSimpArgs false
namespace Go.Ft
open Go.RowKit
section ldw
variable {P : Program} {n : Nat} {w0 : World} {K : KL} {L : List Chunk} {b : Bool} {dst : Option Tmp} {ty : TypeId} {pos : String} {aft : Array Edge} {gd : Option (Nat × Bool)}
end ldw
section movers
variable {P : Program} {n : Nat} {w0 : World} {K : KL} {L : List Chunk} {ty : TypeId} {pos : String} {aft : Array Edge} {gd : Option (Nat × Bool)} {a : Act} {w : World} {Z : Act → World → Prop} {Q : Exit → Act → World → Prop} {d : Nat}
end movers
section ops
variable {P : Program} {n : Nat} {w0 : World} {K : KL} {L : List Chunk} {b : Bool} {dst : Option Tmp} {ty : TypeId} {pos : String} {aft : Array Edge} {gd : Option (Nat × Bool)}
end ops
section eq
variable {P : Program}
def FEq (P : Program) (k : Nat) (xs ys : List Value) (fs : List Field) (r : Bool) : Prop := ∀ d w, (Op.eqFields (d + k) xs.toArray ys.toArray fs).run P w = .ok r w
section fields
variable {xs ys : List Value} {nm : String} {tt o : Nat} {em : Bool} {tg pp : String} {bo : Nat} {fs : List Field} {r : Bool} {k : Nat}
theorem FEq.int {ik ik' : IntKind} {p q : Int} (hn : (nm != "_") = true) (ht : P.underlying tt = some (.int ik')) (ha : ∀ w, (isAgg tt).run P w = .ok false w) (hx : nth xs o = some (.int ik p)) (hy : nth ys o = some (.int ik q)) (h : FEq P (k + 1) xs ys fs r) :
    FEq P (k + 1) xs ys (⟨nm, tt, o, em, tg, pp, bo⟩ :: fs) (decide (p = q) && r) := fun d w => by
  have hn' : nm ≠ "_" := by simpa using hn
  rw [nth_eq] at hx hy
  have hpq : (p == q) = decide (p = q) := rfl
  have hh := run_equalIn_int (P := P) w (d + k) tt ik ik' p q ht
  rw [Nat.add_assoc] at hh
  simp only [Op.eqFields, ne_eq, hn', not_false_eq_true, if_true, Sem.run_bind, part, ha, Result.andThen_ok]
  simp [hx, hy, hh, hpq]
  by_cases e : p = q <;> simp [e, h d w]
theorem FEq.agg {fs' : List Field} {m : Nat} {us vs : List Value} {r' : Bool} (hn : (nm != "_") = true) (ht : P.underlying tt = some (.struct fs'.toArray)) (hp : P.stoodInHeld tt = false) (ha : ∀ w, (isAgg tt).run P w = .ok true w) (hz : ∀ w, (sizeOf tt).run P w = .ok m w) (hx : cellsAt xs o m = some us) (hy : cellsAt ys o m = some vs)
    (h' : FEq P k us vs fs' r') (h : FEq P (k + 1) xs ys fs r) : FEq P (k + 1) xs ys (⟨nm, tt, o, em, tg, pp, bo⟩ :: fs) (r' && r) := fun d w => by
  have hn' : nm ≠ "_" := by simpa using hn
  have e1 : xs.toArray.extract o (o + m) = us.toArray := by
    rw [(cellsAt_eq hx).2]; simp [List.extract_eq_take_drop, List.extract_toArray]
  have e2 : ys.toArray.extract o (o + m) = vs.toArray := by
    rw [(cellsAt_eq hy).2]; simp [List.extract_eq_take_drop, List.extract_toArray]
  have hh := run_equalIn_struct (P := P) w (d + k) tt us.toArray vs.toArray (by simp [Program.fieldsOf, ht]) hp
  rw [Nat.add_assoc] at hh
  have hf := h' d w
  simp only [Op.eqFields, ne_eq, hn', not_false_eq_true, if_true, Sem.run_bind, part, ha, hz, Result.andThen_ok, Sem.run_pure, e1, e2, hh, Program.fieldsOf, ht, hf]
  cases r' <;> simp [h d w]
end fields
theorem EqT.mk {t k d : Nat} {fs : List Field} {xs ys : List Value} {r r' : Bool} (hu : P.underlying t = some (.struct fs.toArray)) (hs : P.stoodInHeld t = false) (hg : P.eqGuardType P.depth t = false) (hk : d + k = 9999) (h : FEq P k xs ys fs r) (hr : r = r') : EqT P t xs ys r' := fun w => by
  subst hr
  refine ⟨by simp [eqGuard, hg], ?_⟩
  rw [run_equalIn_struct w 9999 t _ _ (by simp [Program.fieldsOf, hu]) hs]
  simp only [Program.fieldsOf, hu]
  rw [← hk]
  exact h d w
end eq
end Go.Ft
set_option linter.unusedVariables false
set_option linter.unusedSimpArgs false
namespace Go.Ft
open Go.RowKit
structure Dot where
  node : Int
  life : Int
  count : Int
deriving DecidableEq
abbrev Dot.enc (d : Dot) : List Value := [.int .i64 d.node, .int .i64 d.life, .int .i64 d.count]
structure Ctx where
  marks : List Dot
  cloud : List Dot
deriving DecidableEq
def markOf : List Dot → Int → Int → Int
  | [], _, _ => 0
  | m :: r, x, y => if m.node = x ∧ m.life = y then m.count else markOf r x y
def keep (x y : Int) (l : List Dot) : List Dot := l.filter fun d => !decide (d.node = x ∧ d.life = y)
def mayD (d : Dot) : Bool := decide (0 ≤ d.node ∧ d.node < 8 ∧ 1 ≤ d.life ∧ d.life ≤ 1099511627776 ∧ 1 ≤ d.count ∧ d.count ≤ 1099511627776)
def belowD (a b : Dot) : Bool := if a.node ≠ b.node then decide (a.node < b.node) else if a.life ≠ b.life then decide (a.life < b.life) else decide (a.count < b.count)
end Go.Ft
set_option linter.unusedVariables false
set_option linter.unusedSimpArgs false
set_option maxRecDepth 100000
namespace Go.Proofs.Ytfblmkocmnbdcaa
open Go.Fw Go.Proofs Go.RowKit Go.Sort Go.Proofs.Try
abbrev MDot := {d : Dot // mayD d = true}
instance : Inhabited MDot := ⟨⟨⟨0, 1, 1⟩, rfl⟩⟩
abbrev MDot.enc (d : MDot) : List Value := Dot.enc d.1
end Go.Proofs.Ytfblmkocmnbdcaa
set_option linter.unusedVariables false
set_option linter.unusedSimpArgs false
set_option maxRecDepth 100000
set_option maxHeartbeats 4000000
namespace Go.Fw
theorem cov_may {C : Ctx} {d : Dot} (hC : canL C = true) (h : C.covers d = true) : mayD d = true := by
  have hN := can_nf hC
  obtain ⟨h1, h2⟩ := (covers_iff C d).1 h
  rcases h2 with h2 | h2
  · have hm := hN.mayM _ (markOf_pos (x := d.node) (y := d.life) (l := C.marks) (by omega))
    have := may_lim hm
    unfold mayD
    simp only [decide_eq_true_eq]
    dsimp only at this
    omega
  · exact hN.mayC _ h2
end Go.Fw
namespace Go.Proofs.Ytfblmkocmnbdcaa
open Go.Fw Go.Proofs Go.RowKit Go.Proofs.Try
theorem c28 (w0 : World) (v1 v2 v3 : Value) (l : List Ent) (C : Ctx) (k : Nat) (x : Ent) (h : Sl Ent.enc 6 w0 w0.heap.size v1 l) (hr : RdCtx w0 w0.heap.size v2 v3 C) (hx : l[k]? = some x) (hC : canL C = true) (hp : ∀ y ∈ l.take k, C.covers y.dot = true) (hk64 : k ≤ 64) :
    Calls Try.prog 28 #[.agg #[v1, v2, v3], .int .i64 (k : Int)] w0 fun e w' => e = .returned (.int .i64 (entE C (l.take k) x)) ∧ Bel w0.heap.size w0 w' := by
  have hs := h
  obtain ⟨A, cap, rfl, hl, hcap, hA⟩ := h
  have hlt : k < l.length := (List.getElem?_eq_some_iff.1 hx).1
  obtain ⟨g, o, x', rfl, hx', hd, hc⟩ := row_at hA hlt
  rw [hx] at hx'
  cases hx'
  cases rw_n : nameB x.item with
  | false =>
    have he : entE C (l.take k) x = 6 := by unfold entE; rw [if_pos rw_n]
    rw [he]
    refine enter2 func28 rfl ntmps28 rfl fun a S => wp_seq_k fun _ hK1 => wp_region_lit (st_m (op_box S (.t rfl) rfl fun g1 a w S => run S (.ac rfl <| .z) fun a w S => st_nil (then_normal (hK1 _ _ (wp_seq_k fun _ hK1 => wp_region_lit (run S (.fa underlying40 sizeOf34 0 rfl rfl rfl <| .ld gt34 0 rfl rfl rfl <| .mv rfl <| .ix underlying34 sizeOf74 (by omega) rfl rfl <| .yy (ys_ldOA ⟨isAgg74, sizeOf74⟩ (.t rfl) (vs := [_, _, _, _, _, _]) rfl (fun _ => hc)) rfl <| .z) fun a w S => st_m (op_alloc S zeroValue74 (cs := _) rfl rfl fun g2 a w S => st_m (op_stW S sizeOf74 (.t rfl) (.t rfl) (k := 0) rfl rfl rfl (by simp [Value.oneCell']) fun a w S => st_nil (then_normal (hK1 _ _ (wp_seq_k fun _ hK1 => wp_block (wp_seq_k fun _ hK2 => wp_region_lit (run S (.fa underlying74 sizeOf9 0 rfl rfl rfl <| .ld gt9 0 rfl rfl rfl <| .xx (ys_call call55 (.cons (.t rfl) .nil) (fun hp w W => c55 _ _)) rfl <| .z) fun a w S => ?_)))))))))))))
    rw [rw_n] at S
    refine run S (.nt rfl <| .as rfl <| .z) fun a w S => st_nil (then_normal (hK2 _ _ (st_then S (.t rfl) (sg S (.ac rfl <| .z) fun a w S => wp_ret (in_ret (then_ret (st_ret S (results1 S results28 (Rv.tmp rfl)) ?_)))))))
    exact ⟨rfl, S.wd.below⟩
  | true =>
  by_cases hq : x.qty < 1 ∨ 1000000 < x.qty
  · have he : entE C (l.take k) x = 52 := by unfold entE; rw [if_neg (by simp [rw_n]), if_pos hq]
    rw [he]
    have rw_q : (decide (x.qty < 1) || decide (1000000 < x.qty)) = true := by simp; omega
    refine enter2 func28 rfl ntmps28 rfl fun a S => wp_seq_k fun _ hK1 => wp_region_lit (st_m (op_box S (.t rfl) rfl fun g1 a w S => run S (.ac rfl <| .z) fun a w S => st_nil (then_normal (hK1 _ _ (wp_seq_k fun _ hK1 => wp_region_lit (run S (.fa underlying40 sizeOf34 0 rfl rfl rfl <| .ld gt34 0 rfl rfl rfl <| .mv rfl <| .ix underlying34 sizeOf74 (by omega) rfl rfl <| .yy (ys_ldOA ⟨isAgg74, sizeOf74⟩ (.t rfl) (vs := [_, _, _, _, _, _]) rfl (fun _ => hc)) rfl <| .z) fun a w S => st_m (op_alloc S zeroValue74 (cs := _) rfl rfl fun g2 a w S => st_m (op_stW S sizeOf74 (.t rfl) (.t rfl) (k := 0) rfl rfl rfl (by simp [Value.oneCell']) fun a w S => st_nil (then_normal (hK1 _ _ (wp_seq_k fun _ hK1 => wp_block (wp_seq_k fun _ hK2 => wp_region_lit (run S (.fa underlying74 sizeOf9 0 rfl rfl rfl <| .ld gt9 0 rfl rfl rfl <| .xx (ys_call call55 (.cons (.t rfl) .nil) (fun hp w W => c55 _ _)) rfl <| .z) fun a w S => ?_)))))))))))))
    rw [rw_n] at S
    refine run S (.nt rfl <| .as rfl <| .z) fun a w S => st_nil (then_normal (hK2 _ _ (st_else S (.t rfl) (wp_seq_k fun _ hK2 => wp_region_lit (run S (.fa underlying74 sizeOf3 4 rfl rfl rfl <| .ld gt3 0 rfl rfl rfl <| .yy (ys_lss (.t rfl) Ev.c) rfl <| .mv rfl <| .z) fun a w S => st_yf S rfl rfl (Yr.ys (ys_fieldN (FieldT.mk underlying74 rfl sizeOf3 rfl) (.t rfl) (i' := 4) rfl)) rfl fun a w S => st_yf S rfl rfl (Yr.ys (ys_ld ⟨isAgg3, sizeOf3⟩ (Ev.g rfl) (k := 0) rfl rfl)) rfl fun a w S => st_yf S rfl rfl (Yr.ys (ys_gtr (Ev.g rfl) Ev.c)) rfl fun a w S => run S (.yy (ys_or (.t rfl) Ev.c (Ev.g rfl)) rfl <| .z) fun a w S => ?_)))))
    rw [rw_q] at S
    refine run S (.as rfl <| .z) fun a w S => st_nil (then_normal (hK2 _ _ (st_then S (.t rfl) (sg S (.ac rfl <| .z) fun a w S => wp_ret (in_ret (then_ret (st_ret S (results1 S results28 (Rv.tmp rfl)) ?_)))))))
    exact ⟨rfl, S.wd.below⟩
  have rw_q : (decide (x.qty < 1) || decide (1000000 < x.qty)) = false := by simp; omega
  cases rw_p : priceB x.price with
  | false =>
    have he : entE C (l.take k) x = 53 := by unfold entE; rw [if_neg (by simp [rw_n]), if_neg hq, if_pos rw_p]
    rw [he]
    refine enter2 func28 rfl ntmps28 rfl fun a S => wp_seq_k fun _ hK1 => wp_region_lit (st_m (op_box S (.t rfl) rfl fun g1 a w S => run S (.ac rfl <| .z) fun a w S => st_nil (then_normal (hK1 _ _ (wp_seq_k fun _ hK1 => wp_region_lit (run S (.fa underlying40 sizeOf34 0 rfl rfl rfl <| .ld gt34 0 rfl rfl rfl <| .mv rfl <| .ix underlying34 sizeOf74 (by omega) rfl rfl <| .yy (ys_ldOA ⟨isAgg74, sizeOf74⟩ (.t rfl) (vs := [_, _, _, _, _, _]) rfl (fun _ => hc)) rfl <| .z) fun a w S => st_m (op_alloc S zeroValue74 (cs := _) rfl rfl fun g2 a w S => st_m (op_stW S sizeOf74 (.t rfl) (.t rfl) (k := 0) rfl rfl rfl (by simp [Value.oneCell']) fun a w S => st_nil (then_normal (hK1 _ _ (wp_seq_k fun _ hK1 => wp_block (wp_seq_k fun _ hK2 => wp_region_lit (run S (.fa underlying74 sizeOf9 0 rfl rfl rfl <| .ld gt9 0 rfl rfl rfl <| .xx (ys_call call55 (.cons (.t rfl) .nil) (fun hp w W => c55 _ _)) rfl <| .z) fun a w S => ?_)))))))))))))
    rw [rw_n] at S
    refine run S (.nt rfl <| .as rfl <| .z) fun a w S => st_nil (then_normal (hK2 _ _ (st_else S (.t rfl) (sg S (.fa underlying74 sizeOf3 4 rfl rfl rfl <| .ld gt3 0 rfl rfl rfl <| .yy (ys_F (by omega) (ys_lss (.t rfl) Ev.c)) rfl <| .mv rfl <| .gy rfl rfl (ys_fieldN (FieldT.mk underlying74 rfl sizeOf3 rfl) (.t rfl) (i' := 4) rfl) <| .gy rfl rfl (ys_ld ⟨isAgg3, sizeOf3⟩ (.t rfl) (k := 0) rfl rfl) <| .gy rfl rfl (ys_F (by omega) (ys_gtr (.t rfl) Ev.c)) <| .yy (ys_pickF (.t rfl) (.t rfl)) rfl <| .as rfl <| .z) fun a w S => st_else S (.t rfl) (wp_seq_k fun _ hK2 => wp_region_lit (run S (.fa underlying74 sizeOf27 5 rfl rfl rfl <| .ld gt27 0 rfl rfl rfl <| .xx (ys_call call56 (.cons (.t rfl) .nil) (fun hp w W => c56 _ _)) rfl <| .z) fun a w S => ?_))))))
    rw [rw_p] at S
    refine run S (.nt rfl <| .as rfl <| .z) fun a w S => st_nil (then_normal (hK2 _ _ (st_then S (.t rfl) (sg S (.ac rfl <| .z) fun a w S => wp_ret (in_ret (then_ret (st_ret S (results1 S results28 (Rv.tmp rfl)) ?_)))))))
    exact ⟨rfl, S.wd.below⟩
  | true =>
  have he0 : entE C (l.take k) x = if C.covers x.dot = false ∨ backE (l.take k).getLast? x = true then 50 else if x.dot ∈ (l.take k).map (·.dot) then 50 else 0 := by unfold entE; rw [if_neg (by simp [rw_n]), if_neg hq, if_neg (by simp [rw_p])]
  cases rw_c : C.covers x.dot with
  | false =>
    rw [if_pos (.inl rw_c)] at he0
    rw [he0]
    have rw_c2 : C.covers ⟨x.dot.node, x.dot.life, x.dot.count⟩ = false := rw_c
    refine enter2 func28 rfl ntmps28 rfl fun a S => wp_seq_k fun _ hK1 => wp_region_lit (st_m (op_box S (.t rfl) rfl fun g1 a w S => run S (.ac rfl <| .z) fun a w S => st_nil (then_normal (hK1 _ _ (wp_seq_k fun _ hK1 => wp_region_lit (run S (.fa underlying40 sizeOf34 0 rfl rfl rfl <| .ld gt34 0 rfl rfl rfl <| .mv rfl <| .ix underlying34 sizeOf74 (by omega) rfl rfl <| .yy (ys_ldOA ⟨isAgg74, sizeOf74⟩ (.t rfl) (vs := [_, _, _, _, _, _]) rfl (fun _ => hc)) rfl <| .z) fun a w S => st_m (op_alloc S zeroValue74 (cs := _) rfl rfl fun g2 a w S => st_m (op_stW S sizeOf74 (.t rfl) (.t rfl) (k := 0) rfl rfl rfl (by simp [Value.oneCell']) fun a w S => st_nil (then_normal (hK1 _ _ (wp_seq_k fun _ hK1 => wp_block (wp_seq_k fun _ hK2 => wp_region_lit (run S (.fa underlying74 sizeOf9 0 rfl rfl rfl <| .ld gt9 0 rfl rfl rfl <| .xx (ys_call call55 (.cons (.t rfl) .nil) (fun hp w W => c55 _ _)) rfl <| .z) fun a w S => ?_)))))))))))))
    rw [rw_n] at S
    refine run S (.nt rfl <| .as rfl <| .z) fun a w S => st_nil (then_normal (hK2 _ _ (st_else S (.t rfl) (sg S (.fa underlying74 sizeOf3 4 rfl rfl rfl <| .ld gt3 0 rfl rfl rfl <| .yy (ys_F (by omega) (ys_lss (.t rfl) Ev.c)) rfl <| .mv rfl <| .gy rfl rfl (ys_fieldN (FieldT.mk underlying74 rfl sizeOf3 rfl) (.t rfl) (i' := 4) rfl) <| .gy rfl rfl (ys_ld ⟨isAgg3, sizeOf3⟩ (.t rfl) (k := 0) rfl rfl) <| .gy rfl rfl (ys_F (by omega) (ys_gtr (.t rfl) Ev.c)) <| .yy (ys_pickF (.t rfl) (.t rfl)) rfl <| .as rfl <| .z) fun a w S => st_else S (.t rfl) (wp_seq_k fun _ hK2 => wp_region_lit (run S (.fa underlying74 sizeOf27 5 rfl rfl rfl <| .ld gt27 0 rfl rfl rfl <| .xx (ys_call call56 (.cons (.t rfl) .nil) (fun hp w W => c56 _ _)) rfl <| .z) fun a w S => ?_))))))
    rw [rw_p] at S
    refine run S (.nt rfl <| .as rfl <| .z) fun a w S => st_nil (then_normal (hK2 _ _ (st_else S (.t rfl) (wp_seq_k fun _ hK2 => st_quiet S (by kernel_rfl) (by kernel_rfl) fun a S => qrun S (.fa underlying40 sizeOf38 1 rfl rfl rfl <| .la gt38 1 rfl rfl rfl <| .fa underlying74 sizeOf62 1 rfl rfl rfl <| .la gt62 0 rfl rfl rfl <| .xx (ys_call call58 (.cons (.t rfl) (.cons (.t rfl) .nil)) (fun hp w W => c58 _ _ _ _ _ _ _ (by exact .old W (by assumption)))) rfl <| .z) fun a S => ?_))))
    rw [rw_c] at S
    refine qrun S (.nt rfl <| .mv rfl <| .sk rfl rfl rfl <| .sk rfl rfl rfl <| .sk rfl rfl rfl <| .s0 rfl rfl <| .s0 rfl rfl <| .s0 rfl rfl <| .s0 rfl rfl <| .s0 rfl rfl <| .s0 rfl rfl <| .s0 rfl rfl <| .s0 rfl rfl <| .s0 rfl rfl <| .sk rfl rfl rfl <| .yy (ys_pickT (.t rfl) Ev.c) rfl <| .as rfl <| .z) fun a S => ?_
    (refine q_nil ?_; intro w W; replace S := St.mk S W; clear W)
    refine then_normal (hK2 _ _ (st_then S (.t rfl) (sg S (.ac rfl <| .z) fun a w S => wp_ret (in_ret (then_ret (st_ret S (results1 S results28 (Rv.tmp rfl)) ?_))))))
    exact ⟨rfl, S.wd.below⟩
  | true =>
  have rw_c2 : C.covers ⟨x.dot.node, x.dot.life, x.dot.count⟩ = true := rw_c
  rcases k with _ | k
  · have hnb : ¬ (C.covers x.dot = false ∨ backE (l.take 0).getLast? x = true) := by simp [rw_c, backE]
    refine enter2 func28 rfl ntmps28 rfl fun a S => wp_seq_k fun _ hK1 => wp_region_lit (st_m (op_box S (.t rfl) rfl fun g1 a w S => run S (.ac rfl <| .z) fun a w S => st_nil (then_normal (hK1 _ _ (wp_seq_k fun _ hK1 => wp_region_lit (run S (.fa underlying40 sizeOf34 0 rfl rfl rfl <| .ld gt34 0 rfl rfl rfl <| .mv rfl <| .yy (ys_ixS (j := 0) underlying34 sizeOf74 (.t rfl) (.t rfl) (fun _ => by omega)) rfl <| .yy (ys_ldOA ⟨isAgg74, sizeOf74⟩ (.t rfl) (vs := [_, _, _, _, _, _]) rfl (fun _ => hc)) rfl <| .z) fun a w S => st_m (op_alloc S zeroValue74 (cs := _) rfl rfl fun g2 a w S => st_m (op_stW S sizeOf74 (.t rfl) (.t rfl) (k := 0) rfl rfl rfl (by simp [Value.oneCell']) fun a w S => st_nil (then_normal (hK1 _ _ (wp_seq_k fun _ hK1 => wp_block (wp_seq_k fun _ hK2 => wp_region_lit (run S (.fa underlying74 sizeOf9 0 rfl rfl rfl <| .ld gt9 0 rfl rfl rfl <| .xx (ys_call call55 (.cons (.t rfl) .nil) (fun hp w W => c55 _ _)) rfl <| .z) fun a w S => ?_)))))))))))))
    rw [rw_n] at S
    refine run S (.nt rfl <| .as rfl <| .z) fun a w S => st_nil (then_normal (hK2 _ _ (st_else S (.t rfl) (sg S (.fa underlying74 sizeOf3 4 rfl rfl rfl <| .ld gt3 0 rfl rfl rfl <| .yy (ys_F (by omega) (ys_lss (.t rfl) Ev.c)) rfl <| .mv rfl <| .gy rfl rfl (ys_fieldN (FieldT.mk underlying74 rfl sizeOf3 rfl) (.t rfl) (i' := 4) rfl) <| .gy rfl rfl (ys_ld ⟨isAgg3, sizeOf3⟩ (.t rfl) (k := 0) rfl rfl) <| .gy rfl rfl (ys_F (by omega) (ys_gtr (.t rfl) Ev.c)) <| .yy (ys_pickF (.t rfl) (.t rfl)) rfl <| .as rfl <| .z) fun a w S => st_else S (.t rfl) (wp_seq_k fun _ hK2 => wp_region_lit (run S (.fa underlying74 sizeOf27 5 rfl rfl rfl <| .ld gt27 0 rfl rfl rfl <| .xx (ys_call call56 (.cons (.t rfl) .nil) (fun hp w W => c56 _ _)) rfl <| .z) fun a w S => ?_))))))
    rw [rw_p] at S
    refine run S (.nt rfl <| .as rfl <| .z) fun a w S => st_nil (then_normal (hK2 _ _ (st_else S (.t rfl) (wp_seq_k fun _ hK2 => st_quiet S (by kernel_rfl) (by kernel_rfl) fun a S => qrun S (.fa underlying40 sizeOf38 1 rfl rfl rfl <| .la gt38 1 rfl rfl rfl <| .fa underlying74 sizeOf62 1 rfl rfl rfl <| .la gt62 0 rfl rfl rfl <| .xx (ys_call call58 (.cons (.t rfl) (.cons (.t rfl) .nil)) (fun hp w W => c58 _ _ _ _ _ _ _ (by exact .old W (by assumption)))) rfl <| .z) fun a S => ?_))))
    rw [rw_c] at S
    refine qrun S (.nt rfl <| .mv rfl <| .gy rfl rfl (ys_move (.t rfl)) <| .gy rfl rfl (ys_F (by omega) (ys_gtr (.t rfl) Ev.c)) <| .gy rfl rfl (ys_move (.t rfl)) <| .sk rfl rfl rfl <| .sk rfl rfl rfl <| .sk rfl rfl rfl <| .sk rfl rfl rfl <| .sk rfl rfl rfl <| .sk rfl rfl rfl <| .sk rfl rfl rfl <| .sk rfl rfl rfl <| .sk rfl rfl rfl <| .gy rfl rfl (ys_pickF (.t rfl) Ev.c) <| .yy (ys_pickF (.t rfl) (.t rfl)) rfl <| .as rfl <| .z) fun a S => ?_
    (refine q_nil ?_; intro w W; replace S := St.mk S W; clear W)
    refine then_normal (hK2 _ _ (st_else S (.t rfl) (wp_skip (in_normal (then_normal (hK1 _ _ (wp_seq_k fun _ hK1 => sg S (.fa underlying40 sizeOf34 0 rfl rfl rfl <| .ld gt34 1 rfl rfl rfl <| .mv rfl <| .yy (ys_slHi underlying34 sizeOf74 (.t rfl) (.t rfl) (fun _ => by first | omega | (simp; done) | (simp; omega))) rfl <| .ln underlying34 rfl <| .mc rfl <| .z) fun a w S => wp_block ?_)))))))
    refine st_lpM S [7, 59] (X := Nat) (fun j => [(59, true, .int .i64 (j : Int))]) (fun _ => [.blk g2 (.cells (Ent.enc x).toArray 74), .blk g1 (.cells #[.slice (some ⟨g, o, none⟩) l.length cap, v2, v3] 40)])
      (fun j => j ≤ 0 ∧ x.dot ∉ (l.take j).map (·.dot)) (fun j => 0 - j) 0 ⟨Nat.zero_le _, by simp⟩ ?_
    clear S
    intro j a w ⟨hj, hdup⟩ S
    by_cases hjk : j < 0
    · obtain ⟨g3, o3, y, e3, hy, hdy, hcy⟩ := row_at hA (show j < l.length by omega)
      cases e3
      by_cases he : y.dot = x.dot
      · have hin : x.dot ∈ (l.take (0)).map (·.dot) := he ▸ dup_at hjk hy
        rw [if_neg hnb, if_pos hin] at he0
        rw [he0]
        have rw_e := decide_eq_true (dot_iff3.1 he)
        refine sg S (.lt (by omega) rfl rfl <| .z) fun a w S => wp_seq_k fun _ hK2 => st_then S (.t rfl) (wp_skip (then_normal (hK2 _ _ (wp_seq_k fun _ hK2 => wp_block (wp_seq_k fun _ hK3 => wp_region_lit (run S (.ix underlying34 sizeOf74 (by omega) rfl rfl <| .yy (ys_ldOA ⟨isAgg74, sizeOf74⟩ (.t rfl) (vs := [_, _, _, _, _, _]) rfl (fun _ => hcy)) rfl <| .z) fun a w S => st_m (op_alloc S zeroValue74 (cs := _) rfl rfl fun g3 a w S => st_m (op_stW S sizeOf74 (.t rfl) (.t rfl) (k := 0) rfl rfl rfl (by simp [Value.oneCell']) fun a w S => st_nil (then_normal (hK3 _ _ (wp_seq_k fun _ hK3 => wp_region_lit (run S (.fa underlying74 sizeOf62 1 rfl rfl rfl <| .la gt62 0 rfl rfl rfl <| .fa underlying74 sizeOf62 1 rfl rfl rfl <| .la gt62 1 rfl rfl rfl <| .yy (ys_eqA (.t rfl) (.t rfl) eq62) rfl <| .z) fun a w S => ?_))))))))))))
        rw [rw_e] at S
        refine st_nil (then_normal (hK3 _ _ (st_then S (.t rfl) (sg S (.ac rfl <| .z) fun a w S => wp_ret (in_ret (then_ret (then_ret (in_ret (then_ret (st_ret S (results1 S results28 (Rv.tmp rfl)) ?_))))))))))
        exact ⟨rfl, S.wd.below⟩
      · have rw_e := decide_eq_false (fun h => he (dot_iff3.2 h))
        refine sg S (.lt (by omega) rfl rfl <| .z) fun a w S => wp_seq_k fun _ hK2 => st_then S (.t rfl) (wp_skip (then_normal (hK2 _ _ (wp_seq_k fun _ hK2 => wp_block (wp_seq_k fun _ hK3 => wp_region_lit (run S (.ix underlying34 sizeOf74 (by omega) rfl rfl <| .yy (ys_ldOA ⟨isAgg74, sizeOf74⟩ (.t rfl) (vs := [_, _, _, _, _, _]) rfl (fun _ => hcy)) rfl <| .z) fun a w S => st_m (op_alloc S zeroValue74 (cs := _) rfl rfl fun g3 a w S => st_m (op_stW S sizeOf74 (.t rfl) (.t rfl) (k := 0) rfl rfl rfl (by simp [Value.oneCell']) fun a w S => st_nil (then_normal (hK3 _ _ (wp_seq_k fun _ hK3 => wp_region_lit (run S (.fa underlying74 sizeOf62 1 rfl rfl rfl <| .la gt62 0 rfl rfl rfl <| .fa underlying74 sizeOf62 1 rfl rfl rfl <| .la gt62 1 rfl rfl rfl <| .yy (ys_eqA (.t rfl) (.t rfl) eq62) rfl <| .z) fun a w S => ?_))))))))))))
        rw [rw_e] at S
        refine st_nil (then_normal (hK3 _ _ (st_else S (.t rfl) (wp_skip (in_normal (then_normal (hK2 _ _ (wp_region_lit (run S (.ad (by unfold I64; omega) rfl <| .mv rfl <| .z) fun a w S => st_nil (then_normal ?_))))))))))
        exact ⟨j + 1, ⟨by omega, dup_step hy hdup he⟩, by omega, S.pk⟩
    · obtain rfl : j = 0 := by omega
      rw [if_neg hnb, if_neg hdup] at he0
      refine sg S (.ge (by omega) rfl rfl <| .z) fun a w S => wp_seq_k fun _ hK2 => st_else S (.t rfl) (wp_exit (then_exit (then_exit (in_here (then_normal (hK1 _ _ (sg S (.ac rfl <| .z) fun a w S => wp_ret (st_ret S (results1 S results28 (Rv.tmp rfl)) ?_))))))))
      exact ⟨by rw [he0], S.wd.below⟩
  obtain ⟨g4, o4, p, e4, hp4, hdp, hcp⟩ := row_at hA (show k < l.length by omega)
  cases e4
  rw [take_last hp4] at he0
  have hmp : mayD p.dot = true := cov_may hC (hp p (List.mem_of_getElem? (i := k) (by rw [List.getElem?_take, if_pos (by omega), hp4])))
  have hmx : mayD x.dot = true := cov_may hC rw_c
  by_cases hlt2 : ltE p x
  · have hnb : ¬ (C.covers x.dot = false ∨ backE (some p) x = true) := by simp [rw_c, backE, hlt2]
    have rw_l : decide (0 ≤ ordE p x) = false := decide_eq_false (by have := (ordE_iff p x).2 hlt2; omega)
    refine enter2 func28 rfl ntmps28 rfl fun a S => wp_seq_k fun _ hK1 => wp_region_lit (st_m (op_box S (.t rfl) rfl fun g1 a w S => run S (.ac rfl <| .z) fun a w S => st_nil (then_normal (hK1 _ _ (wp_seq_k fun _ hK1 => wp_region_lit (run S (.fa underlying40 sizeOf34 0 rfl rfl rfl <| .ld gt34 0 rfl rfl rfl <| .mv rfl <| .ix underlying34 sizeOf74 (by omega) rfl rfl <| .yy (ys_ldOA ⟨isAgg74, sizeOf74⟩ (.t rfl) (vs := [_, _, _, _, _, _]) rfl (fun _ => hc)) rfl <| .z) fun a w S => st_m (op_alloc S zeroValue74 (cs := _) rfl rfl fun g2 a w S => st_m (op_stW S sizeOf74 (.t rfl) (.t rfl) (k := 0) rfl rfl rfl (by simp [Value.oneCell']) fun a w S => st_nil (then_normal (hK1 _ _ (wp_seq_k fun _ hK1 => wp_block (wp_seq_k fun _ hK2 => wp_region_lit (run S (.fa underlying74 sizeOf9 0 rfl rfl rfl <| .ld gt9 0 rfl rfl rfl <| .xx (ys_call call55 (.cons (.t rfl) .nil) (fun hp w W => c55 _ _)) rfl <| .z) fun a w S => ?_)))))))))))))
    rw [rw_n] at S
    refine run S (.nt rfl <| .as rfl <| .z) fun a w S => st_nil (then_normal (hK2 _ _ (st_else S (.t rfl) (sg S (.fa underlying74 sizeOf3 4 rfl rfl rfl <| .ld gt3 0 rfl rfl rfl <| .yy (ys_F (by omega) (ys_lss (.t rfl) Ev.c)) rfl <| .mv rfl <| .gy rfl rfl (ys_fieldN (FieldT.mk underlying74 rfl sizeOf3 rfl) (.t rfl) (i' := 4) rfl) <| .gy rfl rfl (ys_ld ⟨isAgg3, sizeOf3⟩ (.t rfl) (k := 0) rfl rfl) <| .gy rfl rfl (ys_F (by omega) (ys_gtr (.t rfl) Ev.c)) <| .yy (ys_pickF (.t rfl) (.t rfl)) rfl <| .as rfl <| .z) fun a w S => st_else S (.t rfl) (wp_seq_k fun _ hK2 => wp_region_lit (run S (.fa underlying74 sizeOf27 5 rfl rfl rfl <| .ld gt27 0 rfl rfl rfl <| .xx (ys_call call56 (.cons (.t rfl) .nil) (fun hp w W => c56 _ _)) rfl <| .z) fun a w S => ?_))))))
    rw [rw_p] at S
    refine run S (.nt rfl <| .as rfl <| .z) fun a w S => st_nil (then_normal (hK2 _ _ (st_else S (.t rfl) (wp_seq_k fun _ hK2 => st_quiet S (by kernel_rfl) (by kernel_rfl) fun a S => qrun S (.fa underlying40 sizeOf38 1 rfl rfl rfl <| .la gt38 1 rfl rfl rfl <| .fa underlying74 sizeOf62 1 rfl rfl rfl <| .la gt62 0 rfl rfl rfl <| .xx (ys_call call58 (.cons (.t rfl) (.cons (.t rfl) .nil)) (fun hp w W => c58 _ _ _ _ _ _ _ (by exact .old W (by assumption)))) rfl <| .z) fun a S => ?_))))
    rw [rw_c] at S
    refine qrun S (.nt rfl <| .mv rfl <| .gy rfl rfl (ys_move (.t rfl)) <| .gy rfl rfl (ys_T (by omega) (ys_gtr (.t rfl) Ev.c)) <| .gy rfl rfl (ys_move (.t rfl)) <| .gy rfl rfl (ys_fieldN (FieldT.mk underlying40 rfl sizeOf34 rfl) (.t rfl) (i' := 0) rfl) <| .gy rfl rfl (ys_ld ⟨isAgg34, sizeOf34⟩ (.t rfl) (k := 1) rfl rfl) <| .gy rfl rfl (ys_move (.t rfl)) <| .gy rfl rfl (ys_pred (.t rfl) Ev.c (by omega)) <| .gy rfl rfl (ys_ixS underlying34 sizeOf74 (.t rfl) (.t rfl) (fun _ => by omega)) <| .gy rfl rfl (ys_ldOA ⟨isAgg74, sizeOf74⟩ (.t rfl) (vs := [_, _, _, _, _, _]) rfl (fun _ => hcp)) <| .gy rfl rfl (ys_ldA ⟨isAgg74, sizeOf74⟩ (.t rfl) (k := 0) rfl rfl) <| .gx rfl rfl (ys_call call70 (.cons (.t rfl) (.cons (.t rfl) .nil)) (fun hp w W => c70 _ _ _ (by assumption) (by assumption))) <| .gy rfl rfl (ys_geq (.t rfl) Ev.c) <| .z) fun a S => ?_
    rw [rw_l] at S
    refine qrun S (.gy rfl rfl (ys_pickT (.t rfl) (.t rfl)) <| .yy (ys_pickF (.t rfl) (.t rfl)) rfl <| .as rfl <| .z) fun a S => ?_
    (refine q_nil ?_; intro w W; replace S := St.mk S W; clear W)
    refine then_normal (hK2 _ _ (st_else S (.t rfl) (wp_skip (in_normal (then_normal (hK1 _ _ (wp_seq_k fun _ hK1 => sg S (.fa underlying40 sizeOf34 0 rfl rfl rfl <| .ld gt34 1 rfl rfl rfl <| .mv rfl <| .yy (ys_slHi underlying34 sizeOf74 (.t rfl) (.t rfl) (fun _ => by first | omega | (simp; done) | (simp; omega))) rfl <| .ln underlying34 rfl <| .mc rfl <| .z) fun a w S => wp_block ?_)))))))
    refine st_lpM S [7, 59] (X := Nat) (fun j => [(59, true, .int .i64 (j : Int))]) (fun _ => [.blk g2 (.cells (Ent.enc x).toArray 74), .blk g1 (.cells #[.slice (some ⟨g, o, none⟩) l.length cap, v2, v3] 40)])
      (fun j => j ≤ (k + 1) ∧ x.dot ∉ (l.take j).map (·.dot)) (fun j => (k + 1) - j) 0 ⟨Nat.zero_le _, by simp⟩ ?_
    clear S
    intro j a w ⟨hj, hdup⟩ S
    by_cases hjk : j < (k + 1)
    · obtain ⟨g3, o3, y, e3, hy, hdy, hcy⟩ := row_at hA (show j < l.length by omega)
      cases e3
      by_cases he : y.dot = x.dot
      · have hin : x.dot ∈ (l.take ((k + 1))).map (·.dot) := he ▸ dup_at hjk hy
        rw [if_neg hnb, if_pos hin] at he0
        rw [he0]
        have rw_e := decide_eq_true (dot_iff3.1 he)
        refine sg S (.lt (by omega) rfl rfl <| .z) fun a w S => wp_seq_k fun _ hK2 => st_then S (.t rfl) (wp_skip (then_normal (hK2 _ _ (wp_seq_k fun _ hK2 => wp_block (wp_seq_k fun _ hK3 => wp_region_lit (run S (.ix underlying34 sizeOf74 (by omega) rfl rfl <| .yy (ys_ldOA ⟨isAgg74, sizeOf74⟩ (.t rfl) (vs := [_, _, _, _, _, _]) rfl (fun _ => hcy)) rfl <| .z) fun a w S => st_m (op_alloc S zeroValue74 (cs := _) rfl rfl fun g3 a w S => st_m (op_stW S sizeOf74 (.t rfl) (.t rfl) (k := 0) rfl rfl rfl (by simp [Value.oneCell']) fun a w S => st_nil (then_normal (hK3 _ _ (wp_seq_k fun _ hK3 => wp_region_lit (run S (.fa underlying74 sizeOf62 1 rfl rfl rfl <| .la gt62 0 rfl rfl rfl <| .fa underlying74 sizeOf62 1 rfl rfl rfl <| .la gt62 1 rfl rfl rfl <| .yy (ys_eqA (.t rfl) (.t rfl) eq62) rfl <| .z) fun a w S => ?_))))))))))))
        rw [rw_e] at S
        refine st_nil (then_normal (hK3 _ _ (st_then S (.t rfl) (sg S (.ac rfl <| .z) fun a w S => wp_ret (in_ret (then_ret (then_ret (in_ret (then_ret (st_ret S (results1 S results28 (Rv.tmp rfl)) ?_))))))))))
        exact ⟨rfl, S.wd.below⟩
      · have rw_e := decide_eq_false (fun h => he (dot_iff3.2 h))
        refine sg S (.lt (by omega) rfl rfl <| .z) fun a w S => wp_seq_k fun _ hK2 => st_then S (.t rfl) (wp_skip (then_normal (hK2 _ _ (wp_seq_k fun _ hK2 => wp_block (wp_seq_k fun _ hK3 => wp_region_lit (run S (.ix underlying34 sizeOf74 (by omega) rfl rfl <| .yy (ys_ldOA ⟨isAgg74, sizeOf74⟩ (.t rfl) (vs := [_, _, _, _, _, _]) rfl (fun _ => hcy)) rfl <| .z) fun a w S => st_m (op_alloc S zeroValue74 (cs := _) rfl rfl fun g3 a w S => st_m (op_stW S sizeOf74 (.t rfl) (.t rfl) (k := 0) rfl rfl rfl (by simp [Value.oneCell']) fun a w S => st_nil (then_normal (hK3 _ _ (wp_seq_k fun _ hK3 => wp_region_lit (run S (.fa underlying74 sizeOf62 1 rfl rfl rfl <| .la gt62 0 rfl rfl rfl <| .fa underlying74 sizeOf62 1 rfl rfl rfl <| .la gt62 1 rfl rfl rfl <| .yy (ys_eqA (.t rfl) (.t rfl) eq62) rfl <| .z) fun a w S => ?_))))))))))))
        rw [rw_e] at S
        refine st_nil (then_normal (hK3 _ _ (st_else S (.t rfl) (wp_skip (in_normal (then_normal (hK2 _ _ (wp_region_lit (run S (.ad (by unfold I64; omega) rfl <| .mv rfl <| .z) fun a w S => st_nil (then_normal ?_))))))))))
        exact ⟨j + 1, ⟨by omega, dup_step hy hdup he⟩, by omega, S.pk⟩
    · obtain rfl : j = (k + 1) := by omega
      rw [if_neg hnb, if_neg hdup] at he0
      refine sg S (.ge (by omega) rfl rfl <| .z) fun a w S => wp_seq_k fun _ hK2 => st_else S (.t rfl) (wp_exit (then_exit (then_exit (in_here (then_normal (hK1 _ _ (sg S (.ac rfl <| .z) fun a w S => wp_ret (st_ret S (results1 S results28 (Rv.tmp rfl)) ?_))))))))
      exact ⟨by rw [he0], S.wd.below⟩
  · rw [if_pos (.inr (by simp [backE, hlt2]))] at he0
    rw [he0]
    have rw_l : decide (0 ≤ ordE p x) = true := decide_eq_true (by have : ¬ ordE p x < 0 := fun h => hlt2 ((ordE_iff p x).1 h); omega)
    refine enter2 func28 rfl ntmps28 rfl fun a S => wp_seq_k fun _ hK1 => wp_region_lit (st_m (op_box S (.t rfl) rfl fun g1 a w S => run S (.ac rfl <| .z) fun a w S => st_nil (then_normal (hK1 _ _ (wp_seq_k fun _ hK1 => wp_region_lit (run S (.fa underlying40 sizeOf34 0 rfl rfl rfl <| .ld gt34 0 rfl rfl rfl <| .mv rfl <| .ix underlying34 sizeOf74 (by omega) rfl rfl <| .yy (ys_ldOA ⟨isAgg74, sizeOf74⟩ (.t rfl) (vs := [_, _, _, _, _, _]) rfl (fun _ => hc)) rfl <| .z) fun a w S => st_m (op_alloc S zeroValue74 (cs := _) rfl rfl fun g2 a w S => st_m (op_stW S sizeOf74 (.t rfl) (.t rfl) (k := 0) rfl rfl rfl (by simp [Value.oneCell']) fun a w S => st_nil (then_normal (hK1 _ _ (wp_seq_k fun _ hK1 => wp_block (wp_seq_k fun _ hK2 => wp_region_lit (run S (.fa underlying74 sizeOf9 0 rfl rfl rfl <| .ld gt9 0 rfl rfl rfl <| .xx (ys_call call55 (.cons (.t rfl) .nil) (fun hp w W => c55 _ _)) rfl <| .z) fun a w S => ?_)))))))))))))
    rw [rw_n] at S
    refine run S (.nt rfl <| .as rfl <| .z) fun a w S => st_nil (then_normal (hK2 _ _ (st_else S (.t rfl) (sg S (.fa underlying74 sizeOf3 4 rfl rfl rfl <| .ld gt3 0 rfl rfl rfl <| .yy (ys_F (by omega) (ys_lss (.t rfl) Ev.c)) rfl <| .mv rfl <| .gy rfl rfl (ys_fieldN (FieldT.mk underlying74 rfl sizeOf3 rfl) (.t rfl) (i' := 4) rfl) <| .gy rfl rfl (ys_ld ⟨isAgg3, sizeOf3⟩ (.t rfl) (k := 0) rfl rfl) <| .gy rfl rfl (ys_F (by omega) (ys_gtr (.t rfl) Ev.c)) <| .yy (ys_pickF (.t rfl) (.t rfl)) rfl <| .as rfl <| .z) fun a w S => st_else S (.t rfl) (wp_seq_k fun _ hK2 => wp_region_lit (run S (.fa underlying74 sizeOf27 5 rfl rfl rfl <| .ld gt27 0 rfl rfl rfl <| .xx (ys_call call56 (.cons (.t rfl) .nil) (fun hp w W => c56 _ _)) rfl <| .z) fun a w S => ?_))))))
    rw [rw_p] at S
    refine run S (.nt rfl <| .as rfl <| .z) fun a w S => st_nil (then_normal (hK2 _ _ (st_else S (.t rfl) (wp_seq_k fun _ hK2 => st_quiet S (by kernel_rfl) (by kernel_rfl) fun a S => qrun S (.fa underlying40 sizeOf38 1 rfl rfl rfl <| .la gt38 1 rfl rfl rfl <| .fa underlying74 sizeOf62 1 rfl rfl rfl <| .la gt62 0 rfl rfl rfl <| .xx (ys_call call58 (.cons (.t rfl) (.cons (.t rfl) .nil)) (fun hp w W => c58 _ _ _ _ _ _ _ (by exact .old W (by assumption)))) rfl <| .z) fun a S => ?_))))
    rw [rw_c] at S
    refine qrun S (.nt rfl <| .mv rfl <| .gy rfl rfl (ys_move (.t rfl)) <| .gy rfl rfl (ys_T (by omega) (ys_gtr (.t rfl) Ev.c)) <| .gy rfl rfl (ys_move (.t rfl)) <| .gy rfl rfl (ys_fieldN (FieldT.mk underlying40 rfl sizeOf34 rfl) (.t rfl) (i' := 0) rfl) <| .gy rfl rfl (ys_ld ⟨isAgg34, sizeOf34⟩ (.t rfl) (k := 1) rfl rfl) <| .gy rfl rfl (ys_move (.t rfl)) <| .gy rfl rfl (ys_pred (.t rfl) Ev.c (by omega)) <| .gy rfl rfl (ys_ixS underlying34 sizeOf74 (.t rfl) (.t rfl) (fun _ => by omega)) <| .gy rfl rfl (ys_ldOA ⟨isAgg74, sizeOf74⟩ (.t rfl) (vs := [_, _, _, _, _, _]) rfl (fun _ => hcp)) <| .gy rfl rfl (ys_ldA ⟨isAgg74, sizeOf74⟩ (.t rfl) (k := 0) rfl rfl) <| .gx rfl rfl (ys_call call70 (.cons (.t rfl) (.cons (.t rfl) .nil)) (fun hp w W => c70 _ _ _ (by assumption) (by assumption))) <| .gy rfl rfl (ys_geq (.t rfl) Ev.c) <| .z) fun a S => ?_
    rw [rw_l] at S
    refine qrun S (.gy rfl rfl (ys_pickT (.t rfl) (.t rfl)) <| .yy (ys_pickF (.t rfl) (.t rfl)) rfl <| .as rfl <| .z) fun a S => ?_
    (refine q_nil ?_; intro w W; replace S := St.mk S W; clear W)
    refine then_normal (hK2 _ _ (st_then S (.t rfl) (sg S (.ac rfl <| .z) fun a w S => wp_ret (in_ret (then_ret (st_ret S (results1 S results28 (Rv.tmp rfl)) ?_))))))
    exact ⟨rfl, S.wd.below⟩
theorem c9 (w0 : World) (v1 v2 v3 : Value) (c : Cart) (h : Sl Ent.enc 6 w0 w0.heap.size v1 c.ents) (hr : RdCtx w0 w0.heap.size v2 v3 c.ctx) :
    Calls Try.prog 9 #[.agg #[v1, v2, v3]] w0 fun e w' => e = .returned (.int .i64 (canE c)) ∧ Bel w0.heap.size w0 w' := by
  obtain ⟨l, C⟩ := c
  dsimp only at h hr
  have hs := h
  obtain ⟨A, cap, rfl, hl, hcap, hA⟩ := h
  unfold canE
  dsimp only
  cases rw_C : canL C with
  | false =>
    refine enter1 func9 rfl ntmps9 rfl fun a S => wp_seq_k fun _ hK1 => wp_region_lit (st_m (op_box S (.t rfl) rfl fun g1 a w S => run S (.ac rfl <| .z) fun a w S => st_nil (then_normal (hK1 _ _ (wp_seq_k fun _ hK1 => wp_block (wp_seq_k fun _ hK2 => wp_region_lit (run S (.fa underlying40 sizeOf38 1 rfl rfl rfl <| .la gt38 0 rfl rfl rfl <| .xx (ys_call call27 (.cons (.t rfl) .nil) (fun hp w W => c27 _ _ _ _ (by exact .old W (by assumption)))) rfl <| .z) fun a w S => ?_)))))))
    rw [rw_C] at S
    refine run S (.nt rfl <| .as rfl <| .z) fun a w S => st_nil (then_normal (hK2 _ _ (st_then S (.t rfl) (sg S (.ac rfl <| .z) fun a w S => wp_ret (in_ret (then_ret (st_ret S (results1 S results9 (Rv.tmp rfl)) ?_)))))))
    exact ⟨rfl, S.wd.below⟩
  | true =>
  rw [if_neg (by simp)]
  by_cases hbig : 64 < l.length
  · refine enter1 func9 rfl ntmps9 rfl fun a S => wp_seq_k fun _ hK1 => wp_region_lit (st_m (op_box S (.t rfl) rfl fun g1 a w S => run S (.ac rfl <| .z) fun a w S => st_nil (then_normal (hK1 _ _ (wp_seq_k fun _ hK1 => wp_block (wp_seq_k fun _ hK2 => wp_region_lit (run S (.fa underlying40 sizeOf38 1 rfl rfl rfl <| .la gt38 0 rfl rfl rfl <| .xx (ys_call call27 (.cons (.t rfl) .nil) (fun hp w W => c27 _ _ _ _ (by exact .old W (by assumption)))) rfl <| .z) fun a w S => ?_)))))))
    rw [rw_C] at S
    refine run S (.nt rfl <| .as rfl <| .z) fun a w S => st_nil (then_normal (hK2 _ _ (st_else S (.t rfl) (sg S (.fa underlying40 sizeOf34 0 rfl rfl rfl <| .ld gt34 0 rfl rfl rfl <| .ln underlying34 rfl <| .yy (ys_T (by omega) (ys_gtr (.t rfl) Ev.c)) rfl <| .as rfl <| .z) fun a w S => st_then S (.t rfl) (sg S (.ac rfl <| .z) fun a w S => wp_ret (in_ret (then_ret (st_ret S (results1 S results9 (Rv.tmp rfl)) ?_))))))))
    exact ⟨by rw [if_pos hbig], S.wd.below⟩
  rw [if_neg hbig]
  refine enter1 func9 rfl ntmps9 rfl fun a S => wp_seq_k fun _ hK1 => wp_region_lit (st_m (op_box S (.t rfl) rfl fun g1 a w S => run S (.ac rfl <| .z) fun a w S => st_nil (then_normal (hK1 _ _ (wp_seq_k fun _ hK1 => wp_block (wp_seq_k fun _ hK2 => wp_region_lit (run S (.fa underlying40 sizeOf38 1 rfl rfl rfl <| .la gt38 0 rfl rfl rfl <| .xx (ys_call call27 (.cons (.t rfl) .nil) (fun hp w W => c27 _ _ _ _ (by exact .old W (by assumption)))) rfl <| .z) fun a w S => ?_)))))))
  rw [rw_C] at S
  refine run S (.nt rfl <| .as rfl <| .z) fun a w S => st_nil (then_normal (hK2 _ _ (st_else S (.t rfl) (sg S (.fa underlying40 sizeOf34 0 rfl rfl rfl <| .ld gt34 0 rfl rfl rfl <| .ln underlying34 rfl <| .yy (ys_F (by omega) (ys_gtr (.t rfl) Ev.c)) rfl <| .as rfl <| .z) fun a w S => st_else S (.t rfl) (wp_skip (in_normal (then_normal (hK1 _ _ (wp_seq_k fun _ hK1 => sg S (.fa underlying40 sizeOf34 0 rfl rfl rfl <| .ld gt34 0 rfl rfl rfl <| .ln underlying34 rfl <| .mc rfl <| .z) fun a w S => wp_block ?_)))))))))
  refine st_lpM S [3, 4, 18] (X := Nat) (fun k => [(18, true, .int .i64 (k : Int))]) (fun _ => [.blk g1 (.cells #[.slice A l.length cap, v2, v3] 40)])
    (fun k => k ≤ l.length ∧ (∀ y ∈ l.take k, C.covers y.dot = true) ∧ entsE C (l.take k) (l.drop k) = entsE C [] l) (fun k => l.length - k) 0 ⟨Nat.zero_le _, by simp, rfl⟩ ?_
  clear S
  intro k a w ⟨hk, hcov, hno⟩ S
  by_cases hlt : k < l.length
  rotate_left
  · obtain rfl : k = l.length := by omega
    rw [List.drop_length, entsE] at hno
    by_cases hi : 32 < itemsN l
    · refine sg S (.ge (by omega) rfl rfl <| .z) fun a w S => wp_seq_k fun _ hK2 => st_else S (.t rfl) (wp_exit (then_exit (then_exit (in_here (then_normal (hK1 _ _ (wp_seq_k fun _ hK1 => sg S (.fa underlying40 sizeOf34 0 rfl rfl rfl <| .ld gt34 0 rfl rfl rfl <| .xx (ys_call call29 (.cons (.t rfl) .nil) (fun hp w W => c29 _ _ _ (by exact .old W (by assumption)) (by omega))) rfl <| .yy (ys_T (by omega) (ys_gtr (.t rfl) Ev.c)) rfl <| .z) fun a w S => st_then S (.t rfl) (sg S (.ac rfl <| .z) fun a w S => wp_ret (then_ret (st_ret S (results1 S results9 (Rv.tmp rfl)) ?_))))))))))
      exact ⟨by rw [if_pos hno.symm, if_pos hi], S.wd.below⟩
    · refine sg S (.ge (by omega) rfl rfl <| .z) fun a w S => wp_seq_k fun _ hK2 => st_else S (.t rfl) (wp_exit (then_exit (then_exit (in_here (then_normal (hK1 _ _ (wp_seq_k fun _ hK1 => sg S (.fa underlying40 sizeOf34 0 rfl rfl rfl <| .ld gt34 0 rfl rfl rfl <| .xx (ys_call call29 (.cons (.t rfl) .nil) (fun hp w W => c29 _ _ _ (by exact .old W (by assumption)) (by omega))) rfl <| .yy (ys_F (by omega) (ys_gtr (.t rfl) Ev.c)) rfl <| .z) fun a w S => st_else S (.t rfl) (wp_skip (then_normal (hK1 _ _ (sg S (.ac rfl <| .z) fun a w S => wp_ret (st_ret S (results1 S results9 (Rv.tmp rfl)) ?_))))))))))))
      exact ⟨by rw [if_pos hno.symm, if_neg hi], S.wd.below⟩
  obtain ⟨x, hx⟩ : ∃ x, l[k]? = some x := ⟨_, List.getElem?_eq_getElem hlt⟩
  have hst := ents_step (C := C) hx
  rw [hno] at hst
  by_cases he : entE C (l.take k) x = 0
  · have hcx := (entE_ok.1 he).1.cov
    rw [if_pos he] at hst
    have rw_e := he
    refine sg S (.lt (by omega) rfl rfl <| .z) fun a w S => wp_seq_k fun _ hK2 => st_then S (.t rfl) (wp_skip (then_normal (hK2 _ _ (wp_seq_k fun _ hK2 => wp_block (sg S (.mv rfl <| .as rfl <| .z) fun a w S => wp_seq_k fun _ hK3 => wp_region_lit (run S (.la gt40 0 rfl rfl rfl <| .mv rfl <| .xx (ys_call call28 (.cons (.t rfl) (.cons (.t rfl) .nil)) (fun hp w W => c28 _ _ _ _ _ _ _ _ (by exact .old W (by assumption)) (by exact .old W (by assumption)) (by assumption) (by assumption) (by assumption) (by omega))) rfl <| .z) fun a w S => ?_))))))
    rw [rw_e] at S
    refine run S (.as rfl <| .z) fun a w S => st_nil (then_normal (hK3 _ _ (sg S (.mv rfl <| .yy (ys_F (by omega) (ys_neq (.t rfl) Ev.c)) rfl <| .z) fun a w S => st_else S (.t rfl) (wp_skip (in_normal (then_normal (hK2 _ _ (wp_region_lit (run S (.ad (by unfold I64; omega) rfl <| .mv rfl <| .z) fun a w S => st_nil (then_normal ?_))))))))))
    refine ⟨k + 1, ⟨by omega, fun y hy => ?_, hst.symm⟩, by omega, S.pk⟩
    rw [List.take_add_one, hx, Option.toList_some] at hy
    rcases List.mem_append.1 hy with hy | hy
    · exact hcov y hy
    · simp at hy; exact hy ▸ hcx
  · rw [if_neg he] at hst
    refine sg S (.lt (by omega) rfl rfl <| .z) fun a w S => wp_seq_k fun _ hK2 => st_then S (.t rfl) (wp_skip (then_normal (hK2 _ _ (wp_seq_k fun _ hK2 => wp_block (sg S (.mv rfl <| .as rfl <| .z) fun a w S => sg S (.la gt40 0 rfl rfl rfl <| .mv rfl <| .xx (ys_call call28 (.cons (.t rfl) (.cons (.t rfl) .nil)) (fun hp w W => c28 _ _ _ _ _ _ _ _ (by exact .old W (by assumption)) (by exact .old W (by assumption)) (by assumption) (by assumption) (by assumption) (by omega))) rfl <| .as rfl <| .z) fun a w S => sg S (.mv rfl <| .yy (ys_T (by omega) (ys_neq (.t rfl) Ev.c)) rfl <| .z) fun a w S => st_then S (.t rfl) (sg S (.mv rfl <| .as rfl <| .z) fun a w S => wp_ret (in_ret (then_ret (then_ret (in_ret (then_ret (st_ret S (results1 S results9 (Rv.tmp rfl)) ?_))))))))))))
    exact ⟨by rw [hst, if_neg he], S.wd.below⟩
end Go.Proofs.Ytfblmkocmnbdcaa
set_option linter.unusedVariables false
set_option linter.unusedSimpArgs false
set_option maxRecDepth 100000
set_option maxHeartbeats 4000000
namespace Go.Fw
abbrev Upd.enc (u : Upd) (v1 v2 v3 : Value) : List Value := [.string (bs u.key), .int .i64 u.dot.node, .int .i64 u.dot.life, .int .i64 u.dot.count, .string (bs u.item), .int .i64 u.qty, .int .u64 (u.price.toNat : Int), v1, v2, v3]
theorem can_ctx {c : Cart} (h : canE c = 0) : canL c.ctx = true := ((canE_ok c).1 h).ctx
end Go.Fw
namespace Go.Proofs.Ytfblmkocmnbdcaa
open Go.Fw Go.Proofs Go.RowKit Go.Proofs.Try
theorem c22 (w0 : World) (u : Upd) (v1 v2 v3 : Value) (h : Sl Ent.enc 6 w0 w0.heap.size v1 u.seen.ents) (hr : RdCtx w0 w0.heap.size v2 v3 u.seen.ctx) :
    Calls Try.prog 22 #[.agg (Upd.enc u v1 v2 v3).toArray] w0 fun e w' => e = .returned (.int .i64 (mayE u)) ∧ Bel w0.heap.size w0 w' := by
  have hs := h
  have hrr := hr
  obtain ⟨A, cap, rfl, _⟩ := h
  obtain ⟨⟨A2, cap2, rfl, _⟩, ⟨A3, cap3, rfl, _⟩⟩ := hr
  unfold mayE
  cases rw_k : nameB u.key with
  | false =>
    refine enter1 func22 rfl ntmps22 rfl fun a S => wp_seq_k fun _ hK1 => wp_region_lit (st_m (op_box S (.t rfl) rfl fun g1 a w S => run S (.ac rfl <| .z) fun a w S => st_nil (then_normal (hK1 _ _ (wp_seq_k fun _ hK1 => wp_block (wp_seq_k fun _ hK2 => wp_region_lit (run S (.fa underlying64 sizeOf9 0 rfl rfl rfl <| .ld gt9 0 rfl rfl rfl <| .xx (ys_call call49 (.cons (.t rfl) .nil) (fun hp w W => c49 _ _)) rfl <| .z) fun a w S => ?_)))))))
    rw [rw_k] at S
    refine run S (.nt rfl <| .mv rfl <| .sk rfl rfl rfl <| .sk rfl rfl rfl <| .sk rfl rfl rfl <| .sk rfl rfl rfl <| .yy (ys_pickT (.t rfl) Ev.c) rfl <| .as rfl <| .z) fun a w S => st_nil (then_normal (hK2 _ _ (st_then S (.t rfl) (sg S (.ac rfl <| .z) fun a w S => wp_ret (in_ret (then_ret (st_ret S (results1 S results22 (Rv.tmp rfl)) ?_)))))))
    exact ⟨by rw [if_pos (.inl rfl)], S.wd.below⟩
  | true =>
  cases rw_i : nameB u.item with
  | false =>
    refine enter1 func22 rfl ntmps22 rfl fun a S => wp_seq_k fun _ hK1 => wp_region_lit (st_m (op_box S (.t rfl) rfl fun g1 a w S => run S (.ac rfl <| .z) fun a w S => st_nil (then_normal (hK1 _ _ (wp_seq_k fun _ hK1 => wp_block (wp_seq_k fun _ hK2 => wp_region_lit (run S (.fa underlying64 sizeOf9 0 rfl rfl rfl <| .ld gt9 0 rfl rfl rfl <| .xx (ys_call call49 (.cons (.t rfl) .nil) (fun hp w W => c49 _ _)) rfl <| .z) fun a w S => ?_)))))))
    rw [rw_k] at S
    refine run S (.nt rfl <| .mv rfl <| .gy rfl rfl (ys_fieldN (FieldT.mk underlying64 rfl sizeOf9 rfl) (.t rfl) (i' := 4) rfl) <| .gy rfl rfl (ys_ld ⟨isAgg9, sizeOf9⟩ (.t rfl) (k := 0) rfl rfl) <| .gx rfl rfl (ys_call call49 (.cons (.t rfl) .nil) (fun hp w W => c49 _ _)) <| .z) fun a w S => ?_
    rw [rw_i] at S
    refine run S (.gy rfl rfl (ys_not (.t rfl)) <| .yy (ys_pickF (.t rfl) (.t rfl)) rfl <| .as rfl <| .z) fun a w S => st_nil (then_normal (hK2 _ _ (st_then S (.t rfl) (sg S (.ac rfl <| .z) fun a w S => wp_ret (in_ret (then_ret (st_ret S (results1 S results22 (Rv.tmp rfl)) ?_)))))))
    exact ⟨by rw [if_pos (.inr rfl)], S.wd.below⟩
  | true =>
  rw [if_neg (by simp)]
  by_cases hq : u.qty < 0 ∨ 1000000 < u.qty
  · have rw_q : (decide (0 ≤ u.qty) && decide (u.qty ≤ 1000000)) = false := by simp; omega
    refine enter1 func22 rfl ntmps22 rfl fun a S => wp_seq_k fun _ hK1 => wp_region_lit (st_m (op_box S (.t rfl) rfl fun g1 a w S => run S (.ac rfl <| .z) fun a w S => st_nil (then_normal (hK1 _ _ (wp_seq_k fun _ hK1 => wp_block (wp_seq_k fun _ hK2 => wp_region_lit (run S (.fa underlying64 sizeOf9 0 rfl rfl rfl <| .ld gt9 0 rfl rfl rfl <| .xx (ys_call call49 (.cons (.t rfl) .nil) (fun hp w W => c49 _ _)) rfl <| .z) fun a w S => ?_)))))))
    rw [rw_k] at S
    refine run S (.nt rfl <| .mv rfl <| .gy rfl rfl (ys_fieldN (FieldT.mk underlying64 rfl sizeOf9 rfl) (.t rfl) (i' := 4) rfl) <| .gy rfl rfl (ys_ld ⟨isAgg9, sizeOf9⟩ (.t rfl) (k := 0) rfl rfl) <| .gx rfl rfl (ys_call call49 (.cons (.t rfl) .nil) (fun hp w W => c49 _ _)) <| .z) fun a w S => ?_
    rw [rw_i] at S
    refine run S (.gy rfl rfl (ys_not (.t rfl)) <| .yy (ys_pickF (.t rfl) (.t rfl)) rfl <| .as rfl <| .z) fun a w S => st_nil (then_normal (hK2 _ _ (st_else S (.t rfl) (wp_seq_k fun _ hK2 => wp_region_lit (run S (.fa underlying64 sizeOf3 5 rfl rfl rfl <| .ld gt3 0 rfl rfl rfl <| .xx (ys_call call50 (.cons (.t rfl) (.cons Ev.c .nil)) (fun hp w W => c50 _ _ _)) rfl <| .z) fun a w S => ?_)))))
    rw [rw_q] at S
    refine run S (.nt rfl <| .as rfl <| .z) fun a w S => st_nil (then_normal (hK2 _ _ (st_then S (.t rfl) (sg S (.ac rfl <| .z) fun a w S => wp_ret (in_ret (then_ret (st_ret S (results1 S results22 (Rv.tmp rfl)) ?_)))))))
    exact ⟨by rw [if_pos hq], S.wd.below⟩
  have rw_q : (decide (0 ≤ u.qty) && decide (u.qty ≤ 1000000)) = true := by simp; omega
  rw [if_neg hq]
  cases rw_p : priceB u.price with
  | false =>
    refine enter1 func22 rfl ntmps22 rfl fun a S => wp_seq_k fun _ hK1 => wp_region_lit (st_m (op_box S (.t rfl) rfl fun g1 a w S => run S (.ac rfl <| .z) fun a w S => st_nil (then_normal (hK1 _ _ (wp_seq_k fun _ hK1 => wp_block (wp_seq_k fun _ hK2 => wp_region_lit (run S (.fa underlying64 sizeOf9 0 rfl rfl rfl <| .ld gt9 0 rfl rfl rfl <| .xx (ys_call call49 (.cons (.t rfl) .nil) (fun hp w W => c49 _ _)) rfl <| .z) fun a w S => ?_)))))))
    rw [rw_k] at S
    refine run S (.nt rfl <| .mv rfl <| .gy rfl rfl (ys_fieldN (FieldT.mk underlying64 rfl sizeOf9 rfl) (.t rfl) (i' := 4) rfl) <| .gy rfl rfl (ys_ld ⟨isAgg9, sizeOf9⟩ (.t rfl) (k := 0) rfl rfl) <| .gx rfl rfl (ys_call call49 (.cons (.t rfl) .nil) (fun hp w W => c49 _ _)) <| .z) fun a w S => ?_
    rw [rw_i] at S
    refine run S (.gy rfl rfl (ys_not (.t rfl)) <| .yy (ys_pickF (.t rfl) (.t rfl)) rfl <| .as rfl <| .z) fun a w S => st_nil (then_normal (hK2 _ _ (st_else S (.t rfl) (wp_seq_k fun _ hK2 => wp_region_lit (run S (.fa underlying64 sizeOf3 5 rfl rfl rfl <| .ld gt3 0 rfl rfl rfl <| .xx (ys_call call50 (.cons (.t rfl) (.cons Ev.c .nil)) (fun hp w W => c50 _ _ _)) rfl <| .z) fun a w S => ?_)))))
    rw [rw_q] at S
    refine run S (.nt rfl <| .as rfl <| .z) fun a w S => st_nil (then_normal (hK2 _ _ (st_else S (.t rfl) (wp_seq_k fun _ hK2 => wp_region_lit (run S (.fa underlying64 sizeOf27 6 rfl rfl rfl <| .ld gt27 0 rfl rfl rfl <| .xx (ys_call call51 (.cons (.t rfl) .nil) (fun hp w W => c51 _ _)) rfl <| .z) fun a w S => ?_)))))
    rw [rw_p] at S
    refine run S (.nt rfl <| .mv rfl <| .sk rfl rfl rfl <| .sk rfl rfl rfl <| .sk rfl rfl rfl <| .sk rfl rfl rfl <| .s0 rfl rfl <| .s0 rfl rfl <| .s0 rfl rfl <| .sk rfl rfl rfl <| .yy (ys_pickT (.t rfl) Ev.c) rfl <| .as rfl <| .z) fun a w S => st_nil (then_normal (hK2 _ _ (st_then S (.t rfl) (sg S (.ac rfl <| .z) fun a w S => wp_ret (in_ret (then_ret (st_ret S (results1 S results22 (Rv.tmp rfl)) ?_)))))))
    exact ⟨by rw [if_pos (.inl rfl)], S.wd.below⟩
  | true =>
  by_cases hz : u.qty = 0 ∧ u.price.toNat ≠ 0
  · have rw_z : (decide (u.qty = 0) && decide ((u.price.toNat : Int) ≠ 0)) = true := by simp; omega
    refine enter1 func22 rfl ntmps22 rfl fun a S => wp_seq_k fun _ hK1 => wp_region_lit (st_m (op_box S (.t rfl) rfl fun g1 a w S => run S (.ac rfl <| .z) fun a w S => st_nil (then_normal (hK1 _ _ (wp_seq_k fun _ hK1 => wp_block (wp_seq_k fun _ hK2 => wp_region_lit (run S (.fa underlying64 sizeOf9 0 rfl rfl rfl <| .ld gt9 0 rfl rfl rfl <| .xx (ys_call call49 (.cons (.t rfl) .nil) (fun hp w W => c49 _ _)) rfl <| .z) fun a w S => ?_)))))))
    rw [rw_k] at S
    refine run S (.nt rfl <| .mv rfl <| .gy rfl rfl (ys_fieldN (FieldT.mk underlying64 rfl sizeOf9 rfl) (.t rfl) (i' := 4) rfl) <| .gy rfl rfl (ys_ld ⟨isAgg9, sizeOf9⟩ (.t rfl) (k := 0) rfl rfl) <| .gx rfl rfl (ys_call call49 (.cons (.t rfl) .nil) (fun hp w W => c49 _ _)) <| .z) fun a w S => ?_
    rw [rw_i] at S
    refine run S (.gy rfl rfl (ys_not (.t rfl)) <| .yy (ys_pickF (.t rfl) (.t rfl)) rfl <| .as rfl <| .z) fun a w S => st_nil (then_normal (hK2 _ _ (st_else S (.t rfl) (wp_seq_k fun _ hK2 => wp_region_lit (run S (.fa underlying64 sizeOf3 5 rfl rfl rfl <| .ld gt3 0 rfl rfl rfl <| .xx (ys_call call50 (.cons (.t rfl) (.cons Ev.c .nil)) (fun hp w W => c50 _ _ _)) rfl <| .z) fun a w S => ?_)))))
    rw [rw_q] at S
    refine run S (.nt rfl <| .as rfl <| .z) fun a w S => st_nil (then_normal (hK2 _ _ (st_else S (.t rfl) (wp_seq_k fun _ hK2 => wp_region_lit (run S (.fa underlying64 sizeOf27 6 rfl rfl rfl <| .ld gt27 0 rfl rfl rfl <| .xx (ys_call call51 (.cons (.t rfl) .nil) (fun hp w W => c51 _ _)) rfl <| .z) fun a w S => ?_)))))
    rw [rw_p] at S
    refine run S (.nt rfl <| .mv rfl <| .gy rfl rfl (ys_fieldN (FieldT.mk underlying64 rfl sizeOf3 rfl) (.t rfl) (i' := 5) rfl) <| .gy rfl rfl (ys_ld ⟨isAgg3, sizeOf3⟩ (.t rfl) (k := 0) rfl rfl) <| .gy rfl rfl (ys_T (by omega) (ys_eql (.t rfl) Ev.c)) <| .gy rfl rfl (ys_move (.t rfl)) <| .gy rfl rfl (ys_fieldN (FieldT.mk underlying64 rfl sizeOf27 rfl) (.t rfl) (i' := 6) rfl) <| .gy rfl rfl (ys_ld ⟨isAgg27, sizeOf27⟩ (.t rfl) (k := 0) rfl rfl) <| .gy rfl rfl (ys_T (by omega) (ys_neq (.t rfl) Ev.c)) <| .gy rfl rfl (ys_pickT (.t rfl) (.t rfl)) <| .yy (ys_pickF (.t rfl) (.t rfl)) rfl <| .as rfl <| .z) fun a w S => st_nil (then_normal (hK2 _ _ (st_then S (.t rfl) (sg S (.ac rfl <| .z) fun a w S => wp_ret (in_ret (then_ret (st_ret S (results1 S results22 (Rv.tmp rfl)) ?_)))))))
    exact ⟨by rw [if_pos (.inr hz)], S.wd.below⟩
  have rw_z : (decide (u.qty = 0) && decide ((u.price.toNat : Int) ≠ 0)) = false := by
    by_cases h0 : u.qty = 0
    · have : u.price.toNat = 0 := Decidable.byContradiction fun h => hz ⟨h0, h⟩
      simp [this]
    · simp [h0]
  rw [if_neg (by rintro (h | h); cases h; exact hz h)]
  by_cases he : canE u.seen = 0
  rotate_left
  · refine enter1 func22 rfl ntmps22 rfl fun a S => wp_seq_k fun _ hK1 => wp_region_lit (st_m (op_box S (.t rfl) rfl fun g1 a w S => run S (.ac rfl <| .z) fun a w S => st_nil (then_normal (hK1 _ _ (wp_seq_k fun _ hK1 => wp_block (wp_seq_k fun _ hK2 => wp_region_lit (run S (.fa underlying64 sizeOf9 0 rfl rfl rfl <| .ld gt9 0 rfl rfl rfl <| .xx (ys_call call49 (.cons (.t rfl) .nil) (fun hp w W => c49 _ _)) rfl <| .z) fun a w S => ?_)))))))
    rw [rw_k] at S
    refine run S (.nt rfl <| .mv rfl <| .gy rfl rfl (ys_fieldN (FieldT.mk underlying64 rfl sizeOf9 rfl) (.t rfl) (i' := 4) rfl) <| .gy rfl rfl (ys_ld ⟨isAgg9, sizeOf9⟩ (.t rfl) (k := 0) rfl rfl) <| .gx rfl rfl (ys_call call49 (.cons (.t rfl) .nil) (fun hp w W => c49 _ _)) <| .z) fun a w S => ?_
    rw [rw_i] at S
    refine run S (.gy rfl rfl (ys_not (.t rfl)) <| .yy (ys_pickF (.t rfl) (.t rfl)) rfl <| .as rfl <| .z) fun a w S => st_nil (then_normal (hK2 _ _ (st_else S (.t rfl) (wp_seq_k fun _ hK2 => wp_region_lit (run S (.fa underlying64 sizeOf3 5 rfl rfl rfl <| .ld gt3 0 rfl rfl rfl <| .xx (ys_call call50 (.cons (.t rfl) (.cons Ev.c .nil)) (fun hp w W => c50 _ _ _)) rfl <| .z) fun a w S => ?_)))))
    rw [rw_q] at S
    refine run S (.nt rfl <| .as rfl <| .z) fun a w S => st_nil (then_normal (hK2 _ _ (st_else S (.t rfl) (wp_seq_k fun _ hK2 => wp_region_lit (run S (.fa underlying64 sizeOf27 6 rfl rfl rfl <| .ld gt27 0 rfl rfl rfl <| .xx (ys_call call51 (.cons (.t rfl) .nil) (fun hp w W => c51 _ _)) rfl <| .z) fun a w S => ?_)))))
    rw [rw_p] at S
    refine run S (.nt rfl <| .mv rfl <| .gy rfl rfl (ys_fieldN (FieldT.mk underlying64 rfl sizeOf3 rfl) (.t rfl) (i' := 5) rfl) <| .gy rfl rfl (ys_ld ⟨isAgg3, sizeOf3⟩ (.t rfl) (k := 0) rfl rfl) <| .gy rfl rfl (ys_eql (.t rfl) Ev.c) <| .gy rfl rfl (ys_move (.t rfl)) <| .z) fun a w S => st_yg S rfl rfl (Yr.ys (ys_fieldN (FieldT.mk underlying64 rfl sizeOf27 rfl) (.t rfl) (i' := 6) rfl)) rfl fun a w S => st_yg S rfl rfl (Yr.ys (ys_ld ⟨isAgg27, sizeOf27⟩ (Ev.g rfl) (k := 0) rfl rfl)) rfl fun a w S => st_yg S rfl rfl (Yr.ys (ys_neq (Ev.g rfl) Ev.c)) rfl fun a w S => run S (.gy rfl rfl (ys_and2 (.t rfl) (Ev.g rfl) Ev.c) <| .z) fun a w S => ?_
    rw [rw_z] at S
    refine run S (.yy (ys_pickF (.t rfl) (.t rfl)) rfl <| .as rfl <| .z) fun a w S => st_nil (then_normal (hK2 _ _ (st_else S (.t rfl) (wp_skip (in_normal (then_normal (hK1 _ _ (wp_seq_k fun _ hK1 => sg S (.fa underlying64 sizeOf40 7 rfl rfl rfl <| .la gt40 0 rfl rfl rfl <| .xx (ys_call call20 (.cons (.t rfl) .nil) (fun hp w W => c20 _ _ _ _ _ (by exact .old W (by assumption)) (by exact .old W (by assumption)))) rfl <| .as rfl <| .z) fun a w S => sg S (.mv rfl <| .yy (ys_T (by omega) (ys_neq (.t rfl) Ev.c)) rfl <| .z) fun a w S => st_then S (.t rfl) (sg S (.mv rfl <| .as rfl <| .z) fun a w S => wp_ret (then_ret (st_ret S (results1 S results22 (Rv.tmp rfl)) ?_)))))))))))
    exact ⟨by rw [if_neg he], S.wd.below⟩
  have rw_e := he
  rw [if_pos he]
  have rw_cov := can_covers (can_ctx he)
  cases hd : mayD u.dot with
  | false =>
    have rw_d : mayD ⟨u.dot.node, u.dot.life, u.dot.count⟩ = false := hd
    refine enter1 func22 rfl ntmps22 rfl fun a S => wp_seq_k fun _ hK1 => wp_region_lit (st_m (op_box S (.t rfl) rfl fun g1 a w S => run S (.ac rfl <| .z) fun a w S => st_nil (then_normal (hK1 _ _ (wp_seq_k fun _ hK1 => wp_block (wp_seq_k fun _ hK2 => wp_region_lit (run S (.fa underlying64 sizeOf9 0 rfl rfl rfl <| .ld gt9 0 rfl rfl rfl <| .xx (ys_call call49 (.cons (.t rfl) .nil) (fun hp w W => c49 _ _)) rfl <| .z) fun a w S => ?_)))))))
    rw [rw_k] at S
    refine run S (.nt rfl <| .mv rfl <| .gy rfl rfl (ys_fieldN (FieldT.mk underlying64 rfl sizeOf9 rfl) (.t rfl) (i' := 4) rfl) <| .gy rfl rfl (ys_ld ⟨isAgg9, sizeOf9⟩ (.t rfl) (k := 0) rfl rfl) <| .gx rfl rfl (ys_call call49 (.cons (.t rfl) .nil) (fun hp w W => c49 _ _)) <| .z) fun a w S => ?_
    rw [rw_i] at S
    refine run S (.gy rfl rfl (ys_not (.t rfl)) <| .yy (ys_pickF (.t rfl) (.t rfl)) rfl <| .as rfl <| .z) fun a w S => st_nil (then_normal (hK2 _ _ (st_else S (.t rfl) (wp_seq_k fun _ hK2 => wp_region_lit (run S (.fa underlying64 sizeOf3 5 rfl rfl rfl <| .ld gt3 0 rfl rfl rfl <| .xx (ys_call call50 (.cons (.t rfl) (.cons Ev.c .nil)) (fun hp w W => c50 _ _ _)) rfl <| .z) fun a w S => ?_)))))
    rw [rw_q] at S
    refine run S (.nt rfl <| .as rfl <| .z) fun a w S => st_nil (then_normal (hK2 _ _ (st_else S (.t rfl) (wp_seq_k fun _ hK2 => wp_region_lit (run S (.fa underlying64 sizeOf27 6 rfl rfl rfl <| .ld gt27 0 rfl rfl rfl <| .xx (ys_call call51 (.cons (.t rfl) .nil) (fun hp w W => c51 _ _)) rfl <| .z) fun a w S => ?_)))))
    rw [rw_p] at S
    refine run S (.nt rfl <| .mv rfl <| .gy rfl rfl (ys_fieldN (FieldT.mk underlying64 rfl sizeOf3 rfl) (.t rfl) (i' := 5) rfl) <| .gy rfl rfl (ys_ld ⟨isAgg3, sizeOf3⟩ (.t rfl) (k := 0) rfl rfl) <| .gy rfl rfl (ys_eql (.t rfl) Ev.c) <| .gy rfl rfl (ys_move (.t rfl)) <| .z) fun a w S => st_yg S rfl rfl (Yr.ys (ys_fieldN (FieldT.mk underlying64 rfl sizeOf27 rfl) (.t rfl) (i' := 6) rfl)) rfl fun a w S => st_yg S rfl rfl (Yr.ys (ys_ld ⟨isAgg27, sizeOf27⟩ (Ev.g rfl) (k := 0) rfl rfl)) rfl fun a w S => st_yg S rfl rfl (Yr.ys (ys_neq (Ev.g rfl) Ev.c)) rfl fun a w S => run S (.gy rfl rfl (ys_and2 (.t rfl) (Ev.g rfl) Ev.c) <| .z) fun a w S => ?_
    rw [rw_z] at S
    refine run S (.yy (ys_pickF (.t rfl) (.t rfl)) rfl <| .as rfl <| .z) fun a w S => st_nil (then_normal (hK2 _ _ (st_else S (.t rfl) (wp_skip (in_normal (then_normal (hK1 _ _ (wp_seq_k fun _ hK1 => wp_seq_k fun _ hK2 => wp_region_lit (run S (.fa underlying64 sizeOf40 7 rfl rfl rfl <| .la gt40 0 rfl rfl rfl <| .xx (ys_call call20 (.cons (.t rfl) .nil) (fun hp w W => c20 _ _ _ _ _ (by exact .old W (by assumption)) (by exact .old W (by assumption)))) rfl <| .z) fun a w S => ?_)))))))))
    rw [rw_e] at S
    refine run S (.as rfl <| .z) fun a w S => st_nil (then_normal (hK2 _ _ (sg S (.mv rfl <| .yy (ys_F (by omega) (ys_neq (.t rfl) Ev.c)) rfl <| .z) fun a w S => st_else S (.t rfl) (wp_skip (then_normal (hK1 _ _ (wp_seq_k fun _ hK1 => wp_seq_k fun _ hK2 => wp_region_lit (run S (.fa underlying64 sizeOf62 1 rfl rfl rfl <| .la gt62 0 rfl rfl rfl <| .xx (ys_call call59 (.cons (.t rfl) .nil) (fun hp w W => c59 _ _ _ _)) rfl <| .z) fun a w S => ?_))))))))
    rw [rw_d] at S
    refine run S (.nt rfl <| .mv rfl <| .sk rfl rfl rfl <| .sk rfl rfl rfl <| .sk rfl rfl rfl <| .sk rfl rfl rfl <| .sk rfl rfl rfl <| .sk rfl rfl rfl <| .yy (ys_pickT (.t rfl) Ev.c) rfl <| .z) fun a w S => st_nil (then_normal (hK2 _ _ (st_then S (.t rfl) (sg S (.ac rfl <| .z) fun a w S => wp_ret (then_ret (st_ret S (results1 S results22 (Rv.tmp rfl)) ?_))))))
    exact ⟨by rw [if_pos (.inl rfl)], S.wd.below⟩
  | true =>
    have rw_d : mayD ⟨u.dot.node, u.dot.life, u.dot.count⟩ = true := hd
    cases hc : u.seen.ctx.covers u.dot with
    | true =>
      have rw_c : u.seen.ctx.covers ⟨u.dot.node, u.dot.life, u.dot.count⟩ = true := hc
      refine enter1 func22 rfl ntmps22 rfl fun a S => wp_seq_k fun _ hK1 => wp_region_lit (st_m (op_box S (.t rfl) rfl fun g1 a w S => run S (.ac rfl <| .z) fun a w S => st_nil (then_normal (hK1 _ _ (wp_seq_k fun _ hK1 => wp_block (wp_seq_k fun _ hK2 => wp_region_lit (run S (.fa underlying64 sizeOf9 0 rfl rfl rfl <| .ld gt9 0 rfl rfl rfl <| .xx (ys_call call49 (.cons (.t rfl) .nil) (fun hp w W => c49 _ _)) rfl <| .z) fun a w S => ?_)))))))
      rw [rw_k] at S
      refine run S (.nt rfl <| .mv rfl <| .gy rfl rfl (ys_fieldN (FieldT.mk underlying64 rfl sizeOf9 rfl) (.t rfl) (i' := 4) rfl) <| .gy rfl rfl (ys_ld ⟨isAgg9, sizeOf9⟩ (.t rfl) (k := 0) rfl rfl) <| .gx rfl rfl (ys_call call49 (.cons (.t rfl) .nil) (fun hp w W => c49 _ _)) <| .z) fun a w S => ?_
      rw [rw_i] at S
      refine run S (.gy rfl rfl (ys_not (.t rfl)) <| .yy (ys_pickF (.t rfl) (.t rfl)) rfl <| .as rfl <| .z) fun a w S => st_nil (then_normal (hK2 _ _ (st_else S (.t rfl) (wp_seq_k fun _ hK2 => wp_region_lit (run S (.fa underlying64 sizeOf3 5 rfl rfl rfl <| .ld gt3 0 rfl rfl rfl <| .xx (ys_call call50 (.cons (.t rfl) (.cons Ev.c .nil)) (fun hp w W => c50 _ _ _)) rfl <| .z) fun a w S => ?_)))))
      rw [rw_q] at S
      refine run S (.nt rfl <| .as rfl <| .z) fun a w S => st_nil (then_normal (hK2 _ _ (st_else S (.t rfl) (wp_seq_k fun _ hK2 => wp_region_lit (run S (.fa underlying64 sizeOf27 6 rfl rfl rfl <| .ld gt27 0 rfl rfl rfl <| .xx (ys_call call51 (.cons (.t rfl) .nil) (fun hp w W => c51 _ _)) rfl <| .z) fun a w S => ?_)))))
      rw [rw_p] at S
      refine run S (.nt rfl <| .mv rfl <| .gy rfl rfl (ys_fieldN (FieldT.mk underlying64 rfl sizeOf3 rfl) (.t rfl) (i' := 5) rfl) <| .gy rfl rfl (ys_ld ⟨isAgg3, sizeOf3⟩ (.t rfl) (k := 0) rfl rfl) <| .gy rfl rfl (ys_eql (.t rfl) Ev.c) <| .gy rfl rfl (ys_move (.t rfl)) <| .z) fun a w S => st_yg S rfl rfl (Yr.ys (ys_fieldN (FieldT.mk underlying64 rfl sizeOf27 rfl) (.t rfl) (i' := 6) rfl)) rfl fun a w S => st_yg S rfl rfl (Yr.ys (ys_ld ⟨isAgg27, sizeOf27⟩ (Ev.g rfl) (k := 0) rfl rfl)) rfl fun a w S => st_yg S rfl rfl (Yr.ys (ys_neq (Ev.g rfl) Ev.c)) rfl fun a w S => run S (.gy rfl rfl (ys_and2 (.t rfl) (Ev.g rfl) Ev.c) <| .z) fun a w S => ?_
      rw [rw_z] at S
      refine run S (.yy (ys_pickF (.t rfl) (.t rfl)) rfl <| .as rfl <| .z) fun a w S => st_nil (then_normal (hK2 _ _ (st_else S (.t rfl) (wp_skip (in_normal (then_normal (hK1 _ _ (wp_seq_k fun _ hK1 => wp_seq_k fun _ hK2 => wp_region_lit (run S (.fa underlying64 sizeOf40 7 rfl rfl rfl <| .la gt40 0 rfl rfl rfl <| .xx (ys_call call20 (.cons (.t rfl) .nil) (fun hp w W => c20 _ _ _ _ _ (by exact .old W (by assumption)) (by exact .old W (by assumption)))) rfl <| .z) fun a w S => ?_)))))))))
      rw [rw_e] at S
      refine run S (.as rfl <| .z) fun a w S => st_nil (then_normal (hK2 _ _ (sg S (.mv rfl <| .yy (ys_F (by omega) (ys_neq (.t rfl) Ev.c)) rfl <| .z) fun a w S => st_else S (.t rfl) (wp_skip (then_normal (hK1 _ _ (wp_seq_k fun _ hK1 => wp_seq_k fun _ hK2 => wp_region_lit (run S (.fa underlying64 sizeOf62 1 rfl rfl rfl <| .la gt62 0 rfl rfl rfl <| .xx (ys_call call59 (.cons (.t rfl) .nil) (fun hp w W => c59 _ _ _ _)) rfl <| .z) fun a w S => ?_))))))))
      rw [rw_d] at S
      refine run S (.nt rfl <| .mv rfl <| .gy rfl rfl (ys_fieldN (FieldT.mk underlying64 rfl sizeOf40 rfl) (.t rfl) (i' := 7) rfl) <| .gy rfl rfl (ys_fieldN (FieldT.mk underlying40 rfl sizeOf38 rfl) (.t rfl) (i' := 8) rfl) <| .gy rfl rfl (ys_ldA ⟨isAgg38, sizeOf38⟩ (.t rfl) (k := 0) rfl rfl) <| .gy rfl rfl (ys_fieldN (FieldT.mk underlying64 rfl sizeOf62 rfl) (.t rfl) (i' := 1) rfl) <| .gy rfl rfl (ys_ldA ⟨isAgg62, sizeOf62⟩ (.t rfl) (k := 0) rfl rfl) <| .gx rfl rfl (ys_call call52 (.cons (.t rfl) (.cons (.t rfl) .nil)) (fun hp w W => c52 _ _ _ _ _ _ _ (by exact .old W (by assumption)))) <| .z) fun a w S => ?_
      rw [rw_cov] at S
      rw [rw_c] at S
      refine run S (.yy (ys_pickF (.t rfl) (.t rfl)) rfl <| .z) fun a w S => st_nil (then_normal (hK2 _ _ (st_then S (.t rfl) (sg S (.ac rfl <| .z) fun a w S => wp_ret (then_ret (st_ret S (results1 S results22 (Rv.tmp rfl)) ?_))))))
      exact ⟨by rw [if_pos (.inr rfl)], S.wd.below⟩
    | false =>
      have rw_c : u.seen.ctx.covers ⟨u.dot.node, u.dot.life, u.dot.count⟩ = false := hc
      refine enter1 func22 rfl ntmps22 rfl fun a S => wp_seq_k fun _ hK1 => wp_region_lit (st_m (op_box S (.t rfl) rfl fun g1 a w S => run S (.ac rfl <| .z) fun a w S => st_nil (then_normal (hK1 _ _ (wp_seq_k fun _ hK1 => wp_block (wp_seq_k fun _ hK2 => wp_region_lit (run S (.fa underlying64 sizeOf9 0 rfl rfl rfl <| .ld gt9 0 rfl rfl rfl <| .xx (ys_call call49 (.cons (.t rfl) .nil) (fun hp w W => c49 _ _)) rfl <| .z) fun a w S => ?_)))))))
      rw [rw_k] at S
      refine run S (.nt rfl <| .mv rfl <| .gy rfl rfl (ys_fieldN (FieldT.mk underlying64 rfl sizeOf9 rfl) (.t rfl) (i' := 4) rfl) <| .gy rfl rfl (ys_ld ⟨isAgg9, sizeOf9⟩ (.t rfl) (k := 0) rfl rfl) <| .gx rfl rfl (ys_call call49 (.cons (.t rfl) .nil) (fun hp w W => c49 _ _)) <| .z) fun a w S => ?_
      rw [rw_i] at S
      refine run S (.gy rfl rfl (ys_not (.t rfl)) <| .yy (ys_pickF (.t rfl) (.t rfl)) rfl <| .as rfl <| .z) fun a w S => st_nil (then_normal (hK2 _ _ (st_else S (.t rfl) (wp_seq_k fun _ hK2 => wp_region_lit (run S (.fa underlying64 sizeOf3 5 rfl rfl rfl <| .ld gt3 0 rfl rfl rfl <| .xx (ys_call call50 (.cons (.t rfl) (.cons Ev.c .nil)) (fun hp w W => c50 _ _ _)) rfl <| .z) fun a w S => ?_)))))
      rw [rw_q] at S
      refine run S (.nt rfl <| .as rfl <| .z) fun a w S => st_nil (then_normal (hK2 _ _ (st_else S (.t rfl) (wp_seq_k fun _ hK2 => wp_region_lit (run S (.fa underlying64 sizeOf27 6 rfl rfl rfl <| .ld gt27 0 rfl rfl rfl <| .xx (ys_call call51 (.cons (.t rfl) .nil) (fun hp w W => c51 _ _)) rfl <| .z) fun a w S => ?_)))))
      rw [rw_p] at S
      refine run S (.nt rfl <| .mv rfl <| .gy rfl rfl (ys_fieldN (FieldT.mk underlying64 rfl sizeOf3 rfl) (.t rfl) (i' := 5) rfl) <| .gy rfl rfl (ys_ld ⟨isAgg3, sizeOf3⟩ (.t rfl) (k := 0) rfl rfl) <| .gy rfl rfl (ys_eql (.t rfl) Ev.c) <| .gy rfl rfl (ys_move (.t rfl)) <| .z) fun a w S => st_yg S rfl rfl (Yr.ys (ys_fieldN (FieldT.mk underlying64 rfl sizeOf27 rfl) (.t rfl) (i' := 6) rfl)) rfl fun a w S => st_yg S rfl rfl (Yr.ys (ys_ld ⟨isAgg27, sizeOf27⟩ (Ev.g rfl) (k := 0) rfl rfl)) rfl fun a w S => st_yg S rfl rfl (Yr.ys (ys_neq (Ev.g rfl) Ev.c)) rfl fun a w S => run S (.gy rfl rfl (ys_and2 (.t rfl) (Ev.g rfl) Ev.c) <| .z) fun a w S => ?_
      rw [rw_z] at S
      refine run S (.yy (ys_pickF (.t rfl) (.t rfl)) rfl <| .as rfl <| .z) fun a w S => st_nil (then_normal (hK2 _ _ (st_else S (.t rfl) (wp_skip (in_normal (then_normal (hK1 _ _ (wp_seq_k fun _ hK1 => wp_seq_k fun _ hK2 => wp_region_lit (run S (.fa underlying64 sizeOf40 7 rfl rfl rfl <| .la gt40 0 rfl rfl rfl <| .xx (ys_call call20 (.cons (.t rfl) .nil) (fun hp w W => c20 _ _ _ _ _ (by exact .old W (by assumption)) (by exact .old W (by assumption)))) rfl <| .z) fun a w S => ?_)))))))))
      rw [rw_e] at S
      refine run S (.as rfl <| .z) fun a w S => st_nil (then_normal (hK2 _ _ (sg S (.mv rfl <| .yy (ys_F (by omega) (ys_neq (.t rfl) Ev.c)) rfl <| .z) fun a w S => st_else S (.t rfl) (wp_skip (then_normal (hK1 _ _ (wp_seq_k fun _ hK1 => wp_seq_k fun _ hK2 => wp_region_lit (run S (.fa underlying64 sizeOf62 1 rfl rfl rfl <| .la gt62 0 rfl rfl rfl <| .xx (ys_call call59 (.cons (.t rfl) .nil) (fun hp w W => c59 _ _ _ _)) rfl <| .z) fun a w S => ?_))))))))
      rw [rw_d] at S
      refine run S (.nt rfl <| .mv rfl <| .gy rfl rfl (ys_fieldN (FieldT.mk underlying64 rfl sizeOf40 rfl) (.t rfl) (i' := 7) rfl) <| .gy rfl rfl (ys_fieldN (FieldT.mk underlying40 rfl sizeOf38 rfl) (.t rfl) (i' := 8) rfl) <| .gy rfl rfl (ys_ldA ⟨isAgg38, sizeOf38⟩ (.t rfl) (k := 0) rfl rfl) <| .gy rfl rfl (ys_fieldN (FieldT.mk underlying64 rfl sizeOf62 rfl) (.t rfl) (i' := 1) rfl) <| .gy rfl rfl (ys_ldA ⟨isAgg62, sizeOf62⟩ (.t rfl) (k := 0) rfl rfl) <| .gx rfl rfl (ys_call call52 (.cons (.t rfl) (.cons (.t rfl) .nil)) (fun hp w W => c52 _ _ _ _ _ _ _ (by exact .old W (by assumption)))) <| .z) fun a w S => ?_
      rw [rw_cov] at S
      rw [rw_c] at S
      refine run S (.yy (ys_pickF (.t rfl) (.t rfl)) rfl <| .z) fun a w S => st_nil (then_normal (hK2 _ _ (st_else S (.t rfl) (wp_skip (then_normal (hK1 _ _ (sg S (.ac rfl <| .z) fun a w S => wp_ret (st_ret S (results1 S results22 (Rv.tmp rfl)) ?_))))))))
      exact ⟨by rw [if_neg (by simp)], S.wd.below⟩
end Go.Proofs.Ytfblmkocmnbdcaa
set_option linter.unusedVariables false
set_option linter.unusedSimpArgs false
set_option maxRecDepth 100000
namespace Go.Proofs.Ytfblmkocmnbdcaa
open Go.Fw Go.Proofs Go.RowKit Go.ChangeShapes Go.WideShapes Go.ChangeAt Go.Deep Go.Joins Go.Proofs.Try
section
variable {H : Type} {enc : TypeId × Value → H} {w : World}
theorem Rdr.dot {t : TypeId} {i1 i2 i3 : TypeId} {k : IntKind} {f1 f2 f3 : Field} (ht : Try.prog.underlying t = some (.struct #[f1, f2, f3])) (ho : offs Try.prog [f1, f2, f3] 0 (Try.prog.cellsOf t) = true) (h1 : Try.prog.underlying f1.type = some (.int .i64)) (h2 : Try.prog.underlying f2.type = some (.int .i64)) (h3 : Try.prog.underlying f3.type = some (.int .i64)) :
    Rdr enc Try.prog w t fun cs _ => ∃ d : Dot, cs = Dot.enc d ∧ True := by
  refine (Rdr.struct ht ho (.cons (Rdr.int h1) (.cons (Rdr.int h2) (.cons (Rdr.int h3) .nil)))).mono ?_
  rintro cs b ⟨_, _, rfl, ⟨_, _, x, rfl, _⟩, _, _, rfl, ⟨_, _, y, rfl, _⟩, _, _, rfl, ⟨_, _, z, rfl, _⟩, rfl⟩
  exact ⟨⟨x, y, z⟩, rfl, trivial⟩
theorem u64_wf {n : Int} (h : (Lit.int .u64 n).wf = true) : ∃ p : UInt64, n = (p.toNat : Int) := by
  simp only [Lit.wf, IntKind.min, IntKind.max, IntKind.signed, IntKind.bits, Bool.and_eq_true, decide_eq_true_eq, Bool.false_eq_true, if_false] at h
  have h2 : n.toNat < 18446744073709551616 := by omega
  refine ⟨UInt64.ofNat n.toNat, ?_⟩
  rw [UInt64.toNat_ofNat', Nat.mod_eq_of_lt h2]
  omega
end
end Go.Proofs.Ytfblmkocmnbdcaa
set_option linter.unusedVariables false
set_option linter.unusedSimpArgs false
namespace Go.Fw
open Go.RowKit
def SlIn {α : Type} (enc : α → List Value) (size : Nat) (w1 : World) (bs : List Nat) (v : Value) (l : List α) : Prop :=
  ∃ A cap, v = .slice A l.length cap ∧ l.length ≤ cap ∧ cap ≤ 9223372036854775807 ∧ (0 < l.length → ∃ g o, A = some ⟨g, o, none⟩ ∧ g ∈ bs ∧ ∀ k x, l[k]? = some x → ∀ j u, (enc x)[j]? = some u → w1.cell? ⟨g, o + k * size + j, none⟩ = some u)
def Chunk.blocks : Chunk → List Nat
  | .blk b _ => [b]
  | .row _ _ A _ cap _ => if cap = 0 then [] else (A.map (·.block)).toList
  | .ice _ bs => bs
theorem Chunk.mem_blocks {c : Chunk} {b : Nat} : b ∈ c.blocks ↔ c.own b := by
  cases c with
  | blk b' o => simp [Chunk.blocks, Chunk.own]
  | row e size A n cap xs =>
    unfold Chunk.blocks Chunk.own
    by_cases h : cap = 0
    · simp [h]
    · simp [h]
  | ice w1 bs => rfl
section
variable {w0 w w1 : World} {L cs : List Chunk} {k e size : Nat} {bs bs' : List Nat}
theorem Wd.freeze (h : Wd w0 (cs ++ L) w) : Wd w0 (.ice w (cs.flatMap Chunk.blocks) :: L) w := by
  obtain ⟨h1, h2, h3⟩ := h
  rw [List.pairwise_append] at h3
  have key : ∀ b ∈ cs.flatMap Chunk.blocks, ∃ c ∈ cs, c.own b := fun b hb => by
    obtain ⟨c, hc, hb⟩ := List.mem_flatMap.1 hb
    exact ⟨c, hc, Chunk.mem_blocks.1 hb⟩
  refine ⟨h1, fun x hx => ?_, List.Pairwise.cons (fun x hx b hb hxb => ?_) h3.2.1⟩
  · rcases List.mem_cons.1 hx with rfl | hx
    · intro b hb
      obtain ⟨c, hc, hb⟩ := key b hb
      have := (h2 c (List.mem_append_left _ hc)).lt hb
      exact ⟨this.1, this.2, rfl⟩
    · exact h2 x (List.mem_append_right _ hx)
  · obtain ⟨c, hc, hb⟩ := key b hb
    exact h3.2.2 c hc x hx b hb hxb
variable {α : Type} {enc : α → List Value} {v : Value} {l : List α}
theorem ice_cell (W : Wd w0 L w) (hk : L[k]? = some (.ice w1 bs)) {g o : Nat} (hg : g ∈ bs) : w.cell? ⟨g, o, none⟩ = w1.cell? ⟨g, o, none⟩ := by
  have h := (W.get hk g hg).2.2
  simp only [World.cell?, h]
theorem SlIn.sl (h : SlIn enc size w1 bs v l) (W : Wd w0 L w) (hk : L[k]? = some (.ice w1 bs)) : Sl enc size w w.heap.size v l := by
  obtain ⟨A, cap, rfl, h1, h2, h3⟩ := h
  refine ⟨A, cap, rfl, h1, h2, fun hp => ?_⟩
  obtain ⟨g, o, rfl, hg, hc⟩ := h3 hp
  exact ⟨g, o, rfl, (W.get hk g hg).2.1, fun k x hx j u hu => (ice_cell W hk hg).trans (hc k x hx j u hu)⟩
theorem SlIn.anew (h : SlIn enc size w1 bs v l) (W : Wd w0 L w) (hk : L[k]? = some (.ice w1 bs)) (hb : ∀ b ∈ bs, b ∈ bs') : SlIn enc size w bs' v l := by
  obtain ⟨A, cap, rfl, h1, h2, h3⟩ := h
  refine ⟨A, cap, rfl, h1, h2, fun hp => ?_⟩
  obtain ⟨g, o, rfl, hg, hc⟩ := h3 hp
  exact ⟨g, o, rfl, hb g hg, fun k x hx j u hu => (ice_cell W hk hg).trans (hc k x hx j u hu)⟩
theorem SlIn.row {A : Option Addr} {cap : Nat} (W : Wd w0 L w) (hk : L[k]? = some (rowOf e size enc A cap l)) (he : ∀ x, (enc x).length = size) (hb : ∀ b ∈ Chunk.blocks (rowOf e size enc A cap l), b ∈ bs') : SlIn enc size w bs' (.slice A l.length cap) l := by
  obtain ⟨A', cap', hv, h1, h2, h3⟩ := Sl.of_own W hk he
  cases hv
  refine ⟨A, cap, rfl, h1, h2, fun hp => ?_⟩
  obtain ⟨g, o, rfl, hg, hc⟩ := h3 hp
  exact ⟨g, o, rfl, hb g (by simp [Chunk.blocks, rowOf, show cap ≠ 0 by omega]), hc⟩
theorem SlIn.nil_ {c : Nat} : SlIn enc size w1 bs (.slice none 0 0) [] := ⟨none, 0, rfl, by simp, by simp, fun h => by simp at h⟩
end
structure Sls3 where
  a1 : Option Addr
  n1 : Nat
  c1 : Nat
  a2 : Option Addr
  n2 : Nat
  c2 : Nat
  a3 : Option Addr
  n3 : Nat
  c3 : Nat
abbrev SCart := Cart × Sls3
abbrev SUpd := Upd × Sls3
abbrev SCart.enc (p : SCart) : List Value := [.slice p.2.a1 p.2.n1 p.2.c1, .slice p.2.a2 p.2.n2 p.2.c2, .slice p.2.a3 p.2.n3 p.2.c3]
theorem SCart.enc_len (p : SCart) : (SCart.enc p).length = 3 := rfl
theorem SCart.enc_one (p : SCart) : ∀ u ∈ SCart.enc p, u.oneCell' = true := fun u hu => by simp [SCart.enc] at hu; rcases hu with rfl | rfl | rfl <;> rfl
abbrev SUpd.enc (p : SUpd) : List Value := Upd.enc p.1 (.slice p.2.a1 p.2.n1 p.2.c1) (.slice p.2.a2 p.2.n2 p.2.c2) (.slice p.2.a3 p.2.n3 p.2.c3)
theorem SUpd.enc_len (p : SUpd) : (SUpd.enc p).length = 10 := rfl
theorem SUpd.enc_one (p : SUpd) : ∀ u ∈ SUpd.enc p, u.oneCell' = true := fun u hu => by simp [SUpd.enc, Upd.enc] at hu; rcases hu with rfl | rfl | rfl | rfl | rfl | rfl | rfl | rfl | rfl | rfl <;> rfl
structure CartIn (w1 : World) (bs : List Nat) (X : Cart) (s : Sls3) : Prop where
  ents : SlIn Ent.enc 6 w1 bs (.slice s.a1 s.n1 s.c1) X.ents
  marks : SlIn Dot.enc 3 w1 bs (.slice s.a2 s.n2 s.c2) X.ctx.marks
  cloud : SlIn Dot.enc 3 w1 bs (.slice s.a3 s.n3 s.c3) X.ctx.cloud
structure CartRd (w : World) (X : Cart) (s : Sls3) : Prop where
  ents : Sl Ent.enc 6 w w.heap.size (.slice s.a1 s.n1 s.c1) X.ents
  marks : Sl Dot.enc 3 w w.heap.size (.slice s.a2 s.n2 s.c2) X.ctx.marks
  cloud : Sl Dot.enc 3 w w.heap.size (.slice s.a3 s.n3 s.c3) X.ctx.cloud
section
variable {w0 w w1 : World} {L : List Chunk} {k : Nat} {bs bs' : List Nat} {X : Cart} {s : Sls3}
theorem CartIn.rd (h : CartIn w1 bs X s) (W : Wd w0 L w) (hk : L[k]? = some (.ice w1 bs)) : CartRd w X s := ⟨h.ents.sl W hk, h.marks.sl W hk, h.cloud.sl W hk⟩
theorem CartIn.anew (h : CartIn w1 bs X s) (W : Wd w0 L w) (hk : L[k]? = some (.ice w1 bs)) (hb : ∀ b ∈ bs, b ∈ bs') : CartIn w bs' X s := ⟨h.ents.anew W hk hb, h.marks.anew W hk hb, h.cloud.anew W hk hb⟩
theorem CartRd.ctx (h : CartRd w X s) : RdCtx w w.heap.size (.slice s.a2 s.n2 s.c2) (.slice s.a3 s.n3 s.c3) X.ctx := ⟨h.marks, h.cloud⟩
theorem carts_rd {l : List SCart} (h : ∀ p ∈ l, CartIn w1 bs p.1 p.2) (W : Wd w0 L w) (hk : L[k]? = some (.ice w1 bs)) : ∀ p ∈ l, CartRd w p.1 p.2 := fun p hp => (h p hp).rd W hk
end
end Go.Fw
set_option linter.unusedVariables false
set_option linter.unusedSimpArgs false
namespace Go.Fw
open Go.RowKit Go.Sort Go.Proofs
abbrev MEnt := {e : Ent // mayD e.dot = true}
instance : Inhabited MEnt := ⟨⟨⟨[], ⟨0, 1, 1⟩, 0, 0⟩, rfl⟩⟩
abbrev MEnt.enc (e : MEnt) : List Value := Ent.enc e.1
end Go.Fw
set_option linter.unusedVariables false
set_option linter.unusedSimpArgs false
namespace Go.Ft
open Go.RowKit
abbrev bs (l : List UInt8) : ByteArray := ⟨l.toArray⟩
section ops
variable {P : Program} {n : Nat} {w0 : World} {K : KL} {L : List Chunk} {b : Bool} {dst : Option Tmp} {ty : TypeId} {pos : String} {aft : Array Edge} {gd : Option (Nat × Bool)}
end ops
section
variable {P : Program} {n : Nat} {w0 : World} {K : KL} {L : List Chunk} {ty : TypeId} {pos : String} {aft : Array Edge} {gd : Option (Nat × Bool)} {a : Act} {w : World} {Z : Act → World → Prop} {Q : Exit → Act → World → Prop} {d : Nat}
end
section
variable {P : Program} {n : Nat} {w0 : World} {K : KL} {L : List Chunk} {ty : TypeId} {pos : String} {aft : Array Edge} {gd : Option (Nat × Bool)} {a : Act} {w : World} {Z : Act → World → Prop} {Q : Exit → Act → World → Prop} {d : Nat}
end
section
variable {P : Program} {n : Nat} {w0 : World} {K : KL} {L : List Chunk} {ty : TypeId} {pos : String} {aft : Array Edge} {gd : Option (Nat × Bool)} {a : Act} {w : World} {Z : Act → World → Prop} {Q : Exit → Act → World → Prop} {d : Nat}
end
section
variable {P : Program} {Q : Exit → Act → World → Prop} {J : Act → World → Prop} {l i : Nat} {a : Act} {w : World}
end
section ops
variable {P : Program} {n : Nat} {w0 : World} {K : KL} {L : List Chunk} {b : Bool} {dst : Option Tmp} {ty : TypeId} {pos : String} {aft : Array Edge} {gd : Option (Nat × Bool)}
end ops
end Go.Ft
set_option linter.unusedVariables false
set_option linter.unusedSimpArgs false
namespace Go.Ft
open Go.RowKit
section ops
variable {P : Program} {n : Nat} {w0 : World} {K : KL} {L : List Chunk} {b : Bool} {dst : Option Tmp} {ty : TypeId} {pos : String} {aft : Array Edge} {gd : Option (Nat × Bool)}
end ops
section
variable {n : Nat} {w0 : World} {K : KL} {L : List Chunk} {a : Act} {w : World} {c : Chunk}
end
theorem Wd.cell {w0 w : World} {L : List Chunk} (W : Wd w0 L w) {k g i : Nat} {cs : List Value} {e : TypeId} {fr : Nat × Nat} {v : Value} (hk : L[k]? = some (.blk g (.cells cs.toArray e fr))) (hc : nth cs i = some v) : w.cell? ⟨g, i, none⟩ = some v := by
  rw [cell_of_row w g i _ e fr (W.get hk).2]
  rw [nth_eq] at hc
  simpa using hc
section split
variable {P : Program} {Q : Exit → Act → World → Prop} {n : Nat} {w0 : World} {K : KL} {L Lr : List Chunk} {a : Act} {w : World} {ops : Array Oper} {fuel : Nat} {listed : Array Bool} {md : Region.Mode}
end split
section
variable {P : Program} {n : Nat} {w0 : World} {K : KL} {L : List Chunk} {ty : TypeId} {pos : String} {aft : Array Edge} {gd : Option (Nat × Bool)} {a : Act} {w : World} {Z : Act → World → Prop} {Q : Exit → Act → World → Prop} {d : Nat}
end
end Go.Ft
set_option linter.unusedVariables false
set_option linter.unusedSimpArgs false
namespace Go.Ft
open Go.RowKit
def ltM (a b : Dot) : Prop := a.node < b.node ∨ (a.node = b.node ∧ a.life < b.life)
def ltC (a b : Dot) : Prop := a.node < b.node ∨ (a.node = b.node ∧ (a.life < b.life ∨ (a.life = b.life ∧ a.count < b.count)))
theorem belowC_iff (a b : Dot) : belowD a b = true ↔ ltC a b := by
  simp only [belowD, ltC]
  split
  · simp; omega
  · split <;> simp <;> omega
structure Nf (C : Ctx) : Prop where
  marks : C.marks.Pairwise ltM
  cloud : C.cloud.Pairwise ltC
  mayM : ∀ x ∈ C.marks, mayD x = true
  mayC : ∀ x ∈ C.cloud, mayD x = true
  gap : ∀ x ∈ C.cloud, markOf C.marks x.node x.life + 1 < x.count
end Go.Ft
set_option linter.unusedVariables false
set_option linter.unusedSimpArgs false
namespace Go.Ft
open Go.RowKit
structure Ent where
  item : List UInt8
  dot : Dot
  qty : Int
  price : UInt64
deriving DecidableEq
abbrev Ent.enc (e : Ent) : List Value := [.string (bs e.item), .int .i64 e.dot.node, .int .i64 e.dot.life, .int .i64 e.dot.count, .int .i64 e.qty, .int .u64 (e.price.toNat : Int)]
structure Cart where
  ents : List Ent
  ctx : Ctx
deriving DecidableEq
abbrev Cart.zero : Cart := ⟨[], ⟨[], []⟩⟩
structure Line where
  item : List UInt8
  qty : Int
  price : UInt64
deriving DecidableEq
abbrev Line.enc (e : Line) : List Value := [.string (bs e.item), .int .i64 e.qty, .int .u64 (e.price.toNat : Int)]
def ltE (a b : Ent) : Prop := Op.bytesLess a.item b.item = true ∨ (a.item = b.item ∧ ltC a.dot b.dot)
instance (a b : Ent) : Decidable (ltE a b) := decidable_of_iff (Op.bytesLess a.item b.item = true ∨ (a.item = b.item ∧ belowD a.dot b.dot = true)) (by rw [belowC_iff]; rfl)
def clashE (a b : Cart) : Prop := ∃ x ∈ a.ents, ∃ y ∈ b.ents, x.dot = y.dot ∧ x ≠ y
instance (a b : Cart) : Decidable (clashE a b) := by unfold clashE; infer_instance
end Go.Ft
