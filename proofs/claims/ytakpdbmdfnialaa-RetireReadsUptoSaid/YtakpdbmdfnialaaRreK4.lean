/- Contracts and laws that the statement Rre leans on, part 4. -/
import Derived.Test.YtakpdbmdfnialaaRreK3
set_option linter.unusedVariables false
set_option linter.unusedSimpArgs false
set_option maxRecDepth 100000
set_option maxHeartbeats 4000000
namespace Go.Fw
theorem clean_lenO (ms : List Dot) (X : Cart) : (cleanG ms X).1.ents.length ≤ 1048576 ∧ (cleanG ms X).1.ctx.marks.length ≤ 1048576 ∧ (cleanG ms X).1.ctx.cloud.length ≤ 1048576 := by
  unfold cleanG
  split
  · rename_i hc
    have hX := (canE_ok X).1 hc
    split
    · simp [Cart.zero]
    · obtain ⟨h1, h2, h3⟩ := pruneL_len ms X
      obtain ⟨k1, k2, k3⟩ := cart_len3 hX
      dsimp only
      omega
  · simp [Cart.zero]
theorem tab_len (k : List UInt8) (l : List Dot) : (putsG k [] (l.take 40)).length ≤ 40 := by
  have := puts_len (k := k) (l.take 40) []
  simp only [List.length_take, List.length_nil] at this
  omega
end Go.Fw
namespace Go.Proofs.Ytakpdbmdfnialaa
open Go.Fw Go.Proofs Go.RowKit Go.Proofs.Try
theorem c39 (w0 : World) (g : Nat) (m : Dot) (v1 v2 v3 : Value) (X : Cart) (h1 : w0.cell? ⟨g, 0, none⟩ = some v1) (h2 : w0.cell? ⟨g, 1, none⟩ = some v2) (h3 : w0.cell? ⟨g, 2, none⟩ = some v3) (hX : Sl Ent.enc 6 w0 w0.heap.size v1 X.ents) (hXc : RdCtx w0 w0.heap.size v2 v3 X.ctx) :
    Calls Try.prog 39 #[.agg (Dot.enc m).toArray, .pointer (some ⟨g, 0, none⟩)] w0 fun e w' => e = .returned (.bool (livesK X m.node m.life)) ∧ Bel w0.heap.size w0 w' := by
  have hX1 := hX
  have hX2 := hXc
  obtain ⟨B, capB, rfl, _⟩ := hX
  obtain ⟨⟨B2, capB2, rfl, _⟩, ⟨B3, capB3, rfl, _⟩⟩ := hXc
  have hct : ∀ j u, [Value.slice B X.ents.length capB, .slice B2 X.ctx.marks.length capB2, .slice B3 X.ctx.cloud.length capB3][j]? = some u → w0.cell? ⟨g, 0 + j, none⟩ = some u := fun j u h => by
    rw [Nat.zero_add]
    match j, h with
    | 0, h => cases h; exact h1
    | 1, h => cases h; exact h2
    | 2, h => cases h; exact h3
    | j + 3, h => simp at h
  refine enter2 func39 rfl ntmps39 rfl fun a S => wp_seq_k fun _ hK1 => wp_region_lit (st_m (op_box S (.t rfl) rfl fun g1 a w S => run S (.ac rfl <| .z) fun a w S => st_nil (then_normal (hK1 _ _ (sg S (.yy (ys_ldOA ⟨isAgg30, sizeOf30⟩ (.t rfl) (vs := [_, _, _]) rfl (fun _ => hct)) rfl <| .fa underlying23 sizeOf3 0 rfl rfl rfl <| .ld gt3 0 rfl rfl rfl <| .fa underlying23 sizeOf3 1 rfl rfl rfl <| .ld gt3 0 rfl rfl rfl <| .yy (ys_bld (ps := [(0, Go.Operand.tmp 6), (1, Go.Operand.tmp 8)]) (us := [_, _]) bld58 (.cons (.t rfl) (.cons (.t rfl) .nil)) rfl) rfl <| .xx (ys_call call40 (.cons (.t rfl) (.cons (.t rfl) .nil)) (fun hp w W => c40 _ _ _ _ _ _ _ _ _ _ _ (by exact .old W (by assumption)))) rfl <| .as rfl <| .z) fun a w S => wp_ret (st_ret S (results1 S results39 (Rv.tmp rfl)) ?_))))))
  exact ⟨rfl, S.wd.below⟩
theorem c38 (w0 : World) (v : Value) (l : List Dot) (g : Nat) (v1 v2 v3 : Value) (X : Cart) (h : Sl Dot.enc 3 w0 w0.heap.size v l) (h1 : w0.cell? ⟨g, 0, none⟩ = some v1) (h2 : w0.cell? ⟨g, 1, none⟩ = some v2) (h3 : w0.cell? ⟨g, 2, none⟩ = some v3) (hX : Sl Ent.enc 6 w0 w0.heap.size v1 X.ents) (hXc : RdCtx w0 w0.heap.size v2 v3 X.ctx) :
    Calls Try.prog 38 #[v, .func (.func 39) #[] #[.pointer (some ⟨g, 0, none⟩)]] w0 fun e w' => e = .returned (.bool (l.any fun m => livesK X m.node m.life)) ∧ Bel w0.heap.size w0 w' :=
  x38 w0 v l _ [.pointer (some ⟨g, 0, none⟩)] (fun m => livesK X m.node m.life) call39 (fun w' W' m _ => c39 w' g m v1 v2 v3 X (Wd.cellOld W' h1) (Wd.cellOld W' h2) (Wd.cellOld W' h3) (Sl.old W' hX) ⟨Sl.old W' hXc.1, Sl.old W' hXc.2⟩) h
theorem c15 (w0 : World) (v : Value) (l : List Dot) (v1 v2 v3 : Value) (X : Cart) (h : Sl Dot.enc 3 w0 w0.heap.size v l) (hX : Sl Ent.enc 6 w0 w0.heap.size v1 X.ents) (hXc : RdCtx w0 w0.heap.size v2 v3 X.ctx) :
    Calls Try.prog 15 #[v, .agg #[v1, v2, v3]] w0 fun e w' => e = .returned (.bool (l.any fun m => livesK X m.node m.life)) ∧ Bel w0.heap.size w0 w' := by
  have hs := h
  have hX1 := hX
  have hX2 := hXc
  obtain ⟨A, cap, rfl, _⟩ := h
  obtain ⟨B, capB, rfl, _⟩ := hX
  obtain ⟨⟨B2, capB2, rfl, _⟩, ⟨B3, capB3, rfl, _⟩⟩ := hXc
  refine enter2 func15 rfl ntmps15 rfl fun a S => wp_seq_k fun _ hK1 => wp_region_lit (st_m (op_box S (.t rfl) rfl fun g1 a w S => run S (.ac rfl <| .z) fun a w S => st_nil (then_normal (hK1 _ _ (sg S (.mv rfl <| .yy (ys_mkFunc (.cons (.t rfl) .nil)) rfl <| .xx (ys_call call38 (.cons (.t rfl) (.cons (.t rfl) .nil)) (fun hp w W => c38 _ _ _ _ _ _ _ _ (by exact .old W (by assumption)) (by exact Wd.cell W (k := 0) rfl rfl) (by exact Wd.cell W (k := 0) rfl rfl) (by exact Wd.cell W (k := 0) rfl rfl) (by exact .old W (by assumption)) (by exact .old W (by assumption)))) rfl <| .as rfl <| .z) fun a w S => wp_ret (st_ret S (results1 S results15 (Rv.tmp rfl)) ?_))))))
  exact ⟨rfl, S.wd.below⟩
theorem c5 (w0 : World) (v : Value) (l : List Dot) (v1 v2 v3 : Value) (X : Cart) (h : Sl Dot.enc 3 w0 w0.heap.size v l) (hn : l.length ≤ 1048576) (hX : Sl Ent.enc 6 w0 w0.heap.size v1 X.ents) (hXc : RdCtx w0 w0.heap.size v2 v3 X.ctx)
    (b1 : X.ents.length ≤ 1048576) (b2 : X.ctx.marks.length ≤ 1048576) (b3 : X.ctx.cloud.length ≤ 1048576) :
    Calls Try.prog 5 #[v, .agg #[v1, v2, v3]] w0 fun e w' => e = .returned (.bool true) ∧ Bel w0.heap.size w0 w' := by
  have hs := h
  have hX1 := hX
  have hX2 := hXc
  have hTl := tab_len [107] l
  have hmay := marksG_may (puts_ok (k := [107]) (l.take 40) tab_nil) [107]
  obtain ⟨A, cap, rfl, hl, hcap, hA⟩ := h
  obtain ⟨B, capB, rfl, _⟩ := hX
  obtain ⟨⟨B2, capB2, rfl, _⟩, ⟨B3, capB3, rfl, _⟩⟩ := hXc
  obtain ⟨q1, q2, q3⟩ := clean_lenO (marksG (putsG [107] [] (l.take 40)) [107]) X
  by_cases hg : (cleanG (marksG (putsG [107] [] (l.take 40)) [107]) X).2 = 0
  rotate_left
  · have rw_g := decide_eq_true hg
    refine enter2 func5 rfl ntmps5 rfl fun a S => wp_seq_k fun _ hK1 => wp_region_lit (st_m (op_box S (.t rfl) rfl fun g1 a w S => run S (.ac rfl <| .z) fun a w S => st_nil (then_normal (hK1 _ _ (wp_seq_k fun _ hK1 => wp_region_lit (run S (.mv rfl <| .z) fun a w S => ?_))))))
    (refine st_m (op_calls S call13 (.cons Ev.c (.cons (.t rfl) .nil)) (c13 _ _ _ _ (by exact .old S.wd (by assumption)) (by (simp; done)) (by assumption)) rfl ?_); clear S a w; rintro _ _ ⟨g2, A1, r1, rfl, rfl⟩ a w S)
    refine run S (.as rfl <| .z) fun a w S => st_nil (then_normal (hK1 _ _ (wp_seq_k fun _ hK1 => wp_region_lit (run S (.mv rfl <| .la gt30 2 rfl rfl rfl <| .z) fun a w S => ?_))))
    (refine st_m (op_calls S call14 (.cons (.t rfl) .nil) (c14 _ _ _ _ _ (by exact .old S.wd (by assumption)) (by exact .old S.wd (by assumption)) (by assumption) (by assumption) (by assumption)) rfl ?_); clear S a w; rintro _ _ ⟨A11, r11, A21, r21, A31, r31, rfl, rfl⟩ a w S)
    (refine st_m (op_calls S call7 (.cons (.t rfl) (.cons Ev.c (.cons (.t rfl) .nil))) (c7 _ _ _ _ _ _ _ _ _ (by exact Wd.cell S.wd (k := 3) rfl rfl) (by exact Wd.cell S.wd (k := 3) rfl rfl) (by exact Sl.of_own S.wd (k := 4) rfl (fun _ => rfl)) (by omega) (by exact Sl.of_own S.wd (k := 0) rfl (fun _ => rfl)) (by exact ⟨(by exact Sl.of_own S.wd (k := 1) rfl (fun _ => rfl)), (by exact Sl.of_own S.wd (k := 2) rfl (fun _ => rfl))⟩)) rfl ?_); clear S a w; rintro _ _ ⟨A12, r12, A22, r22, A32, r32, rfl, rfl⟩ a w S)
    refine run S (.mv rfl <| .ex rfl rfl <| .ex rfl rfl <| .z) fun a w S => st_m (op_alloc S zeroValue30 (cs := _) rfl rfl fun g3 a w S => st_m (op_stW S sizeOf30 (.t rfl) (.t rfl) (k := 0) rfl rfl rfl (by simp [Value.oneCell']) fun a w S => run S (.as rfl <| .z) fun a w S => st_nil (then_normal (hK1 _ _ (wp_seq_k fun _ hK1 => wp_seq_k fun _ hK2 => h_begin0 S (by kernel_rfl) fun a w S => hy 0 S rfl (ys_move (.t rfl)) rfl fun a w S => hy 1 S rfl (ys_T (by omega) (ys_neq (.t rfl) Ev.c)) rfl fun a w S => hy 2 S rfl (ys_move (.t rfl)) rfl fun a w S => hsk 3 S rfl rfl rfl rfl rfl fun a w S => ?_)))))
    refine hsk 4 S rfl rfl rfl rfl rfl fun a w S => hsk 5 S rfl rfl rfl rfl rfl fun a w S => hsk 6 S rfl rfl rfl rfl rfl fun a w S => hy 7 S rfl (ys_pickT (.t rfl) Ev.c) rfl fun a w S => h_done (by kernel_rfl) (then_normal (hK2 _ _ (st_then S (.t rfl) (sg S (.xx (ys_call call12 .nil (fun hp w W => c12 _)) rfl <| .as rfl <| .z) fun a w S => wp_ret (then_ret (st_ret S (results1 S results5 (Rv.tmp rfl)) ?_))))))
    all_goals exact ⟨rfl, S.wd.below⟩
  have rw_g : decide ((cleanG (marksG (putsG [107] [] (l.take 40)) [107]) X).2 ≠ 0) = false := decide_eq_false (fun h => h hg)
  obtain ⟨hXok, _, hcl⟩ := clean_ok hg
  have p1 : ∀ y ∈ X.ents, priceB y.price = true := fun y hy => by obtain ⟨k1, k2, k3, k4⟩ := hXok.each y hy; exact k3
  have p2 : ∀ y ∈ (cleanG (marksG (putsG [107] [] (l.take 40)) [107]) X).1.ents, priceB y.price = true := fun y hy => by
    rw [hcl] at hy
    obtain ⟨k1, k2, k3, k4⟩ := (pruneL_ok _ hXok).each y hy; exact k3
  refine enter2 func5 rfl ntmps5 rfl fun a S => wp_seq_k fun _ hK1 => wp_region_lit (st_m (op_box S (.t rfl) rfl fun g1 a w S => run S (.ac rfl <| .z) fun a w S => st_nil (then_normal (hK1 _ _ (wp_seq_k fun _ hK1 => wp_region_lit (run S (.mv rfl <| .z) fun a w S => ?_))))))
  (refine st_m (op_calls S call13 (.cons Ev.c (.cons (.t rfl) .nil)) (c13 _ _ _ _ (by exact .old S.wd (by assumption)) (by (simp; done)) (by assumption)) rfl ?_); clear S a w; rintro _ _ ⟨g2, A1, r1, rfl, rfl⟩ a w S)
  refine run S (.as rfl <| .z) fun a w S => st_nil (then_normal (hK1 _ _ (wp_seq_k fun _ hK1 => wp_region_lit (run S (.mv rfl <| .la gt30 2 rfl rfl rfl <| .z) fun a w S => ?_))))
  (refine st_m (op_calls S call14 (.cons (.t rfl) .nil) (c14 _ _ _ _ _ (by exact .old S.wd (by assumption)) (by exact .old S.wd (by assumption)) (by assumption) (by assumption) (by assumption)) rfl ?_); clear S a w; rintro _ _ ⟨A11, r11, A21, r21, A31, r31, rfl, rfl⟩ a w S)
  (refine st_m (op_calls S call7 (.cons (.t rfl) (.cons Ev.c (.cons (.t rfl) .nil))) (c7 _ _ _ _ _ _ _ _ _ (by exact Wd.cell S.wd (k := 3) rfl rfl) (by exact Wd.cell S.wd (k := 3) rfl rfl) (by exact Sl.of_own S.wd (k := 4) rfl (fun _ => rfl)) (by omega) (by exact Sl.of_own S.wd (k := 0) rfl (fun _ => rfl)) (by exact ⟨(by exact Sl.of_own S.wd (k := 1) rfl (fun _ => rfl)), (by exact Sl.of_own S.wd (k := 2) rfl (fun _ => rfl))⟩)) rfl ?_); clear S a w; rintro _ _ ⟨A12, r12, A22, r22, A32, r32, rfl, rfl⟩ a w S)
  refine run S (.mv rfl <| .ex rfl rfl <| .ex rfl rfl <| .z) fun a w S => st_m (op_alloc S zeroValue30 (cs := _) rfl rfl fun g3 a w S => st_m (op_stW S sizeOf30 (.t rfl) (.t rfl) (k := 0) rfl rfl rfl (by simp [Value.oneCell']) fun a w S => run S (.as rfl <| .z) fun a w S => st_nil (then_normal (hK1 _ _ (wp_seq_k fun _ hK1 => wp_seq_k fun _ hK2 => h_begin0 S (by kernel_rfl) fun a w S => hy 0 S rfl (ys_move (.t rfl)) rfl fun a w S => hy 1 S rfl (ys_F (by omega) (ys_neq (.t rfl) Ev.c)) rfl fun a w S => hy 2 S rfl (ys_move (.t rfl)) rfl fun a w S => hyt 3 S rfl rfl rfl (ys_move (.t rfl)) rfl fun a w S => ?_)))))
  refine hyt 5 S rfl rfl rfl (ys_ldA ⟨isAgg30, sizeOf30⟩ (.t rfl) (k := 9) rfl rfl) rfl fun a w S => ?_
  (refine h_mg (i := 4) S rfl (by kernel_rfl) rfl rfl (op_calls S call10 (.cons (.t rfl) (.cons Ev.c .nil)) (c10 _ _ _ _ _ (by exact Wd.cell S.wd (k := 7) rfl rfl) (by exact Wd.cell S.wd (k := 7) rfl rfl) (by exact Sl.of_own S.wd (k := 8) rfl (fun _ => rfl)) (by omega)) rfl ?_); clear S a w; rintro _ _ ⟨A2, c1, rfl, rfl⟩ a w S; refine h_n2 S ?_)
  refine h_qf (i := 6) S (by repeat (first | exact List.Sublist.refl _ | exact List.nil_sublist _ | refine .cons_cons _ ?_ | refine .cons _ ?_)) rfl (by kernel_rfl) rfl rfl (ys_call call15 (.cons (.t rfl) (.cons (.t rfl) .nil)) (fun hp w W => c15 _ _ _ _ _ _ _ (by exact Sl.of_own W (k := 0) rfl (fun _ => rfl)) (by exact .old W (by assumption)) (by exact .old W (by assumption)))) rfl fun a w S => hy 7 S rfl (ys_pickF (.t rfl) (Ev.g rfl)) rfl fun a w S => h_done (by kernel_rfl) (then_normal (hK2 _ _ ?_))
  refine st_cond S (.t rfl) (fun h1 => ?_) (fun h1 => ?_)
  refine sg S (.xx (ys_call call12 .nil (fun hp w W => c12 _)) rfl <| .as rfl <| .z) fun a w S => wp_ret (then_ret (st_ret S (results1 S results5 (Rv.tmp rfl)) ?_))
  rotate_left
  refine wp_skip (then_normal (hK1 _ _ (wp_seq_k fun _ hK1 => h_begin0 S (by kernel_rfl) fun a w S => hy 0 S rfl (ys_ldA ⟨isAgg30, sizeOf30⟩ (.t rfl) (k := 1) rfl rfl) rfl fun a w S => hy 2 S rfl (ys_ldA ⟨isAgg30, sizeOf30⟩ (.t rfl) (k := 10) rfl rfl) rfl fun a w S => ?_)))
  (refine h_m (i := 1) rfl (by kernel_rfl) (op_calls S call17 (.cons (.t rfl) .nil) (c17 _ _ _ _ _ _ _ _ _ (by exact Sl.of_own S.wd (k := 2) rfl (fun _ => rfl)) (by assumption) (by omega)) rfl ?_); clear S a w; rintro _ _ ⟨A3, r2, rfl, rfl⟩ a w S; refine h_n2 S ?_)
  (refine h_m (i := 3) rfl (by kernel_rfl) (op_calls S call17 (.cons (.t rfl) .nil) (c17 _ _ _ _ _ _ _ _ _ (by exact .old S.wd (by assumption)) (by assumption) (by omega)) rfl ?_); clear S a w; rintro _ _ ⟨A4, r3, rfl, rfl⟩ a w S; refine h_n2 S ?_)
  refine h_q (i := 4) S (by repeat (first | exact List.Sublist.refl _ | exact List.nil_sublist _ | refine .cons_cons _ ?_ | refine .cons _ ?_)) rfl (by kernel_rfl) (ys_call call16 (.cons (.t rfl) (.cons (.t rfl) .nil)) (fun hp w W => c16 _ _ _ _ _ (by exact Sl.of_own W (k := 1) rfl (fun _ => rfl)) (by exact Sl.of_own W (k := 0) rfl (fun _ => rfl)))) rfl fun a w S => hy 5 S rfl (ys_move (.t rfl)) rfl fun a w S => h_qg (i := 6) S (by repeat (first | exact List.Sublist.refl _ | exact List.nil_sublist _ | refine .cons_cons _ ?_ | refine .cons _ ?_)) rfl (by kernel_rfl) rfl rfl (ys_call call12 .nil (fun hp w W => c12 _)) rfl fun a w S => hy 7 S rfl (ys_andT (.t rfl) (Ev.g rfl) Ev.c) rfl fun a w S => hy 8 S rfl (ys_assign (.t rfl)) rfl fun a w S => h_done (by kernel_rfl) (then_normal (hK1 _ _ (wp_ret (st_ret S (results1 S results5 (Rv.tmp rfl)) ?_))))
  rotate_left
  · exact ⟨rfl, S.wd.below⟩
  · refine ⟨?_, S.wd.below⟩
    rw [hcl]
    dsimp only
    rw [clean_reads h1]
    simp
end Go.Proofs.Ytakpdbmdfnialaa
